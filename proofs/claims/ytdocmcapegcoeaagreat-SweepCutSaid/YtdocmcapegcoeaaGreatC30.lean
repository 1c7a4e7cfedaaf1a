/- Helpers, proved here. No condition. -/
import Derived.Test.YtdocmcapegcoeaaGreatC06
import Derived.Test.YtdocmcapegcoeaaGreatC13
import Derived.Test.YtdocmcapegcoeaaGreatC16
import Derived.Test.YtdocmcapegcoeaaGreatC21
import Derived.Test.YtdocmcapegcoeaaGreatC22
import Derived.Test.YtdocmcapegcoeaaGreatC24
import Derived.Test.YtdocmcapegcoeaaGreatC25
import Derived.Test.YtdocmcapegcoeaaGreatC26
import Derived.Test.YtdocmcapegcoeaaGreatC29
set_option maxRecDepth 20000
set_option linter.all false
namespace Go.Proofs.YtdocmcapegcoeaaGreat
open Go Go.RowKit
theorem f13_better (x b:Fnd):Fn Tryz.prog 84 [fdV x,fdV b] [] (λv As=>v= .bool (betB x b)/\As=[]):=by
 refine Fn.enter [0,0] Tryz.func84 rfl rfl rfl λX F hX=>?_;refine J.run hX tk 400 (λb1=>rfl) (λb1=>?_) (λb1=>?_)
 ·(repeat' (first | exact Conj.nil | refine Conj.cons ?_ ?_ | exact rfl | intro hq | assumption | (simp_all;done)))
 refine J.q hX λ_=>?_;exact J.ru hX [] ⟨rfl,rfl⟩
theorem ne_and24 (x:Int):(x !=2&&x !=4)= !(x==2||x==4):=by
 simp only[bne,Bool.not_or]
theorem blank_iff (N:Nand) (b r:Int):V.blankRow N b r=true↔∀d:Nat,d<N.dies->((M.look N (d:Nat) b r).2==2||(M.look N (d:Nat) b r).2==4)=true:=by
 unfold V.blankRow M.rowN;rw[List.all_eq_true];constructor
 ·intro h d hd;exact h _ (List.mem_map.2 ⟨d,List.mem_range.2 hd,rfl⟩)
 ·intro h x hx;obtain⟨d,hd,rfl⟩:=List.mem_map.1 hx;exact h d (List.mem_range.1 hd)
theorem last_no {N:Nand} {f:Fnd} {r0 r:Nat} (hr:f.row=(r0:Int)) (h1:r0<r) (h2:r<N.pages) (h3:V.blankRow N f.block (r:Nat)=false):V.last N f=false:=by
 unfold V.last;rw[Bool.and_eq_false_iff];left;rw[List.all_eq_false];refine⟨r,List.mem_range.2 h2,?_⟩;rw[h3,hr,decide_eq_false (by omega)];exact Bool.false_ne_true
theorem last_yes {N:Nand} {f:Fnd} {r0:Nat} (hr:f.row=(r0:Int)) (h:∀r:Nat,r0<r->r<N.pages->V.blankRow N f.block (r:Nat)=true):V.last N f=((M.look N (G.parity f.mask f.block f.row) f.block f.row).2 !=4):=by
 have:((List.range N.pages).all λr:Nat=>decide ((r:Int)<=f.row)||V.blankRow N f.block r)=true:=by
  rw[List.all_eq_true];intro r hrm;rw[hr,Bool.or_eq_true]
  by_cases hle:(r:Int)<=(r0:Int)
  ·exact .inl (decide_eq_true hle)
  ·exact .inr (h r (by omega) (List.mem_range.1 hrm))
 unfold V.last;rw[this];show(_ !=(4:Int))=_;rfl
theorem f13_last (p:Nat) (N:Nand) (hN:N.Ok) (hR:N.Room) (f:Fnd) (r0:Nat) (hr:f.row=(r0:Int)) (hr2:r0<=1000):Fn Tryz.prog 86 [.pointer (some ⟨p,0,none⟩),fdV f] [NandA p N]
  (λv As=>v= .bool (V.last N f)/\As=[NandA p N]):=by
 have hbd:=hN.bd;have e5:f.row+1=((r0+1:Nat):Int):=by omega
 refine Fn.enter [2,0] Tryz.func86 rfl rfl rfl λX F hX=>?_;refine J.q hX λbb=>?_;rw[e5];refine J.q hX λ_=>?_;refine J.lo (α:=Nat) (λr=>r0<r/\r<=1100/\∀r':Nat,r0<r'->r'<r->V.blankRow N f.block (r':Nat)=true) (λr=>[⟨5, .int .i64 r,0, .tt⟩,⟨3, .pointer (some ⟨bb 0,0,none⟩),3, .tt⟩,⟨0, .pointer (some ⟨p,0,none⟩),2, .tt⟩]) [] (λr=>[]) (λr=>N.pages-r) (r0+1) (⟨by omega,by omega,λr' h1 h2=>by omega⟩) rfl ?_ (λ_=>rfl) λr hI=>?_
 ·rfl
 obtain⟨hI1,hI2,hI3⟩:=hI;refine J.q hX λ_=>?_;refine J.cb hX (n_Geo p N) [1] ?_;refine cpq ⟨_,rfl,trivial,?_⟩;refine J.q hX λ_=>?_;refine J.cond rfl (λh1=>?_) (λh1=>?_)
 ·simp only[decide_eq_true_eq,Int.ofNat_lt]at h1;refine J.q hX λb7=>?_;refine J.lo (α:=Nat) (λd=>d<=N.dies/\∀d':Nat,d'<d->((M.look N (d':Nat) f.block (r:Nat)).2==2||(M.look N (d':Nat) f.block (r:Nat)).2==4)=true) (λd=>[⟨6, .int .i64 d,0, .tt⟩,⟨5, .int .i64 r,0, .tt⟩,⟨3, .pointer (some ⟨bb 0,0,none⟩),3, .tt⟩,⟨0, .pointer (some ⟨p,0,none⟩),2, .tt⟩]) [] (λd=>[]) (λd=>N.dies-d) (0) (⟨Nat.zero_le _,λd' h=>by omega⟩) rfl ?_ (λ_=>rfl) λd hI=>?_
  ·rfl
  obtain⟨hJ1,hJ2⟩:=hI;refine J.q hX λ_=>?_;refine J.cb hX (n_Geo p N) [1] ?_;refine cpq ⟨_,rfl,trivial,?_⟩;refine J.q hX λ_=>?_;refine J.cond rfl (λh2=>?_) (λh2=>?_)
  ·simp only[decide_eq_true_eq,Int.ofNat_lt]at h2;refine J.q hX λ_=>?_;refine J.cb hX (f9_Look p N hN hR d f.block r) [1] ?_;refine cpq ⟨_,rfl,trivial,?_⟩;refine J.q hX λ_=>?_;refine J.cond rfl (λh3=>?_) (λh3=>?_)
   ·have hnb:V.blankRow N f.block (r:Nat)=false:=by
     rw[Bool.eq_false_iff];intro hb;have:=(blank_iff N f.block r).1 hb d h2;have h3':((M.look N (d:Nat) f.block (r:Nat)).2 !=2&&(M.look N (d:Nat) f.block (r:Nat)).2 !=4)=true:=h3;rw[ne_and24,this]at h3';cases h3'
    refine J.q hX λ_=>?_;refine J.ru hX [1] ?_;exact⟨by rw[last_no hr hI1 h1 hnb],rfl⟩
   ·have hok:((M.look N (d:Nat) f.block (r:Nat)).2==2||(M.look N (d:Nat) f.block (r:Nat)).2==4)=true:=by
     have h3':((M.look N (d:Nat) f.block (r:Nat)).2 !=2&&(M.look N (d:Nat) f.block (r:Nat)).2 !=4)=false:=h3;rw[ne_and24,Bool.not_eq_false']at h3';exact h3'
    refine J.q hX λ_=>?_;refine J.nS (d+1) (⟨by omega,λd' hd'=>by
     rcases Nat.lt_succ_iff_lt_or_eq.1 hd' with h | h
     ·exact hJ2 d' h
     ·rw[h];exact hok⟩) (by omega) [0,1,2] rfl rfl
  simp only[decide_eq_false_iff_not,Int.ofNat_lt]at h2;have hbl:V.blankRow N f.block (r:Nat)=true:=(blank_iff N f.block r).2 λd' hd'=>hJ2 d' (by omega);refine J.q hX λ_=>?_;refine J.nS (r+1) (⟨by omega,by omega,λr' h3 h4=>by
   rcases Nat.lt_succ_iff_lt_or_eq.1 h4 with h | h
   ·exact hI3 r' h3 h
   ·rw[h];exact hbl⟩) (by omega) [0,1,2] rfl rfl
 simp only[decide_eq_false_iff_not,Int.ofNat_lt]at h1;have hlast:=last_yes hr λr' h2 h3=>hI3 r' h2 (by omega);refine J.q hX λ_=>?_;refine J.plan (.take true 0 (.take false 1 (.take true 2 (.take true 3 (.take false 4 (.take true 5 (.take true 6 (.take false 7 (.take true 9 (.take true 10 (.take false 11 (.take true 12 (.take true 13 (.take false 14 (.alt false 8 ((.of [60,66,71])) (.alt false 16 ((.of [34,60,71])) .non)))))))))))))))) [17] [2] (by rw[hX.hP];kernel_rfl) (by kernel_rfl) ?_;refine J.join (α:=Nat) (λx=>[⟨9, .pointer (some ⟨x,0,none⟩),4, .tt⟩,⟨3, .pointer (some ⟨bb 0,0,none⟩),3, .tt⟩,⟨0, .pointer (some ⟨p,0,none⟩),2, .tt⟩]) (λx=>[.hp F,NandA p N, .pt (bb 0) 142 (fnL f), .pt x 53 [.int .i64 (G.parity f.mask f.block f.row), .int .i64 f.block, .int .i64 f.row]]) (λhj=>?_) (λx=>?_)
 ·refine J.q hX λ_=>?_;refine J.alts ?_ ?_
  ·refine J.q hX λ_=>?_;refine J.cb hX (f6_Parity f.mask f.block f.row) [] ?_;refine cpq ⟨_,rfl,(by first | exact trivial | (repeat' (first | exact trivial | refine⟨rfl,?_⟩))),?_⟩;refine J.qn hX 2 λb7=>?_;refine J.qn hX 2 λ_=>?_;exact J.goto [0,1,2,3] (hj (b7 0)) ⟨rfl,rfl,rfl,trivial⟩ rfl rfl
  ·refine J.qn hX 1 λb7=>?_;refine J.q hX λ_=>?_;refine J.cb hX (f6_Parity f.mask f.block f.row) [] ?_;refine cpq ⟨_,rfl,(by first | exact trivial | (repeat' (first | exact trivial | refine⟨rfl,?_⟩))),?_⟩;refine J.qn hX 3 λ_=>?_;exact J.goto [0,1,2,3] (hj (b7 0)) ⟨rfl,rfl,rfl,trivial⟩ rfl rfl
 refine J.q hX λ_=>?_;refine J.cb hX (f9_Look p N hN hR (G.parity f.mask f.block f.row) f.block f.row) [1] ?_;refine cpq ⟨_,rfl,trivial,?_⟩;refine J.q hX λ_=>?_;refine J.ru hX [1] ?_;exact⟨by rw[hlast],rfl⟩
theorem cellsF_snoc' (l:List Fnd) (x:Fnd):cellsF l++fnL x=cellsF (l++[x]):=by simp[cellsF]
theorem cellsF_app' (l m:List Fnd):cellsF l++cellsF m=cellsF (l++m):=by simp[cellsF]
def outK (N:Nand) (b r m:Int) (j:Nat):List Fnd:=(List.range j).filterMap (R.fnd (R.look N b r m) b r m)
theorem outK_succ (N:Nand) (b r m:Int) (j:Nat):outK N b r m (j+1)=outK N b r m j++(R.fnd (R.look N b r m) b r m j).toList:=by
 unfold outK;rw[List.range_succ,List.filterMap_append];congr 1
theorem outK_len (N:Nand) (b r m:Int) (j:Nat):(outK N b r m j).length<=j:=by
 have:=List.length_filterMap_le (R.fnd (R.look N b r m) b r m) (List.range j)
 rwa [List.length_range]at this
theorem outK_all (N:Nand) (b r m:Int) {n:Nat} (hn:(G.slots m).toNat=n):outK N b r m n=R.allM N b r m:=by
 unfold outK R.allM;rw[(look_len N b r m).1,hn]
theorem f9_all (p:Nat) (N:Nand) (hN:N.Ok) (hR:N.Room) (b r m:Int):Fn Tryz.prog 127 [.pointer (some ⟨p,0,none⟩), .int .i64 b, .int .i64 r, .int .i64 m] [NandA p N]
  (λv As=>∃a c,v=slv a (R.allM N b r m).length c/\As=[NandA p N,ownA 142 25 a (R.allM N b r m).length c (cellsF (R.allM N b r m))]):=by
 have hG:=gslots_bd m;obtain⟨n,hn⟩:∃n:Nat,G.slots m=(n:Int):=⟨(G.slots m).toNat,by omega⟩;have hnt:(G.slots m).toNat=n:=by omega
 have hn7:n<=7:=by omega
 obtain⟨hsl,hgl⟩:=look_len N b r m;rw[hnt]at hsl hgl;have hone:∀i:Nat,i<n->(R.look N b r m).slots.getD i Sh.zero=(R.one N b r m (G.die m b r i)).1/\(R.look N b r m).good.getD i false=(R.one N b r m (G.die m b r i)).2:=λi hi=>by
  obtain⟨e1,e2⟩:=look_slot N b r m (i:=i) (by omega);exact⟨by rw[List.getD_eq_getElem?_getD,e1,Option.getD_some],e2⟩
 have hwh:(R.look N b r m).whole=(R.one N b r m (G.parity m b r)).2:=rfl;obtain⟨g,hgd⟩:∃g:Nat->Bool,g=λj=>(R.look N b r m).good.getD j false:=⟨_,rfl⟩;refine Fn.enter [2,0,0,0] Tryz.func127 rfl rfl rfl λX F hX=>?_;refine J.q hX λ_=>?_;refine J.cb hX (f6_Parity m b r) [] ?_;refine cpq ⟨_,rfl,trivial,?_⟩;refine J.q hX λ_=>?_;refine J.cb hX (f9_one p N hN hR b r m (G.parity m b r)) [1] ?_;refine cpq ⟨_,rfl,trivial,?_⟩;rw[<- hwh];obtain⟨wh,hwh2⟩:∃wh,wh=(R.look N b r m).whole:=⟨_,rfl⟩;rw[<- hwh2];refine J.q hX λ_=>?_;refine J.goto (E0:=[⟨13, .int .i64 0,0, .tt⟩,⟨12, .int .i64 0,0, .tt⟩,⟨10, .bool wh,0, .tt⟩,⟨11,slv none 0 0,0, .tt⟩,⟨0, .pointer (some ⟨p,0,none⟩),2, .tt⟩,⟨1, .int .i64 b,0, .tt⟩,⟨2, .int .i64 r,0, .tt⟩,⟨3, .int .i64 m,0, .tt⟩]) (L0:=[.hp F,NandA p N]) [0,1] ?_ ⟨rfl,rfl,rfl,rfl,rfl,rfl,rfl,rfl,trivial⟩ rfl rfl;refine J.q hX λ_=>?_;refine J.lo (α:=Nat) (λk=>k<=n) (λk=>[⟨13, .int .i64 k,0, .tt⟩,⟨12, .int .i64 (missN g k),0, .tt⟩,⟨10, .bool wh,0, .tt⟩,⟨11,slv none 0 0,0, .tt⟩,⟨0, .pointer (some ⟨p,0,none⟩),2, .tt⟩,⟨1, .int .i64 b,0, .tt⟩,⟨2, .int .i64 r,0, .tt⟩,⟨3, .int .i64 m,0, .tt⟩]) [] (λk=>[]) (λk=>n-k) (0) (Nat.zero_le _) rfl ?_ (λ_=>rfl) λk hI=>?_
 ·rfl
 have hms:=missN_succ g k;have hml:=missN_le g k;refine J.q hX λ_=>?_;refine J.cb hX (f6_SlotsG m) [] ?_;refine cpq ⟨_,rfl,trivial,?_⟩;rw[hn];refine J.q hX λ_=>?_;refine J.cond rfl (λh1=>?_) (λh1=>?_)
 ·simp only[decide_eq_true_eq,Int.ofNat_lt]at h1;obtain⟨_,o2⟩:=hone k h1;have hgk:g k=(R.one N b r m (G.die m b r k)).2:=by rw[hgd];exact o2
  refine J.q hX λ_=>?_;refine J.cb hX (f6_Die m b r k) [] ?_;refine cpq ⟨_,rfl,trivial,?_⟩;refine J.q hX λ_=>?_;refine J.cb hX (f9_one p N hN hR b r m (G.die m b r k)) [1] ?_;refine cpq ⟨_,rfl,trivial,?_⟩;rw[<- hgk];refine J.q hX λ_=>?_;refine J.cond rfl (λh2=>?_) (λh2=>?_)
  ·simp only[Bool.not_eq_true']at h2;rw[h2]at hms;have hms:missN g (k+1)=missN g k+1:=hms;refine J.q hX λ_=>?_;rw[show((missN g k:Nat):Int)+1=((missN g (k+1):Nat):Int)from by omega];refine J.q hX λ_=>?_;refine J.nS (k+1) (by omega) (by omega) [0,1] rfl rfl
  ·simp only[Bool.not_eq_false']at h2;rw[h2]at hms;have hms:missN g (k+1)=missN g k:=hms;rw[<- hms];refine J.q hX λ_=>?_;refine J.nS (k+1) (by omega) (by omega) [0,1] rfl rfl
 simp only[decide_eq_false_iff_not,Int.ofNat_lt]at h1;obtain rfl:k=n:=by omega
 obtain⟨ms,hmsn⟩:∃ms,missN g k=ms:=⟨_,rfl⟩;rw[hmsn];refine J.turn1 [] rfl (As:=[ownA 142 25 none 0 0 (cellsF (outK N b r m 0))]) (λh s=>Sep.one ⟨rfl,rfl,rfl⟩) rfl ?_;refine J.q hX λ_=>?_;refine J.lo (α:=(Nat×Option Nat×Nat)) (λz=>z.1<=k) (λz=>[⟨16, .int .i64 z.1,0, .tt⟩,⟨12, .int .i64 ms,0, .tt⟩,⟨10, .bool wh,0, .tt⟩,⟨11,slv z.2.1 (outK N b r m z.1).length z.2.2,0, .tt⟩,⟨0, .pointer (some ⟨p,0,none⟩),2, .tt⟩,⟨1, .int .i64 b,0, .tt⟩,⟨2, .int .i64 r,0, .tt⟩,⟨3, .int .i64 m,0, .tt⟩]) [2] (λz=>[ownA 142 25 z.2.1 (outK N b r m z.1).length z.2.2 (cellsF (outK N b r m z.1))]) (λz=>k-z.1) ((0,none,0)) (Nat.zero_le _) rfl ?_ (λ_=>rfl) λz hI=>?_
 ·rfl
 obtain⟨j,ao,co⟩:=z;dsimp only at hI ⊢;have hos:=outK_succ N b r m j;have hol:=outK_len N b r m j;refine J.q hX λ_=>?_;refine J.cb hX (f6_SlotsG m) [] ?_;refine cpq ⟨_,rfl,trivial,?_⟩;rw[hn];refine J.q hX λ_=>?_;refine J.cond rfl (λh3=>?_) (λh3=>?_)
 ·simp only[decide_eq_true_eq,Int.ofNat_lt]at h3;obtain⟨o1,o2⟩:=hone j h3;have hfd:R.fnd (R.look N b r m) b r m j=if R.okAt (R.look N b r m) j&&(R.enAt (R.look N b r m) j).role !=3 then some ⟨R.enAt (R.look N b r m) j,b,r,j,m,(R.look N b r m).whole,!((R.look N b r m).good.getD j false)⟩else none:=rfl
  rw[<- hwh2]at hfd;refine J.q hX λ_=>?_;refine J.cb hX (f6_Die m b r j) [] ?_;refine cpq ⟨_,rfl,trivial,?_⟩;refine J.q hX λ_=>?_;refine J.cb hX (f9_one p N hN hR b r m (G.die m b r j)) [1] ?_;refine cpq ⟨_,rfl,trivial,?_⟩;rw[<- o1,<- o2];obtain⟨s,hs⟩:∃s,(R.look N b r m).slots.getD j Sh.zero=s:=⟨_,rfl⟩;obtain⟨gj,hgj⟩:∃gj,(R.look N b r m).good.getD j false=gj:=⟨_,rfl⟩;rw[hs,hgj];refine J.q hX λ_=>?_;refine J.cb hX (f9_entry s) [] ?_;refine cpq ⟨_,rfl,trivial,?_⟩;refine J.q hX λbe=>?_;refine J.join (α:={x:Nat×En×Bool//R.okAt (R.look N b r m) j=(gj||x.2.2)/\(R.okAt (R.look N b r m) j=true->x.2.1=R.enAt (R.look N b r m) j/\x.2.2= !gj)}) (λx=>[⟨19, .pointer (some ⟨x.1.1,0,none⟩),4, .tt⟩,⟨18, .bool gj,0, .tt⟩,⟨20, .bool x.1.2.2,0, .tt⟩,⟨16, .int .i64 j,0, .tt⟩,⟨12, .int .i64 ms,0, .tt⟩,⟨10, .bool wh,0, .tt⟩,⟨11,slv ao (outK N b r m j).length co,0, .tt⟩,⟨0, .pointer (some ⟨p,0,none⟩),2, .tt⟩,⟨1, .int .i64 b,0, .tt⟩,⟨2, .int .i64 r,0, .tt⟩,⟨3, .int .i64 m,0, .tt⟩]) (λx=>[.hp F,NandA p N,ownA 142 25 ao (outK N b r m j).length co (cellsF (outK N b r m j)), .pt x.1.1 38 (enL x.1.2.1)]) (λhj=>?_) (λx=>?_)
  ·cases gj with
   | true=>
    have hok:R.okAt (R.look N b r m) j=true:=by unfold R.okAt;rw[hgj];rfl
    have hen:R.enAt (R.look N b r m) j=s.en:=by unfold R.enAt;rw[hgj,if_pos rfl,hs]
    refine J.q hX λ_=>?_;refine J.cF ?_;refine J.qn hX 1 λ_=>?_;exact J.goto [0,1,2,4] (hj ⟨(be 0,s.en,false),hok,λ_=>⟨hen.symm,rfl⟩⟩) ⟨rfl,rfl,rfl,rfl,rfl,rfl,rfl,rfl,rfl,rfl,rfl,trivial⟩ rfl rfl
   | false=>
    have hok:R.okAt (R.look N b r m) j=R.mendB (R.look N b r m) j:=by unfold R.okAt;rw[hgj];rfl
    have hen:R.enAt (R.look N b r m) j=R.mend (R.look N b r m) j:=by unfold R.enAt;rw[hgj,if_neg Bool.false_ne_true]
    refine J.q hX λ_=>?_;refine J.cond rfl (λh4=>?_) (λh4=>?_)
    ·refine J.q hX λ_=>?_;refine J.cb hX (f9_mended p N hN hR b r m j (by omega)) [1] ?_;refine cpq ⟨_,rfl,trivial,?_⟩;refine J.qn hX 6 λ_=>?_;exact J.goto [0,1,2,4] (hj ⟨(be 0,R.mend (R.look N b r m) j,R.mendB (R.look N b r m) j),hok,λh=>⟨hen.symm,hok.symm.trans h⟩⟩) ⟨rfl,rfl,rfl,rfl,rfl,rfl,rfl,rfl,rfl,rfl,rfl,trivial⟩ rfl rfl
    ·have hno:R.okAt (R.look N b r m) j=false:=by
      rw[hok,Bool.eq_false_iff];intro hmb;unfold R.mendB at hmb;simp only[Bool.and_eq_true]at hmb;have h1:=miss_rest hsl h3 hgj hmb.1.1;rw[<- hgd,hmsn]at h1;rw[h1]at h4;simp at h4
     refine J.qn hX 1 λ_=>?_;exact J.goto [0,1,2,4] (hj ⟨(be 0,s.en,false),hno,λh=>by rw[hno]at h;cases h⟩) ⟨rfl,rfl,rfl,rfl,rfl,rfl,rfl,rfl,rfl,rfl,rfl,trivial⟩ rfl rfl
  obtain⟨⟨e,e1,bk⟩,x1,x2⟩:=x;dsimp only at x1 x2 ⊢;rw[hgj]at hfd;refine J.q hX λ_=>?_;refine J.cond rfl (λh5=>?_) (λh5=>?_)
  ·have h6:(gj||bk)=true/\(e1.role !=3)=true:=by
    revert h5
    cases gj<;>cases bk<;>simp
   have h7:=x2 (x1.trans h6.1);rw[x1,<- h7.1,h6.1,h6.2,<- h7.2]at hfd;have hfd:R.fnd (R.look N b r m) b r m j=some ⟨e1,b,r,j,m,wh,bk⟩:=hfd;rw[hfd,Option.toList_some]at hos;refine J.q hX λ_=>?_;refine J.append hX tk 2 4 0 rfl rfl rfl rfl rfl rfl rfl rfl rfl rfl rfl rfl rfl rfl rfl rfl ?_ ?_ (λ_=>rfl) λa2 c2=>⟨_,(congrArg (λy=>lset _ 2 (ownA _ _ _ _ _ y)) (cellsF_snoc' _ ⟨e1,b,r,j,m,wh,bk⟩)).trans rfl,trivial,?_⟩
   ·simp only[maxLen];omega
   ·omega
   rw[show(outK N b r m j).length+1=(outK N b r m (j+1)).length from by rw[hos,List.length_append];rfl,<- hos];refine J.q hX λ_=>?_;refine J.nS ((j+1,a2,c2)) (by dsimp only;omega) (by dsimp only;omega) [0,1,2] rfl rfl
  ·have hno:R.fnd (R.look N b r m) b r m j=none:=by
    rw[hfd];cases hk:R.okAt (R.look N b r m) j with
    | false=>rfl
    | true=>
     obtain⟨h7,_⟩:=x2 hk;rw[hk]at x1;rw[<- h7];have:(e1.role !=3)=false:=by
      revert h5
      rw[<- x1];cases gj<;>cases bk<;>simp
     rw[this];rfl
   rw[hno,Option.toList_none,List.append_nil]at hos;rw[<- hos];refine J.q hX λ_=>?_;refine J.nS ((j+1,ao,co)) (by dsimp only;omega) (by dsimp only;omega) [0,1,2] rfl rfl
 simp only[decide_eq_false_iff_not,Int.ofNat_lt]at h3;obtain rfl:j=k:=by omega
 rw[outK_all N b r m hnt];refine J.q hX λ_=>?_;refine J.ru hX [1,2] ?_;exact⟨ao,co,rfl,rfl⟩
theorem f9_All (p:Nat) (N:Nand) (hN:N.Ok) (hR:N.Room) (b r:Int):Fn Tryz.prog 83 [.pointer (some ⟨p,0,none⟩), .int .i64 b, .int .i64 r] [NandA p N]
  (λv As=>∃a c,v=slv a (R.all N b r).length c/\As=[NandA p N,ownA 142 25 a (R.all N b r).length c (cellsF (R.all N b r))]):=by
 have hbd:=hN.bd;have hml:=masks_len N b r;refine Fn.enter [2,0,0] Tryz.func83 rfl rfl rfl λX F hX=>?_;refine J.q hX λ_=>?_;refine J.cb hX (T2.f9_Masks p N hN hR b r) [1] ?_;rintro v As ⟨am,cm,rfl,rfl⟩;refine⟨_,rfl,trivial,?_⟩;refine J.turn1 [] rfl (As:=[ownA 142 25 none 0 0 (cellsF (outI N b r 0))]) (λh s=>Sep.one ⟨rfl,rfl,rfl⟩) rfl ?_;refine J.q hX λ_=>?_;refine J.lo (α:=(Nat×Option Nat×Nat)) (λz=>z.1<=(M.masks N b r).length) (λz=>[⟨9, .int .i64 z.1,0, .tt⟩,⟨8,slv am (M.masks N b r).length cm,0, .tt⟩,⟨7,slv z.2.1 (outI N b r z.1).length z.2.2,0, .tt⟩,⟨0, .pointer (some ⟨p,0,none⟩),2, .tt⟩,⟨1, .int .i64 b,0, .tt⟩,⟨2, .int .i64 r,0, .tt⟩]) [3] (λz=>[ownA 142 25 z.2.1 (outI N b r z.1).length z.2.2 (cellsF (outI N b r z.1))]) (λz=>(M.masks N b r).length-z.1) ((0,none,0)) (Nat.zero_le _) rfl ?_ (λ_=>rfl) λz hI=>?_
 ·rfl
 obtain⟨i,ao,co⟩:=z;dsimp only at hI ⊢;have hol:=outI_len N b r i (by omega);refine J.q hX λ_=>?_;refine J.cond rfl (λh1=>?_) (λh1=>?_)
 ·simp only[decide_eq_true_eq,Int.ofNat_lt]at h1;refine J.know (λh' s=>own_some (c:=(am,cm)) (by omega) (s.get (i:=2) rfl)) λhg=>?_;obtain⟨gm,rfl⟩:=hg;obtain⟨mk,hmk⟩:∃mk,(M.masks N b r)[i]? =some mk:=⟨_,List.getElem?_eq_getElem h1⟩;have hal:=allM_len N b r mk;have hout:outI N b r (i+1)=outI N b r i++R.allM N b r mk:=by
   unfold outI;rw[List.take_add_one,hmk,Option.toList_some,List.flatMap_append,List.flatMap_cons,List.flatMap_nil,List.append_nil]
  refine J.q hX λ_=>?_;refine J.val hX (.int .i64 mk) 0 rfl rfl (λhg a w he hw=>?_) rfl trivial ?_
  ·exact own1_run tk rfl rfl he rfl rfl rfl (hw.get (i:=2) rfl) (by rw[show 0+(i:Int).toNat*1=i from by omega];exact cellsI_get hmk)
  refine J.q hX λ_=>?_;refine J.cb hX (f9_all p N hN hR b r mk) [1] ?_;rintro v As ⟨a1,c1,rfl,rfl⟩;refine⟨_,rfl,trivial,?_⟩;refine J.q hX λ_=>?_;refine J.appendO hX tk 3 4 rfl rfl rfl rfl rfl rfl rfl rfl rfl rfl rfl rfl rfl (cellsF_one _) ?_ ?_ (λ_=>rfl) λa6 c6=>⟨_,(congrArg (λy=>lset _ 3 (ownA _ _ _ _ _ y)) (cellsF_app' _ _)).trans rfl,trivial,?_⟩
  ·simp only[maxLen];omega
  ·omega
  rw[show(outI N b r i).length+(R.allM N b r mk).length=(outI N b r (i+1)).length from by rw[hout,List.length_append],<- hout];refine J.q hX λ_=>?_;refine J.nS ((i+1,a6,c6)) (by dsimp only;omega) (by dsimp only;omega) [0,1,2,3] rfl rfl
 simp only[decide_eq_false_iff_not,Int.ofNat_lt]at h1;obtain rfl:i=(M.masks N b r).length:=by omega
 have hall:outI N b r (M.masks N b r).length=R.all N b r:=by unfold outI R.all;rw[List.take_length]
 rw[hall];refine J.q hX λ_=>?_;refine J.ru hX [1,3] ?_;exact⟨ao,co,rfl,rfl⟩
end Go.Proofs.YtdocmcapegcoeaaGreat
namespace Go.Proofs.YtdocmcapegcoeaaGreat
open Go Go.RowKit
open Go.ChangeShapes Go.WideShapes Go.ChangeAt
end Go.Proofs.YtdocmcapegcoeaaGreat
namespace Go.Proofs.YtdocmcapegcoeaaGreat
open Go Go.RowKit
section
variable {X : Cx} {P : Program} {K : List KI} {E : Env} {L : List Atom} {N : Nat} {F : HP} {Post : Value → List Atom → Prop} {rs : List ResultVar} {T : Tab}
theorem J.appendAny (hX:IsCx X P rs N F Post) (hT:TabOK P T) {ops:Array Oper} {C:Cl} {lt:Bool} {i:Nat} {t:PT} {o:Oper} {x y:Operand} {st e size by_:Nat} {ks tgs:Nat} {gs:G} {a:Option Nat} {n cap:Nat} {xs:List Value} {ky tgy:Nat} {gy:G} {ay:Option Addr} {m cy:Nat} {cs:List Value} {s1 b1:Nat} {z1:List Value} {E':Value->Env} {Ay:Atom} (is iy:Nat) (hc0:ay=none->cy=0)
  (ho:lget ops.toList i=some o) (hg:gd ops.toList E o=some .tt) (hop:o.op= .call ⟨.builtin .append,#[x,y],#[st,st]⟩)
  (hx:ev E x=some ⟨ks,slv a n cap,tgs,gs⟩) (hvx:gs.on=true) (hy:ev E y=some ⟨ky, .slice ay m cy,tgy,gy⟩) (hvy:gy.on=true)
  (hLs:lget L is=some (ownA e size a n cap xs)) (hLy:lget L iy=some Ay) (hrd:Rd Ay ay size m cs) (hst:T.get st=some ⟨.slice e size,s1,z1,b1⟩) {td:TD} {z:List Value} (he:T.get e=some ⟨td,size,z,by_⟩) (hz:Nat.beq z.length size=true)
  (hsz:Nat.blt 0 size=true) (h1:∀u∈cs,u.oneCell'=true) (h63:n+m<=maxLen) (hbytes:(n+m)*by_<=140737488355328)
  (hd:∀v,putE N o.dst v 0 .tt E=some (E' v))
  (hJ:∀a' cap',∃L',lset L is (ownA e size a' (n+m) cap' (xs++cs))=some L'/\Conj (staysL lt C L')/\J X (.reg ops C t::K) (E' (slv a' (n+m) cap')) L'):J X (.reg ops C (.alt lt i t .non)::K) E L:=by
 cases ay with
 | none=>
  exact J.appendRO hX hT (ay:=none) is iy (λ_=>hc0 rfl) ho hg hop hx hvx hy hvy hLs hLy hrd hst he hz hsz h1 h63 hbytes hd hJ
 | some ad=>
  refine J.op hX (S:=λv L'=>∃a' cap',v=slv a' (n+m) cap'/\L'=L.set is (ownA e size a' (n+m) cap' (xs++cs))) 0 ho hg rfl (λa0 w hen hs=>?_) hd (λv L' ⟨a',cap',e1,e2⟩=>by subst e1;subst e2;obtain⟨L2,q1,q2⟩:=hJ a' cap';rw[<- lset_eq q1];exact q2);obtain⟨d,f,zv,ok⟩:=tiOf_spec (hT.get hst);obtain⟨fe,rfl,g1,g2⟩:=ok.slice rfl;obtain⟨d',f',zv',ok'⟩:=tiOf_spec (hT.get he);have hf:fe=f':=by have:=g1.symm.trans ok'.hf;injection this
  subst hf;have hzz:z=zv'.cells.toList:=ok'.hzero;subst hzz;rw[lget_eq]at hLs hLy;have hrow:=ownP_row (hs.get hLs);have hrd2:=hrd _ (hs.get hLy);have hnews:∀j u,cs[j]? =some u->w.cell? (ad.add j)=some u:=λj u hu=>by
   rcases Nat.eq_zero_or_pos m with h0 | h0
   ·have:=hrd2.1;rw[h0,Nat.zero_mul]at this;rw[List.eq_nil_of_length_eq_zero this]at hu;simp at hu
   ·obtain⟨b,oo,hba⟩:=Rd.addr hrd2 h0;injection hba with hba;subst hba;rw[Addr.add_none];exact rd_cell hrd2 h0 hu
  obtain⟨v',w',r1,r2,r3,_,r5⟩:=run_append_own_at (P:=P) w 0 st o.type e fe zv' size by_ ok.hd ok'.hf ok'.hz g2 ok'.hbytes.symm (by have:=Nat.eq_of_beq_eq_true hz;simpa using this) (Nat.le_of_ble_eq_true hsz) _ n xs hrow ad m cy cs hrd2.1 hnews h1 h63 hbytes (Nat.zero_le _);obtain⟨a',cap',e1,e2,e3⟩:=row_ownP r2;subst e1;have ex:=ev_spec hen hx;have ey:=ev_spec hen hy;simp only[Slot.val,hvx,hvy]at ex ey;refine⟨_,_, .value (slv a' (n+m) cap'),w',⟨a',cap',rfl,rfl⟩,?_, .inl rfl,?_,Ext.grown r3⟩
  ·simp only[execOp,hop,resolve,Sem.run_bind,Sem.run_pure,Result.andThen_ok,invoke,builtin,List.map_toArray,List.map_cons,List.map_nil,ex,ey,r1]
  ·refine Sep.step hs hLs (x:=(slv a n cap).ownBlock) (x':=a') (λh g0 hh he0=>?_) r3 (by rw[<- e3];exact r5) (λh hh=>⟨e2.1,?_⟩)
   ·cases a with
    | none=>simp[slv,Value.ownBlock]at he0
    | some ga=>
     simp only[slv,Value.ownBlock,Option.some.injEq]at he0;subst he0;obtain⟨cur,h1,_⟩:=hh.2;exact⟨_,h1⟩
   ·have e22:=e2.2;cases a' with
    | none=>exact e22
    | some ga=>
     obtain⟨cur,q1,q2⟩:=e22;exact⟨cur,(hh ga rfl).trans q1,q2⟩
end
theorem max_if2 (a b:Int):(if b>a then b else a)=max a b:=by split<;>omega
theorem spot_eq {l:List Int} {b:Int} {k:Nat} (h1:∀i,i<k->l.getD i 0<b) (hk:k<=l.length) (h2:k=l.length\/¬l.getD k 0<b):spotH l b=k:=by
 unfold spotH
 induction l generalizing k with
 | nil=>
  obtain rfl:k=0:=by simpa using hk
  rfl
 | cons x l ih=>
  cases k with
  | zero=>
   rcases h2 with h2 | h2
   ·simp at h2
   ·rw[List.getD_cons_zero]at h2;rw[List.takeWhile_cons_of_neg (by simpa using h2)];rfl
  | succ k=>
   have h0:=h1 0 (by omega);rw[List.getD_cons_zero]at h0;rw[List.takeWhile_cons_of_pos (by simpa using h0),List.length_cons,ih (k:=k) (λi hi=>by have:=h1 (i+1) (by omega);rwa [List.getD_cons_succ]at this) (by simpa using hk) (h2.imp (λh=>by simpa using h) (λh=>by rwa [List.getD_cons_succ]at h))]
theorem cellsF_in {l:List Fnd} {k:Nat} {x:Fnd} (h:l[k]? =some x) (j:Nat) (hj:j<25):(cellsF l)[0+(k:Int).toNat*25+j]? =(fnL x)[j]?:=by
 rw[show 0+(k:Int).toNat*25+j=k*25+j from by omega];exact cellsF_cell h j hj
theorem cuthi_run {P:Program} {T:Tab} {E:Env} {n:Nat} {ac:Act} {w:World} (hT:TabOK P T) {o:Oper} {t e size:Nat} {x y:Operand} {k1 k2 t1 t2:Nat} {g1 g2:G} {a:Option Addr} {m c h:Nat} {kk:IntKind} {s1 b1 b2:Nat} {z1 z2:List Value} {td:TD} (hop:o.op= .slice t x none (some y) none) (hx:ev E x=some ⟨k1, .slice a m c,t1,g1⟩) (hy:ev E y=some ⟨k2, .int kk h,t2,g2⟩) (he:EnvOK n E ac) (v1:g1.on=true) (v2:g2.on=true)
  (ht:T.get t=some ⟨.slice e size,s1,z1,b1⟩) (hte:T.get e=some ⟨td,size,z2,b2⟩) (hc:h<=c):
  (execOp ac.eval o).run P w= .ok (.value (.slice a h c)) w:=by
 have e1:=ev_spec he hx;have e2:=ev_spec he hy;simp only[Slot.val,v1,v2]at e1 e2;obtain⟨d,f,zv,ok⟩:=tiOf_spec (hT.get ht);obtain⟨fe,rfl,g1,g2⟩:=ok.slice rfl;have h0:∀ad:Addr,ad.add 0=ad:=λad=>by unfold Addr.add;rw[if_pos rfl]
 cases a with
 | none=>
  simp only[execOp,hop,Option.map_some,Option.map_none,e1,e2,Instr.sliceAt,Instr.slice,Instr.sliceBounds,Instr.sliceBound,asIntOf,Sem.run_bind,Sem.run_pure,Result.andThen_ok,underlying_run ok.hd,sizeOf_run g1,g2];simp[hc,h0]
 | some ad=>
  simp only[execOp,hop,Option.map_some,Option.map_none,e1,e2,Instr.sliceAt,Instr.slice,Instr.sliceBounds,Instr.sliceBound,asIntOf,Sem.run_bind,Sem.run_pure,Result.andThen_ok,underlying_run ok.hd,sizeOf_run g1,g2];simp[hc,h0]
theorem f13_held (al:Option Nat) (nl cl:Nat) (H:List Int) (hH:H.length=nl) (hnl:nl<=100000) (ai:Option Nat) (ni ci:Nat) (I:List Fnd) (hIl:I.length=ni) (hni:ni<=100000) (k:Int):
  Fn Tryz.prog 87 [slv al nl cl,slv ai ni ci, .int .i64 k] [ownA 3 1 al nl cl (cellsI H),ownA 142 25 ai ni ci (cellsF I)]
  (λv As=>∃a c,v=slv a (heldK H I k (topK I k ni) ni).length c/\As=[ownA 3 1 a (heldK H I k (topK I k ni) ni).length c (cellsI (heldK H I k (topK I k ni) ni)),ownA 142 25 ai ni ci (cellsF I)]):=by
 subst hH;refine Fn.enter [0,0,0] Tryz.func87 rfl rfl rfl λX F hX=>?_;refine J.q hX λ_=>?_;refine J.lo (α:=Nat) (λi=>i<=ni) (λi=>[⟨8, .int .i64 i,0, .tt⟩,⟨7, .int .i64 (topK I k i),0, .tt⟩,⟨0,slv al H.length cl,0, .tt⟩,⟨1,slv ai ni ci,0, .tt⟩,⟨2, .int .i64 k,0, .tt⟩]) [] (λi=>[]) (λi=>ni-i) (0) (Nat.zero_le _) rfl ?_ (λ_=>rfl) λi hI=>?_
 ·rfl
 refine J.q hX λ_=>?_;refine J.cond rfl (λh1=>?_) (λh1=>?_)
 ·simp only[decide_eq_true_eq,Int.ofNat_lt]at h1;obtain⟨x,hx⟩:∃x,I[i]? =some x:=⟨_,List.getElem?_eq_getElem (by omega)⟩;have hts:=topK_succ I k i x hx;refine J.know (λh' s=>own_some (c:=(ai,ci)) (by omega) (s.get (i:=2) rfl)) λhg=>?_;obtain⟨gi,rfl⟩:=hg;refine J.q hX λ_=>?_;refine J.val hX (.int .i64 x.en.lpn) 0 rfl rfl (λhg a w he hs=>own1_run tk rfl rfl he hg rfl rfl (hs.get (i:=2) rfl) (by rw[show 0+(i:Int).toNat*25+0+0=0+(i:Int).toNat*25+0 from rfl,cellsF_in hx 0 (by decide)];rfl)) rfl trivial ?_;refine J.q hX λ_=>?_;refine J.val hX (.bool x.whole) 0 rfl rfl (λhg a w he hs=>own1_run tk rfl rfl he hg rfl rfl (hs.get (i:=2) rfl) (by rw[cellsF_in hx 23 (by decide)];rfl)) rfl trivial ?_;refine J.q hX λ_=>?_;refine J.cond rfl (λh2=>?_) (λh2=>?_)
  ·rw[if_pos h2]at hts;refine J.q hX λb7=>?_;refine J.val hX (.int .i64 x.en.seq) 0 rfl rfl (λhg a w he hs=>own1_run tk rfl rfl he hg rfl rfl (hs.get (i:=2) rfl) (by rw[show 0+(i:Int).toNat*25+0+1=0+(i:Int).toNat*25+1 from rfl,cellsF_in hx 1 (by decide)];rfl)) rfl trivial ?_;refine J.qn hX 2 λ_=>?_;rw[max_if2,<- hts];refine J.q hX λ_=>?_;refine J.nS (i+1) (by omega) (by omega) [0,1,2] rfl rfl
  ·rw[if_neg (by rw[h2];exact Bool.false_ne_true)]at hts;rw[<- hts];refine J.q hX λ_=>?_;refine J.nS (i+1) (by omega) (by omega) [0,1,2] rfl rfl
 simp only[decide_eq_false_iff_not,Int.ofNat_lt]at h1;obtain rfl:i=ni:=by omega
 obtain⟨t,ht⟩:∃t,topK I k i=t:=⟨_,rfl⟩;rw[ht];have hk0:heldK H I k t 0=H:=rfl;refine J.q hX λ_=>?_;refine J.lo (α:=(Nat×Option Nat×Nat)) (λz=>z.1<=i) (λz=>[⟨9, .int .i64 z.1,0, .tt⟩,⟨7, .int .i64 t,0, .tt⟩,⟨0,slv z.2.1 (heldK H I k t z.1).length z.2.2,0, .tt⟩,⟨1,slv ai i ci,0, .tt⟩,⟨2, .int .i64 k,0, .tt⟩]) [1] (λz=>[ownA 3 1 z.2.1 (heldK H I k t z.1).length z.2.2 (cellsI (heldK H I k t z.1))]) (λz=>i-z.1) ((0,al,cl)) (Nat.zero_le _) rfl ?_ (λ_=>rfl) λz hI=>?_
 ·rfl
 obtain⟨j,aj,cj⟩:=z;dsimp only at hI ⊢;have hkl:=heldK_len H I k t j;refine J.q hX λ_=>?_;refine J.cond rfl (λh3=>?_) (λh3=>?_)
 ·simp only[decide_eq_true_eq,Int.ofNat_lt]at h3;obtain⟨x,hx⟩:∃x,I[j]? =some x:=⟨_,List.getElem?_eq_getElem (by omega)⟩;have hhs:=heldK_succ H I k t j x hx;refine J.know (λh' s=>own_some (c:=(ai,ci)) (by omega) (s.get (i:=2) rfl)) λhg=>?_;obtain⟨gi,rfl⟩:=hg;refine J.q hX λ_=>?_;refine J.val hX (.int .i64 x.block) 0 rfl rfl (λhg a w he hs=>own1_run tk rfl rfl he hg rfl rfl (hs.get (i:=2) rfl) (by rw[show 0+(j:Int).toNat*25+19+0=0+(j:Int).toNat*25+19 from rfl,cellsF_in hx 19 (by decide)];rfl)) rfl trivial ?_;refine J.q hX λ_=>?_;refine J.val hX (.int .i64 x.en.lpn) 0 rfl rfl (λhg a w he hs=>own1_run tk rfl rfl he hg rfl rfl (hs.get (i:=2) rfl) (by rw[show 0+(j:Int).toNat*25+0+0=0+(j:Int).toNat*25+0 from rfl,cellsF_in hx 0 (by decide)];rfl)) rfl trivial ?_;refine J.q hX λ_=>?_;refine J.val hX (.bool x.whole) 0 rfl rfl (λhg a w he hs=>own1_run tk rfl rfl he hg rfl rfl (hs.get (i:=2) rfl) (by rw[cellsF_in hx 23 (by decide)];rfl)) rfl trivial ?_;refine J.q hX λ_=>?_;refine J.val hX (.int .i64 x.en.seq) 0 rfl rfl (λhg a w he hs=>own1_run tk rfl rfl he hg rfl rfl (hs.get (i:=2) rfl) (by rw[show 0+(j:Int).toNat*25+0+1=0+(j:Int).toNat*25+1 from rfl,cellsF_in hx 1 (by decide)];rfl)) rfl trivial ?_;refine J.q hX λ_=>?_;refine J.cond rfl (λh4=>?_) (λh4=>?_)
  ·have h5:(x.en.lpn==k&&x.whole&&x.en.seq==t)=false:=by
    revert h4
    simp only[bne];cases(x.en.lpn==k)<;>cases x.whole<;>cases(x.en.seq==t)<;>simp
   rw[if_neg (by rw[h5];exact Bool.false_ne_true)]at hhs;rw[<- hhs];refine J.q hX λ_=>?_;refine J.nS ((j+1,aj,cj)) (by dsimp only;omega) (by dsimp only;omega) [0,1,2] rfl rfl
  have h5:(x.en.lpn==k&&x.whole&&x.en.seq==t)=true:=by
   revert h4
   simp only[bne];cases(x.en.lpn==k)<;>cases x.whole<;>cases(x.en.seq==t)<;>simp
  rw[if_pos h5]at hhs;obtain⟨M,hM⟩:∃M,M=heldK H I k t j:=⟨_,rfl⟩;rw[<- hM]at hhs hkl ⊢;have hMl:M.length<=200000:=by omega
  refine J.q hX λ_=>?_;refine J.lo (α:=Nat) (λu=>u<=M.length/\∀i',i'<u->M.getD i' 0<x.block) (λu=>[⟨11, .int .i64 u,0, .tt⟩,⟨10, .int .i64 x.block,0, .tt⟩,⟨9, .int .i64 j,0, .tt⟩,⟨7, .int .i64 t,0, .tt⟩,⟨0,slv aj M.length cj,0, .tt⟩,⟨1,slv (some gi) i ci,0, .tt⟩,⟨2, .int .i64 k,0, .tt⟩]) [] (λu=>[]) (λu=>M.length-u) (0) (⟨Nat.zero_le _,λi' h=>by omega⟩) rfl ?_ (λ_=>rfl) λu hI=>?_
  ·rfl
  obtain⟨hu1,hu2⟩:=hI;refine J.qn hX 2 λ_=>?_;refine J.join (α:=Unit) (λ_=>[⟨90, .bool (decide (u<M.length)&&decide (M.getD u 0<x.block)),0, .tt⟩,⟨11, .int .i64 u,0, .tt⟩,⟨10, .int .i64 x.block,0, .tt⟩,⟨9, .int .i64 j,0, .tt⟩,⟨7, .int .i64 t,0, .tt⟩,⟨0,slv aj M.length cj,0, .tt⟩,⟨1,slv (some gi) i ci,0, .tt⟩,⟨2, .int .i64 k,0, .tt⟩]) (λ_=>[.hp F,ownA 3 1 aj M.length cj (cellsI M),ownA 142 25 (some gi) i ci (cellsF I)]) (λhj=>?_) (λ_=>?_)
  ·by_cases hlt:u<M.length
   ·obtain⟨y,hy⟩:∃y,M[u]? =some y:=⟨_,List.getElem?_eq_getElem hlt⟩;have hyd:M.getD u 0=y:=by rw[List.getD_eq_getElem?_getD,hy];rfl
    refine J.know (λh' s=>own_some (c:=(aj,cj)) (by omega) (s.get (i:=1) rfl)) λhg=>?_;obtain⟨gj,rfl⟩:=hg;refine J.qn hX 5 λ_=>?_;rw[decide_eq_true (by omega:(u:Int)<(M.length:Int))];refine J.q hX λ_=>?_;refine J.val hX (.int .i64 y) 0 rfl rfl (λhg a w he hs=>own1_run tk rfl rfl he rfl rfl rfl (hs.get (i:=1) rfl) (by rw[show 0+(u:Int).toNat*1=u from by omega];exact cellsI_get hy)) rfl trivial ?_;refine J.qn hX 6 λ_=>?_;exact J.goto [0,1,2] (hj ()) ⟨congrArg (λb=>some (Value.bool b)) (by rw[decide_eq_true hlt,hyd]:(true&&decide (y<x.block))=(decide (u<M.length)&&decide (M.getD u 0<x.block))),rfl,rfl,rfl,rfl,rfl,rfl,rfl,trivial⟩ rfl rfl
   ·refine J.qn hX 5 λ_=>?_;rw[decide_eq_false (by omega:¬(u:Int)<(M.length:Int))];have hfin:(false&&decide ((0:Int)<x.block))=(decide (u<M.length)&&decide (M.getD u 0<x.block)):=by rw[decide_eq_false hlt];rfl
    rcases aj with _ | gj
    ·refine J.q hX λ_=>?_;refine J.val hX (.pointer none) 0 rfl rfl (λhg a w he hs=>by simp[G.on]at hg) rfl trivial ?_;refine J.q hX λ_=>?_;refine J.val hX (.int .i64 0) 0 rfl rfl (λhg a w he hs=>by simp[G.on]at hg) rfl trivial ?_;refine J.qn hX 6 λ_=>?_;exact J.goto [0,1,2] (hj ()) ⟨congrArg (λb=>some (Value.bool b)) hfin,rfl,rfl,rfl,rfl,rfl,rfl,rfl,trivial⟩ rfl rfl
    ·refine J.q hX λ_=>?_;refine J.val hX (.int .i64 0) 0 rfl rfl (λhg a w he hs=>by simp[G.on]at hg) rfl trivial ?_;refine J.qn hX 6 λ_=>?_;exact J.goto [0,1,2] (hj ()) ⟨congrArg (λb=>some (Value.bool b)) hfin,rfl,rfl,rfl,rfl,rfl,rfl,rfl,trivial⟩ rfl rfl
  refine J.q hX λ_=>?_;refine J.cond rfl (λh6=>?_) (λh6=>?_)
  ·simp only[Bool.and_eq_true,decide_eq_true_eq]at h6;refine J.q hX λ_=>?_;refine J.nS (u+1) (⟨by omega,λi' hi'=>by
    rcases Nat.lt_succ_iff_lt_or_eq.1 hi' with h | h
    ·exact hu2 i' h
    ·rw[h];exact h6.2⟩) (by omega) [0,1,2] rfl rfl
  have hsp:spotH M x.block=u:=by
   refine spot_eq hu2 hu1 ?_;simp only[Bool.and_eq_false_iff,decide_eq_false_iff_not]at h6;rcases h6 with h | h
   ·left;omega
   ·right;exact h
  have hins:=insI_spotH x.block M;rw[hsp]at hins;refine J.qn hX 3 λ_=>?_;refine J.join (α:=Unit) (λ_=>[⟨104, .bool (decide (u=M.length)||(M.getD u 0 !=x.block)),0, .tt⟩,⟨11, .int .i64 u,0, .tt⟩,⟨10, .int .i64 x.block,0, .tt⟩,⟨9, .int .i64 j,0, .tt⟩,⟨7, .int .i64 t,0, .tt⟩,⟨0,slv aj M.length cj,0, .tt⟩,⟨1,slv (some gi) i ci,0, .tt⟩,⟨2, .int .i64 k,0, .tt⟩]) (λ_=>[.hp F,ownA 3 1 aj M.length cj (cellsI M),ownA 142 25 (some gi) i ci (cellsF I)]) (λhj=>?_) (λ_=>?_)
  ·by_cases hlt:u<M.length
   ·obtain⟨y,hy⟩:∃y,M[u]? =some y:=⟨_,List.getElem?_eq_getElem hlt⟩;have hyd:M.getD u 0=y:=by rw[List.getD_eq_getElem?_getD,hy];rfl
    refine J.know (λh' s=>own_some (c:=(aj,cj)) (by omega) (s.get (i:=1) rfl)) λhg=>?_;obtain⟨gj,rfl⟩:=hg;refine J.qn hX 5 λ_=>?_;rw[show((u:Int)==(M.length:Int))=false from by rw[beq_eq_false_iff_ne];omega];refine J.q hX λ_=>?_;refine J.val hX (.int .i64 y) 0 rfl rfl (λhg a w he hs=>own1_run tk rfl rfl he rfl rfl rfl (hs.get (i:=1) rfl) (by rw[show 0+(u:Int).toNat*1=u from by omega];exact cellsI_get hy)) rfl trivial ?_;refine J.qn hX 6 λ_=>?_;exact J.goto [0,1,2] (hj ()) ⟨congrArg (λb=>some (Value.bool b)) (by rw[decide_eq_false (by omega:¬u=M.length),hyd]:(false||(y !=x.block))=(decide (u=M.length)||(M.getD u 0 !=x.block))),rfl,rfl,rfl,rfl,rfl,rfl,rfl,trivial⟩ rfl rfl
   ·refine J.qn hX 5 λ_=>?_;rw[show((u:Int)==(M.length:Int))=true from by rw[beq_iff_eq];omega];have hfin:(true||((0:Int) !=x.block))=(decide (u=M.length)||(M.getD u 0 !=x.block)):=by rw[decide_eq_true (by omega:u=M.length)];rfl
    rcases aj with _ | gj
    ·refine J.q hX λ_=>?_;refine J.val hX (.pointer none) 0 rfl rfl (λhg a w he hs=>by simp[G.on]at hg) rfl trivial ?_;refine J.q hX λ_=>?_;refine J.val hX (.int .i64 0) 0 rfl rfl (λhg a w he hs=>by simp[G.on]at hg) rfl trivial ?_;refine J.qn hX 6 λ_=>?_;exact J.goto [0,1,2] (hj ()) ⟨congrArg (λb=>some (Value.bool b)) hfin,rfl,rfl,rfl,rfl,rfl,rfl,rfl,trivial⟩ rfl rfl
    ·refine J.q hX λ_=>?_;refine J.val hX (.int .i64 0) 0 rfl rfl (λhg a w he hs=>by simp[G.on]at hg) rfl trivial ?_;refine J.qn hX 6 λ_=>?_;exact J.goto [0,1,2] (hj ()) ⟨congrArg (λb=>some (Value.bool b)) hfin,rfl,rfl,rfl,rfl,rfl,rfl,rfl,trivial⟩ rfl rfl
  refine J.q hX λ_=>?_;refine J.cond rfl (λh7=>?_) (λh7=>?_)
  ·have hno:¬M[u]? =some x.block:=by
    intro hc;have h8:u<M.length:=(List.getElem?_eq_some_iff.1 hc).1;rw[List.getD_eq_getElem?_getD,hc,decide_eq_false (by omega)]at h7;simp at h7
   rw[if_neg hno]at hins;rw[hins]at hhs;obtain⟨M',hM'⟩:∃M',M.take u++[x.block]++M.drop u=M':=⟨_,rfl⟩;rw[hM']at hhs;have hul:u<=M.length:=hu1;have hlM:M'.length=M.length+1:=by rw[<- hM',List.length_append,List.length_append,List.length_take,List.length_drop];show min u M.length+1+(M.length-u)=M.length+1;omega
   refine J.join (α:=Option Nat×Nat) (λy=>[⟨9, .int .i64 j,0, .tt⟩,⟨7, .int .i64 t,0, .tt⟩,⟨0,slv y.1 M'.length y.2,0, .tt⟩,⟨1,slv (some gi) i ci,0, .tt⟩,⟨2, .int .i64 k,0, .tt⟩]) (λy=>[.hp F,ownA 3 1 y.1 M'.length y.2 (cellsI M'),ownA 142 25 (some gi) i ci (cellsF I)]) (λhj=>?_) (λy=>?_)
   ·have hsl:∀n c,slv aj n c= .slice (oad2 (aj.map λg=>(g,0))) n c:=λn c=>by cases aj<;>rfl
    have hoad:oad aj=oad2 (aj.map λg=>(g,0)):=by cases aj<;>rfl
    refine J.know (p:=M.length<=cj/\(aj=none->cj=0)) (λh' s=>by
     have h9:ownP 3 1 aj M.length cj (cellsI M) h':=s.get (i:=1) rfl;obtain⟨_,h9⟩:=h9;cases aj with
     | none=>exact⟨by omega,λ_=>h9.2⟩
     | some g=>obtain⟨_,_,h10,_⟩:=h9;exact⟨h10,λh=>by cases h⟩) λhcap=>?_
    refine J.turn1 [] rfl (As:=[ownA 3 1 none 0 0 (cellsI [])]) (λh s=>Sep.one ⟨rfl,rfl,rfl⟩) rfl ?_;rw[hsl];refine J.qn hX 1 λ_=>?_;refine J.plan (.take true 0 (.take true 1 (.take true 2 (.take true 4 (.take true 7 (.take true 8 (.take true 9 (.alt false 3 ((.of [22,26,43,44])) (.alt false 5 ((.of [14,26,43,44])) .non))))))))) [10,11] [] (by rw[hX.hP];kernel_rfl) (by kernel_rfl) ?_;refine J.qn hX 2 λ_=>?_;refine J.valT hX (.slice (oad2 (aj.map λg=>(g,0))) u cj) 0 rfl rfl (λhg aa w he hC=>cuthi_run tk rfl rfl rfl he rfl rfl rfl rfl (by omega)) rfl ?_;refine J.qn hX 3 λ_=>?_;refine J.valT hX (.slice (oad2 (cutA (aj.map λg=>(g,0)) 1 u cj)) (M.length-u) (cj-u)) 0 rfl rfl (λhg aa w he hC=>cutlo2_run tk rfl rfl rfl he rfl rfl rfl rfl rfl hul) rfl ?_;have hc1:oad2 (aj.map λg=>(g,0))=none->cj=0:=λh=>hcap.2 (by cases aj with | none=>rfl | some g=>cases h);have hc2:oad2 (cutA (aj.map λg=>(g,0)) 1 u cj)=none->cj-u=0:=λh=>by
     have:cj=0:=hcap.2 (by
      cases aj with
      | none=>rfl
      | some g=>
       revert h
       show oad2 (if cj=u then some (g,0)else some (g,0+u*1))=none->_;split<;>exactλh=>by cases h)
     omega
    have hR1:Rd (ownA 3 1 aj M.length cj (cellsI M)) (oad2 (aj.map λg=>(g,0))) 1 u (cellsI (M.take u)):=by
     have h9:=(own_rd 3 1 aj M.length cj (cellsI M)).take u hul;rw[hoad,show(cellsI M).take (u*1)=cellsI (M.take u)from by simp[cellsI]]at h9;exact h9
    have hR2:Rd (ownA 3 1 aj M.length cj (cellsI M)) (oad2 (cutA (aj.map λg=>(g,0)) 1 u cj)) 1 (M.length-u) (cellsI (M.drop u)):=by
     by_cases h9:M.length=u
     ·rw[h9,Nat.sub_self,<- h9,List.drop_length];exactλ_ _=>⟨rfl,λh=>absurd h (Nat.lt_irrefl 0)⟩
     ·cases aj with
      | none=>have:=hcap.2 rfl;omega
      | some g=>
       have h10:=(own_rd 3 1 (some g) M.length cj (cellsI M)).drop u hul;rw[show(cellsI M).drop (u*1)=cellsI (M.drop u)from by simp[cellsI]]at h10;have h11:oad2 (cutA ((some g).map λg=>(g,0)) 1 u cj)=some ⟨g,0+u*1,none⟩:=by
        show oad2 (if cj=u then some (g,0)else some (g,0+u*1))=_;rw[if_neg (by omega)];rfl
       rw[h11];exact h10
    have hcat:cellsI []++cellsI (M.take u)++[.int .i64 x.block]++cellsI (M.drop u)=cellsI M':=by
     rw[<- hM'];simp[cellsI]
    have hnn:0+u+1+(M.length-u)=M'.length:=by omega
    refine J.alts ?_ ?_
    ·refine J.appendAny hX tk (a:=none) (n:=0) (cap:=0) 3 1 hc1 rfl rfl rfl rfl rfl rfl rfl rfl rfl hR1 rfl rfl rfl rfl (cellsI_one _) ?_ ?_ (λ_=>rfl) λa2 c2=>⟨_,rfl,(by first | exact trivial | (repeat' (first | exact trivial | refine⟨rfl,?_⟩))),?_⟩
     ·simp only[maxLen];omega
     ·omega
     refine J.qn hX 1 λb7=>?_;refine J.append hX tk 3 4 0 rfl rfl rfl rfl rfl rfl rfl rfl rfl rfl rfl rfl rfl rfl rfl rfl ?_ ?_ (λ_=>rfl) λa3 c3=>⟨_,rfl,(by first | exact trivial | (repeat' (first | exact trivial | refine⟨rfl,?_⟩))),?_⟩
     ·simp only[maxLen];omega
     ·omega
     refine J.appendAny hX tk 3 1 hc2 rfl rfl rfl rfl rfl rfl rfl rfl rfl hR2 rfl rfl rfl rfl (cellsI_one _) ?_ ?_ (λ_=>rfl) λa4 c4=>⟨_,(congr (congrArg (λy z=>lset _ 3 (ownA _ _ _ y _ z)) hnn) hcat).trans rfl,(by first | exact trivial | (repeat' (first | exact trivial | refine⟨rfl,?_⟩))),?_⟩
     ·simp only[maxLen];omega
     ·omega
     rw[hnn];refine J.qn hX 2 λ_=>?_;exact J.goto [0,3,2] (hj (a4,c4)) ⟨rfl,rfl,rfl,rfl,rfl,trivial⟩ rfl rfl
    ·refine J.qn hX 1 λb7=>?_;refine J.appendAny hX tk (a:=none) (n:=0) (cap:=0) 3 1 hc1 rfl rfl rfl rfl rfl rfl rfl rfl rfl hR1 rfl rfl rfl rfl (cellsI_one _) ?_ ?_ (λ_=>rfl) λa2 c2=>⟨_,rfl,(by first | exact trivial | (repeat' (first | exact trivial | refine⟨rfl,?_⟩))),?_⟩
     ·simp only[maxLen];omega
     ·omega
     refine J.append hX tk 3 4 0 rfl rfl rfl rfl rfl rfl rfl rfl rfl rfl rfl rfl rfl rfl rfl rfl ?_ ?_ (λ_=>rfl) λa3 c3=>⟨_,rfl,(by first | exact trivial | (repeat' (first | exact trivial | refine⟨rfl,?_⟩))),?_⟩
     ·simp only[maxLen];omega
     ·omega
     refine J.appendAny hX tk 3 1 hc2 rfl rfl rfl rfl rfl rfl rfl rfl rfl hR2 rfl rfl rfl rfl (cellsI_one _) ?_ ?_ (λ_=>rfl) λa4 c4=>⟨_,(congr (congrArg (λy z=>lset _ 3 (ownA _ _ _ y _ z)) hnn) hcat).trans rfl,(by first | exact trivial | (repeat' (first | exact trivial | refine⟨rfl,?_⟩))),?_⟩
     ·simp only[maxLen];omega
     ·omega
     rw[hnn];refine J.qn hX 2 λ_=>?_;exact J.goto [0,3,2] (hj (a4,c4)) ⟨rfl,rfl,rfl,rfl,rfl,trivial⟩ rfl rfl
   rw[<- hhs];refine J.q hX λ_=>?_;refine J.nS ((j+1,y.1,y.2)) (by dsimp only;omega) (by dsimp only;omega) [0,1,2] rfl rfl
  ·have hyes:M[u]? =some x.block:=by
    simp only[Bool.or_eq_false_iff,decide_eq_false_iff_not,bne_eq_false_iff_eq]at h7;have h8:u<M.length:=by omega
    rw[<- h7.2,List.getD_eq_getElem?_getD,List.getElem?_eq_getElem h8];rfl
   rw[if_pos hyes]at hins;rw[hins]at hhs;rw[<- hhs];refine J.q hX λ_=>?_;refine J.nS ((j+1,aj,cj)) (by dsimp only;omega) (by dsimp only;omega) [0,1,2] rfl rfl
 simp only[decide_eq_false_iff_not,Int.ofNat_lt]at h3;obtain rfl:j=i:=by omega
 refine J.q hX λ_=>?_;refine J.ru hX [1,2] ?_;exact⟨aj,cj,by rw[ht],by rw[ht];rfl⟩
end Go.Proofs.YtdocmcapegcoeaaGreat
