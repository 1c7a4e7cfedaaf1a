/- Helpers. No condition. -/
import Derived.Test.YtpakpgkdpofbhaaGreatC00
import Derived.Test.YtpakpgkdpofbhaaGreatC04
import Derived.Test.YtpakpgkdpofbhaaGreatC06
import Derived.Test.YtpakpgkdpofbhaaGreatC07
import Derived.Test.YtpakpgkdpofbhaaGreatC08
set_option maxRecDepth 20000
set_option linter.all false
namespace Go.Proofs.YtpakpgkdpofbhaaGreat
open Go Go.RowKit
theorem a8I:∀m,m<256->∀k,k<8->0<=L.at_ (m:Nat) (k:Nat)->L.count (L.without (m:Nat) (L.at_ (m:Nat) (k:Nat)))=L.count (m:Nat)-1:=by decide+kernel
theorem c2L {m b r s:Int} (h:0<=G.die m b r s):0<=s/\s<G.slots m:=by
 unfold G.die at h;split at h
 ·omega
 ·rename_i hp;have hp0:0<=G.parity m b r:=by omega
  have hs:0<=s/\s<(L.count (L.without m (G.parity m b r)):Int):=by
   by_cases hh:s<0\/(L.count (L.without m (G.parity m b r)):Int)<=s
   ·rw[L.at_ge _ _ hh]at h;omega
   ·omega
  unfold G.parity at hp0 hs;split at hp0
  ·omega
  ·rename_i hc;rw[d7 hc]at hs;have hm:0<=m/\m<256:=by
    by_cases hh:0<=m/\m<256
    ·exact hh
    ·have:=L.count_no m hh;omega
   obtain⟨M,rfl⟩:=g7 hm.1;have hcl:=L.count_le (M:Int);have hq:0<=(b+r) % (L.count (M:Int):Int)/\(b+r) % (L.count (M:Int):Int)<L.count (M:Int):=⟨Y6 _ (by omega),U3 _ (by omega)⟩;obtain⟨q,hq2⟩:=g7 hq.1;rw[hq2]at hs hp0 hq;rw[a8I M (by omega) q (by omega) hp0]at hs;unfold G.slots;rw[d7 (by omega)];omega
theorem a1B {N:Nand} (hN:N.Ok) (b r m:Int):(∀s∈(R.look N b r m).slots,s.data.length=16)/\(R.look N b r m).parity.data.length=16:=by
 refine⟨λs hs=>?_,a9q hN _ _ _⟩;simp only[R.look,R.ones,List.map_map,W3]at hs;obtain⟨k,_,rfl⟩:=hs;exact a9q hN _ _ _
theorem b0l (p:Nat) (N:Nand) (hN:N.Ok) (hR:N.Room) (b r s m:Int) (h0: -1000000<=s) (h1:s<=1000000):FP 98 [pp p, .agg #[iI b,iI r,iI s],iI m] [x6 p N]
  (Ps (.tuple #[enV (R.read N b r s m).1,iI (R.read N b r s m).2]) [x6 p N]):=by
 have hbd:=hN.bd;refine FE [2,0,0] Tryz.func98 λX F hX=>?_;refine J.q λbb=>?_;refine J.join (α:=Unit) (λ_=>[⟨30, .bool (decide (G.die m b r s<0)|| !V9 N.dies N.blocks N.pages 0 b r),0, .tt⟩,⟨0,pp p,2, .tt⟩,si 2 m,⟨4,pp (bb 0),3, .tt⟩,⟨6,pp (bb 1),4, .tt⟩]) (λ_=>[.hp F,x6 p N, .pt (bb 0) 149 [iI b,iI r,iI s], .pt (bb 1) 113 (enL En.zero)]) (λhj=>?_) (λ_=>?_)
 ·refine J.p (.of [0,4,9,12,17,20,25,30,32,36,40,48,53,56,61,64,46,70,72,76]) [] [2] λ_=>?_;refine J.qp (b4u m b r s h0 h1) [] λ_=>?_;refine J.q λ_=>?_;refine J.gcase hX rfl rfl rfl ⟨rfl,trivial⟩ (λhb=>?_) (λhb=>?_)
  ·have hb2:decide (G.die m b r s<0)=false:=by rwa [i7]at hb
   rw[hb2]at hj ⊢;refine J.qp (a0H p N) [1] λ_=>?_;refine J.qp (b2f N.dies N.blocks N.pages 0 b r (by omega) (by omega) (by omega)) [] λ_=>?_;refine J.q λ_=>?_;exact J.goto [0,1,2,3] (hj ()) ⟨rfl,rfl,rfl,rfl,rfl,trivial⟩ rfl rfl
  ·have hb2:decide (G.die m b r s<0)=true:=by rwa [p9]at hb
   rw[hb2]at hj ⊢;refine J.q λ_=>?_;refine J.gcase hX rfl rfl rfl ⟨rfl,trivial⟩ (λhb=>by simp at hb) (λhb=>?_);refine J.q λ_=>?_;refine J.vT (.bool false) rfl rfl (λhg a w he hw=>by simp[G.on]at hg) ?_;refine J.q λ_=>?_;exact J.goto [0,1,2,3] (hj ()) ⟨rfl,rfl,rfl,rfl,rfl,trivial⟩ rfl rfl
 refine J.qd (λ_ h2=>?_) λ_ h2=>?_
 ·refine J.qr [1] λ_=>?_;have:G.die m b r s<0\/V9 N.dies N.blocks N.pages 0 b r=false:=by simpa using h2
  rw[R.read,d8 this];exact⟨rfl,rfl⟩
 have hc:¬(G.die m b r s<0\/V9 N.dies N.blocks N.pages 0 b r=false):=by simpa using h2
 have hd:=c2L (m:=m) (b:=b) (r:=r) (s:=s) (by omega);have hsb:=V6 m;refine J.qp (a4e p N) [1] λ_=>?_;refine J.qd (λ_ h3=>?_) λ_ h3=>?_
 ·refine J.qr [1] λ_=>?_;have:N.off=true:=by simpa using h3
  rw[R.read,d7 hc,d8 this];exact⟨rfl,rfl⟩
 have hoff:¬N.off=true:=by simpa using h3
 obtain⟨k,rfl⟩:=g7 hd.1;have hlen:=X8 N b r m;have hdat:=a1B hN b r m;have hkn:k<(G.slots m).toNat:=by omega
 refine J.qc (b7l p N hN hR b r m) [1] λ_=>?_;rintro v As ⟨a1,c1,a2,c2,rfl,rfl⟩;refine⟨_,rfl,trivial,?_⟩;refine J.know (λh' s=>u7 (c:=(a1,c1)) (by omega) (s.get (i:=4) rfl)) λhg=>?_;obtain⟨g1,rfl⟩:=hg;refine J.know (λh' s=>u7 (c:=(a2,c2)) (by omega) (s.get (i:=5) rfl)) λhg=>?_;obtain⟨g2,rfl⟩:=hg;have hgd:(R.look N b r m).good[k]? =some ((R.look N b r m).good.getD k false):=by rw[d6,d5 (by omega),j5]
 have hsd:(R.look N b r m).slots[k]? =some ((R.look N b r m).slots.getD k Sh.zero):=by rw[d6,d5 (by omega),j5]
 have hr:R.read N b r k m=if(R.look N b r m).good.getD k false then(((R.look N b r m).slots.getD k Sh.zero).en,0)else if R.mendB (R.look N b r m) k then(R.mend (R.look N b r m) k,0)else(En.zero,10):=by
  rw[R.read,d7 hc,d7 hoff,l6]
 refine J.q λ_=>?_;refine J.v (.bool ((R.look N b r m).good.getD k false)) rfl rfl (λhg a w he hw=>?_) ?_
 ·exact z7 tk rfl rfl he rfl rfl rfl (hw.get (i:=5) rfl) (by rw[show 0+(k:Int).toNat*1=k from by omega];exact a0R hgd)
 refine J.qd (λ_ h4=>?_) λ_ h4=>?_
 ·refine J.q λ_=>?_;refine J.v (shV ((R.look N b r m).slots.getD k Sh.zero)) rfl rfl (λhg a w he hw=>?_) ?_
  ·exact E6 tk rfl rfl he rfl rfl rfl (hw.get (i:=4) rfl) (by rw[show 0+(k:Int).toNat*23=k*23 from by omega];exact a1V hsd) rfl
  refine J.qp (b0k ((R.look N b r m).slots.getD k Sh.zero)) [] λ_=>?_;refine J.qr [1] λ_=>?_;rw[hr,d8 h4];exact⟨rfl,rfl⟩
 refine J.qp (b1u (R.look N b r m) (G.slots m).toNat (by omega) hlen.1 hlen.2 hdat.1 hdat.2 (some g1) (some g2) c1 c2 k) [4,5] λ_=>?_;refine J.qd (λ_ h5=>?_) λ_ h5=>?_
 ·refine J.qr [1] λ_=>?_;rw[hr,d7 (by rw[h4];exact s9),d8 h5];exact⟨rfl,rfl⟩
 ·refine J.qr [1] λ_=>?_;rw[hr,d7 (by rw[h4];exact s9),d7 (by rw[h5];exact s9)];exact⟨rfl,rfl⟩
def fnL (x:Fnd):List Value:=[iI x.en.lpn,iI x.en.seq,iI x.en.role,byC x.en.data 0,byC x.en.data 1,byC x.en.data 2,byC x.en.data 3,byC x.en.data 4,byC x.en.data 5,byC x.en.data 6,byC x.en.data 7,byC x.en.data 8,byC x.en.data 9,byC x.en.data 10,byC x.en.data 11,byC x.en.data 12,byC x.en.data 13,byC x.en.data 14,byC x.en.data 15,
 iI x.block,iI x.row,iI x.slot,iI x.mask, .bool x.whole, .bool x.mended]
def y7 (l:List Fnd):List Value:=l.flatMap fnL
theorem b0D (x:Fnd):(fnL x).length=25:=rfl
theorem V2 (l:List Fnd):(y7 l).length=l.length*25:=by
 induction l with
 | nil=>rfl
 | cons x l ih=>simp only[y7,q9,f9,m6]at ih ⊢;rw[ih,b0D];omega
theorem a3W (l:List Fnd) (x:Fnd):y7 (l++[x])=y7 l++fnL x:=by simp[y7]
theorem Q4:∀{l:List Fnd} {k:Nat} {x:Fnd},l[k]? =some x->((y7 l).drop (k*25)).take 25=fnL x
 | [],_,_,h=>by simp at h
 | y::l,0,x,h=>by
  simp at h;subst h;rw[L7,Q0];exact B6 (b0D y)
 | y::l,k+1,x,h=>by
  have:=Q4 (l:=l) (k:=k) (x:=x) (by simpa using h);rw[show(k+1)*25=25+k*25 from by omega,<- A4];simp only[y7,q9];rw[T4 (b0D y)];exact this
theorem b0K (x:Int):∀l:List Int,(J2 x l).length<=l.length
 | []=>j7 _
 | y::l=>by
  unfold J2;split
  ·have h:=b0K y l;exact E7 h (by simp)
  ·have h:=b0K y l;simpa using h
theorem b2n:∀l:List Int,(I3 l).length<=l.length
 | []=>j7 _
 | x::l=>by have h:=b0K x l;simpa[I3]using h
theorem a5Q (N:Nand) (b r:Int):(M.masks N b r).length<=N.dies:=by
 unfold M.masks;refine E7 (b2n _) ?_;rw[a0P];refine E7 (List.length_filterMap_le _ _) ?_;simp[M.rowN]
def a1k (N:Nand) (b r:Int) (i:Nat):List Fnd:=((M.masks N b r).take i).flatMap (R.allM N b r)
def a2A (N:Nand) (b r mk:Int) (i j:Nat):List Fnd:=a1k N b r i++(List.range j).filterMap (R.fnd (R.look N b r mk) b r mk)
theorem b2A (N:Nand) (b r m:Int):(R.allM N b r m).length<=7:=by
 unfold R.allM;refine E7 (List.length_filterMap_le _ _) ?_;rw[D9,(X8 N b r m).1];have:=V6 m;omega
theorem a5e (N:Nand) (b r:Int) (i:Nat) (h:N.dies<=6):(a1k N b r i).length<=42:=by
 have h1:∀l:List Int,(l.flatMap (R.allM N b r)).length<=7*l.length:=by
  intro l
  induction l with
  | nil=>simp
  | cons x l ih=>rw[q9,f9,m6];have:=b2A N b r x;omega
 have h2:=h1 ((M.masks N b r).take i);have h3:=a5Q N b r;have h4:((M.masks N b r).take i).length<=6:=by rw[l9];omega
 unfold a1k;omega
theorem b7F (N:Nand) (b r mk:Int) (i j:Nat) (h:N.dies<=6) (hj:j<=7):(a2A N b r mk i j).length<=49:=by
 have h1:=a5e N b r i h;have h2:=List.length_filterMap_le (R.fnd (R.look N b r mk) b r mk) (List.range j);rw[D9]at h2;unfold a2A;rw[f9];omega
theorem b5n (N:Nand) (b r mk:Int) (i:Nat):a2A N b r mk i 0=a1k N b r i:=by simp[a2A]
theorem b5o (N:Nand) (b r mk:Int) (i j:Nat):a2A N b r mk i (j+1)=a2A N b r mk i j++(R.fnd (R.look N b r mk) b r mk j).toList:=by
 unfold a2A;rw[t6,List.filterMap_append,s8];congr 2
theorem b7G (N:Nand) (b r mk:Int) (i:Nat) (h:(M.masks N b r)[i]? =some mk):a2A N b r mk i (G.slots mk).toNat=a1k N b r (i+1):=by
 unfold a2A a1k;rw[s6,h,y9,C5];congr 1;rw[q9,List.flatMap_nil,n9,R.allM,(X8 N b r mk).1]
theorem c1x (p:Nat) (N:Nand) (hN:N.Ok) (hR:N.Room) (b r:Int):FP 129 [pp p,iI b,iI r] [x6 p N]
  (λv As=>∃a c,v=slv a (R.all N b r).length c/\As=[x6 p N,l5 191 25 a (R.all N b r).length c (y7 (R.all N b r))]):=by
 have hbd:=hN.bd;have hml:=a5Q N b r;refine FE [2,0,0] Tryz.func129 λX F hX=>?_;refine J.qc (b4q p N hN hR b r) [1] λ_=>?_;rintro v As ⟨am,cm,rfl,rfl⟩;refine⟨_,rfl,trivial,?_⟩;refine J.turn1 [] rfl (As:=[l5 191 25 none 0 0 (y7 (a1k N b r 0))]) (λh s=>Sep.one ⟨rfl,rfl,rfl⟩) rfl ?_;refine J.q λ_=>?_;refine J.l (α:=(Nat×Option Nat×Nat)) (λz=>z.1<=(M.masks N b r).length) (λz=>[si 20 z.1,⟨19,iI (M.masks N b r).length,0, .tt⟩,sv 18 (slv am (M.masks N b r).length cm),sv 7 (slv z.2.1 (a1k N b r z.1).length z.2.2),⟨0,pp p,2, .tt⟩,si 1 b,si 2 r]) [3] (λz=>[l5 191 25 z.2.1 (a1k N b r z.1).length z.2.2 (y7 (a1k N b r z.1))]) (λz=>(M.masks N b r).length-z.1) ((0,none,0)) (j4 _) λz hI=>?_;obtain⟨i,ao,co⟩:=z;dsimp only at hI ⊢;refine J.qd (λ_ h1=>?_) λ_ h1=>?_
 ·simp only[c9,g6]at h1;refine J.know (λh' s=>u7 (c:=(am,cm)) (by omega) (s.get (i:=2) rfl)) λhg=>?_;obtain⟨gm,rfl⟩:=hg;obtain⟨mk,hmk⟩:∃mk,(M.masks N b r)[i]? =some mk:=⟨_,d5 h1⟩;refine J.q λ_=>?_;refine J.v (iI mk) rfl rfl (λhg a w he hw=>?_) ?_
  ·exact z7 tk rfl rfl he rfl rfl rfl (hw.get (i:=2) rfl) (by rw[show 0+(i:Int).toNat*1=i from by omega];exact L5 hmk)
  have hsb:=V6 mk;have hlen:=X8 N b r mk;have hdat:=a1B hN b r mk;refine J.q λb7=>?_;refine J.cb (b7l p N hN hR b r mk) [1] ?_;rintro v As ⟨a1,c1,a2,c2,rfl,rfl⟩;refine⟨_,rfl,trivial,?_⟩;have hfnd:∀j,R.fnd (R.look N b r mk) b r mk j=if R.okAt (R.look N b r mk) j&&(R.enAt (R.look N b r mk) j).role !=3 then some ⟨R.enAt (R.look N b r mk) j,b,r,j,mk,(R.look N b r mk).whole,!((R.look N b r mk).good.getD j false)⟩else none:=λj=>rfl
  have hout:=b5o N b r mk i;have hz:=b5n N b r mk i;have hall:=b7G N b r mk i hmk;have hol:∀j,j<=7->(a2A N b r mk i j).length<=49:=λj hj=>b7F N b r mk i j (by omega) hj;have hnb:(G.slots mk).toNat<=7:=by omega
  rw[<- hz];generalize hf:R.look N b r mk=f at hlen hdat hfnd hout;generalize hn:(G.slots mk).toNat=n at hlen hall hnb;refine J.q λbbf=>?_;refine J.l (α:=(Nat×Option Nat×Nat)) (λz=>z.1<=n) (λz=>[si 32 z.1,si 31 n,sv 30 (slv a1 n c1),⟨10,pp (bbf 0),7, .tt⟩,si 9 mk,si 20 i,⟨19,iI (M.masks N b r).length,0, .tt⟩,sv 18 (slv (some gm) (M.masks N b r).length cm),sv 7 (slv z.2.1 (a2A N b r mk i z.1).length z.2.2),⟨0,pp p,2, .tt⟩,si 1 b,si 2 r]) [3] (λz=>[l5 191 25 z.2.1 (a2A N b r mk i z.1).length z.2.2 (y7 (a2A N b r mk i z.1))]) (λz=>n-z.1) ((0,ao,co)) (j4 _) λz hI=>?_;obtain⟨j,ao,co⟩:=z;dsimp only at hI ⊢;refine J.qd (λ_ h2=>?_) λ_ h2=>?_
  ·simp only[c9,g6]at h2;refine J.know (λh' s=>u7 (c:=(a1,c1)) (by omega) (s.get (i:=4) rfl)) λhg=>?_;obtain⟨g1,rfl⟩:=hg;refine J.know (λh' s=>u7 (c:=(a2,c2)) (by omega) (s.get (i:=5) rfl)) λhg=>?_;obtain⟨g2,rfl⟩:=hg;obtain⟨s,hs⟩:∃s,f.slots[j]? =some s:=⟨_,d5 (by omega)⟩;obtain⟨gk,hgd⟩:∃g,f.good[j]? =some g:=⟨_,d5 (by omega)⟩;have hgk:f.good.getD j false=gk:=by rw[d6,hgd,j5]
   have hsk:f.slots.getD j Sh.zero=s:=by rw[d6,hs,j5]
   refine J.q λ_=>?_;refine J.v (shV s) rfl rfl (λhg a w he hw=>?_) ?_
   ·exact E6 tk rfl rfl he rfl rfl rfl (hw.get (i:=4) rfl) (by rw[show 0+(j:Int).toNat*23=j*23 from by omega];exact a1V hs) rfl
   obtain⟨bb,hbb⟩:∃x,bbf 0=x:=⟨_,rfl⟩;rw[hbb];refine J.p (.take false 0 (.take true 2 (.take false 3 (.take true 4 (.take true 5 (.take false 6 (.alt false 1 ((.of [30,34,36])) (.alt false 7 ((.of [6,34,36])) .non)))))))) [9] [5,6,7] λ_=>?_;refine J.join (α:=Nat) (λx=>[sv 14 (.bool gk),⟨13,pp x,8, .tt⟩,si 11 j,si 32 j,si 31 n,sv 30 (slv (some g1) n c1),⟨10,pp bb,7, .tt⟩,si 9 mk,si 20 i,⟨19,iI (M.masks N b r).length,0, .tt⟩,sv 18 (slv (some gm) (M.masks N b r).length cm),sv 7 (slv ao (a2A N b r mk i j).length co),⟨0,pp p,2, .tt⟩,si 1 b,si 2 r]) (λx=>[.hp F,x6 p N,l5 3 1 (some gm) (M.masks N b r).length cm (n7 (M.masks N b r)),l5 191 25 ao (a2A N b r mk i j).length co (y7 (a2A N b r mk i j)),l5 240 23 (some g1) n c1 (E8 f.slots),l5 4 1 (some g2) n c2 (C3 f.good), .pt bb 242 (fdL (some g1) c1 (some g2) c2 n f.parity f.whole), .pt x 113 (enL s.en)]) (λhj=>?_) (λx=>?_)
   ·skip
    refine J.qn 5 λ_=>?_;refine J.vT (.bool gk) rfl rfl (λ_ a w he hC=>z7 tk rfl rfl he rfl rfl rfl (hC rfl _ (r8 (i:=5) rfl)) (by rw[show 0+(j:Int).toNat*1=j from by omega];exact a0R hgd)) ?_;refine J.alts ?_ ?_
    ·skip
     refine J.qp (b0k s) [] λ_=>?_;refine J.qn 1 λb7=>?_;refine J.qn 3 λ_=>?_;exact J.goto [0,1,2,3,4,5,6,8] (hj (b7 0)) ⟨rfl,rfl,rfl,rfl,rfl,rfl,rfl,rfl,rfl,rfl,rfl,rfl,rfl,rfl,rfl,trivial⟩ rfl rfl
    ·skip
     refine J.qn 1 λb7=>?_;refine J.qp (b0k s) [] λ_=>?_;refine J.qn 3 λ_=>?_;exact J.goto [0,1,2,3,4,5,6,8] (hj (b7 0)) ⟨rfl,rfl,rfl,rfl,rfl,rfl,rfl,rfl,rfl,rfl,rfl,rfl,rfl,rfl,rfl,trivial⟩ rfl rfl
   refine J.q λ_=>?_;refine J.join (α:=Unit) (λ_=>[sv 14 (.bool (R.okAt f j)),⟨13,pp x,8, .tt⟩,si 11 j,si 32 j,si 31 n,sv 30 (slv (some g1) n c1),⟨10,pp bb,7, .tt⟩,si 9 mk,si 20 i,⟨19,iI (M.masks N b r).length,0, .tt⟩,sv 18 (slv (some gm) (M.masks N b r).length cm),sv 7 (slv ao (a2A N b r mk i j).length co),⟨0,pp p,2, .tt⟩,si 1 b,si 2 r]) (λ_=>[.hp F,x6 p N,l5 3 1 (some gm) (M.masks N b r).length cm (n7 (M.masks N b r)),l5 191 25 ao (a2A N b r mk i j).length co (y7 (a2A N b r mk i j)),l5 240 23 (some g1) n c1 (E8 f.slots),l5 4 1 (some g2) n c2 (C3 f.good), .pt bb 242 (fdL (some g1) c1 (some g2) c2 n f.parity f.whole), .pt x 113 (enL (R.enAt f j))]) (λhj=>?_) (λ_=>?_)
   ·refine J.qd (λ_ h3=>?_) λ_ h3=>?_
    ·simp only[i7]at h3;subst h3;refine J.qp (b1u f n (by omega) hlen.1 hlen.2 hdat.1 hdat.2 (some g1) (some g2) c1 c2 j) [4,5] λ_=>?_;rw[show R.okAt f j=R.mendB f j from by rw[R.okAt,hgk];rfl,show R.enAt f j=R.mend f j from by rw[R.enAt,hgk];rfl]at hj;refine J.qn 6 λ_=>?_;exact J.goto [0,1,2,3,4,5,6,7] (hj ()) ⟨rfl,rfl,rfl,rfl,rfl,rfl,rfl,rfl,rfl,rfl,rfl,rfl,rfl,rfl,rfl,trivial⟩ rfl rfl
    ·simp only[p9]at h3;subst h3;rw[show R.okAt f j=true from by rw[R.okAt,hgk];rfl,show R.enAt f j=s.en from by rw[R.enAt,hgk,d8 rfl,hsk]]at hj;refine J.qn 1 λ_=>?_;exact J.goto [0,1,2,3,4,5,6,7] (hj ()) ⟨rfl,rfl,rfl,rfl,rfl,rfl,rfl,rfl,rfl,rfl,rfl,rfl,rfl,rfl,rfl,trivial⟩ rfl rfl
   have hf1:=hfnd j;have ho1:=hout j;have hol1:=hol j (by omega);generalize R.okAt f j=ok at hf1;generalize R.enAt f j=e at hf1;refine J.qd (λ_ h4=>?_) λ_ h4=>?_
   ·rw[d8 h4,hgk]at hf1;rw[hf1,y9]at ho1;have hsl:(a2A N b r mk i j).length+1=(a2A N b r mk i (j+1)).length:=by rw[ho1,f9];rfl
    refine J.pn 14 (.of [0,5,8,12,16,20,24,28,33,36,41,44,48,53,56,60,66,70,72]) [18] [5,6,7] λ_ _=>?_;refine J.vT (.bool gk) rfl rfl (λ_ a w he hC=>z7 tk rfl rfl he rfl rfl rfl (hC rfl _ (r8 (i:=5) rfl)) (by rw[show 0+(j:Int).toNat*1=j from by omega];exact a0R hgd)) ?_;refine J.q λ_=>?_;refine J.ap 3 8 0 ((a3W _ _).symm.trans (congrArg y7 ho1.symm)) λa4 c4=>?_;rw[hsl];refine J.q λ_=>?_;rw[<- hbb];refine J.q λ_=>?_;refine J.n ((j+1,a4,c4)) (by dsimp only;omega) (by dsimp only;omega) [0,1,2,3,4,5,6]
   ·rw[d7 (by rw[h4];exact s9)]at hf1;rw[hf1,Option.toList_none,n9]at ho1;rw[<- ho1];refine J.q λ_=>?_;rw[<- hbb];refine J.q λ_=>?_;refine J.n ((j+1,ao,co)) (by dsimp only;omega) (by dsimp only;omega) [0,1,2,3,4,5,6]
  ·simp only[c8,g6]at h2;obtain rfl:j=n:=by omega
   rw[hall];refine J.q λ_=>?_;refine J.n ((i+1,ao,co)) (by dsimp only;omega) (by dsimp only;omega) [0,1,2,3]
 ·simp only[c8,g6]at h1;obtain rfl:i=(M.masks N b r).length:=by omega
  have:a1k N b r (M.masks N b r).length=R.all N b r:=by unfold a1k R.all;rw[D2]
  rw[this];refine J.qr [1,3] λ_=>?_;exact⟨ao,co,rfl,rfl⟩
theorem b8H (b r:Int) {mm:Nat}:∀(q:List (Int×Sh)) (N:Nand) (f:Int) (k:Nat),(∀x∈q,x.2.data.length=16)->N.Gd (q.length+k) mm->(R.go b r q N f).1.Gd k mm
 | [],N,f,k,_,h=>by rw[R.go];exact h.less (by simp) (j7 _)
 | (d,s)::q,N,f,k,hd,h=>by
  have h1:(N.progN d b r (a1v s)).Gd (q.length+k) mm:=Nand.Gd.prog (h.less (by rw[m6];omega) (j7 _)) d b r _ (a3I s (hd (d,s) (by simp)));have hd':∀x∈q,x.2.data.length=16:=λx hx=>hd x (by simp[hx]);rw[R.go];split
  ·exact b8H b r q _ _ k hd' h1
  ·split
   ·exact h1.less (by omega) (j7 _)
   ·exact b8H b r q _ _ k hd' h1
theorem b8n {b r m:Int} {l:List En} (hd:∀s∈l,s.data.length=16):∀x∈R.job b r m l,x.2.data.length=16:=by
 intro x hx;simp only[R.job,K9,W3,M8,U0]at hx;rcases hx with⟨k,hk,rfl⟩ | rfl
 ·refine hd _ ?_;rw[d6,d5 hk];exact I0 _
 ·exact a3R (λt ht=>by obtain⟨e,he,rfl⟩:=List.mem_map.1 ht;exact hd e he) _ rfl
theorem b7w {b r m:Int} {l:List En} (h:W.parB b r m l=true):(l.length:Int)=G.slots m/\1<=l.length/\l.length<=7/\∀e∈l,W.ok b r m e=true:=by
 simp only[W.parB,i9,c9,I1]at h;have:=V6 m;refine⟨h.1.1,?_,by omega,h.2⟩;cases l with
 | nil=>simp at h
 | cons x l=>simp
theorem a3D {N:Nand} {b r m:Int} {l:List En} {k mm:Nat} (hd:∀s∈l,s.data.length=16) (h:N.Gd (8+k) mm):(R.write N b r m l).1.Gd k mm:=by
 unfold R.write;split
 ·rename_i hB;have:=b7w hB;exact b8H b r _ _ _ k (b8n hd) (h.less (by rw[b0y];omega) (j7 _))
 ·exact h.less (by omega) (j7 _)
theorem b0B (b r:Int):∀(q:List (Int×Sh)) (N:Nand) (f:Int),N.Like (R.go b r q N f).1
 | [],N,f=>by rw[R.go];exact Nand.Like.refl N
 | (d,s)::q,N,f=>by
  rw[R.go];split
  ·exact(Nand.like_prog _ _ _ _ _).trans (b0B b r q _ _)
  ·split
   ·exact Nand.like_prog _ _ _ _ _
   ·exact(Nand.like_prog _ _ _ _ _).trans (b0B b r q _ _)
theorem b2E (N:Nand) (b r m:Int) (l:List En):N.Like (R.write N b r m l).1:=by
 unfold R.write;split
 ·exact b0B b r _ _ _
 ·exact Nand.Like.refl N
end Go.Proofs.YtpakpgkdpofbhaaGreat
namespace Go.Proofs.YtpakpgkdpofbhaaGreat
open Go.RowKit
set_option maxRecDepth 100000 in
theorem c3b (w:World):Calls Tryz.prog 366 #[.int .i64 (-1)] w λe w'=>e= .returned (.int .u64 1)/\w=w':=by
 go_enter Tryz.func366,Tryz.ntmps366
 go_wp2
 go_ret
 exact⟨by kernel_rfl,rfl⟩
set_option maxRecDepth 100000 in
theorem c3e (w:World):Calls Tryz.prog 367 #[.int .u64 1] w λe w'=>e= .returned (.int .i64 (-1))/\w=w':=by
 go_enter Tryz.func367,Tryz.ntmps367
 go_wp2
 go_ret
 exact⟨by kernel_rfl,rfl⟩
set_option maxRecDepth 100000 in
theorem b7N (w:World):Calls Tryz.prog 368 #[.int .i64 255, .int .i64 8] w λe w'=>e= .returned (.int .i64 (-1))/\w=w':=by
 go_enter Tryz.func368,Tryz.ntmps368
 go_wp2
 go_ret
 exact⟨by kernel_rfl,rfl⟩
set_option maxRecDepth 100000 in
theorem b7M (w:World):Calls Tryz.prog 368 #[.int .i64 1, .int .i64 0] w λe w'=>e= .returned (.int .i64 0)/\w=w':=by
 go_enter Tryz.func368,Tryz.ntmps368
 go_wp2
 go_ret
 exact⟨by kernel_rfl,rfl⟩
end Go.Proofs.YtpakpgkdpofbhaaGreat
namespace Go.Proofs.YtpakpgkdpofbhaaGreat
open Go Go.RowKit
def nk (k:Nat):Nat:=match k with | 0=>0 | _+1=>1
theorem c2V (g:Nat):FP 251 [pp g, .int .u64 2,iI 1] [a5y g ([]++Bt.bits 5 3)]
  (Ps (.bool false) [a5y g ([]++Bt.bits 5 3)]):=by
 refine FE [2,0,0] Tryz.func251 λX F hX=>?_;refine J.qp (b4E 1) [] λ_=>?_;refine J.o (α:=(Option Nat×Nat)) 1 λx=>?_;refine J.qT λ_=>?_;refine J.cl (b1E g ([]++Bt.bits 5 3)) x [1,2] ?_;exact J.qx [1]
theorem c3v (g:Nat) (l:List Bool):FP 370 [pp g] [a5y g l]
  (Ps (iI l.length) [a5y g l]):=by
 refine FE [2] Tryz.func370 λX F hX=>?_;refine J.qF λ_=>?_;refine J.o (α:=(Option Nat×Nat)) 1 λx=>?_;refine J.q λ_=>?_;refine J.cl (b1E g l) x [1,2] ?_;exact J.qx [1]
theorem c2W (g b:Nat):FP 300 [pp g,iI 9] [.pt g 355 [.slice (some ⟨b,0,none⟩) 1 1,iI 4]]
  (Ps (.tuple #[.int .u64 0, .bool false]) [.pt g 355 [.slice (some ⟨b,0,none⟩) 1 1,iI 4]]):=by
 refine FE [2,0] Tryz.func300 λX F hX=>?_;refine J.qp (b4E 9) [] λ_=>?_;refine J.qp (b3D g (some ⟨b,0,none⟩) 1 1 4 (by decide) (by decide)) [1] λ_=>?_;refine J.qT λ_=>?_;exact J.qx [1]
theorem c2X (g b:Nat):FP 300 [pp g,iI 4] [.pt g 355 [.slice (some ⟨b,0,none⟩) 1 1,iI 0], .pt b 5 [.int .u8 165]]
  (Ps (.tuple #[.int .u64 10, .bool true]) [.pt g 355 [.slice (some ⟨b,0,none⟩) 1 1,iI 4], .pt b 5 [.int .u8 165]]):=by
 have:=b9q g (.pt b 5 [.int .u8 165]) (some ⟨b,0,none⟩) 1 1 [165] (a2g b _ _ 1 1 rfl) rfl (by decide) 0 4 (by decide) (by decide) (by decide);rw[show((Bt.numAt [165] 0 4:Nat):Int)=10 from by decide+kernel]at this;exact this
theorem c3D:FP 254 [.slice none 0 0] [] (Ps (.int .u32 4294967295) []):=by
 refine FE [0] Tryz.func254 λX F hX=>?_;refine J.q λ_=>?_;refine J.l (α:=Nat) (λk=>k<=0) (λk=>[si 8 0,si 7 0,⟨3, .int .u32 4294967295,0, .tt⟩]) [] (λk=>[]) (λk=>0) (0) (j4 _) λk hI=>?_;refine J.qF λ_=>?_;exact J.qx []
theorem c2q:FP 296 [.int .u32 0, .int .u8 128] [] (Ps (.int .u32 (K.step 0 128:Nat)) []):=Fn.of_same (a9w 0 128 (by decide) (by decide))
theorem c3f:FP 366 [iI (-1)] [] (Ps (.int .u64 1) []):=Fn.of_same c3b
theorem c3g:FP 367 [.int .u64 1] [] (Ps (iI (-1)) []):=Fn.of_same c3e
theorem b4L:FP 368 [iI 255,iI 8] [] (Ps (iI (-1)) []):=Fn.of_same b7N
theorem b4K:FP 368 [iI 1,iI 0] [] (Ps (iI 0) []):=Fn.of_same b7M
theorem c1H:FP 369 [.int .u32 1,iI 33] [] (Ps (.int .u32 2) []):=by
 refine FE [0,0] Tryz.func369 λX F hX=>?_;refine J.p (.of [0,4,8,12,16,20,24,28,32]) [7,8] [] λ_=>?_;exact J.qx []
theorem b8k:FP 361 [] [] (Ps (.bool true) []):=by
 refine FE [] Tryz.func361 λX F hX=>?_;refine J.q λb1=>?_;refine J.turn1 [] rfl (As:=[l5 5 1 none 0 0 []]) (λh s=>Sep.one ⟨rfl,rfl,rfl⟩) rfl ?_;refine J.cl (b1E (b1 0) []) (none,0) [1,2] ?_;refine J.qp (b4F (b1 0) 5 3 [] (by decide) (by decide) (by decide) (by decide)) [1] λ_=>?_;refine J.qp (c2V (b1 0)) [1] λ_=>?_;refine J.q λb2=>?_;refine J.cb (b9p (some ⟨b2 0,0,none⟩) 1 1) [] ?_;rintro v As ⟨g,rfl,rfl⟩;refine⟨_,rfl,trivial,?_⟩;refine J.qp (c2X g (b2 0)) [4,3] λ_=>?_;refine J.qp (c2W g (b2 0)) [4] λ_=>?_;refine J.qc (b0R (b1 0) ([]++Bt.bits 5 3) (by decide)) [1] λ_=>?_;rintro v As ⟨a2,c2,rfl,rfl⟩;refine⟨_,rfl,trivial,?_⟩;rw[show((([]:List Bool)++Bt.bits 5 3).length+7)/8=1 from rfl];refine J.know (λh' s=>u7 (c:=(a2,c2)) (by decide) (s.get (i:=5) rfl)) λhg=>?_;obtain⟨g2,rfl⟩:=hg;refine J.qp (c3f) [] λ_=>?_;refine J.qp (c3g) [] λ_=>?_;refine J.qp (b4L) [] λ_=>?_;refine J.qp (b4K) [] λ_=>?_;refine J.qp (c1H) [] λ_=>?_;refine J.qp (c3v (b1 0) ([]++Bt.bits 5 3)) [1] λ_=>?_;refine J.q λ_=>?_;refine J.v (.int .u8 160) rfl rfl (λhg a w he hw=>?_) ?_
 ·exact z7 tk rfl rfl he hg rfl rfl (hw.get (i:=5) rfl) (by kernel_rfl)
 refine J.qp (b3D g (some ⟨b2 0,0,none⟩) 1 1 4 (by decide) (by decide)) [4] λ_=>?_;refine J.qp (c3D) [] λ_=>?_;refine J.qp (c2q) [] λ_=>?_;refine J.qp (b1U 3) [] λ_=>?_;refine J.qp (c2p 6 0 (by decide) (by decide)) [] λ_=>?_;refine J.qp (b8e 6 2) [] λ_=>?_;refine J.qp (a5g 6) [] λ_=>?_;refine J.qr [] λ_=>?_;exact⟨by kernel_rfl,rfl⟩
theorem b8l:FP 349 [] [] (Ps (.bool true) []):=by
 refine FE [] Tryz.func349 λX F hX=>?_;refine J.qp (b8k) [] λ_=>?_;exact J.qx []
theorem a4l (d b p:Nat) (h:D8 d b p=true):FP 82 [.agg #[iI d,iI b,iI p]] [] (Ps (iI ((((b:Int)-5)*p*((d:Int)-2)+1).tdiv 2)) []):=by
 have hbd:(3<=d/\d<=6)/\(8<=b/\b<=16)/\(2<=p/\p<=8):=by simp[D8]at h;omega
 have h1:0<=((b:Int)-5)*p/\((b:Int)-5)*p<=88:=by
  refine⟨R7 (by omega) (by omega),?_⟩;have:((b:Int)-5)*p<=11*8:=Q1 (by omega) (by omega) (by omega) (by omega);omega
 have h2:0<=((b:Int)-5)*p*((d:Int)-2)/\((b:Int)-5)*p*((d:Int)-2)<=352:=by
  refine⟨R7 h1.1 (by omega),?_⟩;have:((b:Int)-5)*p*((d:Int)-2)<=88*4:=Q1 h1.2 (by omega) (by omega) (by omega);omega
 have h3: -1<=(((b:Int)-5)*p*((d:Int)-2)+1).tdiv 2/\(((b:Int)-5)*p*((d:Int)-2)+1).tdiv 2<=1000:=by
  generalize((b:Int)-5)*p*((d:Int)-2)=x at h2;rw[a1j (by omega)];omega
 refine FE [0] Tryz.func82 λX F hX=>?_;refine J.qp (a5o d b p) [] λ_=>?_;rw[h];refine J.qF λ_=>?_;exact J.qx []
theorem b8h:FP 336 [] [] (Ps (.bool true) []):=by
 refine FE [] Tryz.func336 λX F hX=>?_;refine J.qp (b8l) [] λ_=>?_;refine J.qp (a5o 3 8 2) [] λ_=>?_;rw[show D8 3 8 2=true from rfl];refine J.qp (a5o 0 0 0) [] λ_=>?_;rw[show D8 0 0 0=false from rfl];refine J.qp (b2f 3 8 2 2 7 1 (by decide) (by decide) (by decide)) [] λ_=>?_;rw[show V9 3 8 2 2 7 1=true from rfl];refine J.qp (b2f 3 8 2 3 0 0 (by decide) (by decide) (by decide)) [] λ_=>?_;rw[show V9 3 8 2 3 0 0=false from rfl];refine J.qp (a1b 7 1 1) [] λ_=>?_;rw[show G.parity 7 1 1=2 from by kernel_rfl];refine J.qp (a0Y 7) [] λ_=>?_;rw[show G.slots 7=2 from by kernel_rfl];refine J.qp (b4u 7 0 0 0 (by decide) (by decide)) [] λ_=>?_;rw[show G.die 7 0 0 0=1 from by kernel_rfl];refine J.qp (b8K 7 0 0 2) [] λ_=>?_;rw[show G.slot 7 0 0 2=1 from by kernel_rfl];refine J.qp (b8K 7 0 0 0) [] λ_=>?_;rw[show G.slot 7 0 0 0= -1 from by kernel_rfl];refine J.qp (a4l 3 8 2 rfl) [] λ_=>?_;refine J.qr [] λ_=>?_;exact⟨by kernel_rfl,rfl⟩
theorem b1X:FP 320 [] [] (Ps (.bool true) []):=by
 refine FE [] Tryz.func320 λX F hX=>?_;refine J.qp (b8h) [] λ_=>?_;exact J.qx []
def ft (a k d n x:Int):List Value:=[iI a,iI k,iI d,iI 0,iI 0,iI n,iI x]
theorem c1U:FP 173 [.agg #[iI 3,iI 8,iI 2], .agg (ft 3 4 2 0 0).toArray] [] (Ps (.bool true) []):=by
 refine FE [0,0] Tryz.func173 λX F hX=>?_;refine J.qT λ_=>?_;refine J.qp (b2f 3 8 2 2 0 0 (by decide) (by decide) (by decide)) [] λ_=>?_;exact J.qx []
theorem c1T:FP 173 [.agg #[iI 3,iI 8,iI 2], .agg (ft (-1) 0 0 0 0).toArray] [] (Ps (.bool false) []):=by
 refine FE [0,0] Tryz.func173 λX F hX=>?_;refine J.qT λ_=>?_;refine J.q λ_=>?_;refine J.v (.bool false) rfl rfl (λhg a w he hw=>absurd hg (by decide)) ?_;exact J.qx []
theorem c0f (a:Option Addr) (c:Nat) (d:Value):FP 290 [.slice a 1 c,iI 0,iI 1,d] [] (Ps (.tuple #[]) []):=by
 refine FE [0,0,0,0] Tryz.func290 λX F hX=>?_;refine J.q λ_=>?_;refine J.l (α:=Nat) (λk=>True) (λk=>[si 8 1,si 2 1]) [] (λk=>[]) (λk=>0) (0) (trivial) λk hI=>?_;refine J.qF λ_=>?_;refine J.q λ_=>?_;refine J.f [] ?_;exact⟨rfl,rfl⟩
theorem b7m (a:Option Addr) (c:Nat) (d:Value):FP 244 [.slice a 1 c,iI 1,d] [] (Ps (.tuple #[]) []):=by
 refine FE [0,0,0] Tryz.func244 λX F hX=>?_;refine J.q λ_=>?_;refine J.l (α:=Nat) (λk=>True) (λk=>[si 8 20,si 6 20,si 7 0,sv 0 (.slice a 1 c),si 1 1,sv 2 d]) [] (λk=>[]) (λk=>0) (0) (trivial) λk hI=>?_;refine J.qF λ_=>?_;refine J.qp (c0f a c d) [] λ_=>?_;refine J.q λ_=>?_;refine J.l (α:=Nat) (λk=>True) (λk=>[si 6 20,si 1 1]) [] (λk=>[]) (λk=>0) (0) (trivial) λk hI=>?_;refine J.qF λ_=>?_;refine J.q λ_=>?_;refine J.f [] ?_;exact⟨rfl,rfl⟩
theorem b0m (a:Option Addr) (c:Nat) (d:Value):FP 174 [.slice a 1 c,d] [] (Ps (.tuple #[]) []):=by
 refine FE [0,0] Tryz.func174 λX F hX=>?_;refine J.qp (b7m a c d) [] λ_=>?_;refine J.q λ_=>?_;refine J.f [] ?_;exact⟨rfl,rfl⟩
def fk (k:Nat):List Value:=match k with | 0=>[] | _=>ft 3 4 2 0 0
theorem c3q (g:Nat):FP 106 [.agg #[iI 3,iI 8,iI 2], .slice (some ⟨g,0,none⟩) 2 2] [.pt g 57 (ft 3 4 2 0 0++ft (-1) 0 0 0 0)]
  (λv As=>∃p a c,v=pp p/\As=[.pt p 247 [slv a 1 c],l5 57 7 a 1 c (ft 3 4 2 0 0)]):=by
 refine FE [0,2] Tryz.func106 λX F hX=>?_;refine J.q λbb=>?_;refine J.turn1 [] rfl (As:=[l5 57 7 none 0 0 (fk 0)]) (λh s=>Sep.one ⟨rfl,rfl,rfl⟩) rfl ?_;refine J.q λ_=>?_;refine J.l (α:=(Nat×Option Nat×Nat)) (λz=>z.1<=2) (λz=>[si 12 z.1,si 11 2,⟨10, .slice (some ⟨g,0,none⟩) 2 2,2, .tt⟩,⟨2,pp (bb 0),3, .tt⟩,⟨5,pp (bb 1),4, .tt⟩]) [3,4] (λz=>[.pt (bb 1) 247 [slv z.2.1 (nk z.1) z.2.2],l5 57 7 z.2.1 (nk z.1) z.2.2 (fk z.1)]) (λz=>2-z.1) ((0,none,0)) (j4 _) λz hI=>?_;obtain⟨k,a,c⟩:=z;dsimp only at hI ⊢;rcases(by omega:k=0\/k=1\/k=2)with rfl | rfl | rfl
 ·refine J.qT λ_=>?_;refine J.q λ_=>?_;refine J.v (.agg (ft 3 4 2 0 0).toArray) rfl rfl (λhg a w he hw=>C7 tk rfl rfl he rfl rfl rfl (hw.get (i:=1) rfl) rfl rfl) ?_;refine J.qp (c1U) [] λ_=>?_;refine J.qT λ_=>?_;refine J.pq (.of [0,4,8,12,17,21,26,30,32,36,43]) [8,9,10] [3,5] λ_ _=>?_;refine J.append hX tk 4 6 0 rfl rfl rfl rfl rfl rfl rfl rfl rfl rfl rfl rfl rfl rfl rfl rfl (by decide) (by decide) (λ_=>rfl) λa2 c2=>⟨_,rfl,⟨rfl,rfl,trivial⟩,?_⟩;refine J.q λ_=>?_;refine J.n ((1,a2,c2)) (by dsimp only;omega) (by dsimp only;omega) [0,1,2,3,4]
 ·refine J.qT λ_=>?_;refine J.q λ_=>?_;refine J.v (.agg (ft (-1) 0 0 0 0).toArray) rfl rfl (λhg a w he hw=>C7 tk rfl rfl he rfl rfl rfl (hw.get (i:=1) rfl) rfl rfl) ?_;refine J.qp (c1T) [] λ_=>?_;refine J.qF λ_=>?_;refine J.q λ_=>?_;refine J.n ((2,a,c)) (by dsimp only;omega) (by dsimp only;omega) [0,1,2,3,4]
 ·refine J.qF λ_=>?_;refine J.qp (b0m (oad a) c (.func (.func 175) #[] #[])) [] λ_=>?_;refine J.qr [3,4] λ_=>?_;exact⟨bb 1,a,c,rfl,rfl⟩
theorem c1V (p:Nat) (a:Option Addr) (n c:Nat):FP 321 [pp p] [.pt p 247 [.slice a n c]] (Ps (iI n) [.pt p 247 [.slice a n c]]):=by
 refine FE [2] Tryz.func321 λX F hX=>?_;refine J.qF λ_=>?_;exact J.qx [1]
theorem c1W (g:Nat):FP 322 [.slice (some ⟨g,0,none⟩) 1 1] [.pt g 57 (ft 0 0 2 0 0)] (Ps (iI 4) []):=by
 refine FE [2] Tryz.func322 λX F hX=>?_;refine J.q λ_=>?_;refine J.l (α:=Nat) (λk=>k<=1) (λk=>[si 8 k,si 7 1,⟨6, .slice (some ⟨g,0,none⟩) 1 1,2, .tt⟩,si 3 (4*k)]) [] (λk=>[]) (λk=>1-k) (0) (j4 _) λk hI=>?_;rcases(by omega:k=0\/k=1)with rfl | rfl
 ·refine J.qT λ_=>?_;refine J.q λ_=>?_;refine J.v (.agg (ft 0 0 2 0 0).toArray) rfl rfl (λhg a w he hw=>C7 tk rfl rfl he rfl rfl rfl (hw.get (i:=1) rfl) rfl rfl) ?_;refine J.qp (b0x 0 2) [] λ_=>?_;refine J.q λ_=>?_;refine J.n (1) (by omega) (by omega) [0,1]
 ·refine J.qF λ_=>?_;exact J.qx []
theorem a8r:∀(l:List En) (r:List Value) (k:Nat) (x:En),k<l.length->(p5 l++r).take (k*19)++enL x++(p5 l++r).drop (k*19+19)=p5 (l.set k x)++r
 | [],_,_,_,h=>by simp at h
 | y::l,r,0,x,h=>by simp[p5,enL]
 | y::l,r,k+1,x,h=>by
  have:=a8r l r k x (by simpa using h);have hy:(enL y).length=19:=rfl;have e1:p5 (y::l)++r=enL y++(p5 l++r):=by simp[p5]
  have e2:p5 ((y::l).set (k+1) x)++r=enL y++(p5 (l.set k x)++r):=by simp[p5]
  rw[e1,e2,<- this,show(k+1)*19=(enL y).length+k*19 from by omega,R2,show(enL y).length+k*19+19=(enL y).length+(k*19+19)from by omega,<- A4,T4 rfl];simp only[s8]
theorem Y5:∀l:List En,(p5 l).length=l.length*19
 | []=>rfl
 | x::l=>by
  have:=Y5 l;have e1:p5 (x::l)=enL x++p5 l:=by simp[p5]
  have hy:(enL x).length=19:=rfl;rw[e1,f9,this,hy,m6];omega
def a8Q (p:En->Bool) (l:List En):Int:=match l.findIdx? p with
 | some k=>k
 | none=> -1
theorem a9z {p:En->Bool} {l:List En} {k:Nat} {x:En} (h:l[k]? =some x) (h0:∀i<k,p (l.getD i En.zero)=false) (hp:p x=true):l.findIdx? p=some k:=by
 rw[s5];obtain⟨h1,h2⟩:=List.getElem?_eq_some_iff.1 h;refine⟨h1,by rw[h2];exact hp,λj hj=>?_⟩;have:=h0 j hj;rw[d6,d5 (by omega),j5]at this;simp[this]
theorem a9A {p:En->Bool} {l:List En} (h0:∀i<l.length,p (l.getD i En.zero)=false):l.findIdx? p=none:=by
 rw[B8];intro x hx;obtain⟨i,hi,rfl⟩:=List.mem_iff_getElem.1 hx;have:=h0 i hi
 rwa [d6,d5 hi,j5]at this
theorem b8z (p:En->Bool) (l:List En):decide (a8Q p l>=0)=l.any p:=by
 unfold a8Q;cases h:l.findIdx? p with
 | none=>
  rw[B8]at h;have:l.any p=false:=by rw[a2T];exactλx hx=>by simp[h x hx]
  rw[this];rfl
 | some k=>
  rw[s5]at h;obtain⟨h1,h2,_⟩:=h;have:l.any p=true:=List.any_eq_true.2 ⟨l[k],I0 _,h2⟩;rw[this];simp
theorem b0X (c:Nat) (cs:List Value) (p:En->Bool) (A:Atom) (hcal:I6 Tryz.prog c=true) (l:List En) (hf:∀x∈l,Fn Tryz.prog c (enV x::cs) [A] (λv As=>v= .bool (p x)/\As=[A]))
  (a:Option Nat) (n cap:Nat) (hl:l.length=n) (hn:n<=4611686018427387904):FP 163 [slv a n cap,fnC c cs] [l5 113 19 a n cap (p5 l),A]
  (λv As=>v=iI (a8Q p l)/\As=[l5 113 19 a n cap (p5 l),A]):=by
 refine FE [0,0] Tryz.func163 λX F hX=>?_;refine J.q λ_=>?_;refine J.l (α:=Nat) (λk=>k<=n/\∀i<k,p (l.getD i En.zero)=false) (λk=>[si 8 k,si 7 n,sv 0 (slv a n cap),⟨1,fnC c cs,0, .tt⟩]) [] (λk=>[]) (λk=>n-k) (0) (⟨by omega,by omega⟩) λk hI=>?_;refine J.qd (λ_ h1=>?_) λ_ h1=>?_
 ·simp only[c9,g6]at h1;cases a with
  | none=>
   refine J.know (λh' s=>(s.get (i:=1) rfl).2.1) λhn0=>?_;omega
  | some g=>
   have hk:l[k]? =some (l.getD k En.zero):=by rw[d6,d5 (by omega),j5]
   refine J.q λ_=>?_;refine J.v (enV (l.getD k En.zero)) rfl rfl (λhg a w he hs=>?_) ?_
   ·exact E6 tk rfl rfl he rfl rfl rfl (hs.get (i:=1) rfl) (by rw[show 0+(k:Int).toNat*19=k*19 from by omega];have:=W7 l [] k _ hk;rwa [n9]at this) rfl
   refine J.q λ_=>?_;refine J.call hX hcal (hf (l.getD k En.zero) (l7 hk)) [2] 0 rfl rfl rfl rfl (by(repeat' (first | exact Conj.nil | refine Conj.cons ?_ ?_ | omega | exact hq0 | (simpa using hq0) | (exactλh=>h) | exact rfl | (intro hq;have hq0:=hq;try simp only[i9,j8,c9,i7,c8]at hq) | (simp;done) | (simp;omega) | decide))) rfl rfl (λ_=>rfl) ?_;refine cpq ⟨_,rfl,trivial,?_⟩;refine J.qd (λ_ h2=>?_) λ_ h2=>?_
   ·refine J.qr [1,2] λ_=>?_;exact⟨by rw[a8Q,a9z hk hI.2 h2],rfl⟩
   ·refine J.q λ_=>?_;refine J.nx (k+1) (⟨by omega,λi hi=>by
     rcases Nat.lt_succ_iff_lt_or_eq.1 hi with h3 | h3
     ·exact hI.2 i h3
     ·rw[h3];exact h2⟩) (by omega) (λ_ s=>s)
 ·simp only[c8,g6]at h1;refine J.qr [1,2] λ_=>?_;exact⟨by rw[a8Q,a9A (λi hi=>hI.2 i (by omega))],rfl⟩
theorem a4P (l:List En):∀u∈p5 l,u.oneCell'=true:=by
 intro u hu;simp only[p5,H0]at hu;obtain⟨s,_,hu⟩:=hu;simp only[enL,D6,T9,a5z]at hu;rcases hu with rfl | rfl | rfl | rfl | rfl | rfl | rfl | rfl | rfl | rfl | rfl | rfl | rfl | rfl | rfl | rfl | rfl | rfl | rfl<;>rfl
def DelE (p:En->Bool) (l m:List En) (i j:Nat):Prop:=m.length=l.length/\i<j/\j<=l.length/\m.drop j=l.drop j/\m.take i++(l.drop j).filter (λx=>!p x)=l.filter (λx=>!p x)
theorem DelE.start {p:En->Bool} {l:List En} {k:Nat} (h:l.findIdx? p=some k):DelE p l l k (k+1):=by
 rw[s5]at h;obtain⟨h1,h2,h3⟩:=h;refine⟨rfl,by omega,by omega,rfl,?_⟩;have e:l=l.take k++l[k]::l.drop (k+1):=by rw[<- v8 h1,C1]
 have e2:(l.take k).filter (λx=>!p x)=l.take k:=by
  rw[a0b];intro x hx;obtain⟨i,hi,rfl⟩:=List.mem_iff_getElem.1 hx;rw[List.getElem_take];have:=h3 i (by simp at hi;omega);simpa using this
 conv=>rhs;rw[e]
 rw[H2,e2,J7 (by simp[h2])]
theorem DelE.skip {p:En->Bool} {l m:List En} {i j:Nat} (h:DelE p l m i j) (hj:j<l.length) (hp:p (m.getD j En.zero)=true):DelE p l m i (j+1):=by
 obtain⟨h1,h2,h3,h4,h5⟩:=h;have e1:m[j]? =l[j]?:=by have:=congrArg (λz=>z[0]?) h4;simpa using this
 have hx:l[j]=m.getD j En.zero:=by rw[d6,e1,d5 hj,j5]
 refine⟨h1,by omega,by omega,?_,?_⟩
 ·have:=congrArg (List.drop 1) h4;simpa[A4]using this
 ·rw[<- h5,v8 hj,J7 (by rw[hx,hp];simp)]
theorem DelE.keep {p:En->Bool} {l m:List En} {i j:Nat} (h:DelE p l m i j) (hj:j<l.length) (hp:p (m.getD j En.zero)=false):DelE p l (m.set i (m.getD j En.zero)) (i+1) (j+1):=by
 obtain⟨h1,h2,h3,h4,h5⟩:=h;have e1:m[j]? =l[j]?:=by have:=congrArg (λz=>z[0]?) h4;simpa using this
 have hx:l[j]=m.getD j En.zero:=by rw[d6,e1,d5 hj,j5]
 refine⟨by simp[h1],by omega,by omega,?_,?_⟩
 ·rw[List.drop_set_of_lt (by omega)];have:=congrArg (List.drop 1) h4;simpa[A4]using this
 ·rw[<- h5,v8 hj,M2 (by rw[hx,hp];simp),hx,List.take_set,s6,d5 (by omega)];rw[P8 _ _ (by simp;omega)];simp[l9,J5 (show i<=m.length by omega)]
theorem a8W (c:Nat) (cs:List Value) (p:En->Bool) (A:Atom) (hcal:I6 Tryz.prog c=true) (hf:∀x,Fn Tryz.prog c (enV x::cs) [A] (λv As=>v= .bool (p x)/\As=[A]))
  (a:Option Nat) (n cap:Nat) (l:List En) (hl:l.length=n) (hn:n<=4611686018427387904):FP 184 [slv a n cap,fnC c cs] [l5 113 19 a n cap (p5 l),A]
  (λv As=>∃l',l'=l.filter (λx=>!p x)/\v=slv a l'.length cap/\As=[l5 113 19 a l'.length cap (p5 l'),A]):=by
 refine FE [0,0] Tryz.func184 λX F hX=>?_;refine J.qp (b0X c cs p A hcal l (λx _=>hf x) a n cap hl hn) [1,2] λ_=>?_;rw[a8Q];cases hx:l.findIdx? p with
 | none=>
  dsimp only;refine J.qT λ_=>?_;refine J.qr [1,2] λ_=>?_;have:l.filter (λx=>!p x)=l:=by
   rw[a0b];intro x hm;rw[B8]at hx;simp[hx x hm]
  exact⟨l,this.symm,by rw[hl],by rw[hl];rfl⟩
 | some k=>
  dsimp only;refine J.qd (λ_ h0=>?_) λ_ h0=>?_
  ·simp only[m5]at h0;omega
  have hk:k<n:=by rw[s5]at hx;obtain⟨h1,_⟩:=hx;omega
  cases a with
  | none=>
   refine J.know (λh' s=>(s.get (i:=1) rfl).2.1) λhn0=>?_;omega
  | some g=>
   refine J.openOwn 1 rfl rfl (λ_=>rfl) λr q1 q2 q3 q4=>?_;refine J.q λ_=>?_;rw[show(k:Int)+1=((k+1:Nat):Int)from by omega];refine J.q λ_=>?_;refine J.l (α:=(Nat×Nat×List En)) (λx=>DelE p l x.2.2 x.1 x.2.1) (λx=>[si 6 x.2.1,si 5 x.1,sv 0 (slv (some g) n cap),⟨1,fnC c cs,0, .tt⟩]) [1] (λx=>[.pt g 113 (p5 x.2.2++r)]) (λx=>n-x.2.1) ((k,k+1,l)) (DelE.start hx) λx hI=>?_;obtain⟨i,j,m⟩:=x;dsimp only at hI ⊢;have hml:m.length=n:=hI.1.trans hl;have hij:i<j:=hI.2.1;have hjn:j<=n:=by have:=hI.2.2.1;omega
   refine J.qd (λ_ h1=>?_) λ_ h1=>?_
   ·simp only[c9,g6]at h1;have hget:m[j]? =some (m.getD j En.zero):=by rw[d6,d5 (by omega),j5]
    refine J.q λ_=>?_;refine J.v (enV (m.getD j En.zero)) rfl rfl (λhg a w he hs=>?_) ?_
    ·exact C7 tk rfl rfl he rfl rfl rfl (hs.get (i:=1) rfl) (by rw[show 0+(j:Int).toNat*19=j*19 from by omega];exact W7 m r _ _ hget) rfl
    refine J.q λ_=>?_;refine J.call hX hcal (hf (m.getD j En.zero)) [2] 0 rfl rfl rfl rfl (by(repeat' (first | exact Conj.nil | refine Conj.cons ?_ ?_ | omega | exact hq0 | (simpa using hq0) | (exactλh=>h) | exact rfl | (intro hq;have hq0:=hq;try simp only[i9,j8,c9,i7,c8]at hq) | (simp;done) | (simp;omega) | decide))) rfl rfl (λ_=>rfl) ?_;refine cpq ⟨_,rfl,trivial,?_⟩;refine J.qd (λ_ h2=>?_) λ_ h2=>?_
    ·simp only[i7]at h2;refine J.q λ_=>?_;refine J.storeN hX tk 1 rfl rfl rfl rfl rfl rfl rfl rfl rfl rfl rfl rfl rfl ?_ (p5 (m.set i (m.getD j En.zero))++r) ?_ rfl (λ_=>rfl) ⟨trivial,?_⟩
     ·rw[f9,Y5];show 0+(i:Int).toNat*19+19<=_;omega
     ·rw[show 0+(i:Int).toNat*19=i*19 from by omega];exact a8r m r i _ (by omega)
     refine J.q λ_=>?_;refine J.n ((i+1,j+1,m.set i (m.getD j En.zero))) (hI.keep (by omega) h2) (by dsimp only;omega) [0,1,2]
    ·simp only[p9]at h2;refine J.q λ_=>?_;refine J.n ((i,j+1,m)) (hI.skip (by omega) h2) (by dsimp only;omega) [0,1,2]
   ·simp only[c8,g6]at h1;obtain rfl:j=n:=by omega
    have hfil:m.take i=l.filter (λx=>!p x):=by
     have h5:=hI.2.2.2.2;rw[D5 (by omega)]at h5;simpa using h5
    refine J.q λ_=>?_;refine J.clear hX tk 1 rfl rfl rfl rfl rfl rfl rfl rfl rfl rfl rfl ?_ (λ_=>rfl) (λ_=>rfl) λcs' z1 z2=>⟨trivial,?_⟩
    ·rw[f9,Y5];rw[Y5]at q4;show 0+(i:Int).toNat*19+(j-(i:Int).toNat)*19<=_;have:(i:Int).toNat=i:=by omega
     rw[this];omega
    have hilen:(l.filter (λx=>!p x)).length=i:=by rw[<- hfil,l9];omega
    refine J.closeOwn (e:=113) (size:=19) (n:=i) (cap:=cap) (xs:=p5 (l.filter (λx=>!p x))) 1 rfl rfl (by rw[Y5,hilen]) (by omega) q3 (by rw[z1,f9,Y5,hml];rw[Y5,hl]at q4;exact q4) ?_ rfl ?_
    ·have z3:(0+(i:Int).toNat*19)=i*19:=by omega
     rw[z3]at z2;rw[z2,<- hfil];have e:p5 m=p5 (m.take i)++p5 (m.drop i):=by
      conv=>lhs;rw[<- C1 i m]
      simp only[p5,C5]
     rw[e,s8,B6 (by rw[Y5,l9,J5 (by omega)])]
    refine J.qr [1,2] λ_=>?_;exact⟨_,rfl,by rw[hilen];rfl,by rw[hilen];rfl⟩
theorem b9i {E:Env} {n:Nat} {ac:Act} {w:World} {o:Oper} {x y:Operand} {k1 k2 t1 t2:Nat} {g1 g2:G} {a:Option Addr} {m c h:Nat} {kk:IntKind} {hI:Int} (hop:o.op= .slice 103 x none (some y) none) (hx:ev E x=some ⟨k1, .slice a m c,t1,g1⟩) (hy:ev E y=some ⟨k2, .int kk hI,t2,g2⟩) (he:EnvOK n E ac) (v1:g1.on=true) (v2:g2.on=true) (hh:hI=(h:Int)) (hc:h<=c):
  (execOp ac.eval o).run Tryz.prog w= .ok (.value (.slice a h c)) w:=by
 subst hh;have e1:=A6 he hx;have e2:=A6 he hy;simp only[Slot.val,v1,v2]at e1 e2;obtain⟨d,f,zv,ok⟩:=y8 (tk.get (t:=103) rfl);obtain⟨fe,rfl,g1,g2⟩:=ok.slice rfl;have h0:∀ad:Addr,ad.add 0=ad:=λad=>by unfold Addr.add;rw[d8 rfl]
 cases a with
 | none=>
  simp only[execOp,hop,B5,I7,e1,e2,Instr.sliceAt,Instr.slice,Instr.sliceBounds,Instr.sliceBound,asIntOf,Sem.run_bind,Sem.run_pure,Result.andThen_ok,s4 ok.hd,E9 g1,g2];simp[hc,h0]
 | some ad=>
  simp only[execOp,hop,B5,I7,e1,e2,Instr.sliceAt,Instr.slice,Instr.sliceBounds,Instr.sliceBound,asIntOf,Sem.run_bind,Sem.run_pure,Result.andThen_ok,s4 ok.hd,E9 g1,g2];simp[hc,h0]
theorem a0w {e size:Nat} {a:Option Nat} {n cap:Nat} {xs:List Value} {h:Hl} (s:a0E e size a n cap xs h):n<=cap:=by
 obtain⟨_,s⟩:=s;cases a with
 | none=>obtain⟨rfl,rfl⟩:=s;exact j7 _
 | some g=>obtain⟨_,_,h,_⟩:=s;exact h
theorem a3i (l:List En):∀k,(p5 l).take (k*19)=p5 (l.take k):=by
 induction l with
 | nil=>intro k;simp[p5]
 | cons x l ih=>
  intro k;cases k with
  | zero=>simp[p5]
  | succ k=>
   have e1:p5 (x::l)=enL x++p5 l:=by simp[p5]
   have e2:p5 (x::l.take k)=enL x++p5 (l.take k):=by simp[p5]
   rw[e1,S8,e2,<- ih k,show(k+1)*19=(enL x).length+k*19 from by show _=19+k*19;omega,R2]
theorem W1 (l:List En) (e:En):p5 l++enL e=p5 (l++[e]):=by simp[p5]
theorem b6y (a:Option Nat) (N cap cap2 k:Nat) (l:List En) (hl:l.length=N) (hk:k<=N) (hn:N<=1000000):FP 186 [slv a k cap2] [l5 113 19 a N cap (p5 l)]
  (λv As=>∃a' c',v=slv a' k c'/\As=[l5 113 19 a N cap (p5 l),l5 113 19 a' k c' (p5 (l.take k))]):=by
 refine FE [0] Tryz.func186 λX F hX=>?_;cases a with
 | none=>
  refine J.know (λh' s=>(s.get (i:=1) rfl).2) λhn0=>?_;obtain⟨rfl,rfl⟩:=hn0;obtain rfl:k=0:=by omega
  have:l=[]:=s7 hl;subst this;refine J.qT λ_=>?_;refine J.turn1 [] rfl (As:=[l5 113 19 none 0 0 (p5 [])]) (λh s=>Sep.one ⟨rfl,rfl,rfl⟩) rfl ?_;refine J.qr [1,2] λ_=>?_;exact⟨none,0,rfl,rfl⟩
 | some g=>
  refine J.qF λ_=>?_;refine J.qn 5 λbb=>?_;refine J.closeOwn (e:=113) (size:=19) (n:=0) (cap:=0) (xs:=[]) 2 rfl rfl rfl (j7 _) (j4 _) rfl rfl rfl ?_;refine J.q λ_=>?_;have hRd:Rd (l5 113 19 (some g) N cap (p5 l)) (some ⟨g,0,none⟩) 19 k (p5 (l.take k)):=by
   have:=(R8 113 19 (some g) N cap (p5 l)).take k hk
   rwa [a3i]at this
  refine J.appendR hX tk (a:=some (bb 0)) (n:=0) (cap:=0) (xs:=[]) (oo:=0) (Ay:=l5 113 19 (some g) N cap (p5 l)) 2 1 0 rfl rfl rfl rfl rfl rfl rfl rfl rfl rfl hRd rfl rfl rfl rfl (a4P _) ?_ ?_ (λ_=>rfl) λa' c'=>⟨_,rfl,trivial,?_⟩
  ·simp only[maxLen];omega
  ·omega
  rw[I8 k,J6];refine J.qr [1,2] λ_=>?_;exact⟨a',c',rfl,rfl⟩
theorem b6u (c:Nat) (cs:List Value) (p:En->Bool) (A B:Atom) (hcal:I6 Tryz.prog c=true) (l:List En) (hf:∀x∈l,Fn Tryz.prog c (enV x::cs) [A] (Ps (.bool (p x)) [A]))
  (a:Option Addr) (n cap:Nat) (hB:Rd B a 19 n (p5 l)) (hl:l.length=n) (hn:n<=4611686018427387904):FP 163 [.slice a n cap,fnC c cs] [B,A]
  (Ps (iI (a8Q p l)) [B,A]):=by
 refine FE [0,0] Tryz.func163 λX F hX=>?_;refine J.q λ_=>?_;refine J.l (α:=Nat) (λk=>k<=n/\∀i<k,p (l.getD i En.zero)=false) (λk=>[si 8 k,si 7 n,sv 0 (.slice a n cap),⟨1,fnC c cs,0, .tt⟩]) [] (λk=>[]) (λk=>n-k) (0) (⟨by omega,by omega⟩) λk hI=>?_;refine J.qd (λ_ h1=>?_) λ_ h1=>?_
 ·simp only[c9,g6]at h1;refine J.know (p:=∃g o,a=some ⟨g,o,none⟩) (λh' s=>Rd.addr (hB _ (s.get (i:=1) rfl)) (by omega)) λhk=>?_;obtain⟨g,o,rfl⟩:=hk;have hk:l[k]? =some (l.getD k En.zero):=by rw[d6,d5 (by omega),j5]
  refine J.q λ_=>?_;refine J.v (enV (l.getD k En.zero)) rfl rfl (λhg a w he hs=>?_) ?_
  ·exact V4 tk rfl rfl he rfl rfl rfl (hB _ (hs.get (i:=1) rfl)) (by omega) (j:=k*19) (by omega) (by have:=W7 l [] k _ hk;rwa [n9]at this) rfl
  refine J.q λ_=>?_;refine J.call hX hcal (hf (l.getD k En.zero) (l7 hk)) [2] 0 rfl rfl rfl rfl (by(repeat' (first | exact Conj.nil | refine Conj.cons ?_ ?_ | omega | exact hq0 | (simpa using hq0) | (exactλh=>h) | exact rfl | (intro hq;have hq0:=hq;try simp only[i9,j8,c9,i7,c8]at hq) | (simp;done) | (simp;omega) | decide))) rfl rfl (λ_=>rfl) ?_;refine cpq ⟨_,rfl,trivial,?_⟩;refine J.qd (λ_ h2=>?_) λ_ h2=>?_
  ·refine J.qr [1,2] λ_=>?_;exact⟨by rw[a8Q,a9z hk hI.2 h2],rfl⟩
  ·refine J.q λ_=>?_;refine J.nx (k+1) (⟨by omega,λi hi=>by
    rcases Nat.lt_succ_iff_lt_or_eq.1 hi with h3 | h3
    ·exact hI.2 i h3
    ·rw[h3];exact h2⟩) (by omega) (λ_ s=>s)
 ·simp only[c8,g6]at h1;refine J.qr [1,2] λ_=>?_;exact⟨by rw[a8Q,a9A (λi hi=>hI.2 i (by omega))],rfl⟩
theorem b1a (c:Nat) (cs:List Value) (p:En->Bool) (A B:Atom) (hcal:I6 Tryz.prog c=true) (l:List En) (hf:∀x∈l,Fn Tryz.prog c (enV x::cs) [A] (Ps (.bool (p x)) [A]))
  (a:Option Addr) (n cap:Nat) (hB:Rd B a 19 n (p5 l)) (hl:l.length=n) (hn:n<=4611686018427387904):FP 190 [.slice a n cap,fnC c cs] [B,A]
  (Ps (.bool (l.any p)) [B,A]):=by
 refine FE [0,0] Tryz.func190 λX F hX=>?_;refine J.qp (b6u c cs p A B hcal l hf a n cap hB hl hn) [1,2] λ_=>?_;refine J.qr [1,2] λ_=>?_;exact⟨by rw[<- b8z],rfl⟩
def a2x (d:Nat) (L:List En):Atom:=exA λx:Option Nat×Nat=>[.pt d 219 [slv x.1 L.length x.2],l5 113 19 x.1 L.length x.2 (p5 L)]
theorem c1C:FP 88 [] [] (λv As=>∃d,v=pp d/\As=[a2x d []]):=by
 refine FE [] Tryz.func88 λX F hX=>?_;refine J.q λbs=>?_;refine J.turn1 [] rfl (As:=[l5 113 19 none 0 0 (p5 [])]) (λh s=>Sep.one ⟨rfl,rfl,rfl⟩) rfl ?_;refine J.cl (λx:Option Nat×Nat=>[.pt (bs 0) 219 [slv x.1 ([]:List En).length x.2],l5 113 19 x.1 ([]:List En).length x.2 (p5 [])]) (none,0) [1,2] ?_;refine J.qr [1] λ_=>?_;exact⟨bs 0,rfl,rfl⟩
theorem b4B (d:Nat) (L:List En):FP 100 [pp d] [a2x d L] (Ps (iI L.length) [a2x d L]):=by
 refine FE [2] Tryz.func100 λX F hX=>?_;refine J.o (α:=(Option Nat×Nat)) 1 λx=>?_;refine J.qF λ_=>?_;refine J.q λ_=>?_;refine J.cl (λx:Option Nat×Nat=>[.pt d 219 [slv x.1 L.length x.2],l5 113 19 x.1 L.length x.2 (p5 L)]) x [1,2] ?_;exact J.qx [1]
theorem c2N (b:Nat) (e x:En):FP 185 [enV x,pp b] [.pt b 113 (enL e)] (Ps (.bool (x.lpn==e.lpn)) [.pt b 113 (enL e)]):=by
 refine FE [0,2] Tryz.func185 λX F hX=>?_;exact J.qx [1]
def a3U (L:List En) (e:En):List En:=(L.filter λx=>!(x.lpn==e.lpn))++[e]
theorem b4A (d:Nat) (L:List En) (hL:L.length<=100000) (e:En):FP 120 [pp d,enV e] [a2x d L] (Ps (.tuple #[]) [a2x d (a3U L e)]):=by
 refine FE [2,0] Tryz.func120 λX F hX=>?_;refine J.o (α:=(Option Nat×Nat)) 1 λx=>?_;obtain⟨a,c⟩:=x;refine J.q λbb=>?_;refine J.cF ?_;refine J.qc (a8W 185 [pp (bb 0)] (λx=>x.lpn==e.lpn) (.pt (bb 0) 113 (enL e)) (by kernel_rfl) (λx=>c2N (bb 0) e x) a L.length c L rfl (by omega)) [2,3] λ_=>?_;rintro v As ⟨l',hl',rfl,rfl⟩;refine⟨_,rfl,trivial,?_⟩;have hll:l'.length<=L.length:=by rw[hl'];exact B4 _ _
 have hput:a3U L e=l'++[e]:=by unfold a3U;rw[hl']
 refine J.pq (.of [0,4,8,12,17,21,26,30,32,36,43]) [8,9,10] [1,3] λ_ _=>?_;refine J.ap 2 4 0 (W1 l' e) λa2 c2=>?_;refine J.q λ_=>?_;rw[show l'.length+1=(a3U L e).length from by rw[hput];simp,<- hput];refine J.cl (λx:Option Nat×Nat=>[.pt d 219 [slv x.1 (a3U L e).length x.2],l5 113 19 x.1 (a3U L e).length x.2 (p5 (a3U L e))]) (a2,c2) [1,2] ?_;refine J.q λ_=>?_;refine J.f [1] ?_;exact⟨rfl,rfl⟩
theorem c2O (b:Nat) (k:Int) (x:En):FP 164 [enV x,pp b] [.pt b 3 [iI k]] (Ps (.bool (x.lpn==k)) [.pt b 3 [iI k]]):=by
 refine FE [0,2] Tryz.func164 λX F hX=>?_;exact J.qx [1]
def a3u (L:List En) (k:Int):En×Bool:=match L.find? (λx=>x.lpn==k)with
 | some e=>(e,true)
 | none=>(En.zero,false)
theorem b8S {p:En->Bool} {l:List En} {k:Nat} (h:l.findIdx? p=some k):l.find? p=some (l.getD k En.zero)/\l[k]? =some (l.getD k En.zero):=by
 rw[s5]at h;obtain⟨h1,h2,h3⟩:=h;have e:l[k]? =some (l.getD k En.zero):=by rw[d6,d5 h1,j5]
 refine⟨?_,e⟩;have e2:l.getD k En.zero=l[k]:=by rw[d5 h1]at e;injection e with e;exact e.symm
 rw[List.find?_eq_some_iff_getElem,e2];exact⟨h2,k,h1,rfl,λj hj=>by simpa using h3 j hj⟩
theorem c1D (d:Nat) (L:List En) (hL:L.length<=100000) (k:Int):FP 96 [pp d,iI k] [a2x d L] (Ps (.tuple #[enV (a3u L k).1, .bool (a3u L k).2]) [a2x d L]):=by
 refine FE [2,0] Tryz.func96 λX F hX=>?_;refine J.o (α:=(Option Nat×Nat)) 1 λx=>?_;obtain⟨a,c⟩:=x;refine J.q λbb=>?_;refine J.cF ?_;refine J.q λ_=>?_;refine J.ca hX (by kernel_rfl) (b0X 164 [pp (bb 0)] (λx=>x.lpn==k) (.pt (bb 0) 3 [iI k]) (by kernel_rfl) L (λx _=>c2O (bb 0) k x) a L.length c rfl (by omega)) [2,3] 0 rfl rfl rfl rfl rfl rfl (λ_=>rfl) ?_;refine cpq ⟨_,rfl,trivial,?_⟩;rw[a8Q];cases hx:L.findIdx? (λx=>x.lpn==k)with
 | none=>
  dsimp only;refine J.qT λ_=>?_;refine J.cl (λx:Option Nat×Nat=>[.pt d 219 [slv x.1 L.length x.2],l5 113 19 x.1 L.length x.2 (p5 L)]) (a,c) [1,2] ?_;refine J.qr [1] λ_=>?_;have:a3u L k=(En.zero,false):=by
   unfold a3u;rw[List.find?_eq_none.2 (λx hm=>by rw[B8]at hx;simp[hx x hm])]
  rw[this];exact⟨rfl,rfl⟩
 | some i=>
  dsimp only;obtain⟨f1,f2⟩:=b8S hx;have hi:i<L.length:=(List.getElem?_eq_some_iff.1 f2).1;refine J.qd (λ_ h0=>?_) λ_ h0=>?_
  ·simp only[c9]at h0;omega
  cases a with
  | none=>
   refine J.know (λh' s=>(s.get (i:=2) rfl).2.1) λhn0=>?_;omega
  | some g=>
   refine J.q λ_=>?_;refine J.v (enV (L.getD i En.zero)) rfl rfl (λhg a w he hs=>?_) ?_
   ·exact E6 tk rfl rfl he rfl rfl rfl (hs.get (i:=2) rfl) (by rw[show 0+(i:Int).toNat*19=i*19 from by omega];have:=W7 L [] i _ f2;rwa [n9]at this) rfl
   refine J.cl (λx:Option Nat×Nat=>[.pt d 219 [slv x.1 L.length x.2],l5 113 19 x.1 L.length x.2 (p5 L)]) (some g,c) [1,2] ?_;refine J.qr [1] λ_=>?_;have:a3u L k=(L.getD i En.zero,true):=by
    unfold a3u;rw[f1]
   rw[this];exact⟨rfl,rfl⟩
def dkN (L:List En) (n:Int):Nat:=min n.toNat L.length
theorem b4C (d:Nat) (L:List En) (hL:L.length<=100000) (n:Int):FP 121 [pp d,iI n] [a2x d L] (λv As=>∃a' c',v=slv a' (dkN L n) c'/\As=[a2x d L,l5 113 19 a' (dkN L n) c' (p5 (L.take (dkN L n)))]):=by
 refine FE [2,0] Tryz.func121 λX F hX=>?_;refine J.o (α:=(Option Nat×Nat)) 1 λx=>?_;obtain⟨a,c⟩:=x;refine J.qF λ_=>?_;refine J.know (λh' s=>a0w (s.get (i:=2) rfl)) λhcap=>?_;dsimp only at hcap;have hmin:(if(L.length:Int)<(if(0:Int)>n then 0 else n)then(L.length:Int)else(if(0:Int)>n then 0 else n))=(dkN L n:Int):=by
  unfold dkN
  by_cases h:(0:Int)>n
  ·simp only[d8 h];rw[d7 (by omega)];omega
  ·simp only[d7 h];split<;>omega
 have hk:dkN L n<=L.length:=Nat.min_le_right _ _;refine J.pn 12 (.of [0,4,8,13,16,20,24,28,32,37,40,44,48,54,56]) [14] [1,2] λ_ _=>?_;refine J.vT (slv a (dkN L n) c) rfl rfl (λhg aa w he hC=>?_) ?_
 ·exact b9i rfl rfl rfl he rfl rfl hmin (by omega)
 refine J.qc (b6y a L.length c c (dkN L n) L rfl hk (by omega)) [2] λ_=>?_;rintro v As ⟨a',c',rfl,rfl⟩;refine⟨_,rfl,⟨rfl,rfl,trivial⟩,?_⟩;refine J.q λ_=>?_;refine J.cl (λx:Option Nat×Nat=>[.pt d 219 [slv x.1 L.length x.2],l5 113 19 x.1 L.length x.2 (p5 L)]) (a,c) [1,2] ?_;refine J.qr [1,3] λ_=>?_;exact⟨a',c',rfl,rfl⟩
theorem c1g (b be:Nat) (x e:En):FP 191 [enV e,pp b] [.pt b 113 (enL x)] (Ps (.bool (e.lpn==x.lpn&&e.seq==x.seq)) [.pt b 113 (enL x)]):=by
 refine FE [0,2] Tryz.func191 λX F hX=>?_;exact J.qx [1]
theorem c1h (b:Nat) (B:Atom) (al:Option Addr) (nl cl:Nat) (l:List En) (hB:Rd B al 19 nl (p5 l)) (hl:l.length=nl) (hn:nl<=4611686018427387904) (x:En):FP 189 [enV x,pp b] [.pt b 103 [.slice al nl cl],B] (λv As=>v= .bool (l.any λe=>e.lpn==x.lpn&&e.seq==x.seq)/\As=[.pt b 103 [.slice al nl cl],B]):=by
 refine FE [0,2] Tryz.func189 λX F hX=>?_;refine J.q λbb=>?_;refine J.ca hX (by kernel_rfl) (b1a 191 [pp (bb 0)] (λe=>e.lpn==x.lpn&&e.seq==x.seq) (.pt (bb 0) 113 (enL x)) B (by kernel_rfl) l (λe _=>c1g (bb 0) 0 x e) al nl cl hB hl hn) [2,3] 0 rfl rfl rfl rfl rfl rfl (λ_=>rfl) ?_;refine cpq ⟨_,rfl,trivial,?_⟩;exact J.qx [1,2]
def a1l (L l:List En):List En:=L.filter λx=>!(l.any λe=>e.lpn==x.lpn&&e.seq==x.seq)
theorem b9h (d:Nat) (L:List En) (hL:L.length<=100000) (B:Atom) (al:Option Addr) (nl cl:Nat) (l:List En) (hB:Rd B al 19 nl (p5 l)) (hl:l.length=nl) (hn:nl<=4611686018427387904):FP 125 [pp d, .slice al nl cl] [a2x d L,B] (Ps (iI ((L.length:Int)-(a1l L l).length)) [a2x d (a1l L l),B]):=by
 refine FE [2,0] Tryz.func125 λX F hX=>?_;refine J.o (α:=(Option Nat×Nat)) 1 λx=>?_;obtain⟨a,c⟩:=x;refine J.q λbb=>?_;refine J.cF ?_;refine J.q λ_=>?_;refine J.turn1 [4,2] rfl (As:=[.hp (HP.of [.pt (bb 0) 103 [.slice al nl cl],B])]) (λh s=>Sep.hpOf.2 s) rfl ?_;refine J.q λ_=>?_;refine J.ca hX (by kernel_rfl) (a8W 189 [pp (bb 0)] (λx=>l.any λe=>e.lpn==x.lpn&&e.seq==x.seq) _ (by kernel_rfl) (λx=>Fn.pack (c1h (bb 0) B al nl cl l hB hl hn x)) a L.length c L rfl (by omega)) [3,4] 0 rfl rfl rfl rfl rfl rfl (λ_=>rfl) ?_;rintro v As ⟨l',hl',rfl,rfl⟩;refine⟨_,rfl,trivial,?_⟩;have hll:l'.length<=L.length:=by rw[hl'];exact B4 _ _
 have hdn:a1l L l=l':=hl'.symm;refine J.q λ_=>?_;refine J.turn1 [4] rfl (As:=[.pt (bb 0) 103 [.slice al nl cl],B]) (λh s=>Sep.hpOf.1 s) rfl ?_;refine J.cl (λx:Option Nat×Nat=>[.pt d 219 [slv x.1 l'.length x.2],l5 113 19 x.1 l'.length x.2 (p5 l')]) (a,c) [1,3] ?_;refine J.qr [1,5] λ_=>?_;rw[hdn];exact⟨rfl,rfl⟩
def a3y (e:En):Prop:=(0<=e.lpn/\e.lpn<=65535)/\(0<=e.seq/\e.seq<=1099511627775)
theorem b7T {s:Sh} (h:S.may s=true):a3y s.en:=by
 simp only[S.may,S.numbers,S.inB,i9,c9]at h;exact⟨h.1.2.1.2,h.1.2.1.1⟩
theorem c0P {p:List UInt8} {s:Sh} (h:S.get p=some s):S.may s=true:=by
 unfold S.get at h;split at h
 ·rename_i hh;injection h with h;subst h;exact hh.1
 ·cases h
theorem b1O {N:Nand} {x y z:Int} (h:(M.look N x y z).2=1):S.may (M.look N x y z).1=true:=by
 unfold M.look at h ⊢;dsimp only at h ⊢;split
 ·rename_i h0;rw[d8 h0]at h;split
  ·rename_i h1;rw[d8 h1]at h;simp at h
  ·rename_i h1;simp only[not_or]at h1;have hg:S.getE (N.readV x y z)=0:=by simpa using h1.1
   unfold S.getE at hg;cases hs:S.get (N.readV x y z)with
   | none=>rw[hs]at hg;simp at hg
   | some s=>simp only[S.getV,hs,j5];exact c0P hs
 ·rename_i h0;rw[d7 h0]at h;split at h
  ·simp at h
  ·split at h<;>simp at h
theorem c3u {b r m:Int} {e:En} (h:W.ok b r m e=true):a3y e:=b7T (s:=W.sh b r m e) h
theorem a8f {N:Nand} {b r:Int} {f:Fnd} (h:f∈R.all N b r):f.block=b/\f.row=r/\a3y f.en:=by
 unfold R.all at h;rw[H0]at h;obtain⟨m,_,h⟩:=h;unfold R.allM at h;rw[List.mem_filterMap]at h;obtain⟨k,hk,h⟩:=h;rw[M8]at hk;unfold R.fnd at h;split at h
 ·rename_i hc;injection h with h;subst h;refine⟨rfl,rfl,?_⟩;simp only[i9]at hc;obtain⟨h1,_⟩:=hc;dsimp only;unfold R.enAt;unfold R.okAt at h1;split
  ·rename_i hg;have hlen:k<(R.ones N b r m (G.slots m).toNat).length:=by simpa[R.look]using hk
   have e1:(R.look N b r m).good.getD k false=((R.ones N b r m (G.slots m).toNat)[k]).2:=by simp[R.look,hlen]
   have e2:(R.look N b r m).slots.getD k Sh.zero=((R.ones N b r m (G.slots m).toNat)[k]).1:=by simp[R.look,hlen]
   rw[e1]at hg;rw[e2];simp only[R.ones,W5,R.one,i9,m5]at hg ⊢;exact b7T (b1O hg.1)
  ·rename_i hg;rw[Bool.not_eq_true]at hg;rw[hg,D1]at h1;unfold R.mendB at h1;simp only[i9]at h1;have hb:=h1.2;unfold R.mend;rw[d8 (by rw[i9];exact h1.1),W.back,d8 hb];unfold W.backB at hb;simp only[i9]at hb;exact c3u hb.2
 ·cases h
theorem a7d (N:Nand) (hN:N.Ok):(V.all N).length<=6000:=by
 have hbd:=hN.bd;have h0:∀b r,(R.all N b r).length<=42:=λb r=>by
  have:=a5e N b r (M.masks N b r).length (by omega);unfold a1k at this
  rwa [D2]at this
 have h1:∀(l:List Nat) (b:Int),(l.flatMap λr=>R.all N b (r:Nat)).length<=42*l.length:=by
  intro l b
  induction l with
  | nil=>simp
  | cons x l ih=>rw[q9,f9,m6];have:=h0 b x;omega
 have h2:∀l:List Nat,(l.flatMap λb=>(List.range N.pages).flatMap λr=>R.all N (b:Nat) (r:Nat)).length<=336*l.length:=by
  intro l
  induction l with
  | nil=>simp
  | cons x l ih=>
   rw[q9,f9,m6];have:=h1 (List.range N.pages) x;rw[D9]at this;omega
 have:=h2 (List.range N.blocks);rw[D9]at this;unfold V.all;omega
theorem b0V {N:Nand} {f:Fnd} (h:f∈V.all N):(∃r:Nat,f.row=(r:Int)/\r<N.pages)/\a3y f.en:=by
 unfold V.all at h;rw[H0]at h;obtain⟨b,_,h⟩:=h;rw[H0]at h;obtain⟨r,hr,h⟩:=h;have:=a8f h;exact⟨⟨r,this.2.1,List.mem_range.1 hr⟩,this.2.2⟩
abbrev fdV (x:Fnd):Value:= .agg (fnL x).toArray
def Fnd.zero:Fnd:=⟨En.zero,0,0,0,0,false,false⟩
theorem b1e (a b:Fnd):FP 258 [fdV a,fdV b] [] (Ps (.bool (V.behind a b)) []):=by
 refine FE [0,0] Tryz.func258 λX F hX=>?_;refine J.qd (λ_ h1=>?_) λ_ h1=>?_
 ·refine J.qr [] λ_=>?_;simp only[C2,D4]at h1;exact⟨by rw[V.behind,d8 h1],rfl⟩
 ·simp only[p6]at h1;refine J.run hX tk 400 (λb3=>rfl) (λb3=>?_) (λb3=>?_)
  ·(repeat' (first | exact Conj.nil | refine Conj.cons ?_ ?_ | exact rfl | exact hq | (rw[hq];rfl) | (rw[(i7 _).mp hq]) | intro hq | omega | (simp;done) | (simp_all;done)))
  refine J.qr [] λ_=>?_;exact⟨by rw[V.behind,d7 (by simp[h1])],rfl⟩
theorem a5I {l:List Fnd} {k:Nat} {x:Fnd} (h:l[k]? =some x):V.tops (l.take (k+1))=V.topsStep (V.tops (l.take k)) x:=by
 unfold V.tops;rw[s6,h,y9,z8];rfl
theorem a9X (o:List Fnd) (x:Fnd):(V.topsStep o x).length<=o.length+1:=by
 cases o with
 | nil=>simp[V.topsStep]
 | cons h t=>
  simp only[V.topsStep];split
  ·simp
  ·split<;>simp
theorem a7i (l:List Fnd):(V.tops l).length<=l.length:=by
 have:∀k,k<=l.length->(V.tops (l.take k)).length<=k:=by
  intro k
  induction k with
  | zero=>intro _;simp[V.tops]
  | succ k ih=>
   intro hk;rw[a5I (d5 (by omega))];have:=a9X (V.tops (l.take k)) l[k];have:=ih (by omega);omega
 have:=this l.length (j7 _)
 rwa [D2]at this
theorem b6E (a:Option Nat) (n cap:Nat) (l:List Fnd) (hl:l.length=n) (hn:n<=100000):FP 197 [slv a n cap] [l5 191 25 a n cap (y7 l)]
  (λv As=>∃a' c',v=slv a' (V.tops l).length c'/\As=[l5 191 25 a n cap (y7 l),l5 191 25 a' (V.tops l).length c' (y7 (V.tops l))]):=by
 refine FE [0] Tryz.func197 λX F hX=>?_;refine J.turn1 [] rfl (As:=[l5 191 25 none 0 0 (y7 [])]) (λh s=>Sep.one ⟨rfl,rfl,rfl⟩) rfl ?_;refine J.q λ_=>?_;refine J.l (α:=(Nat×Option Nat×Nat×List Fnd)) (λz=>z.1<=n/\V.tops (l.take z.1)=z.2.2.2) (λz=>[si 8 z.1,si 7 n,sv 6 (slv a n cap),sv 3 (slv z.2.1 z.2.2.2.length z.2.2.1)]) [2] (λz=>[l5 191 25 z.2.1 z.2.2.2.length z.2.2.1 (y7 z.2.2.2)]) (λz=>n-z.1) ((0,none,0,[])) (⟨j4 _,rfl⟩) λz hI=>?_;obtain⟨k,a1,c1,out⟩:=z;dsimp only at hI ⊢;obtain⟨hI,hto⟩:=hI;refine J.qd (λ_ h1=>?_) λ_ h1=>?_
 ·simp only[c9,g6]at h1;cases a with
  | none=>
   refine J.know (λh' s=>(s.get (i:=1) rfl).2.1) λhn0=>?_;omega
  | some g=>
  obtain⟨x,hx⟩:∃x,l[k]? =some x:=⟨_,d5 (by omega)⟩;have hts:=a5I hx;have hlen:=a7i (l.take k);rw[l9,hto]at hlen;rw[hto]at hts;refine J.q λ_=>?_;refine J.v (fdV x) rfl rfl (λhg a w he hs=>?_) ?_
  ·exact E6 tk rfl rfl he rfl rfl rfl (hs.get (i:=1) rfl) (by rw[show 0+(k:Int).toNat*25=k*25 from by omega];exact Q4 hx) rfl
  rcases out with _ | ⟨y,o⟩
  ·skip
   refine J.pn 5 (.of [0,4,8,12,16,20,25,29,34,36,40]) [] [1,2,3] λ_ _=>?_;refine J.vT (pp g) rfl rfl (λhg a w he hC=>absurd hg (by simp[G.on])) ?_;refine J.q λ_=>?_;refine J.vT (fdV x) rfl rfl (λhg a w he hC=>absurd hg (by simp[G.on])) ?_;refine J.q λ_=>?_;refine J.val hX (.bool true) 0 rfl rfl (λhg a w he hC=>absurd hg (by simp[G.on])) rfl stq ?_;refine J.qT λ_=>?_;refine J.q λbs=>?_;refine J.cO 191 25 1 1 (y7 [x]) 4 ?_;have hs:V.tops (l.take (k+1))=[x]:=by rw[hts];rfl
   refine J.slot (k:=3) (s':=⟨3,slv (some (bs 0)) [x].length 1,0, .tt⟩) rfl rfl rfl ?_;refine J.q λ_=>?_;refine J.n ((k+1,some (bs 0),1,[x])) (⟨by dsimp only;omega,hs⟩) (by dsimp only;omega) [0,1,4]
  ·refine J.know (λh' s=>u7 (c:=(a1,c1)) (by simp) (s.get (i:=2) rfl)) λhg=>?_;obtain⟨ga,rfl⟩:=hg;refine J.pq (.of [0,4,8,12,16,20,25,29,34,36,40]) [] [1,2,3] λ_ _=>?_;refine J.vT (fdV y) rfl rfl (λhg a w he hC=>?_) ?_
   ·exact E6 tk rfl rfl he hg rfl rfl (hC rfl _ (r8 (i:=2) rfl)) rfl rfl
   have hnz:(((y::o).length:Int)==0)=false:=by rw[j9,m6];omega
   rw[hnz];refine J.qp (b1e y x) [] λ_=>?_;refine J.qd (λ_ h2=>?_) λ_ h2=>?_
   ·refine J.q λbs=>?_;refine J.cO 191 25 1 1 (y7 [x]) 4 ?_;have hs:V.tops (l.take (k+1))=[x]:=by rw[hts];rw[V.topsStep,d8 (by simpa using h2)]
    refine J.slot (k:=3) (s':=⟨3,slv (some (bs 0)) [x].length 1,0, .tt⟩) rfl rfl rfl ?_;refine J.q λ_=>?_;refine J.n ((k+1,some (bs 0),1,[x])) (⟨by dsimp only;omega,hs⟩) (by dsimp only;omega) [0,1,4]
   ·refine J.pq (.of [1,4,8,13,19,20,24]) [4,5,6] [1,2,3] λ_ _=>?_;refine J.vT (fdV y) rfl rfl (λhg a w he hC=>?_) ?_
    ·exact E6 tk rfl rfl he hg rfl rfl (hC rfl _ (r8 (i:=2) rfl)) rfl rfl
    refine J.qp (b1e x y) [] λ_=>?_;refine J.qd (λ_ h3=>?_) λ_ h3=>?_
    ·refine J.q λ_=>?_;have hs:V.tops (l.take (k+1))=y::o++[x]:=by rw[hts,V.topsStep,d7 (by simpa using h2),d7 (by simpa using h3)]
     refine J.append hX tk 2 4 0 rfl rfl rfl rfl rfl rfl rfl rfl rfl rfl rfl rfl rfl rfl rfl rfl ?_ ?_ (λ_=>rfl) λa3 c3=>⟨_,(congrArg (λz=>Q2 _ 2 (l5 _ _ _ _ _ z)) (a3W (y::o) x).symm).trans rfl,trivial,?_⟩
     ·simp only[maxLen];omega
     ·omega
     rw[show(y::o).length+1=(y::o++[x]).length from by simp];refine J.q λ_=>?_;refine J.n ((k+1,a3,c3,y::o++[x])) (⟨by dsimp only;omega,hs⟩) (by dsimp only;omega) [0,1,2]
    ·have hs:V.tops (l.take (k+1))=y::o:=by rw[hts,V.topsStep,d7 (by simpa using h2),d8 (by simpa using h3)]
     refine J.q λ_=>?_;refine J.n ((k+1,some ga,c1,y::o)) (⟨by dsimp only;omega,hs⟩) (by dsimp only;omega) [0,1,2]
 ·simp only[c8,g6]at h1;obtain rfl:k=n:=by omega
  rw[m7 (by omega)]at hto;subst hto;refine J.qr [1,2] λ_=>?_;exact⟨a1,c1,rfl,rfl⟩
def a9W (x:Int):Bool:=x !=2&&x !=4
theorem b9H (A:Atom) (x:Int):FP 200 [iI x] [A] (Ps (.bool (a9W x)) [A]):=by
 refine FE [0] Tryz.func200 λX F hX=>?_;exact J.qx [1]
theorem b0P (N:Nand) (b r:Int):V.blankRow N b r= !(((M.rowN N b r N.dies).map (·.2)).any a9W):=by
 unfold V.blankRow;rw[List.any_map,List.not_any_eq_all_not];congr 1;funext x;show(x.2==2||x.2==4)= !(!(x.2==2)&& !(x.2==4));cases(x.2==2)<;>cases(x.2==4)<;>rfl
def V.upto (N:Nand) (f:Fnd) (k:Nat):Bool:=(List.range k).all λr:Nat=>decide ((r:Int)<=f.row)||V.blankRow N f.block r
theorem V.upto_succ (N:Nand) (f:Fnd) (k:Nat):V.upto N f (k+1)=(V.upto N f k&&(decide ((k:Int)<=f.row)||V.blankRow N f.block k)):=by
 unfold V.upto;rw[t6,List.all_append];simp
theorem V.upto_le (N:Nand) (f:Fnd) (k r0:Nat) (hr:f.row=(r0:Int)) (h:k<=r0+1):V.upto N f k=true:=by
 unfold V.upto;rw[I1];intro r hr2;rw[M8]at hr2;rw[j3 (by omega)];rfl
theorem c1I (p:Nat) (N:Nand) (hN:N.Ok) (hR:N.Room) (sp:Nat) (H:Value) (f:Fnd) (r0:Nat) (hr:f.row=(r0:Int)) (hr2:r0<=1000):FP 132 [pp sp,fdV f] [x6 p N, .pt sp 187 [pp p,H]]
  (Ps (.bool (V.last N f)) [x6 p N, .pt sp 187 [pp p,H]]):=by
 have hbd:=hN.bd;refine FE [3,0] Tryz.func132 λX F hX=>?_;refine J.q λbb=>?_;rw[hr];refine J.q λ_=>?_;refine J.l (α:=Nat) (λk=>r0+1<=k/\V.upto N f k=true/\(k=r0+1\/k<=N.pages)) (λk=>[si 5 k,⟨0,pp sp,3, .tt⟩,⟨3,pp (bb 0),4, .tt⟩]) [] (λk=>[]) (λk=>N.pages-k) (r0+1) (⟨j7 _,V.upto_le N f _ r0 hr (j7 _), .inl rfl⟩) λk hI=>?_;refine J.qp (a0H p N) [1] λ_=>?_;refine J.qd (λ_ h1=>?_) λ_ h1=>?_
 ·simp only[c9,g6]at h1;refine J.p (.of [0,4,8,13,16,20,25,28,34,36,40,44,48,52]) [13] [1,2,3] λ_=>?_;refine J.qc (c1B p N hN hR f.block k) [1] λ_=>?_;rintro v As ⟨a1,c1,a2,c2,rfl,rfl⟩;refine⟨_,rfl,stq,?_⟩;refine J.q λ_=>?_;refine J.ca hX (by kernel_rfl) (a6j 200 [] a9W (x6 p N) (by kernel_rfl) ((M.rowN N f.block k N.dies).map (·.2)) (λx _=>b9H (x6 p N) x) a2 N.dies c2 (by simp[M.rowN]) (by omega)) [5,1] 0 rfl rfl rfl rfl rfl rfl (λ_=>rfl) ?_;refine cpq ⟨_,rfl,trivial,?_⟩;have hbl:=b0P N f.block k;have hk:=V.upto_succ N f k;have hlt:decide ((k:Int)<=f.row)=false:=by rw[c8];omega
  rw[hI.2.1,hlt]at hk;refine J.qd (λ_ h2=>?_) λ_ h2=>?_
  ·rw[h2]at hbl;refine J.qr [1,2] λ_=>?_;refine⟨?_,rfl⟩;have:V.last N f=false:=by
    unfold V.last;rw[P9];left;rw[List.all_eq_false];exact⟨k,List.mem_range.2 h1,by rw[hlt,hbl];simp⟩
   rw[this]
  ·rw[h2]at hbl;rw[hbl]at hk;refine J.q λ_=>?_;refine J.n (k+1) (⟨by omega,hk,by omega⟩) (by omega) [0,1,2,3]
 ·simp only[c8,g6]at h1;have hup:V.upto N f N.pages=true:=by
   rcases hI.2.2 with h | h
   ·exact V.upto_le N f _ r0 hr (by omega)
   ·rw[show N.pages=k by omega];exact hI.2.1
  refine J.qp (a1b f.mask f.block f.row) [] λ_=>?_;have hv:V.last N f=((M.look N (G.parity f.mask f.block f.row) f.block f.row).2 !=4):=by
   unfold V.last;have:((List.range N.pages).all λr:Nat=>decide ((r:Int)<=f.row)||V.blankRow N f.block r)=true:=hup;rw[this,o0]
  refine J.pq (.take true 0 (.take true 1 (.take true 2 (.take false 3 (.take true 4 (.take true 5 (.take true 6 (.take false 7 (.take true 8 (.take true 9 (.take false 10 (.take true 11 (.alt false 12 ((.of [52,56,60,66,70,72])) (.alt false 16 ((.of [50,52,56,60,70,72])) .non)))))))))))))) [18] [1,2,3] λ_ _=>?_;refine J.alts ?_ ?_
  ·skip
   refine J.qp (a5R p N hN hR (G.parity f.mask f.block f.row) f.block f.row) [1] λ_=>?_;refine J.qr [1,2] λ_=>?_;exact⟨by rw[hv],rfl⟩
  ·skip
   refine J.qn 1 λ_=>?_;refine J.qp (a5R p N hN hR (G.parity f.mask f.block f.row) f.block f.row) [1] λ_=>?_;refine J.qr [1,2] λ_=>?_;exact⟨by rw[hv],rfl⟩
theorem a9M (l:List Fnd) (r:List Value) (k:Nat) (x:Fnd) (h:l[k]? =some x):((y7 l++r).drop (k*25)).take 25=fnL x:=by
 have hk:k<l.length:=(List.getElem?_eq_some_iff.1 h).1;rw[List.drop_append_of_le_length (by rw[V2];omega),List.take_append_of_le_length (by rw[x4,V2];omega)];exact Q4 h
theorem a4N:∀(l:List Fnd) (r:List Value) (k:Nat) (x:Fnd),k<l.length->(y7 l++r).take (k*25)++fnL x++(y7 l++r).drop (k*25+25)=y7 (l.set k x)++r
 | [],_,_,_,h=>by simp at h
 | y::l,r,0,x,h=>by simp[y7,fnL]
 | y::l,r,k+1,x,h=>by
  have:=a4N l r k x (by simpa using h);have hy:(fnL y).length=25:=rfl;have e1:y7 (y::l)++r=fnL y++(y7 l++r):=by simp[y7]
  have e2:y7 ((y::l).set (k+1) x)++r=fnL y++(y7 (l.set k x)++r):=by simp[y7]
  rw[e1,e2,<- this,show(k+1)*25=(fnL y).length+k*25 from by omega,R2,show(fnL y).length+k*25+25=(fnL y).length+(k*25+25)from by omega,<- A4,T4 rfl];simp only[s8]
def c0L (p:Fnd->Bool) (l:List Fnd):Int:=match l.findIdx? p with
 | some k=>k
 | none=> -1
theorem b5N {p:Fnd->Bool} {l:List Fnd} {k:Nat} {x:Fnd} (h:l[k]? =some x) (h0:∀i<k,p (l.getD i Fnd.zero)=false) (hp:p x=true):l.findIdx? p=some k:=by
 rw[s5];obtain⟨h1,h2⟩:=List.getElem?_eq_some_iff.1 h;refine⟨h1,by rw[h2];exact hp,λj hj=>?_⟩;have:=h0 j hj;rw[d6,d5 (by omega),j5]at this;simp[this]
theorem b5O {p:Fnd->Bool} {l:List Fnd} (h0:∀i<l.length,p (l.getD i Fnd.zero)=false):l.findIdx? p=none:=by
 rw[B8];intro x hx;obtain⟨i,hi,rfl⟩:=List.mem_iff_getElem.1 hx;have:=h0 i hi
 rwa [d6,d5 hi,j5]at this
theorem b6w (c:Nat) (cs:List Value) (p:Fnd->Bool) (A:Atom) (hcal:I6 Tryz.prog c=true) (l:List Fnd) (hf:∀x∈l,Fn Tryz.prog c (fdV x::cs) [A] (λv As=>v= .bool (p x)/\As=[A]))
  (a:Option Nat) (n cap:Nat) (hl:l.length=n) (hn:n<=4611686018427387904):FP 262 [slv a n cap,fnC c cs] [l5 191 25 a n cap (y7 l),A]
  (λv As=>v=iI (c0L p l)/\As=[l5 191 25 a n cap (y7 l),A]):=by
 refine FE [0,0] Tryz.func262 λX F hX=>?_;refine J.q λ_=>?_;refine J.l (α:=Nat) (λk=>k<=n/\∀i<k,p (l.getD i Fnd.zero)=false) (λk=>[si 8 k,si 7 n,sv 0 (slv a n cap),⟨1,fnC c cs,0, .tt⟩]) [] (λk=>[]) (λk=>n-k) (0) (⟨by omega,by omega⟩) λk hI=>?_;refine J.qd (λ_ h1=>?_) λ_ h1=>?_
 ·simp only[c9,g6]at h1;cases a with
  | none=>
   refine J.know (λh' s=>(s.get (i:=1) rfl).2.1) λhn0=>?_;omega
  | some g=>
   have hk:l[k]? =some (l.getD k Fnd.zero):=by rw[d6,d5 (by omega),j5]
   refine J.q λ_=>?_;refine J.v (fdV (l.getD k Fnd.zero)) rfl rfl (λhg a w he hs=>?_) ?_
   ·exact E6 tk rfl rfl he rfl rfl rfl (hs.get (i:=1) rfl) (by rw[show 0+(k:Int).toNat*25=k*25 from by omega];have:=a9M l [] k _ hk;rwa [n9]at this) rfl
   refine J.q λ_=>?_;refine J.call hX hcal (hf (l.getD k Fnd.zero) (l7 hk)) [2] 0 rfl rfl rfl rfl (by(repeat' (first | exact Conj.nil | refine Conj.cons ?_ ?_ | omega | exact hq0 | (simpa using hq0) | (exactλh=>h) | exact rfl | (intro hq;have hq0:=hq;try simp only[i9,j8,c9,i7,c8]at hq) | (simp;done) | (simp;omega) | decide))) rfl rfl (λ_=>rfl) ?_;refine cpq ⟨_,rfl,trivial,?_⟩;refine J.qd (λ_ h2=>?_) λ_ h2=>?_
   ·refine J.qr [1,2] λ_=>?_;exact⟨by rw[c0L,b5N hk hI.2 h2],rfl⟩
   ·refine J.q λ_=>?_;refine J.nx (k+1) (⟨by omega,λi hi=>by
     rcases Nat.lt_succ_iff_lt_or_eq.1 hi with h3 | h3
     ·exact hI.2 i h3
     ·rw[h3];exact h2⟩) (by omega) (λ_ s=>s)
 ·simp only[c8,g6]at h1;refine J.qr [1,2] λ_=>?_;exact⟨by rw[c0L,b5O (λi hi=>hI.2 i (by omega))],rfl⟩
theorem a4O (l:List Fnd):∀u∈y7 l,u.oneCell'=true:=by
 intro u hu;simp only[y7,H0]at hu;obtain⟨s,_,hu⟩:=hu;simp only[fnL,D6,T9,a5z]at hu;rcases hu with rfl | rfl | rfl | rfl | rfl | rfl | rfl | rfl | rfl | rfl | rfl | rfl | rfl | rfl | rfl | rfl | rfl | rfl | rfl | rfl | rfl | rfl | rfl | rfl | rfl<;>rfl
theorem b6z (a:Option Nat) (n cap:Nat) (l:List Fnd) (hl:l.length=n) (hn:n<=1000000):FP 203 [slv a n cap] [l5 191 25 a n cap (y7 l)]
  (λv As=>∃a' c',v=slv a' n c'/\As=[l5 191 25 a n cap (y7 l),l5 191 25 a' n c' (y7 l)]):=by
 refine FE [0] Tryz.func203 λX F hX=>?_;cases a with
 | none=>
  refine J.know (λh' s=>(s.get (i:=1) rfl).2) λhn0=>?_;obtain⟨rfl,rfl⟩:=hn0;have:l=[]:=s7 hl;subst this;refine J.qT λ_=>?_;refine J.turn1 [] rfl (As:=[l5 191 25 none 0 0 (y7 [])]) (λh s=>Sep.one ⟨rfl,rfl,rfl⟩) rfl ?_;refine J.qr [1,2] λ_=>?_;exact⟨none,0,rfl,rfl⟩
 | some g=>
  refine J.qF λ_=>?_;refine J.qn 5 λbb=>?_;refine J.closeOwn (e:=191) (size:=25) (n:=0) (cap:=0) (xs:=[]) 2 rfl rfl rfl (j7 _) (j4 _) rfl rfl rfl ?_;refine J.q λ_=>?_;refine J.appendR hX tk (a:=some (bb 0)) (n:=0) (cap:=0) (xs:=[]) (oo:=0) (Ay:=l5 191 25 (some g) n cap (y7 l)) 2 1 0 rfl rfl rfl rfl rfl rfl rfl rfl rfl rfl (R8 _ _ (some g) _ _ _) rfl rfl rfl rfl (a4O l) ?_ ?_ (λ_=>rfl) λa' c'=>⟨_,rfl,trivial,?_⟩
  ·simp only[maxLen];omega
  ·omega
  rw[I8 n,J6];refine J.qr [1,2] λ_=>?_;exact⟨a',c',rfl,rfl⟩
def DelF (p:Fnd->Bool) (l m:List Fnd) (i j:Nat):Prop:=m.length=l.length/\i<j/\j<=l.length/\m.drop j=l.drop j/\m.take i++(l.drop j).filter (λx=>!p x)=l.filter (λx=>!p x)
theorem DelF.start {p:Fnd->Bool} {l:List Fnd} {k:Nat} (h:l.findIdx? p=some k):DelF p l l k (k+1):=by
 rw[s5]at h;obtain⟨h1,h2,h3⟩:=h;refine⟨rfl,by omega,by omega,rfl,?_⟩;have e:l=l.take k++l[k]::l.drop (k+1):=by rw[<- v8 h1,C1]
 have e2:(l.take k).filter (λx=>!p x)=l.take k:=by
  rw[a0b];intro x hx;obtain⟨i,hi,rfl⟩:=List.mem_iff_getElem.1 hx;rw[List.getElem_take];have:=h3 i (by simp at hi;omega);simpa using this
 conv=>rhs;rw[e]
 rw[H2,e2,J7 (by simp[h2])]
theorem DelF.skip {p:Fnd->Bool} {l m:List Fnd} {i j:Nat} (h:DelF p l m i j) (hj:j<l.length) (hp:p (m.getD j Fnd.zero)=true):DelF p l m i (j+1):=by
 obtain⟨h1,h2,h3,h4,h5⟩:=h;have e1:m[j]? =l[j]?:=by have:=congrArg (λz=>z[0]?) h4;simpa using this
 have hx:l[j]=m.getD j Fnd.zero:=by rw[d6,e1,d5 hj,j5]
 refine⟨h1,by omega,by omega,?_,?_⟩
 ·have:=congrArg (List.drop 1) h4;simpa[A4]using this
 ·rw[<- h5,v8 hj,J7 (by rw[hx,hp];simp)]
theorem DelF.keep {p:Fnd->Bool} {l m:List Fnd} {i j:Nat} (h:DelF p l m i j) (hj:j<l.length) (hp:p (m.getD j Fnd.zero)=false):DelF p l (m.set i (m.getD j Fnd.zero)) (i+1) (j+1):=by
 obtain⟨h1,h2,h3,h4,h5⟩:=h;have e1:m[j]? =l[j]?:=by have:=congrArg (λz=>z[0]?) h4;simpa using this
 have hx:l[j]=m.getD j Fnd.zero:=by rw[d6,e1,d5 hj,j5]
 refine⟨by simp[h1],by omega,by omega,?_,?_⟩
 ·rw[List.drop_set_of_lt (by omega)];have:=congrArg (List.drop 1) h4;simpa[A4]using this
 ·rw[<- h5,v8 hj,M2 (by rw[hx,hp];simp),hx,List.take_set,s6,d5 (by omega)];rw[P8 _ _ (by simp;omega)];simp[l9,J5 (show i<=m.length by omega)]
theorem b4M (c:Nat) (cs:List Value) (p:Fnd->Bool) (A:Atom) (hcal:I6 Tryz.prog c=true) (hf:∀x,Fn Tryz.prog c (fdV x::cs) [A] (λv As=>v= .bool (p x)/\As=[A]))
  (a:Option Nat) (n cap:Nat) (l:List Fnd) (hl:l.length=n) (hn:n<=4611686018427387904):FP 202 [slv a n cap,fnC c cs] [l5 191 25 a n cap (y7 l),A]
  (λv As=>∃l',l'=l.filter (λx=>!p x)/\v=slv a l'.length cap/\As=[l5 191 25 a l'.length cap (y7 l'),A]):=by
 refine FE [0,0] Tryz.func202 λX F hX=>?_;refine J.qp (b6w c cs p A hcal l (λx _=>hf x) a n cap hl hn) [1,2] λ_=>?_;rw[c0L];cases hx:l.findIdx? p with
 | none=>
  dsimp only;refine J.qT λ_=>?_;refine J.qr [1,2] λ_=>?_;have:l.filter (λx=>!p x)=l:=by
   rw[a0b];intro x hm;rw[B8]at hx;simp[hx x hm]
  exact⟨l,this.symm,by rw[hl],by rw[hl];rfl⟩
 | some k=>
  dsimp only;refine J.qd (λ_ h0=>?_) λ_ h0=>?_
  ·simp only[m5]at h0;omega
  have hk:k<n:=by rw[s5]at hx;obtain⟨h1,_⟩:=hx;omega
  cases a with
  | none=>
   refine J.know (λh' s=>(s.get (i:=1) rfl).2.1) λhn0=>?_;omega
  | some g=>
   refine J.openOwn 1 rfl rfl (λ_=>rfl) λr q1 q2 q3 q4=>?_;refine J.q λ_=>?_;rw[show(k:Int)+1=((k+1:Nat):Int)from by omega];refine J.q λ_=>?_;refine J.l (α:=(Nat×Nat×List Fnd)) (λx=>DelF p l x.2.2 x.1 x.2.1) (λx=>[si 6 x.2.1,si 5 x.1,sv 0 (slv (some g) n cap),⟨1,fnC c cs,0, .tt⟩]) [1] (λx=>[.pt g 191 (y7 x.2.2++r)]) (λx=>n-x.2.1) ((k,k+1,l)) (DelF.start hx) λx hI=>?_;obtain⟨i,j,m⟩:=x;dsimp only at hI ⊢;have hml:m.length=n:=hI.1.trans hl;have hij:i<j:=hI.2.1;have hjn:j<=n:=by have:=hI.2.2.1;omega
   refine J.qd (λ_ h1=>?_) λ_ h1=>?_
   ·simp only[c9,g6]at h1;have hget:m[j]? =some (m.getD j Fnd.zero):=by rw[d6,d5 (by omega),j5]
    refine J.q λ_=>?_;refine J.v (fdV (m.getD j Fnd.zero)) rfl rfl (λhg a w he hs=>?_) ?_
    ·exact C7 tk rfl rfl he rfl rfl rfl (hs.get (i:=1) rfl) (by rw[show 0+(j:Int).toNat*25=j*25 from by omega];exact a9M m r _ _ hget) rfl
    refine J.q λ_=>?_;refine J.call hX hcal (hf (m.getD j Fnd.zero)) [2] 0 rfl rfl rfl rfl (by(repeat' (first | exact Conj.nil | refine Conj.cons ?_ ?_ | omega | exact hq0 | (simpa using hq0) | (exactλh=>h) | exact rfl | (intro hq;have hq0:=hq;try simp only[i9,j8,c9,i7,c8]at hq) | (simp;done) | (simp;omega) | decide))) rfl rfl (λ_=>rfl) ?_;refine cpq ⟨_,rfl,trivial,?_⟩;refine J.qd (λ_ h2=>?_) λ_ h2=>?_
    ·simp only[i7]at h2;refine J.q λ_=>?_;refine J.storeN hX tk 1 rfl rfl rfl rfl rfl rfl rfl rfl rfl rfl rfl rfl rfl ?_ (y7 (m.set i (m.getD j Fnd.zero))++r) ?_ rfl (λ_=>rfl) ⟨trivial,?_⟩
     ·rw[f9,V2];show 0+(i:Int).toNat*25+25<=_;omega
     ·rw[show 0+(i:Int).toNat*25=i*25 from by omega];exact a4N m r i _ (by omega)
     refine J.q λ_=>?_;refine J.n ((i+1,j+1,m.set i (m.getD j Fnd.zero))) (hI.keep (by omega) h2) (by dsimp only;omega) [0,1,2]
    ·simp only[p9]at h2;refine J.q λ_=>?_;refine J.n ((i,j+1,m)) (hI.skip (by omega) h2) (by dsimp only;omega) [0,1,2]
   ·simp only[c8,g6]at h1;obtain rfl:j=n:=by omega
    have hfil:m.take i=l.filter (λx=>!p x):=by
     have h5:=hI.2.2.2.2;rw[D5 (by omega)]at h5;simpa using h5
    refine J.q λ_=>?_;refine J.clear hX tk 1 rfl rfl rfl rfl rfl rfl rfl rfl rfl rfl rfl ?_ (λ_=>rfl) (λ_=>rfl) λcs' z1 z2=>⟨trivial,?_⟩
    ·rw[f9,V2];rw[V2]at q4;show 0+(i:Int).toNat*25+(j-(i:Int).toNat)*25<=_;have:(i:Int).toNat=i:=by omega
     rw[this];omega
    have hilen:(l.filter (λx=>!p x)).length=i:=by rw[<- hfil,l9];omega
    refine J.closeOwn (e:=191) (size:=25) (n:=i) (cap:=cap) (xs:=y7 (l.filter (λx=>!p x))) 1 rfl rfl (by rw[V2,hilen]) (by omega) q3 (by rw[z1,f9,V2,hml];rw[V2,hl]at q4;exact q4) ?_ rfl ?_
    ·have z3:(0+(i:Int).toNat*25)=i*25:=by omega
     rw[z3]at z2;rw[z2,<- hfil];have e:y7 m=y7 (m.take i)++y7 (m.drop i):=by
      conv=>lhs;rw[<- C1 i m]
      simp only[y7,C5]
     rw[e,s8,B6 (by rw[V2,l9,J5 (by omega)])]
    refine J.qr [1,2] λ_=>?_;exact⟨_,rfl,by rw[hilen];rfl,by rw[hilen];rfl⟩
end Go.Proofs.YtpakpgkdpofbhaaGreat
