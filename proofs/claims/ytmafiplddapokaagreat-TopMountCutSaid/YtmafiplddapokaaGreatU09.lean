/- Helpers. No condition. -/
import Derived.Test.YtmafiplddapokaaGreatU08
set_option maxRecDepth 20000
set_option linter.all false
namespace Go.Proofs.YtmafiplddapokaaGreat
section
open Go Go.RowKit
def fnL (x:Fnd):List Value:=[iI x.en.lpn,iI x.en.seq,iI x.en.role,byC x.en.data 0,byC x.en.data 1,byC x.en.data 2,byC x.en.data 3,byC x.en.data 4,byC x.en.data 5,byC x.en.data 6,byC x.en.data 7,byC x.en.data 8,byC x.en.data 9,byC x.en.data 10,byC x.en.data 11,byC x.en.data 12,byC x.en.data 13,byC x.en.data 14,byC x.en.data 15,
 iI x.block,iI x.row,iI x.slot,iI x.mask, .bool x.whole, .bool x.mended]
def H0 (l:List Fnd):List Value:=l.flatMap fnL
theorem b0M (x:Fnd):(fnL x).length=25:=rfl
theorem W7 (l:List Fnd):(H0 l).length=l.length*25:=by
 induction l with
 | nil=>rfl
 | cons x l ih=>simp only[H0,u0,f8,l5]at ih ⊢;rw[ih,b0M];omega
theorem a3S (l:List Fnd) (x:Fnd):H0 (l++[x])=H0 l++fnL x:=by simp[H0]
theorem a1V:∀{l:List Fnd} {k:Nat} {x:Fnd},l[k]? =some x->((H0 l).drop (k*25)).take 25=fnL x
 | [],_,_,h=>by simp at h
 | y::l,0,x,h=>by
  simp at h;subst h;rw[P8,a1t];exact D6 (b0M y)
 | y::l,k+1,x,h=>by
  have:=a1V (l:=l) (k:=k) (x:=x) (by simpa using h);rw[show(k+1)*25=25+k*25 from by omega,<- C0];simp only[H0,u0];rw[T7 (b0M y)];exact this
theorem b0S (x:Int):∀l:List Int,(L4 x l).length<=l.length
 | []=>i7 _
 | y::l=>by
  unfold L4;split
  ·have h:=b0S y l;exact I7 h (by simp)
  ·have h:=b0S y l;simpa using h
theorem b2h:∀l:List Int,(J9 l).length<=l.length
 | []=>i7 _
 | x::l=>by have h:=b0S x l;simpa[J9]using h
theorem a9x (N:Nand) (b r:Int):(M.masks N b r).length<=N.dies:=by
 unfold M.masks;refine I7 (b2h _) ?_;rw[a0Z];refine I7 (List.length_filterMap_le _ _) ?_;simp[M.rowN]
def a5c (N:Nand) (b r:Int) (i:Nat):List Fnd:=((M.masks N b r).take i).flatMap (R.allM N b r)
def a2s (N:Nand) (b r mk:Int) (i j:Nat):List Fnd:=a5c N b r i++(List.range j).filterMap (R.fnd (R.look N b r mk) b r mk)
theorem b8r (N:Nand) (b r m:Int):(R.allM N b r m).length<=7:=by
 unfold R.allM;refine I7 (List.length_filterMap_le _ _) ?_;rw[M5,(Y6 N b r m).1];have:=a0A m;omega
theorem a7O (N:Nand) (b r:Int) (i:Nat) (h:N.dies<=6):(a5c N b r i).length<=42:=by
 have h1:∀l:List Int,(l.flatMap (R.allM N b r)).length<=7*l.length:=by
  intro l
  induction l with
  | nil=>simp
  | cons x l ih=>rw[u0,f8,l5];have:=b8r N b r x;omega
 have h2:=h1 ((M.masks N b r).take i);have h3:=a9x N b r;have h4:((M.masks N b r).take i).length<=6:=by rw[j9];omega
 unfold a5c;omega
theorem b6Q (N:Nand) (b r mk:Int) (i j:Nat) (h:N.dies<=6) (hj:j<=7):(a2s N b r mk i j).length<=49:=by
 have h1:=a7O N b r i h;have h2:=List.length_filterMap_le (R.fnd (R.look N b r mk) b r mk) (List.range j);rw[M5]at h2;unfold a2s;rw[f8];omega
theorem b4G (N:Nand) (b r mk:Int) (i:Nat):a2s N b r mk i 0=a5c N b r i:=by simp[a2s]
theorem b4H (N:Nand) (b r mk:Int) (i j:Nat):a2s N b r mk i (j+1)=a2s N b r mk i j++(R.fnd (R.look N b r mk) b r mk j).toList:=by
 unfold a2s;rw[s9,U1,m7];congr 2
theorem b6R (N:Nand) (b r mk:Int) (i:Nat) (h:(M.masks N b r)[i]? =some mk):a2s N b r mk i (G.slots mk).toNat=a5c N b r (i+1):=by
 unfold a2s a5c;rw[D3,h,K7,K1];congr 1;rw[u0,List.flatMap_nil,m6,R.allM,(Y6 N b r mk).1]
theorem c0l (p:Nat) (N:Nand) (hN:N.Ok) (hR:N.Room) (b r:Int):FP 101 [pp p,iI b,iI r] [B8 p N]
  (λv As=>∃a c,v=slv a (R.all N b r).length c/\As=[B8 p N,m9 180 25 a (R.all N b r).length c (H0 (R.all N b r))]):=by
 have hbd:=hN.bd;have hml:=a9x N b r;refine FE [2,0,0] Tryz.func101 λX F hX=>?_;refine J.qc (b3O p N hN hR b r) [1] λ_=>?_;rintro v As ⟨am,cm,rfl,rfl⟩;refine⟨_,rfl,trivial,?_⟩;refine J.turn1 [] rfl (As:=[m9 180 25 none 0 0 (H0 (a5c N b r 0))]) (λh s=>Sep.one ⟨rfl,rfl,rfl⟩) rfl ?_;refine J.q λ_=>?_;refine J.l (α:=(Nat×Option Nat×Nat)) (λz=>z.1<=(M.masks N b r).length) (λz=>[si 20 z.1,⟨19,iI (M.masks N b r).length,0, .tt⟩,sv 18 (slv am (M.masks N b r).length cm),sv 7 (slv z.2.1 (a5c N b r z.1).length z.2.2),⟨0,pp p,2, .tt⟩,si 1 b,si 2 r]) [3] (λz=>[m9 180 25 z.2.1 (a5c N b r z.1).length z.2.2 (H0 (a5c N b r z.1))]) (λz=>(M.masks N b r).length-z.1) ((0,none,0)) (j7 _) λz hI=>?_;obtain⟨i,ao,co⟩:=z;dsimp only at hI ⊢;refine J.qd (λ_ h1=>?_) λ_ h1=>?_
 ·simp only[d5,i5]at h1;refine J.know (λh' s=>D1 (c:=(am,cm)) (by omega) (s.get (i:=2) rfl)) λhg=>?_;obtain⟨gm,rfl⟩:=hg;obtain⟨mk,hmk⟩:∃mk,(M.masks N b r)[i]? =some mk:=⟨_,c9 h1⟩;refine J.q λ_=>?_;refine J.v (iI mk) rfl rfl (λhg a w he hw=>?_) ?_
  ·exact I2 tk rfl rfl he rfl rfl rfl (hw.get (i:=2) rfl) (by rw[show 0+(i:Int).toNat*1=i from by omega];exact a3h hmk)
  have hsb:=a0A mk;have hlen:=Y6 N b r mk;have hdat:=a2D hN b r mk;refine J.q λb7=>?_;refine J.cb (b6C p N hN hR b r mk) [1] ?_;rintro v As ⟨a1,c1,a2,c2,rfl,rfl⟩;refine⟨_,rfl,trivial,?_⟩;have hfnd:∀j,R.fnd (R.look N b r mk) b r mk j=if R.okAt (R.look N b r mk) j&&(R.enAt (R.look N b r mk) j).role !=3 then some ⟨R.enAt (R.look N b r mk) j,b,r,j,mk,(R.look N b r mk).whole,!((R.look N b r mk).good.getD j false)⟩else none:=λj=>rfl
  have hout:=b4H N b r mk i;have hz:=b4G N b r mk i;have hall:=b6R N b r mk i hmk;have hol:∀j,j<=7->(a2s N b r mk i j).length<=49:=λj hj=>b6Q N b r mk i j (by omega) hj;have hnb:(G.slots mk).toNat<=7:=by omega
  rw[<- hz];generalize hf:R.look N b r mk=f at hlen hdat hfnd hout;generalize hn:(G.slots mk).toNat=n at hlen hall hnb;refine J.q λbbf=>?_;refine J.l (α:=(Nat×Option Nat×Nat)) (λz=>z.1<=n) (λz=>[si 32 z.1,si 31 n,sv 30 (slv a1 n c1),⟨10,pp (bbf 0),7, .tt⟩,si 9 mk,si 20 i,⟨19,iI (M.masks N b r).length,0, .tt⟩,sv 18 (slv (some gm) (M.masks N b r).length cm),sv 7 (slv z.2.1 (a2s N b r mk i z.1).length z.2.2),⟨0,pp p,2, .tt⟩,si 1 b,si 2 r]) [3] (λz=>[m9 180 25 z.2.1 (a2s N b r mk i z.1).length z.2.2 (H0 (a2s N b r mk i z.1))]) (λz=>n-z.1) ((0,ao,co)) (j7 _) λz hI=>?_;obtain⟨j,ao,co⟩:=z;dsimp only at hI ⊢;refine J.qd (λ_ h2=>?_) λ_ h2=>?_
  ·simp only[d5,i5]at h2;refine J.know (λh' s=>D1 (c:=(a1,c1)) (by omega) (s.get (i:=4) rfl)) λhg=>?_;obtain⟨g1,rfl⟩:=hg;refine J.know (λh' s=>D1 (c:=(a2,c2)) (by omega) (s.get (i:=5) rfl)) λhg=>?_;obtain⟨g2,rfl⟩:=hg;obtain⟨s,hs⟩:∃s,f.slots[j]? =some s:=⟨_,c9 (by omega)⟩;obtain⟨gk,hgd⟩:∃g,f.good[j]? =some g:=⟨_,c9 (by omega)⟩;have hgk:f.good.getD j false=gk:=by rw[d7,hgd,j3]
   have hsk:f.slots.getD j Sh.zero=s:=by rw[d7,hs,j3]
   refine J.q λ_=>?_;refine J.v (shV s) rfl rfl (λhg a w he hw=>?_) ?_
   ·exact J8 tk rfl rfl he rfl rfl rfl (hw.get (i:=4) rfl) (by rw[show 0+(j:Int).toNat*23=j*23 from by omega];exact a3g hs) rfl
   obtain⟨bb,hbb⟩:∃x,bbf 0=x:=⟨_,rfl⟩;rw[hbb];refine J.p (.take false 0 (.take true 2 (.take false 3 (.take true 4 (.take true 5 (.take false 6 (.alt false 1 ((.of [30,34,36])) (.alt false 7 ((.of [6,34,36])) .non)))))))) [9] [5,6,7] λ_=>?_;refine J.join (α:=Nat) (λx=>[sv 14 (.bool gk),⟨13,pp x,8, .tt⟩,si 11 j,si 32 j,si 31 n,sv 30 (slv (some g1) n c1),⟨10,pp bb,7, .tt⟩,si 9 mk,si 20 i,⟨19,iI (M.masks N b r).length,0, .tt⟩,sv 18 (slv (some gm) (M.masks N b r).length cm),sv 7 (slv ao (a2s N b r mk i j).length co),⟨0,pp p,2, .tt⟩,si 1 b,si 2 r]) (λx=>[.hp F,B8 p N,m9 3 1 (some gm) (M.masks N b r).length cm (A5 (M.masks N b r)),m9 180 25 ao (a2s N b r mk i j).length co (H0 (a2s N b r mk i j)),m9 212 23 (some g1) n c1 (J1 f.slots),m9 4 1 (some g2) n c2 (a0u f.good), .pt bb 214 (fdL (some g1) c1 (some g2) c2 n f.parity f.whole), .pt x 101 (enL s.en)]) (λhj=>?_) (λx=>?_)
   ·skip
    refine J.qn 5 λ_=>?_;refine J.vT (.bool gk) rfl rfl (λ_ a w he hC=>I2 tk rfl rfl he rfl rfl rfl (hC rfl _ (B6 (i:=5) rfl)) (by rw[show 0+(j:Int).toNat*1=j from by omega];exact a3j hgd)) ?_;refine J.alts ?_ ?_
    ·skip
     refine J.qp (b0u s) [] λ_=>?_;refine J.qn 1 λb7=>?_;refine J.qn 3 λ_=>?_;exact J.goto [0,1,2,3,4,5,6,8] (hj (b7 0)) ⟨rfl,rfl,rfl,rfl,rfl,rfl,rfl,rfl,rfl,rfl,rfl,rfl,rfl,rfl,rfl,trivial⟩ rfl rfl
    ·skip
     refine J.qn 1 λb7=>?_;refine J.qp (b0u s) [] λ_=>?_;refine J.qn 3 λ_=>?_;exact J.goto [0,1,2,3,4,5,6,8] (hj (b7 0)) ⟨rfl,rfl,rfl,rfl,rfl,rfl,rfl,rfl,rfl,rfl,rfl,rfl,rfl,rfl,rfl,trivial⟩ rfl rfl
   refine J.q λ_=>?_;refine J.join (α:=Unit) (λ_=>[sv 14 (.bool (R.okAt f j)),⟨13,pp x,8, .tt⟩,si 11 j,si 32 j,si 31 n,sv 30 (slv (some g1) n c1),⟨10,pp bb,7, .tt⟩,si 9 mk,si 20 i,⟨19,iI (M.masks N b r).length,0, .tt⟩,sv 18 (slv (some gm) (M.masks N b r).length cm),sv 7 (slv ao (a2s N b r mk i j).length co),⟨0,pp p,2, .tt⟩,si 1 b,si 2 r]) (λ_=>[.hp F,B8 p N,m9 3 1 (some gm) (M.masks N b r).length cm (A5 (M.masks N b r)),m9 180 25 ao (a2s N b r mk i j).length co (H0 (a2s N b r mk i j)),m9 212 23 (some g1) n c1 (J1 f.slots),m9 4 1 (some g2) n c2 (a0u f.good), .pt bb 214 (fdL (some g1) c1 (some g2) c2 n f.parity f.whole), .pt x 101 (enL (R.enAt f j))]) (λhj=>?_) (λ_=>?_)
   ·refine J.qd (λ_ h3=>?_) λ_ h3=>?_
    ·simp only[i4]at h3;subst h3;refine J.qp (b1v f n (by omega) hlen.1 hlen.2 hdat.1 hdat.2 (some g1) (some g2) c1 c2 j) [4,5] λ_=>?_;rw[show R.okAt f j=R.mendB f j from by rw[R.okAt,hgk];rfl,show R.enAt f j=R.mend f j from by rw[R.enAt,hgk];rfl]at hj;refine J.qn 6 λ_=>?_;exact J.goto [0,1,2,3,4,5,6,7] (hj ()) ⟨rfl,rfl,rfl,rfl,rfl,rfl,rfl,rfl,rfl,rfl,rfl,rfl,rfl,rfl,rfl,trivial⟩ rfl rfl
    ·simp only[A9]at h3;subst h3;rw[show R.okAt f j=true from by rw[R.okAt,hgk];rfl,show R.enAt f j=s.en from by rw[R.enAt,hgk,d8 rfl,hsk]]at hj;refine J.qn 1 λ_=>?_;exact J.goto [0,1,2,3,4,5,6,7] (hj ()) ⟨rfl,rfl,rfl,rfl,rfl,rfl,rfl,rfl,rfl,rfl,rfl,rfl,rfl,rfl,rfl,trivial⟩ rfl rfl
   have hf1:=hfnd j;have ho1:=hout j;have hol1:=hol j (by omega);generalize R.okAt f j=ok at hf1;generalize R.enAt f j=e at hf1;refine J.qd (λ_ h4=>?_) λ_ h4=>?_
   ·rw[d8 h4,hgk]at hf1;rw[hf1,K7]at ho1;have hsl:(a2s N b r mk i j).length+1=(a2s N b r mk i (j+1)).length:=by rw[ho1,f8];rfl
    refine J.pn 14 (.of [0,5,8,12,16,20,24,28,33,36,41,44,48,53,56,60,66,70,72]) [18] [5,6,7] λ_ _=>?_;refine J.vT (.bool gk) rfl rfl (λ_ a w he hC=>I2 tk rfl rfl he rfl rfl rfl (hC rfl _ (B6 (i:=5) rfl)) (by rw[show 0+(j:Int).toNat*1=j from by omega];exact a3j hgd)) ?_;refine J.q λ_=>?_;refine J.ap 3 8 0 ((a3S _ _).symm.trans (congrArg H0 ho1.symm)) λa4 c4=>?_;rw[hsl];refine J.q λ_=>?_;rw[<- hbb];refine J.q λ_=>?_;refine J.n ((j+1,a4,c4)) (by dsimp only;omega) (by dsimp only;omega) [0,1,2,3,4,5,6]
   ·rw[d6 (by rw[h4];exact l9)]at hf1;rw[hf1,Option.toList_none,m6]at ho1;rw[<- ho1];refine J.q λ_=>?_;rw[<- hbb];refine J.q λ_=>?_;refine J.n ((j+1,ao,co)) (by dsimp only;omega) (by dsimp only;omega) [0,1,2,3,4,5,6]
  ·simp only[c8,i5]at h2;obtain rfl:j=n:=by omega
   rw[hall];refine J.q λ_=>?_;refine J.n ((i+1,ao,co)) (by dsimp only;omega) (by dsimp only;omega) [0,1,2,3]
 ·simp only[c8,i5]at h1;obtain rfl:i=(M.masks N b r).length:=by omega
  have:a5c N b r (M.masks N b r).length=R.all N b r:=by unfold a5c R.all;rw[S8]
  rw[this];refine J.qr [1,3] λ_=>?_;exact⟨ao,co,rfl,rfl⟩
theorem b7Q (b r:Int) {mm:Nat}:∀(q:List (Int×Sh)) (N:Nand) (f:Int) (k:Nat),(∀x∈q,x.2.data.length=16)->N.Gd (q.length+k) mm->(R.go b r q N f).1.Gd k mm
 | [],N,f,k,_,h=>by rw[R.go];exact h.less (by simp) (i7 _)
 | (d,s)::q,N,f,k,hd,h=>by
  have h1:(N.progN d b r (O9 s)).Gd (q.length+k) mm:=Nand.Gd.prog (h.less (by rw[l5];omega) (i7 _)) d b r _ (a3E s (hd (d,s) (by simp)));have hd':∀x∈q,x.2.data.length=16:=λx hx=>hd x (by simp[hx]);rw[R.go];split
  ·exact b7Q b r q _ _ k hd' h1
  ·split
   ·exact h1.less (by omega) (i7 _)
   ·exact b7Q b r q _ _ k hd' h1
theorem b7w {b r m:Int} {l:List En} (hd:∀s∈l,s.data.length=16):∀x∈R.job b r m l,x.2.data.length=16:=by
 intro x hx;simp only[R.job,L9,P9,J5,J4]at hx;rcases hx with⟨k,hk,rfl⟩ | rfl
 ·refine hd _ ?_;rw[d7,c9 hk];exact H6 _
 ·exact a2H (λt ht=>by obtain⟨e,he,rfl⟩:=List.mem_map.1 ht;exact hd e he) _ rfl
theorem a1J {b r m:Int} {l:List En} (h:W.parB b r m l=true):(l.length:Int)=G.slots m/\1<=l.length/\l.length<=7/\∀e∈l,W.ok b r m e=true:=by
 simp only[W.parB,f7,d5,D9]at h;have:=a0A m;refine⟨h.1.1,?_,by omega,h.2⟩;cases l with
 | nil=>simp at h
 | cons x l=>simp
theorem a4N {N:Nand} {b r m:Int} {l:List En} {k mm:Nat} (hd:∀s∈l,s.data.length=16) (h:N.Gd (8+k) mm):(R.write N b r m l).1.Gd k mm:=by
 unfold R.write;split
 ·rename_i hB;have:=a1J hB;exact b7Q b r _ _ _ k (b7w hd) (h.less (by rw[a4f];omega) (i7 _))
 ·exact h.less (by omega) (i7 _)
theorem b0K (b r:Int):∀(q:List (Int×Sh)) (N:Nand) (f:Int),N.Like (R.go b r q N f).1
 | [],N,f=>by rw[R.go];exact Nand.Like.refl N
 | (d,s)::q,N,f=>by
  rw[R.go];split
  ·exact(Nand.like_prog _ _ _ _ _).trans (b0K b r q _ _)
  ·split
   ·exact Nand.like_prog _ _ _ _ _
   ·exact(Nand.like_prog _ _ _ _ _).trans (b0K b r q _ _)
theorem b2u (N:Nand) (b r m:Int) (l:List En):N.Like (R.write N b r m l).1:=by
 unfold R.write;split
 ·exact b0K b r _ _ _
 ·exact Nand.Like.refl N
end
section
namespace Tl
def clean (t:Tl) (k:Int) (on:Bool):Tl:=t.set k {t.at_ k with used:=!on}
def hold (t:Tl) (k:Int) (on:Bool):Tl:=t.set k {t.at_ k with held:=on}
def die (t:Tl) (d:Int):Tl:=if t.hasDie d=true then⟨t.d,t.b,t.p,t.l,L.with_ t.dead d⟩else t
end Tl
def En.pad:En:=⟨0,0,3,zeros16⟩
structure Dv where
 N:Nand
 t:Tl
 T:Tb
 op:Int
 row:Int
 mask:Int
 next:Int
namespace Dv
def pick (S:Dv):Int:=a0o (λx y=>Q9 (S.t.wear x) (S.t.wear y)) (o0 (T4 S.t S.T) S.op S.t.b)
def left (S:Dv):Bool:=decide (S.op>=0)&&decide (S.row<S.N.pages)&&decide (G.slots S.mask>0)
def slots (S:Dv):Int:=if S.left then G.slots S.mask else G.slots (S.t.mask S.pick)
def opened (S:Dv):Dv:={S with t:=S.t.clean S.pick false,op:=S.pick,row:=0,mask:=(S.t.clean S.pick false).mask S.pick}
def lose (f:Int) (S:Dv) (d:Nat):Dv:=
 if L.has f d then
  {S with t:=if S.N.deadAt d then S.t.die d else S.t.bad d S.op,mask:=L.without S.mask d}
 else S
def loses (S:Dv) (f:Int):Dv:=(List.range S.N.dies).foldl (lose f) S
def numAt (l:List En) (next:Int) (k:Nat):En:=if k<l.length then {l.getD k En.zero with seq:=next+k}else En.pad
def num (l:List En) (next:Int) (n:Nat):List En:=(List.range n).map (numAt l next)
def puts (T:Tb) (b r m:Int) (es:List En) (k:Nat):Tb:=(List.range k).foldl (λT (i:Nat)=>T.put (es.getD i En.zero) b r i m) T
def fit (S:Dv) (l:List En):Nat:=min l.length (G.slots S.mask).toNat
def es (S:Dv) (l:List En):List En:=num l S.next (G.slots S.mask).toNat
def wr (S:Dv) (l:List En):Nand×Int×Int:=R.write S.N S.op S.row S.mask (S.es l)
def wrote (S:Dv) (l:List En):Dv:={S with N:=(S.wr l).1,row:=S.row+1,next:=S.next+S.fit l}
def write:Nat->Dv->List En->Dv×Int×Int
 | 0,S,_=>(S,0,0)
 | k+1,S,l=>
  if l.length=0 then(S,0,0)
  else if S.left=false/\S.pick<0 then(S,0,11)
  else
   let S1:=if S.left then S else S.opened
   if S1.next>1099511627775-(S1.fit l:Int)+1 then(S1,0,11)
   else if(S1.wr l).2.2=1 then({S1 with next:=S1.next+S1.fit l,N:=(S1.wr l).1},0,1)
   else if(S1.wr l).2.2=0 then({S1.wrote l with T:=puts S1.T S1.op S1.row S1.mask (S1.es l) (S1.fit l)},S1.fit l,0)
   else if(S1.wr l).2.2=9 then(S1.wrote l,0,9)
   else write k ((S1.wrote l).loses (S1.wr l).2.1) l
def fuel:Nat:=160
def pen (S:Dv) (l:List En):Dv×Int×Int:=write fuel S l
def rd (S:Dv) (i:Int):En×Int:=
 let a:=(Tb.look S.T.at_ i).getD AtV.zero
 let x:=R.read S.N a.block a.row a.slot a.mask
 if x.2=9 then(En.zero,9)
 else if x.2≠0\/x.1.lpn≠i\/x.1.seq≠a.seq then(⟨i,0,4,zeros16⟩,0)
 else(x.1,0)
def rds (S:Dv):List Int->List En×Int
 | []=>([],0)
 | i::l=>if(S.rd i).2≠0 then([],(S.rd i).2)else((S.rd i).1::(rds S l).1,(rds S l).2)
def carryGo:Nat->Dv->List Int->Int->Dv×Int×Int
 | 0,S,_,done=>(S,done,0)
 | k+1,S,l,done=>
  if l.length=0 then(S,done,0)
  else
   let r:=S.rds (l.take (max S.slots 1).toNat)
   if r.2≠0 then(S,done,r.2)
   else
    let w:=S.pen r.1
    if w.2.2≠0 then(w.1,done+w.2.1,w.2.2)
    else carryGo k w.1 (l.drop w.2.1.toNat) (done+w.2.1)
def carry (S:Dv) (b most:Int):Dv×Int×Int:=
 let l:=(S.T.ins b).take (max most 0).toNat
 carryGo l.length S l 0
def eraseD (b m:Int) (x:Nand×Tl×Int) (d:Nat):Nand×Tl×Int:=
 if x.2.2≠0 then x
 else if L.has m d=false then x
 else
  let e:=x.1.eraseE d b
  (x.1.eraseN d b,if e=0 then x.2.1 else if e=9 then x.2.1 else if e=8 then x.2.1.die d else x.2.1.bad d b,if e=9 then 9 else 0)
def eraseB (N:Nand) (t:Tl) (b:Int):Nand×Tl×Int:=(List.range N.dies).foldl (eraseD b (t.mask b)) (N,t,0)
def wores (N:Nand) (t:Tl) (b:Int):Tl:=(List.range N.dies).foldl (λt (d:Nat)=>t.wore b (N.wornAt d b)) t
def eraseT (N:Nand) (t:Tl) (b:Int):Tl:=if(wores N t b).usable b then(wores N t b).clean b true else wores N t b
def erase (N:Nand) (t:Tl) (b:Int):Nand×Tl×Int:=
 let x:=eraseB N t b
 if x.2.2≠0 then x else(x.1,eraseT x.1 x.2.1 b,0)
def clearGo:List Int->Nand->Tl->Nand×Tl×Int
 | [],N,t=>(N,t,0)
 | b::l,N,t=>
  let x:=erase N t b
  if x.2.2≠0 then x else clearGo l x.1 x.2.1
def clearX (N:Nand) (t:Tl) (T:Tb) (o:Int):Nand×Tl×Int:=clearGo (o0 (C3 t T) o t.b) N t
def clear(S:Dv):Dv×Int:=
 let x:=clearX S.N S.t S.T S.op
 ({S with N:=x.1,t:=x.2.1},x.2.2)
def victim (S:Dv):Int:=a0o (λx y=>orI [Q9 (S.T.count x) (S.T.count y),Q9 (S.t.wear x) (S.t.wear y)]) (o0 (O2 S.t S.T) S.op S.t.b)
def free (S:Dv):Nat:=(o0 (T4 S.t S.T) S.op S.t.b).length
def roomGo:Nat->Dv->Dv×Int
 | 0,S=>(S,0)
 | k+1,S=>
  if(S.free:Int)>4 then(S,0)
  else if S.victim<0\/S.T.count S.victim>=S.t.p*G.slots (S.t.mask S.victim)then(S,0)
  else
   let c:=S.carry S.victim (S.T.count S.victim)
   if c.2.2≠0 then(c.1,c.2.2)
   else
    let d:=c.1.clear
    if d.2≠0 then d else roomGo k d.1
def room (S:Dv):Dv×Int:=if S.clear.2≠0 then S.clear else roomGo S.t.b S.clear.1
def hurts (S:Dv):List Int:=o0 (a1I S.t S.T) (-1) S.t.b
def leftN (S:Dv):Int:=(S.hurts.map S.T.count).sum
def seeDead (N:Nand) (t:Tl):Tl:=(List.range t.d).foldl (λt (d:Nat)=>if N.deadAt d then t.die d else t) t
def seen (S:Dv):Dv:={S with t:=seeDead S.N S.t}
def step (S:Dv) (most:Int):Dv×Int×Int:=
 let r:=S.seen.room
 if r.2≠0 then(r.1,0,r.2)
 else match r.1.hurts with
  | []=>(r.1,0,0)
  | b::_=>r.1.carry b most
def tornGo:Nat->Dv->List En->Dv×Int
 | 0,S,_=>(S,0)
 | k+1,S,l=>
  if l.length=0 then(S,0)
  else
   let r:=S.room
   if r.2≠0 then r
   else
    let w:=r.1.pen l
    if w.2.2≠0 then(w.1,w.2.2)else tornGo k w.1 (l.drop w.2.1.toNat)
def torn (S:Dv) (l:List En):Dv×Int:=tornGo l.length S l
end Dv
end
section
theorem a9p (f:Int->Int->Int):∀(l:List Int) (m:Int),a1x f l m=m\/a1x f l m∈l
 | [],m=> .inl rfl
 | x::l,m=>by
  rw[a1x];rcases a9p f l (if f x m<0 then x else m)with h | h
  ·rw[h];split
   ·exact .inr (H1 ..)
   ·exact .inl rfl
  ·exact .inr (E8 _ h)
theorem a6r (f:Int->Int->Int) {l:List Int} (h:l≠[]):a0o f l∈l:=by
 cases l with
 | nil=>exact absurd rfl h
 | cons x l=>
  rcases a9p f l x with e | e
  ·show a1x f l x∈_;rw[e];exact H1 ..
  ·exact E8 _ e
theorem mem_pkSome {kind:Int->Bool} {o x:Int} {n:Nat}:x∈o0 kind o n↔0<=x/\x<n/\x≠o/\kind x=true:=by
 simp only[o0,P9,List.mem_filter,J5,f7,E6,H5];constructor
 ·rintro⟨k,⟨h1,h2,h3⟩,rfl⟩;exact⟨by omega,by omega,h2,h3⟩
 ·rintro⟨h1,h2,h3,h4⟩;obtain⟨k,rfl⟩:=f9 h1;exact⟨k,⟨by omega,h3,h4⟩,rfl⟩
theorem a5S (f:Int->Int->Int) (kind:Int->Bool) (o:Int) (n:Nat):(a0o f (o0 kind o n)= -1/\o0 kind o n=[])\/(a0o f (o0 kind o n)∈o0 kind o n/\0<=a0o f (o0 kind o n)):=by
 by_cases h:o0 kind o n=[]
 ·left;rw[h];exact⟨rfl,rfl⟩
 ·right;have:=a6r f h;exact⟨this,(mem_pkSome.1 this).1⟩
structure Tl.Fit (t:Tl) (N:Nand):Prop where
 d:t.d=N.dies
 b:t.b=N.blocks
 p:t.p=N.pages
 len:t.l.length=t.b
namespace Tl
theorem set_len (t:Tl) (k:Int) (s:Sb):(t.set k s).l.length=t.l.length:=by unfold set;split<;>simp
theorem Fit.set {t:Tl} {N:Nand} (h:t.Fit N) (k:Int) (s:Sb):(t.set k s).Fit N:=
 ⟨by rw[set_d];exact h.d,by rw[set_b];exact h.b,by rw[set_p];exact h.p,by rw[set_len,set_b];exact h.len⟩
theorem Fit.wore {t:Tl} {N:Nand} (h:t.Fit N) (k n:Int):(t.wore k n).Fit N:=h.set _ _
theorem Fit.clean {t:Tl} {N:Nand} (h:t.Fit N) (k:Int) (on:Bool):(t.clean k on).Fit N:=h.set _ _
theorem Fit.hold {t:Tl} {N:Nand} (h:t.Fit N) (k:Int) (on:Bool):(t.hold k on).Fit N:=h.set _ _
theorem Fit.bad {t:Tl} {N:Nand} (h:t.Fit N) (d k:Int):(t.bad d k).Fit N:=by unfold Tl.bad;split;(· exact h.set _ _);exact h
theorem Fit.die {t:Tl} {N:Nand} (h:t.Fit N) (d:Int):(t.die d).Fit N:=by unfold Tl.die;split;(· exact⟨h.d,h.b,h.p,h.len⟩);exact h
theorem Fit.like {t:Tl} {N N':Nand} (h:t.Fit N) (l:N.Like N'):t.Fit N':=⟨h.d.trans l.dies.symm,h.b.trans l.blocks.symm,h.p.trans l.pages.symm,h.len⟩
def blanks (t:Tl):Nat:=t.l.countP λs=>!s.used
theorem countP_set {α:Type} (p:α->Bool) (x y:α):∀(l:List α) (k:Nat),l[k]? =some x->(l.set k y).countP p+(if p x then 1 else 0)=l.countP p+(if p y then 1 else 0)
 | [],k,h=>by simp at h
 | z::l,0,h=>by
  simp only[M2,l6]at h;subst h;simp only[a0H,O5];omega
 | z::l,k+1,h=>by
  have:=countP_set p x y l k (by simpa using h);simp only[R6,O5];omega
theorem blanks_same {t:Tl} (hl:t.l.length=t.b) (k:Int) (s:Sb) (h:s.used=(t.at_ k).used):(t.set k s).blanks=t.blanks:=by
 unfold set blanks;split
 ·rename_i hh;have:=countP_set (λs:Sb=>!s.used) (t.at_ k) s t.l k.toNat (get_at hl hh);dsimp only;rw[h]at this;omega
 ·rfl
theorem blanks_bad {t:Tl} (hl:t.l.length=t.b) (d k:Int):(t.bad d k).blanks=t.blanks:=by
 unfold Tl.bad;split
 ·exact blanks_same hl _ _ rfl
 ·rfl
theorem blanks_die (t:Tl) (d:Int):(t.die d).blanks=t.blanks:=by unfold Tl.die;split<;>rfl
theorem blanks_open {t:Tl} (hl:t.l.length=t.b) {k:Int} (h:t.blank k=true):(t.clean k false).blanks+1=t.blanks:=by
 simp only[blank,f7,i4]at h;have:=countP_set (λs:Sb=>!s.used) (t.at_ k) {t.at_ k with used:=!false} t.l k.toNat (get_at hl h.1);unfold clean set blanks;rw[d8 h.1];simp only[h.2]at this;simpa using this
theorem blanks_le {t:Tl} (hl:t.l.length=t.b):t.blanks<=t.b:=by unfold blanks;rw[<- hl];exact List.countP_le_length
end Tl
structure Dv.Ok (S:Dv) (k m:Nat):Prop where
 gd:S.N.Gd k m
 t:S.t.Fit S.N
 T:S.T.Ok
 sl:∀x∈S.T.at_,0<=x.2.slot/\x.2.slot<=1000
 row:0<=S.row/\S.row<=8
 next:1<=S.next/\S.next<=1099511627776
theorem Nand.Ok.bd16 {N:Nand} (h:N.Ok):(3<=N.dies/\N.dies<=6)/\(8<=N.blocks/\N.blocks<=16)/\(2<=N.pages/\N.pages<=8):=by
 have:=h.geo;simp[O8]at this;omega
theorem Tb.put_slot {T:Tb} {e:En} {b r s m:Int} (h:∀x∈T.at_,0<=x.2.slot/\x.2.slot<=1000) (hs:0<=s/\s<=1000):∀x∈(T.put e b r s m).at_,0<=x.2.slot/\x.2.slot<=1000:=by
 have key:∀(l:List (Int×AtV)) (k:Int) (v:AtV),(∀x∈l,0<=x.2.slot/\x.2.slot<=1000)->(0<=v.slot/\v.slot<=1000)->∀x∈Tb.put1 l k v,0<=x.2.slot/\x.2.slot<=1000:=by
  intro l k v
  induction l with
  | nil=>intro _ hv x hx;simp[Tb.put1]at hx;subst hx;exact hv
  | cons y l ih=>
   intro hl hv x hx;simp only[Tb.put1]at hx;split at hx
   ·rcases List.mem_cons.1 hx with rfl | hx
    ·exact hv
    ·exact hl x (E8 _ hx)
   ·rcases List.mem_cons.1 hx with rfl | hx
    ·exact hl _ (H1 ..)
    ·exact ih (λz hz=>hl z (E8 _ hz)) hv x hx
 unfold Tb.put;split
 ·exact key _ _ _ h hs
 ·exact h
namespace Dv
variable {S : Dv} {k m : Nat}
theorem Ok.less (h:S.Ok k m) {k':Nat} (hk:k'<=k):S.Ok k' m:=⟨h.gd.less hk (i7 _),h.t,h.T,h.sl,h.row,h.next⟩
theorem slots_le (x:Int):0<=G.slots x/\G.slots x<=7:=by
 have:=L.count_le x;unfold G.slots;split<;>omega
theorem num_len (l:List En) (next:Int) (n:Nat):(num l next n).length=n:=by simp[num]
theorem es_len (S:Dv) (l:List En):(S.es l).length=(G.slots S.mask).toNat:=num_len _ _ _
theorem getD_data {l:List En} (hd:∀s∈l,s.data.length=16) {i:Nat} (h:i<l.length):(l.getD i En.zero).data.length=16:=by
 rw[d7,c9 h];exact hd _ (H6 _)
theorem num_data {l:List En} (hd:∀s∈l,s.data.length=16) (next:Int) (n:Nat):∀s∈num l next n,s.data.length=16:=by
 intro s hs;simp only[num,P9]at hs;obtain⟨i,_,rfl⟩:=hs;unfold numAt;split
 ·rename_i h;exact getD_data hd h
 ·rfl
theorem fit_le (S:Dv) (l:List En):S.fit l<=7/\S.fit l<=l.length/\(S.fit l:Int)<=G.slots S.mask:=by
 have:=slots_le S.mask;unfold fit;omega
theorem lose_N (f:Int) (S:Dv) (d:Nat):(lose f S d).N=S.N/\(lose f S d).T=S.T/\(lose f S d).op=S.op/\(lose f S d).row=S.row/\(lose f S d).next=S.next:=by
 unfold lose;split<;>exact⟨rfl,rfl,rfl,rfl,rfl⟩
theorem lose_t (f:Int) (S:Dv) (d:Nat) (h:S.t.Fit S.N):(lose f S d).t.Fit S.N/\(lose f S d).t.blanks=S.t.blanks:=by
 unfold lose;split
 ·dsimp only;split
  ·exact⟨h.die _,Tl.blanks_die _ _⟩
  ·exact⟨h.bad _ _,Tl.blanks_bad h.len _ _⟩
 ·exact⟨h,rfl⟩
theorem foldl_lose (f:Int):∀(q:List Nat) (S:Dv),(S.t.Fit S.N)->(q.foldl (lose f) S).N=S.N/\(q.foldl (lose f) S).T=S.T/\(q.foldl (lose f) S).op=S.op/\(q.foldl (lose f) S).row=S.row/\(q.foldl (lose f) S).next=S.next/\(q.foldl (lose f) S).t.Fit S.N/\(q.foldl (lose f) S).t.blanks=S.t.blanks
 | [],S,h=>⟨rfl,rfl,rfl,rfl,rfl,h,rfl⟩
 | d::q,S,h=>by
  obtain⟨e1,e2,e3,e4,e5⟩:=lose_N f S d;have ht:=lose_t f S d h;have ih:=foldl_lose f q (lose f S d) (by rw[e1];exact ht.1);rw[A6];rw[e1,e2,e3,e4,e5,ht.2]at ih;exact ih
theorem loses_same (S:Dv) (f:Int) (h:S.t.Fit S.N):(S.loses f).N=S.N/\(S.loses f).T=S.T/\(S.loses f).op=S.op/\(S.loses f).row=S.row/\(S.loses f).next=S.next/\(S.loses f).t.Fit S.N/\(S.loses f).t.blanks=S.t.blanks:=foldl_lose f _ S h
theorem Ok.loses (h:S.Ok k m) (f:Int):(S.loses f).Ok k m:=by
 obtain⟨e1,e2,_,e4,e5,e6,_⟩:=loses_same S f h.t;exact⟨by rw[e1];exact h.gd,by rw[e1];exact e6,by rw[e2];exact h.T,by rw[e2];exact h.sl,by rw[e4];exact h.row,by rw[e5];exact h.next⟩
theorem pick_spec (S:Dv):S.pick= -1\/(0<=S.pick/\S.pick<S.t.b/\S.pick≠S.op/\T4 S.t S.T S.pick=true):=by
 rcases a5S (λx y=>Q9 (S.t.wear x) (S.t.wear y)) (T4 S.t S.T) S.op S.t.b with h | h
 ·exact .inl h.1
 ·exact .inr (mem_pkSome.1 h.1)
theorem pick_blank {S:Dv} (h:¬S.pick<0):S.t.blank S.pick=true:=by
 rcases S.pick_spec with e | ⟨_,_,_,e⟩
 ·omega
 ·simp only[T4,f7]at e;exact e.1.2
theorem Ok.opened (h:S.Ok k m):S.opened.Ok k m:=⟨h.gd,h.t.clean _ _,h.T,h.sl,by show(0:Int)<=0/\(0:Int)<=8;omega,h.next⟩
theorem puts_ok {T:Tb} (h:T.Ok) (hs:∀x∈T.at_,0<=x.2.slot/\x.2.slot<=1000) (b r mk:Int) (es:List En):∀n,n<=1000->(puts T b r mk es n).Ok/\(∀x∈(puts T b r mk es n).at_,0<=x.2.slot/\x.2.slot<=1000)/\(puts T b r mk es n).logical=T.logical
 | 0,_=>⟨h,hs,rfl⟩
 | n+1,hn=>by
  have ih:=puts_ok h hs b r mk es n (by omega);have e:puts T b r mk es (n+1)=(puts T b r mk es n).put (es.getD n En.zero) b r (n:Nat) mk:=by unfold puts;rw[s9,B3];rfl
  rw[e];exact⟨ih.1.put _ _ _ _ _,Tb.put_slot ih.2.1 (by omega),by rw[Tb.put_logical];exact ih.2.2⟩
theorem puts_succ (T:Tb) (b r mk:Int) (es:List En) (n:Nat):puts T b r mk es (n+1)=(puts T b r mk es n).put (es.getD n En.zero) b r (n:Nat) mk:=by unfold puts;rw[s9,B3];rfl
def mu (S:Dv):Nat:=9*S.t.blanks+(if S.left then(S.N.pages-S.row).toNat else 0)
theorem mu_le (h:S.Ok k m):S.mu<=152:=by
 have h1:=Tl.blanks_le h.t.len;have h2:=h.gd.ok.bd16;have h3:=h.t.b;have h4:=h.row;unfold mu;split<;>omega
theorem left_spec (h:S.left=true):0<=S.op/\S.row<S.N.pages/\0<G.slots S.mask:=by
 simp only[left,f7,d5]at h;omega
def at1 (S:Dv):Dv:=if S.left then S else S.opened
theorem Ok.at1 (h:S.Ok k m):S.at1.Ok k m:=by unfold Dv.at1;split;(· exact h);exact h.opened
theorem at1_like (S:Dv):S.at1.N=S.N/\S.at1.T=S.T/\S.at1.next=S.next:=by unfold at1;split<;>exact⟨rfl,rfl,rfl⟩
theorem usable_slots {t:Tl} {b:Int} (h:t.usable b=true):0<G.slots (t.mask b):=by simpa[Tl.usable]using h
theorem mask_clean {t:Tl} (hl:t.l.length=t.b) (k:Int) (on:Bool) (j:Int):(t.clean k on).mask j=t.mask j:=by
 unfold Tl.clean Tl.mask Tl.alive;have e1:(t.set k {t.at_ k with used:=!on}).has j=t.has j:=by unfold Tl.has;rw[Tl.set_b]
 rw[e1,Tl.set_d,Tl.set_dead];split
 ·rename_i hj;congr 1;unfold Tl.set;split
  ·rename_i hk;unfold Tl.at_;dsimp only
   by_cases e:k.toNat=j.toNat
   ·simp only[Tl.has,f7,d5]at hk hj;have:k=j:=by omega
    subst this;rw[d7,List.getElem?_set_self (by omega)];rfl
   ·rw[d7,List.getElem?_set_ne e,<- d7]
  ·rfl
 ·rfl
theorem at1_left (h:S.Ok k m) (h0:¬(S.left=false/\S.pick<0)):S.at1.left=true/\S.at1.op<S.N.blocks\/S.left=true:=by
 unfold at1;cases hl:S.left with
 | true=>exact .inr rfl
 | false=>
  left;rw[d6 l9];have hp:¬S.pick<0:=λe=>h0 ⟨hl,e⟩;rcases S.pick_spec with e | ⟨e1,e2,_,e4⟩
  ·omega
  ·have hb:=h.gd.ok.bd16;have htb:=h.t.b;simp only[T4,f7]at e4;have hu:=usable_slots e4.1.1;refine⟨?_,by show S.pick<_;omega⟩;have g1:S.opened.op=S.pick:=rfl;have g2:S.opened.row=0:=rfl;have g3:S.opened.mask=S.t.mask S.pick:=mask_clean h.t.len _ _ _;have g4:S.opened.N=S.N:=rfl;unfold left;rw[g1,g2,g3,g4,i6 (by omega),i6 (by omega),i6 (by omega)];rfl
theorem at1_left' (h:S.Ok k m) (h0:¬(S.left=false/\S.pick<0)):S.at1.left=true:=by
 rcases at1_left h h0 with e | e
 ·exact e.1
 ·unfold at1;rw[d8 e];exact e
theorem mu_at1 (h:S.Ok k m) (h0:¬(S.left=false/\S.pick<0)):S.at1.mu<=S.mu:=by
 unfold at1;cases hl:S.left with
 | true=>rw[d8 rfl];exact i7 _
 | false=>
  rw[d6 l9];have hp:¬S.pick<0:=λe=>h0 ⟨hl,e⟩;have h1:=Tl.blanks_open h.t.len (pick_blank hp);have h2:=h.gd.ok.bd16;have e1:S.opened.t.blanks=(S.t.clean S.pick false).blanks:=rfl;have e2:S.opened.N.pages=S.N.pages:=rfl;have e3:S.opened.row=0:=rfl;unfold mu;rw[e1,e2,e3,hl];split<;>simp only[H2,W0]<;>omega
theorem wr_gd (h:S.Ok (8+k) m) {l:List En} (hd:∀s∈l,s.data.length=16):(S.wr l).1.Gd k m:=a4N (num_data hd _ _) h.gd
theorem wr_like (S:Dv) (l:List En):S.N.Like (S.wr l).1:=b2u _ _ _ _ _
theorem Ok.wrote (h:S.Ok (8+k) m) {l:List En} (hd:∀s∈l,s.data.length=16) (hr:S.row<S.N.pages) (hn:¬S.next>1099511627775-(S.fit l:Int)+1):(S.wrote l).Ok k m:=by
 have h1:=h.gd.ok.bd16;have h2:=h.row;have h3:=h.next;exact⟨wr_gd h hd,h.t.like (S.wr_like l),h.T,h.sl,by show 0<=S.row+1/\S.row+1<=8;omega,by show 1<=S.next+(S.fit l:Int)/\S.next+(S.fit l:Int)<=1099511627776;omega⟩
theorem mu_wrote (h:S.Ok (8+k) m) (hl:S.left=true) (l:List En) (f:Int):((S.wrote l).loses f).mu<S.mu:=by
 have ht:(S.wrote l).t.Fit (S.wrote l).N:=h.t.like (S.wr_like l);obtain⟨e1,_,_,e4,_,_,e7⟩:=loses_same (S.wrote l) f ht;have hs:=left_spec hl;have hp:=(S.wr_like l).pages;unfold mu;rw[e7,e1,e4,hl];have e8:(S.wrote l).row=S.row+1:=rfl;have e9:(S.wrote l).N.pages=S.N.pages:=hp;have e10:(S.wrote l).t=S.t:=rfl;rw[e8,e9,e10,d8 rfl];split<;>omega
theorem write_succ (f:Nat) (S:Dv) (l:List En):write (f+1) S l=(if l.length=0 then(S,0,0)else if S.left=false/\S.pick<0 then(S,0,11)else if S.at1.next>1099511627775-(S.at1.fit l:Int)+1 then(S.at1,0,11)else if(S.at1.wr l).2.2=1 then({S.at1 with next:=S.at1.next+S.at1.fit l,N:=(S.at1.wr l).1},0,1)else if(S.at1.wr l).2.2=0 then({S.at1.wrote l with T:=puts S.at1.T S.at1.op S.at1.row S.at1.mask (S.at1.es l) (S.at1.fit l)},S.at1.fit l,0)else if(S.at1.wr l).2.2=9 then(S.at1.wrote l,0,9)else write f ((S.at1.wrote l).loses (S.at1.wr l).2.1) l:Dv×Int×Int):=rfl
theorem write_keep:∀(f:Nat) (S:Dv) (l:List En) (k:Nat),S.Ok (8*f+k) m->(∀s∈l,s.data.length=16)->(write f S l).1.Ok k m/\S.N.Like (write f S l).1.N/\(write f S l).1.T.logical=S.T.logical
 | 0,S,l,k,h,hd=>⟨h.less (by omega),Nand.Like.refl _,rfl⟩
 | f+1,S,l,k,h,hd=>by
  rw[write_succ];have ha:=at1_like S;have h1:S.at1.Ok (8+(8*f+k)) m:=h.at1.less (by omega);split
  ·exact⟨h.less (by omega),Nand.Like.refl _,rfl⟩
  split
  ·exact⟨h.less (by omega),Nand.Like.refl _,rfl⟩
  rename_i h0;split
  ·exact⟨h1.less (by omega),by rw[ha.1];exact Nand.Like.refl _,by rw[ha.2.1]⟩
  rename_i hn;have hlf:=at1_left' h h0;have hs:=left_spec hlf;have hw:=h1.wrote hd hs.2.1 hn;have hlk:S.N.Like (S.at1.wr l).1:=by have:=S.at1.wr_like l;rw[ha.1]at this;exact this
  split
  ·exact⟨⟨hw.gd.less (by omega) (i7 _),hw.t,h1.T,h1.sl,h1.row,hw.next⟩,hlk,by show S.at1.T.logical=_;rw[ha.2.1]⟩
  split
  ·have hp:=puts_ok h1.T h1.sl S.at1.op S.at1.row S.at1.mask (S.at1.es l) (S.at1.fit l) (by have:=fit_le S.at1 l;omega);exact⟨⟨hw.gd.less (by omega) (i7 _),hw.t,hp.1,hp.2.1,hw.row,hw.next⟩,hlk,by show(puts _ _ _ _ _ _).logical=_;rw[hp.2.2,ha.2.1]⟩
  split
  ·exact⟨hw.less (by omega),hlk,by show S.at1.T.logical=_;rw[ha.2.1]⟩
  ·have ho:=hw.loses (S.at1.wr l).2.1;have hsm:=loses_same (S.at1.wrote l) (S.at1.wr l).2.1 hw.t;have ih:=write_keep f _ l k ho hd;refine⟨ih.1,?_,?_⟩
   ·have:=ih.2.1;rw[hsm.1]at this;exact hlk.trans this
   ·rw[ih.2.2,hsm.2.1];show S.at1.T.logical=_;rw[ha.2.1]
theorem pen_keep (h:S.Ok (8*fuel+k) m) {l:List En} (hd:∀s∈l,s.data.length=16):(S.pen l).1.Ok k m/\S.N.Like (S.pen l).1.N/\(S.pen l).1.T.logical=S.T.logical:=write_keep fuel S l k h hd
theorem write_took:∀(f:Nat) (S:Dv) (l:List En) (k:Nat),S.Ok (8*f+k) m->(∀s∈l,s.data.length=16)->S.mu<f->(write f S l).2.2=0->l.length≠0->1<=(write f S l).2.1/\(write f S l).2.1<=l.length/\(write f S l).2.1<=7
 | 0,S,l,k,h,hd,hm,h0,hl=>by omega
 | f+1,S,l,k,h,hd,hm,h0,hl=>by
  rw[write_succ]at h0 ⊢;rw[d6 hl]at h0 ⊢;split at h0
  ·cases h0
  rename_i hp;rw[d6 hp];split at h0
  ·cases h0
  rename_i hn;rw[d6 hn];have hlf:=at1_left' h hp;have hs:=left_spec hlf;have h1:S.at1.Ok (8+(8*f+k)) m:=h.at1.less (by omega);split at h0
  ·cases h0
  rename_i e1;rw[d6 e1];split at h0
  ·rename_i e2;rw[d8 e2];have:=fit_le S.at1 l;have h2:1<=S.at1.fit l:=by unfold fit;omega
   dsimp only;omega
  rename_i e2;rw[d6 e2];split at h0
  ·cases h0
  rename_i e3;rw[d6 e3];have h3:=mu_at1 h hp;have h4:=mu_wrote h1 hlf l (S.at1.wr l).2.1;have hw:=h1.wrote hd hs.2.1 hn;exact write_took f _ l k (hw.loses _) hd (by omega) h0 hl
theorem pen_took (h:S.Ok (8*fuel+k) m) {l:List En} (hd:∀s∈l,s.data.length=16) (h0:(S.pen l).2.2=0) (hl:l.length≠0):1<=(S.pen l).2.1/\(S.pen l).2.1<=l.length/\(S.pen l).2.1<=7:=
 write_took fuel S l k h hd (by have:=mu_le h;unfold fuel;omega) h0 hl
end Dv
end
section
namespace Bt
theorem byte_bit:∀b0 b1 b2 b3 b4 b5 b6 b7:Bool,∀i:Fin 8,(b0.toNat*128+b1.toNat*64+b2.toNat*32+b3.toNat*16+b4.toNat*8+b5.toNat*4+b6.toNat*2+b7.toNat).testBit (7-i.1)=[b0,b1,b2,b3,b4,b5,b6,b7].getD i.1 false:=by decide+kernel
theorem byte_bit2 (b0 b1 b2 b3 b4 b5 b6 b7:Bool) (i:Nat) (hi:i<8):(b0.toNat*128+b1.toNat*64+b2.toNat*32+b3.toNat*16+b4.toNat*8+b5.toNat*4+b6.toNat*2+b7.toNat).testBit (7-i)=[b0,b1,b2,b3,b4,b5,b6,b7].getD i false:=byte_bit b0 b1 b2 b3 b4 b5 b6 b7 ⟨i,hi⟩
theorem byteAt_bit (l:List Bool) (q i:Nat) (hi:i<8):(byteAt l q).testBit (7-i)=l.getD (q+i) false:=by
 unfold byteAt;rw[byte_bit2 _ _ _ _ _ _ _ _ i hi]
 match i,hi with
 | 0,_=>rfl
 | 1,_=>rfl
 | 2,_=>rfl
 | 3,_=>rfl
 | 4,_=>rfl
 | 5,_=>rfl
 | 6,_=>rfl
 | 7,_=>rfl
theorem bitAt_pack (l:List Bool) (j:Nat) (h:j<l.length):bitAt (pack l) j=l.getD j false:=by
 have h1:(pack l).getD (j/8) 0=UInt8.ofNat (byteAt l (8*(j/8))):=by
  rw[d7,pack_get l (j/8) (by omega)];rfl
 have h2:(UInt8.ofNat (byteAt l (8*(j/8)))).toNat=byteAt l (8*(j/8)):=by
  rw[a5B,K4 (byteAt_lt l _)]
 unfold bitAt;rw[h1,h2,byteAt_bit l _ _ (a3t _ (by omega)),a4r]
theorem numAt_eq (b:List UInt8) (k w u:Nat) (h:∀i<w,bitAt b (k+i)=u.testBit (w-1-i)):∀v,v<=w->numAt b k v=u/2^(w-v) % 2^v
 | 0,_=>by simp[numAt,Nat.mod_one]
 | v+1,hv=>by
  rw[numAt,numAt_eq b k w u h v (by omega),h v (by omega),a2O];have e1:w-v=(w-1-v)+1:=by omega
  have e2:w-(v+1)=w-1-v:=by omega
  rw[e1,e2,Nat.pow_succ,<- Nat.div_div_eq_div_mul,Nat.pow_succ 2 v,O0 (2^v) 2,Nat.mod_mul];generalize u/2^(w-1-v)=x;rcases Nat.mod_two_eq_zero_or_one x with hx | hx
  ·rw[hx];simp
  ·rw[hx];simp[a0G]
theorem numAt_pack (A B:List Bool) (u w k:Nat) (hk:A.length=k):numAt (pack (A++(bits u w++B))) k w=u % 2^w:=by
 have:=numAt_eq (pack (A++(bits u w++B))) k w u (λi hi=>by
  have hb:(bits u w).length=w:=length_bits u w;rw[bitAt_pack _ _ (by simp[hb];omega),d7,B2 (by omega),hk,Nat.add_sub_cancel_left,D8 (by omega)];simp[bits,hi]) w (i7 _)
 rw[this,Z7,Nat.pow_zero,Nat.div_one]
end Bt
namespace S
def hdL (M b r m k c:Nat):List Bool:=Bt.bits M 64++(Bt.bits b 8++(Bt.bits r 8++(Bt.bits m 8++(Bt.bits k 8++Bt.bits c 32))))
theorem hdL_eq (s:Sh) (c:Nat):head s++Bt.bits c 32=hdL (meta_ s.role s.lpn s.seq) s.block.toNat s.row.toNat s.mask.toNat s.kind.toNat c:=by
 unfold head hdL;generalize meta_ s.role s.lpn s.seq=M;simp only[m7]
theorem hd1 (M b r m k c:Nat):Bt.numAt (Bt.pack (hdL M b r m k c)) 0 64=M % 2^64:=Bt.numAt_pack [] _ M 64 0 rfl
theorem hd2 (M b r m k c:Nat):Bt.numAt (Bt.pack (hdL M b r m k c)) 64 8=b % 2^8:=Bt.numAt_pack (Bt.bits M 64) _ b 8 64 (Bt.length_bits _ _)
theorem hd3 (M b r m k c:Nat):Bt.numAt (Bt.pack (hdL M b r m k c)) 72 8=r % 2^8:=by
 have:=Bt.numAt_pack (Bt.bits M 64++Bt.bits b 8) (Bt.bits m 8++(Bt.bits k 8++Bt.bits c 32)) r 8 72 (by rw[f8,Bt.length_bits,Bt.length_bits]);rw[<- this,m7];rfl
theorem hd4 (M b r m k c:Nat):Bt.numAt (Bt.pack (hdL M b r m k c)) 80 8=m % 2^8:=by
 have:=Bt.numAt_pack (Bt.bits M 64++(Bt.bits b 8++Bt.bits r 8)) (Bt.bits k 8++Bt.bits c 32) m 8 80 (by rw[f8,f8,Bt.length_bits,Bt.length_bits,Bt.length_bits]);rw[<- this,m7,m7];rfl
theorem hd5 (M b r m k c:Nat):Bt.numAt (Bt.pack (hdL M b r m k c)) 88 8=k % 2^8:=by
 have:=Bt.numAt_pack (Bt.bits M 64++(Bt.bits b 8++(Bt.bits r 8++Bt.bits m 8))) (Bt.bits c 32) k 8 88 (by rw[f8,f8,f8,Bt.length_bits,Bt.length_bits,Bt.length_bits,Bt.length_bits]);rw[<- this,m7,m7,m7];rfl
theorem meta_back (role lpn seq:Int) (h1:0<=role/\role<=255) (h2:0<=lpn/\lpn<=65535) (h3:0<=seq/\seq<=1099511627775):((meta_ role lpn seq/72057594037927936:Nat):Int)=role/\((meta_ role lpn seq/1099511627776 % 65536:Nat):Int)=lpn/\((meta_ role lpn seq % 1099511627776:Nat):Int)=seq:=by
 unfold meta_;refine⟨?_,?_,?_⟩<;>omega
theorem fields_put (s:Sh) (hd:s.data.length=16) (h:may s=true):fields (put s)=s:=by
 obtain⟨hb,hr,hm,hk⟩:=may_bounds s h;have hn:(0<=s.seq/\s.seq<=1099511627775)/\(0<=s.lpn/\s.lpn<=65535)/\(0<=s.role/\s.role<=255):=by
  simp only[may,numbers,inB,f7,d5]at h;omega
 obtain⟨k1,k2,k3⟩:=meta_back s.role s.lpn s.seq hn.2.2 hn.2.1 hn.1;have hM:=meta_lt s.role s.lpn s.seq;obtain⟨M,hMe⟩:∃M,meta_ s.role s.lpn s.seq=M:=⟨_,rfl⟩;obtain⟨c,hc⟩:∃c,K.sum (s.data++Bt.pack (head s))=c:=⟨_,rfl⟩;have hp:put s=s.data++Bt.pack (hdL M s.block.toNat s.row.toNat s.mask.toNat s.kind.toNat c):=by rw[put,hc,hdL_eq,hMe]
 rw[hMe]at k1 k2 k3 hM;have e1:(put s).take 16=s.data:=by rw[hp,<- hd,List.take_left]
 have e2:(put s).drop 16=Bt.pack (hdL M s.block.toNat s.row.toNat s.mask.toNat s.kind.toNat c):=by rw[hp,<- hd,List.drop_left]
 have m1:=hd1 M s.block.toNat s.row.toNat s.mask.toNat s.kind.toNat c;have m2:=hd2 M s.block.toNat s.row.toNat s.mask.toNat s.kind.toNat c;have m3:=hd3 M s.block.toNat s.row.toNat s.mask.toNat s.kind.toNat c;have m4:=hd4 M s.block.toNat s.row.toNat s.mask.toNat s.kind.toNat c;have m5:=hd5 M s.block.toNat s.row.toNat s.mask.toNat s.kind.toNat c;have f:∀x:Int,0<=x/\x<=255->((x.toNat % 2^8:Nat):Int)=x:=λx hx=>by
  rw[K4 (by omega)];omega
 rw[K4 (show M<2^64 from hM)]at m1;have f1:=f s.block ⟨hb.1,by omega⟩;have f2:=f s.row ⟨hr.1,by omega⟩;have f3:=f s.mask hm;have f4:=f s.kind ⟨by omega,by omega⟩;unfold fields;simp only[e1,e2,m1,m2,m3,m4,m5,k1,k2,k3,f1,f2,f3,f4]
theorem get_put (s:Sh) (hd:s.data.length=16) (h:may s=true):get (put s)=some s:=by
 unfold get;rw[fields_put s hd h,d8 ⟨h,rfl⟩]
theorem getV_put (s:Sh) (hd:s.data.length=16) (h:may s=true):getV (put s)=s/\getE (put s)=0:=by
 unfold getV getE;rw[get_put s hd h];exact⟨rfl,rfl⟩
end S
end
section
open Go
namespace K
theorem xor_cancel {a b c:Nat} (h:a ^^^ c=b ^^^ c):a=b:=by
 have:=congrArg (· ^^^ c) h;simpa[Nat.xor_assoc]using this
theorem round_inj {s t:Nat} (hs:s<4294967296) (ht:t<4294967296) (h:round s=round t):s=t:=by
 have odd:∀a:Nat,a % 2=0->(a ^^^ 1947962583) % 2=1:=λa ha=>by
  have h0:(a ^^^ 1947962583).testBit 0=true:=by
   rw[Nat.testBit_xor,Nat.testBit_zero,Nat.testBit_zero,n8 (by omega)];rfl
  rw[Nat.testBit_zero]at h0;exact a2M h0
 unfold round at h;split at h
 ·split at h
  ·omega
  ·have:=odd (t*2 % 4294967296) (by omega);omega
 ·split at h
  ·have:=odd (s*2 % 4294967296) (by omega);omega
  ·have:=xor_cancel h;omega
theorem rounds_inj:∀(n:Nat) {s t:Nat},s<4294967296->t<4294967296->rounds n s=rounds n t->s=t
 | 0,_,_,_,_,h=>h
 | n+1,s,t,hs,ht,h=>rounds_inj n hs ht (round_inj (rounds_lt n s hs) (rounds_lt n t ht) h)
theorem step_lt0 {s x:Nat} (hs:s<4294967296) (hx:x<256):s ^^^ (x*16777216)<4294967296:=X4 (n:=32) (by omega) (by omega)
theorem step_inj {s t x:Nat} (hs:s<4294967296) (ht:t<4294967296) (hx:x<256) (h:step s x=step t x):s=t:=
 xor_cancel (rounds_inj 8 (step_lt0 hs hx) (step_lt0 ht hx) h)
theorem step_inj2 {s x y:Nat} (hs:s<4294967296) (hx:x<256) (hy:y<256) (h:step s x=step s y):x=y:=by
 have h1:=rounds_inj 8 (step_lt0 hs hx) (step_lt0 hs hy) h;rw[Nat.xor_comm s,Nat.xor_comm s]at h1;have:=xor_cancel h1;omega
theorem fold_inj (l:List UInt8):∀s t:Nat,s<4294967296->t<4294967296->l.foldl (λs x=>step s x.toNat) s=l.foldl (λs x=>step s x.toNat) t->s=t:=by
 induction l with
 | nil=>intro s t _ _ h;exact h
 | cons x l ih=>
  intro s t hs ht h;have hx:x.toNat<256:=x.toNat_lt;rw[A6,A6]at h;exact step_inj hs ht hx (ih _ _ (step_lt _ _ hs hx) (step_lt _ _ ht hx) h)
theorem sum_one (a b:List UInt8) (x y:UInt8) (h:sum (a++x::b)=sum (a++y::b)):x=y:=by
 unfold sum at h;rw[B3,B3,A6,A6]at h;have hs:=foldl_lt a 4294967295 (by omega);have hx:x.toNat<256:=x.toNat_lt;have hy:y.toNat<256:=y.toNat_lt;have:=step_inj2 hs hx hy (fold_inj b _ _ (step_lt _ _ hs hx) (step_lt _ _ hs hy) h);exact UInt8.toNat_inj.1 this
end K
namespace Bt
theorem byteAt_congr {a b:List Bool} {i j:Nat} (h:∀k,k<8->a.getD (i+k) false=b.getD (j+k) false):byteAt a i=byteAt b j:=by
 have h0:=h 0 (by omega);rw[R3,R3]at h0;unfold byteAt;rw[h0,h 1 (by omega),h 2 (by omega),h 3 (by omega),h 4 (by omega),h 5 (by omega),h 6 (by omega),h 7 (by omega)]
theorem pack_append (A C:List Bool) (q:Nat) (hA:A.length=8*q):pack (A++C)=pack A++pack C:=by
 apply x9;intro j;have hl:(pack A).length=q:=by rw[length_pack,hA];omega
 rw[I9,hl]
 by_cases hj:j<(A.length+C.length+7)/8
 ·rw[pack_get _ _ (by rw[f8];exact hj)];split
  ·rename_i h;rw[pack_get _ _ (by rw[hA];omega)];congr 2;refine byteAt_congr λk hk=>?_;simp only[d7];rw[D8 (by omega)]
  ·rename_i h;rw[pack_get _ _ (by omega)];congr 2;refine byteAt_congr λk hk=>?_;simp only[d7];rw[B2 (by omega)];congr 2;omega
 ·rw[j5 (by rw[length_pack,f8];omega),d6 (by omega),j5 (by rw[length_pack];omega)]
theorem bits_inj {u v:Nat} (hu:u<4294967296) (hv:v<4294967296) (h:pack (bits u 32)=pack (bits v 32)):u=v:=by
 have h1:=numAt_pack [] [] u 32 0 rfl;have h2:=numAt_pack [] [] v 32 0 rfl;simp only[R4,m6]at h1 h2;rw[h,h2]at h1;omega
end Bt
namespace S
theorem put_tail (s:Sh) (hs:s.data.length=16):put s=(put s).take 28++Bt.pack (Bt.bits (K.sum ((put s).take 28)) 32):=by
 have hl:(Bt.pack (head s)).length=12:=by rw[Bt.length_pack,length_head]
 have h1:put s=(s.data++Bt.pack (head s))++Bt.pack (Bt.bits (K.sum (s.data++Bt.pack (head s))) 32):=by
  unfold put;rw[Bt.pack_append _ _ 12 (length_head s),m7]
 have h2:(put s).take 28=s.data++Bt.pack (head s):=by
  rw[h1];exact D6 (by rw[f8,hs,hl])
 rw[h2];exact h1
theorem turned_none (s:Sh) (hs:s.data.length=16) (N:Nat) (hN:N<32) (y:UInt8) (hy:y≠(put s).getD N 0):get ((put s).set N y)=none:=by
 have hpl:=length_put s hs;unfold get;rw[d6];rintro⟨_,h2⟩;have hx:(fields ((put s).set N y)).data.length=16:=by
  show(((put s).set N y).take 16).length=16;rw[j9,A7,hpl];rfl
 have t1:=put_tail s hs;have t2:=put_tail (fields ((put s).set N y)) hx;rw[h2]at t2;have hd:∀l:List UInt8,l.length=32->∀t,l=l.take 28++t->l.drop 28=t:=λl hl t h=>by
  have:=congrArg (List.drop 28) h
  rwa [T7 (by rw[j9,hl];rfl)]at this
 have d1:=hd _ hpl _ t1;have d2:=hd _ (by rw[A7];exact hpl) _ t2;have hg:(put s).getD N 0=(put s)[N]'(by omega):=by rw[d7,c9 (by omega),j3]
 rcases O7 N 28 with h | h
 ·have e1:((put s).set N y).drop 28=(put s).drop 28:=by rw[List.drop_set,d8 h]
  rw[e1,d1]at d2;have hsum:=Bt.bits_inj (K.sum_lt _) (K.sum_lt _) d2;have hl28:((put s).take 28).length=28:=by rw[j9,hpl];rfl
  have hN28:N<((put s).take 28).length:=by omega
  have hel:((put s).take 28)[N]=(put s)[N]'(by omega):=a0a;have ha:(put s).take 28=((put s).take 28).take N++(put s)[N]'(by omega)::((put s).take 28).drop (N+1):=by
   rw[<- hel,<- t6 hN28,C9]
  have hb:((put s).set N y).take 28=((put s).take 28).take N++y::((put s).take 28).drop (N+1):=by
   rw[a3U,List.set_eq_take_append_cons_drop,d8 (by omega)]
  rw[hb]at hsum;have hsum:=(congrArg K.sum ha).symm.trans hsum;exact hy ((K.sum_one _ _ _ _ hsum).symm.trans hg.symm)
 ·have e1:((put s).set N y).take 28=(put s).take 28:=by rw[a3U,List.set_eq_of_length_le (by rw[j9,hpl];omega)]
  rw[e1]at t2;have e2:(put s).set N y=put s:=t2.trans t1.symm;have:=congrArg (λl:List UInt8=>l.getD N 0) e2;simp only[d7,z8,hpl,d8 hN,X7,j3]at this;rw[d7]at hy;exact hy this
end S
def b8e (M q:Nat):Bool:=
 let p:=L.at_ M q
 if q<L.count M then
  L.has M p&&decide (0<=p)&&decide (p<6)&&
  ((List.range (L.count M-1)).all λk=>let d:=L.at_ (L.without M p) (k:Nat);L.has M d&&d !=p&&decide (0<=d)&&decide (d<6)&&(List.range k).all λk'=>L.at_ (L.without M p) (k':Nat) !=d)&&
  ((List.range 6).all λd=>!L.has M (d:Nat)||((d:Nat):Int)==p||(List.range (L.count M-1)).any λk=>L.at_ (L.without M p) (k:Nat)==((d:Nat):Int))
 else true
theorem b3d:∀M,M<64->∀q,q<6->b8e M q=true:=by decide+kernel
theorem b5z:∀M,M<64->L.count (M:Nat)<=6:=by decide+kernel
structure DieFacts (m b r:Int):Prop where
 par:L.has m (G.parity m b r)=true/\0<=G.parity m b r/\G.parity m b r<6
 die:∀k:Nat,(k:Int)<G.slots m->L.has m (G.die m b r k)=true/\G.die m b r k≠G.parity m b r/\0<=G.die m b r k/\G.die m b r k<6
 inj:∀k k':Nat,(k:Int)<G.slots m->k'<k->G.die m b r k'≠G.die m b r k
 all:∀d:Nat,d<6->L.has m (d:Nat)=true->(d:Int)=G.parity m b r\/∃k:Nat,(k:Int)<G.slots m/\G.die m b r k=d
theorem b8d (m b r:Int) (h0:0<=m) (h1:m<64) (hc:2<=L.count m) (hb:0<=b) (hr:0<=r):DieFacts m b r:=by
 obtain⟨M,rfl⟩:=f9 h0;have hM:M<64:=by omega
 have hp:G.parity M b r=L.at_ M ((b+r) % L.count (M:Int)):=by unfold G.parity;rw[d6 (by omega)]
 have hs:G.slots M=(L.count (M:Int):Int)-1:=by unfold G.slots;rw[d6 (by omega)]
 have hq:0<=(b+r) % (L.count (M:Int):Int)/\(b+r) % (L.count (M:Int):Int)<L.count (M:Int):=⟨a2c _ (by omega),a0I _ (by omega)⟩;obtain⟨q,hq2⟩:=f9 hq.1;have h6:=b5z M hM;have hchk:=b3d M hM q (by omega);rw[hq2]at hp hq;unfold b8e at hchk;rw[d8 (by omega)]at hchk;simp only[<- hp]at hchk;simp only[f7,d5,D9,J5,E6,H5,j6,a1A,i4,A4]at hchk;obtain⟨⟨⟨⟨c1,c2⟩,c3⟩,c4⟩,c5⟩:=hchk;have hd:∀k:Nat,G.die M b r k=L.at_ (L.without M (G.parity M b r)) (k:Nat):=λk=>by unfold G.die;rw[d6 (by omega)]
 refine⟨⟨c1,c2,c3⟩,λk hk=>?_,λk k' hk hkk=>?_,λd hd6 hh=>?_⟩
 ·obtain⟨⟨⟨⟨a1,a2⟩,a3⟩,a4⟩,_⟩:=c4 k (by omega);rw[hd];exact⟨a1,a2,a3,a4⟩
 ·obtain⟨_,a5⟩:=c4 k (by omega);rw[hd,hd];exact a5 k' hkk
 ·rcases c5 d hd6 with(h | h) | ⟨k,h,h'⟩
  ·rw[hh]at h;cases h
  ·exact .inl h
  ·exact .inr ⟨k,by omega,by rw[hd];exact h'⟩
theorem a4C {m:Int} {D d:Nat} (h:m<2^D) (hh:L.has m (d:Nat)=true):d<D:=by
 obtain⟨h1,h2,h3,h4⟩:=L.has_lt m d hh;obtain⟨M,rfl⟩:=f9 h3;simp only[L.has,f7,j4]at hh;rcases O7 d D with hlt | hge
 ·exact hlt
 ·have hM:M<2^D:=by
   have e:((2^D:Nat):Int)=2^D:=by simp
   omega
  have:M<2^d:=a5C hM (Z8 (by omega) hge);rw[Nat.testBit_lt_two_pow this]at hh;simp at hh
namespace Nand
variable {N : Nand}
theorem geoIn_of {d b p x y z:Int} (h1:0<=x/\x<d) (h2:0<=y/\y<b) (h3:0<=z/\z<p):V8 d b p x y z=true:=by
 simp[V8,h1,h2,h3]
end Nand
theorem a6R {α:Type} (n:Nat) (f:Nat->α) (h:∀k k',k<n->k'<k->f k'≠f k):((List.range n).map f).Nodup:=by
 rw[List.nodup_iff_pairwise_ne,List.pairwise_map,List.pairwise_iff_getElem];intro i j hi hj hij;simp only[List.getElem_range];exact h j i (by simpa using hj) hij
theorem mem_job {b r m:Int} {l:List En} {x:Int×Sh}:x∈R.job b r m l↔(∃k,k<l.length/\x=(G.die m b r (k:Nat),W.sh b r m (l.getD k En.zero)))\/x=(G.parity m b r,W.parS b r m l):=by
 simp only[R.job,L9,P9,J5,J4];constructor
 ·rintro(⟨k,h,rfl⟩ | rfl)
  ·exact .inl ⟨k,h,rfl⟩
  ·exact .inr rfl
 ·rintro(⟨k,h,rfl⟩ | rfl)
  ·exact .inl ⟨k,h,rfl⟩
  ·exact .inr rfl
theorem b5d {b r m:Int} {l:List En} (F:DieFacts m b r) (hl:(l.length:Int)=G.slots m):((R.job b r m l).map (·.1)).Nodup:=by
 rw[R.job,t7,b0d];rw[M4];refine⟨a6R _ _ λk k' hk hkk=>F.inj k k' (by omega) hkk,by simp,λx hx y hy=>?_⟩;simp only[P9,J5]at hx;obtain⟨k,hk,rfl⟩:=hx;simp only[n4,R5,J4]at hy;subst hy;exact(F.die k (by omega)).2.1
theorem b1B {b r m:Int} {l:List En} (hB:W.parB b r m l=true):S.may (W.parS b r m l)=true:=by
 obtain⟨h1,h2,h3,h4⟩:=a1J hB;obtain⟨e,he⟩:∃e,e∈l:=by
  cases l with
  | nil=>simp at h2
  | cons x l=>exact⟨x,by simp⟩
 have hok:=h4 e he;simp only[W.ok,S.may,f7]at hok;have hpl:S.place (W.parS b r m l)=true:=hok.1.1;have hov:∃M:Nat,(W.over (l.map (W.sh b r m))).2=M/\M<18446744073709551616:=a5b (l.map (W.sh b r m)) (zeros16,0) ⟨by decide,by decide⟩;obtain⟨M,hM,hM2⟩:=hov;simp only[S.may,hpl,q9,f7];refine⟨?_,by simp[W.parS]⟩;simp only[S.numbers,S.inB,W.parS,hM,j4,f7,d5];omega
theorem b1C {b r m:Int} {l:List En} (hd:∀s∈l,s.data.length=16):(W.parS b r m l).data.length=16:=
 a2H (λt ht=>by obtain⟨e,he,rfl⟩:=List.mem_map.1 ht;exact hd e he) _ rfl
theorem a3O {α β:Type} {f g:α->Option β}:∀{l:List α},(∀x∈l,f x=g x)->l.filterMap f=l.filterMap g
 | [],_=>rfl
 | x::l,h=>by rw[C7,C7,h x (by simp),a3O λy hy=>h y (by simp[hy])]
namespace Xo
def op (a b:List UInt8×Nat):List UInt8×Nat:=(List.zipWith (· ^^^ ·) a.1 b.1,a.2 ^^^ b.2)
def z:List UInt8×Nat:=(zeros16,0)
def Ok (a:List UInt8×Nat):Prop:=a.1.length=16
def all (l:List (List UInt8×Nat)):List UInt8×Nat:=l.foldl op z
theorem op_ok {a b} (ha:Ok a) (hb:Ok b):Ok (op a b):=by unfold Ok op at*;simp[ha,hb]
theorem z_ok:Ok z:=rfl
theorem op_comm (a b):op a b=op b a:=by
 unfold op;refine Prod.ext ?_ (Nat.xor_comm _ _);apply x9;intro i;simp only[List.getElem?_zipWith];cases a.1[i]? <;>cases b.1[i]? <;>simp[UInt8.xor_comm]
theorem op_assoc (a b c):op (op a b) c=op a (op b c):=by
 unfold op;refine Prod.ext ?_ (Nat.xor_assoc _ _ _);apply x9;intro i;simp only[List.getElem?_zipWith];cases a.1[i]? <;>cases b.1[i]? <;>cases c.1[i]? <;>simp[UInt8.xor_assoc]
theorem z_op {a} (ha:Ok a):op z a=a:=by
 obtain⟨d,n⟩:=a;unfold op z;refine Prod.ext ?_ (Nat.zero_xor n);apply x9;intro i;have hd:d.length=16:=ha;simp only[List.getElem?_zipWith,zeros16,E9]
 by_cases hi:i<16
 ·rw[d8 hi];cases d[i]? <;>simp
 ·rw[d6 hi,j5 (by omega)]
theorem op_self {a} (ha:Ok a):op a a=z:=by
 obtain⟨d,n⟩:=a;unfold op z;refine Prod.ext ?_ (Nat.xor_self n);apply x9;intro i;have hd:d.length=16:=ha;simp only[List.getElem?_zipWith,zeros16,E9]
 by_cases hi:i<16
 ·rw[d8 hi,c9 (by omega)];simp
 ·rw[d6 hi,j5 (by omega)]
theorem fold_ok:∀(l:List (List UInt8×Nat)),(∀x∈l,Ok x)->∀a,Ok a->Ok (l.foldl op a)
 | [],_,_,h=>h
 | x::l,hl,a,h=>fold_ok l (λy hy=>hl y (by simp[hy])) _ (op_ok h (hl x (by simp)))
theorem fold_from:∀(l:List (List UInt8×Nat)),(∀x∈l,Ok x)->∀a,Ok a->l.foldl op a=op a (all l)
 | [],_,a,h=>by unfold all;rw[List.foldl_nil,List.foldl_nil,op_comm,z_op h]
 | x::l,hl,a,h=>by
  have hx:=hl x (by simp);have hl':∀y∈l,Ok y:=λy hy=>hl y (by simp[hy]);unfold all;rw[A6,A6,fold_from l hl' _ (op_ok h hx),z_op hx,fold_from l hl' _ hx,op_assoc]
theorem all_erase:∀(l:List (List UInt8×Nat)) (k:Nat) (x:List UInt8×Nat),(∀x∈l,Ok x)->l[k]? =some x->op (all (l.eraseIdx k)) x=all l
 | [],_,_,_,h=>by simp at h
 | y::l,0,x,hl,h=>by
  simp at h;subst h;have hl':∀z∈l,Ok z:=λz hz=>hl z (by simp[hz]);have hy:=hl y (by simp);rw[List.eraseIdx_cons_zero];show _=(y::l).foldl op z;rw[A6,z_op hy,fold_from l hl' _ hy,op_comm]
 | y::l,k+1,x,hl,h=>by
  have hl':∀z∈l,Ok z:=λz hz=>hl z (by simp[hz]);have hy:=hl y (by simp);have he:∀z∈l.eraseIdx k,Ok z:=λz hz=>hl' z (R2 hz);rw[List.eraseIdx_cons_succ];show op ((y::l.eraseIdx k).foldl op z) x=(y::l).foldl op z;rw[A6,A6,z_op hy,fold_from _ he _ hy,fold_from l hl' _ hy,op_assoc,all_erase l k x hl' (by simpa using h)]
theorem all_back (l:List (List UInt8×Nat)) (k:Nat) (x:List UInt8×Nat) (hl:∀x∈l,Ok x) (h:l[k]? =some x):all (l.eraseIdx k++[all l])=x:=by
 have he:∀z∈l.eraseIdx k,Ok z:=λz hz=>hl z (R2 hz);have hx:=hl x (j8 h);have e:all (l.eraseIdx k++[all l])=op (all (l.eraseIdx k)) (all l):=by unfold all;rw[B3];rfl
 have hok:Ok (all (l.eraseIdx k)):=fold_ok _ he _ z_ok;rw[e,<- all_erase l k x hl h,<- op_assoc,op_self hok,z_op hx]
theorem ovM_nat {a b:Nat} (ha:a<18446744073709551616) (hb:b<18446744073709551616):W.ovM a b=((a ^^^ b:Nat):Int):=by
 unfold W.ovM;have h1:(BitVec.ofInt 64 (a:Int) ^^^ BitVec.ofInt 64 (b:Int)).toNat=a ^^^ b:=by
  rw[BitVec.toNat_xor,a4l,a4l,a5H,a5H,K4 ha,K4 hb]
 rw[h1];have h2:a ^^^ b<18446744073709551616:=X4 (n:=64) ha hb;simp[IntKind.wrap,IntKind.bits,IntKind.signed];omega
def toX (s:Sh):List UInt8×Nat:=(s.data,S.meta_ s.role s.lpn s.seq)
theorem mix_all {x s:List UInt8} (hx:x.length=16) (hs:s.length=16):W.mix x s 16=List.zipWith (· ^^^ ·) x s:=by
 unfold W.mix;rw[B1 (by simp[hx,hs]),E7 (by omega),m6]
theorem over_all:∀(l:List Sh) (a:List UInt8×Nat),(∀s∈l,s.data.length=16)->Ok a->a.2<18446744073709551616->l.foldl W.over1 (a.1,(a.2:Int))=(((l.map toX).foldl op a).1,((((l.map toX).foldl op a).2:Nat):Int))/\((l.map toX).foldl op a).2<18446744073709551616
 | [],a,_,_,h=>⟨rfl,h⟩
 | s::l,a,hl,ha,h=>by
  have hs:=hl s (by simp);have hm:=S.meta_lt s.role s.lpn s.seq;have hlt:a.2 ^^^ S.meta_ s.role s.lpn s.seq<18446744073709551616:=X4 (n:=64) h hm;have e:W.over1 (a.1,(a.2:Int)) s=((op a (toX s)).1,(((op a (toX s)).2:Nat):Int)):=by
   unfold W.over1;rw[ovM_nat h hm,mix_all ha hs];rfl
  rw[A6,n4,A6,e];exact over_all l (op a (toX s)) (λt ht=>hl t (by simp[ht])) (op_ok ha hs) hlt
end Xo
theorem b6P (l:List Sh) (hl:∀s∈l,s.data.length=16):W.over l=((Xo.all (l.map Xo.toX)).1,((Xo.all (l.map Xo.toX)).2:Int))/\(Xo.all (l.map Xo.toX)).2<18446744073709551616:=
 Xo.over_all l Xo.z hl Xo.z_ok (by decide)
theorem b6c {b r m:Int} {l:List En} (hd:∀s∈l,s.data.length=16):Xo.toX (W.parS b r m l)=Xo.all ((l.map (W.sh b r m)).map Xo.toX):=by
 obtain⟨h1,h2⟩:=b6P (l.map (W.sh b r m)) (λs hs=>by obtain⟨e,he,rfl⟩:=List.mem_map.1 hs;exact hd e he);have e2:(W.over (l.map (W.sh b r m))).2.toNat=(Xo.all ((l.map (W.sh b r m)).map Xo.toX)).2:=by rw[h1];rfl
 have e1:(W.over (l.map (W.sh b r m))).1=(Xo.all ((l.map (W.sh b r m)).map Xo.toX)).1:=by rw[h1]
 refine Prod.ext e1 ?_;show S.meta_ ((W.over (l.map (W.sh b r m))).2.toNat/72057594037927936:Nat) ((W.over (l.map (W.sh b r m))).2.toNat/1099511627776 % 65536:Nat) ((W.over (l.map (W.sh b r m))).2.toNat % 1099511627776:Nat)=_;rw[e2];generalize(Xo.all ((l.map (W.sh b r m)).map Xo.toX)).2=x at h2;unfold S.meta_;omega
theorem a9y {α β:Type} (f:α->β):∀(l:List α) (k:Nat),(l.eraseIdx k).map f=(l.map f).eraseIdx k
 | [],_=>rfl
 | _::_,0=>rfl
 | x::l,k+1=>by simp only[List.eraseIdx_cons_succ,n4,a9y f l k]
theorem b8n {b r m:Int} {l:List En} (hd:∀s∈l,s.data.length=16) (hB:W.parB b r m l=true) {k:Nat} {e:En} (hk:l[k]? =some e):W.backS (W.parS b r m l) ((l.map (W.sh b r m)).eraseIdx k)=e:=by
 have hdm:∀s∈l.map (W.sh b r m),s.data.length=16:=λs hs=>by obtain⟨e,he,rfl⟩:=List.mem_map.1 hs;exact hd e he
 have hde:∀s∈(l.map (W.sh b r m)).eraseIdx k++[W.parS b r m l],s.data.length=16:=λs hs=>by
  rw[L9,J4]at hs;rcases hs with hs | rfl
  ·exact hdm s (R2 hs)
  ·exact b1C hd
 obtain⟨h1,h2⟩:=b6P _ hde;have hx:Xo.all (((l.map (W.sh b r m)).eraseIdx k++[W.parS b r m l]).map Xo.toX)=Xo.toX (W.sh b r m e):=by
  rw[t7,n4,R5,b6c hd,a9y];exact Xo.all_back _ k _ (λx hx=>by obtain⟨s,hs,rfl⟩:=List.mem_map.1 hx;exact hdm s hs) (by rw[i9,i9,hk];rfl)
 rw[hx]at h1;have hok:=(a1J hB).2.2.2 e (j8 hk);have hmay:S.may (W.sh b r m e)=true:=hok;have hb:=hmay;simp only[S.may,S.numbers,S.inB,f7,d5]at hb;obtain⟨m1,m2,m3⟩:=S.meta_back e.role e.lpn e.seq hb.1.2.2 hb.1.2.1.2 hb.1.2.1.1;unfold W.backS;simp only[h1];obtain⟨el,es,er,ed⟩:=e;exact(En.mk.injEq ..).mpr ⟨m2,m3,m1,rfl⟩
theorem Bt.numAt_congr {a b:List UInt8} {k:Nat}:∀w,(∀i,i<w->Bt.bitAt a (k+i)=Bt.bitAt b (k+i))->Bt.numAt a k w=Bt.numAt b k w
 | 0,_=>rfl
 | w+1,h=>by rw[Bt.numAt,Bt.numAt,Bt.numAt_congr w (λi hi=>h i (by omega)),h w (by omega)]
theorem b2b (K:Nat) (p:List UInt8) (hp:p.length=32) (hK:K<=32) (i:Nat):(Nand.fillP K p).getD i 0=if i<K then p.getD i 0 else if i<32 then 255 else 0:=by
 unfold Nand.fillP;simp only[d7];rw[I9,j9,hp]
 by_cases h:i<K
 ·rw[d8 (by omega),d8 h,C2,d8 h]
 ·rw[d6 (by omega),d6 h]
  by_cases h2:i<32
  ·rw[d8 h2,E9,d8 (by omega)];rfl
  ·rw[d6 h2,E9,d6 (by omega)];rfl
theorem a6g (p:List UInt8) (k i:Nat):(p.drop k).getD i 0=p.getD (k+i) 0:=by
 simp[d7]
theorem a9c (K:Nat) (p:List UInt8) (hp:p.length=32) (hK:K<28):(S.fields (Nand.fillP K p)).kind=255:=by
 show((Bt.numAt ((Nand.fillP K p).drop 16) 88 8:Nat):Int)=255;rw[Bt.numAt_eq _ 88 8 255 (λi hi=>?_) 8 (i7 8)]
 ·rfl
 ·unfold Bt.bitAt;rw[show(88+i)/8=11 from by omega,a6g,b2b K p hp (by omega),d6 (by omega),d8 (by omega),show 7-(88+i) % 8=8-1-i from by omega];rfl
theorem a6l (K:Nat) (p:List UInt8) (hp:p.length=32) (hK:28<=K) (hK2:K<=32):S.fields (Nand.fillP K p)=S.fields p:=by
 have hb:∀j,j<96->Bt.bitAt ((Nand.fillP K p).drop 16) j=Bt.bitAt (p.drop 16) j:=λj hj=>by
  unfold Bt.bitAt;rw[a6g,a6g,b2b K p hp hK2,d8 (by omega)]
 have h16:(Nand.fillP K p).take 16=p.take 16:=by
  unfold Nand.fillP;rw[List.take_append_of_le_length (by rw[j9,hp];omega),a5D,L8 (by omega)]
 unfold S.fields;simp only[h16,Bt.numAt_congr (a:=(Nand.fillP K p).drop 16) (b:=p.drop 16) (k:=0) 64 (λi hi=>hb _ (by omega)),Bt.numAt_congr (a:=(Nand.fillP K p).drop 16) (b:=p.drop 16) (k:=88) 8 (λi hi=>hb _ (by omega)),
  Bt.numAt_congr (a:=(Nand.fillP K p).drop 16) (b:=p.drop 16) (k:=64) 8 (λi hi=>hb _ (by omega)),Bt.numAt_congr (a:=(Nand.fillP K p).drop 16) (b:=p.drop 16) (k:=72) 8 (λi hi=>hb _ (by omega)),Bt.numAt_congr (a:=(Nand.fillP K p).drop 16) (b:=p.drop 16) (k:=80) 8 (λi hi=>hb _ (by omega))]
theorem b5C {b r m:Int} {l:List En} (hd:∀s∈l,s.data.length=16) (hB:W.parB b r m l=true) {k:Nat} {e:En} (hk:l[k]? =some e):W.backB (W.parS b r m l) ((l.map (W.sh b r m)).eraseIdx k)=true/\W.back (W.parS b r m l) ((l.map (W.sh b r m)).eraseIdx k)=e:=by
 obtain⟨p1,p2,p3,p4⟩:=a1J hB;have hb:=b8n hd hB hk;have hkl:k<l.length:=(List.getElem?_eq_some_iff.1 hk).1;have hany:((l.map (W.sh b r m)).eraseIdx k).any (W.alien (W.parS b r m l))=false:=by
  rw[a0c];intro s hs;obtain⟨x,hx,rfl⟩:=List.mem_map.1 (R2 hs);have hmay:S.may (W.sh b r m x)=true:=p4 x hx;unfold W.alien;rw[hmay];simp[W.sh,W.parS]
 have hlen:decide ((((l.map (W.sh b r m)).eraseIdx k).length:Int)=G.slots (W.parS b r m l).mask-1)=true:=by
  refine i6 ?_;rw[List.length_eraseIdx,d8 (by rw[l7];exact hkl),l7];show((l.length-1:Nat):Int)=G.slots m-1;omega
 have h1:W.backB (W.parS b r m l) ((l.map (W.sh b r m)).eraseIdx k)=true:=by
  unfold W.backB;rw[b1B hB,hany,hlen,hb];show(((2:Int)==2&&true&& !false&&true)&&W.ok b r m e)=true;rw[p4 e (j8 hk)];rfl
 refine⟨h1,?_⟩;unfold W.back;rw[d8 h1,hb]
end
section
open Go
def a3W (c:NCell):Prop:=c.lost=true\/c.turned=true/\S.getE c.p≠0
def a1w (s:Sh) (c:NCell):Prop:=a3W c\/c.p=O9 s\/c.turned=true/\((∃n y,n<32/\y≠0/\c.p=Nand.xorAt (O9 s) n y)\/∃K,K<=32/\c.p=Nand.fillP K (O9 s))
structure ShAt (s:Sh) (d b r:Int):Prop where
 len:s.data.length=16
 may:S.may s=true
 blk:s.block=b
 row:s.row=r
 has:L.has s.mask d=true
 par:(G.parity s.mask b r==d)=(s.kind==2)
theorem b3R {N:Nand} {d b r:Int} (h:N.readE d b r≠0):(M.look N d b r).2≠1:=by
 unfold M.look;simp only;rw[d6 h];split
 ·decide
 ·split<;>decide
theorem a4q {N:Nand} {d b r:Int} (h:N.refuses d b r≠0):(M.look N d b r).2≠1:=by
 refine b3R ?_;unfold Nand.readE;rw[d8 h];exact h
theorem a1N {N:Nand} {d b r:Int} (h:N.pageAt d b r=none):(M.look N d b r).2≠1:=by
 refine b3R ?_;unfold Nand.readE;split
 ·assumption
 ·rw[h];decide
theorem b3P {N:Nand} {d b r:Int} {s:Sh} (hs:ShAt s d b r) {t:Bool} (hr:N.refuses d b r=0) (hc:N.pageAt d b r=some ⟨O9 s,false,t⟩):M.look N d b r=(s,1):=by
 have hput:O9 s=S.put s:=by unfold O9;rw[d8 hs.may]
 obtain⟨g1,g2⟩:=S.getV_put s hs.len hs.may;have e1:N.readE d b r=0:=by unfold Nand.readE;rw[d6 (by simp[hr]),hc];rfl
 have e2:N.readV d b r=S.put s:=by unfold Nand.readV;rw[d6 (by simp[hr]),hc];simpa using hput
 unfold M.look;simp only;rw[d8 e1,e2,g1,g2,d6];simp only[M.bad,hs.blk,hs.row,hs.has,hs.par];simp
theorem a5Z {s:Sh} {d b r:Int} (hs:ShAt s d b r):S.getE (O9 s)=0:=by
 have hput:O9 s=S.put s:=by unfold O9;rw[d8 hs.may]
 rw[hput];exact(S.getV_put s hs.len hs.may).2
theorem b1L {N:Nand} {d b r:Int} {c:NCell} (hc:N.pageAt d b r=some c) (hB:a3W c):(M.look N d b r).2≠1:=by
 by_cases hr:N.refuses d b r=0
 ·by_cases hl:c.lost=true
  ·refine b3R ?_;unfold Nand.readE;rw[d6 (by simp[hr]),hc];simp[hl]
  ·have hl:c.lost=false:=by simpa using hl
   rcases hB with h | ⟨_,h⟩
   ·rw[hl]at h;cases h
   ·have e1:N.readE d b r=0:=by unfold Nand.readE;rw[d6 (by simp[hr]),hc];simp[hl]
    have e2:N.readV d b r=c.p:=by unfold Nand.readV;rw[d6 (by simp[hr]),hc];simp[hl]
    unfold M.look;simp only;rw[d8 e1,e2,d8 (.inl h)];decide
 ·exact a4q hr
theorem a2E {N:Nand} {d b r:Int} {s:Sh} (hs:ShAt s d b r) {c:NCell} (hc:N.pageAt d b r=some c) (hC:a1w s c) (h1:(M.look N d b r).2=1):M.look N d b r=(s,1):=by
 by_cases hr:N.refuses d b r=0
 ·have hput:O9 s=S.put s:=by unfold O9;rw[d8 hs.may]
  by_cases hl:c.lost=true
  ·refine absurd h1 (b3R ?_);unfold Nand.readE;rw[d6 (by simp[hr]),hc];simp[hl]
  ·have hl:c.lost=false:=by simpa using hl
   rcases hC with h | h | ⟨_,⟨n,y,hn,hy,h⟩ | ⟨K,hK,h⟩⟩
   ·rcases h with h | ⟨_,h⟩
    ·rw[hl]at h;cases h
    ·refine absurd h1 ?_;have e1:N.readE d b r=0:=by unfold Nand.readE;rw[d6 (by simp[hr]),hc];simp[hl]
     have e2:N.readV d b r=c.p:=by unfold Nand.readV;rw[d6 (by simp[hr]),hc];simp[hl]
     unfold M.look;simp only;rw[d8 e1,e2,d8 (.inl h)];decide
   ·refine b3P (t:=c.turned) hs hr ?_;rw[hc];cases c;simp only at h hl;rw[h,hl]
   ·refine absurd h1 ?_;have e1:N.readE d b r=0:=by unfold Nand.readE;rw[d6 (by simp[hr]),hc];simp[hl]
    have e2:N.readV d b r=(S.put s).set n ((S.put s).getD n 0 ^^^ y):=by unfold Nand.readV;rw[d6 (by simp[hr]),hc];simp[hl,h,hput,Nand.xorAt]
    have hg:=S.turned_none s hs.len n hn ((S.put s).getD n 0 ^^^ y) (λe=>hy (by
     have e2:=congrArg (λz=>(S.put s).getD n 0 ^^^ z) e;simp only[<- UInt8.xor_assoc,UInt8.xor_self,UInt8.zero_xor]at e2;exact e2))
    unfold M.look;simp only;rw[d8 e1,e2,d8]
    ·decide
    ·refine .inl ?_;unfold S.getE;rw[hg];decide
   ·have hpl:(S.put s).length=32:=S.length_put s hs.len;have e1:N.readE d b r=0:=by unfold Nand.readE;rw[d6 (by simp[hr]),hc];simp[hl]
    have e2:N.readV d b r=Nand.fillP K (S.put s):=by unfold Nand.readV;rw[d6 (by simp[hr]),hc];simp[hl,h,hput]
    unfold M.look at h1 ⊢;simp only at h1 ⊢;rw[d8 e1,e2]at h1 ⊢;split at h1
    ·cases h1
    ·rename_i hcond;rw[d6 hcond];have hE:S.getE (Nand.fillP K (S.put s))=0:=by
      by_cases h:S.getE (Nand.fillP K (S.put s))=0
      ·exact h
      ·exact absurd (.inl h) hcond
     have hsome:(S.get (Nand.fillP K (S.put s))).isSome=true:=by
      unfold S.getE at hE;split at hE
      ·assumption
      ·cases hE
     unfold S.get at hsome;split at hsome
     ·rename_i hmay;have hk28:28<=K:=by
       by_cases h:28<=K
       ·exact h
       ·have h1:=a9c K (S.put s) hpl (by omega);have h2:=S.may_bounds _ hmay.1;omega
      have:S.getV (Nand.fillP K (S.put s))=s:=by
       unfold S.getV S.get;rw[d8 hmay,a6l K _ hpl hk28 hK,S.fields_put s hs.len hs.may];rfl
      rw[this]
     ·cases hsome
 ·exact absurd h1 (a4q hr)
theorem a3H {N:Nand} {d b r:Int} {s:Sh} (hs:ShAt s d b r) (hr:N.refuses d b r=0) {c:NCell} (hc:N.pageAt d b r=some c) (hC:a1w s c) (hl:c.lost=false) (hE:S.getE c.p=0):M.look N d b r=(s,1):=by
 refine a2E hs hc hC ?_;have hput:O9 s=S.put s:=by unfold O9;rw[d8 hs.may]
 have e1:N.readE d b r=0:=by unfold Nand.readE;rw[d6 (by simp[hr]),hc];simp[hl]
 have e2:N.readV d b r=c.p:=by unfold Nand.readV;rw[d6 (by simp[hr]),hc];simp[hl]
 rcases hC with h | h | ⟨_,⟨n,y,hn,hy,h⟩ | ⟨K,hK,h⟩⟩
 ·rcases h with h | ⟨_,h⟩
  ·rw[hl]at h;cases h
  ·exact absurd hE h
 ·rw[b3P (t:=c.turned) hs hr (by rw[hc];cases c;simp only at h hl;rw[h,hl])]
 ·exfalso
  have hg:=S.turned_none s hs.len n hn ((S.put s).getD n 0 ^^^ y) (λe=>hy (by
   have e2:=congrArg (λz=>(S.put s).getD n 0 ^^^ z) e;simp only[<- UInt8.xor_assoc,UInt8.xor_self,UInt8.zero_xor]at e2;exact e2))
  rw[h,hput]at hE;unfold S.getE at hE;unfold Nand.xorAt at hE;rw[hg]at hE
  revert hE
  decide
 ·have hpl:(S.put s).length=32:=S.length_put s hs.len;rw[h,hput]at hE;rw[h,hput]at e2;have hsome:(S.get (Nand.fillP K (S.put s))).isSome=true:=by
   unfold S.getE at hE;split at hE
   ·assumption
   ·cases hE
  have hV:S.getV (Nand.fillP K (S.put s))=s:=by
   unfold S.get at hsome;split at hsome
   ·rename_i hmay;have hk28:28<=K:=by
     by_cases h:28<=K
     ·exact h
     ·have h1:=a9c K (S.put s) hpl (by omega);have h2:=S.may_bounds _ hmay.1;omega
    unfold S.getV S.get;rw[d8 hmay,a6l K _ hpl hk28 hK,S.fields_put s hs.len hs.may];rfl
   ·cases hsome
  unfold M.look;simp only;rw[d8 e1,e2,hE,hV,d6];simp only[M.bad,hs.blk,hs.row,hs.has,hs.par];simp
structure RowIs (N:Nand) (b r m:Int) (l:List En):Prop where
 six:N.dies<=6
 blk:0<=b/\b<N.blocks
 row:0<=r/\r<N.pages
 mask:0<=m/\m<2^N.dies
 data:∀s∈l,s.data.length=16
 par:W.parB b r m l=true
namespace RowIs
variable {N : Nand} {b r m : Int} {l : List En}
theorem like {N':Nand} (h:RowIs N b r m l) (k:N.Like N'):RowIs N' b r m l:=⟨by rw[k.dies];exact h.six,by rw[k.blocks];exact h.blk,by rw[k.pages];exact h.row,by rw[k.dies];exact h.mask,h.data,h.par⟩
theorem m64 (h:RowIs N b r m l):m<64:=by
 have:(2:Int)^N.dies<=2^6:=by exact_mod_cast Z8 (n:=2) (by omega) h.six
 have:=h.mask;omega
theorem len (h:RowIs N b r m l):(l.length:Int)=G.slots m:=(a1J h.par).1
theorem count (h:RowIs N b r m l):2<=L.count m:=by
 have:=a1J h.par;unfold G.slots at this;split at this<;>omega
theorem facts (h:RowIs N b r m l):DieFacts m b r:=b8d m b r h.mask.1 h.m64 h.count h.blk.1 h.row.1
theorem nodup (h:RowIs N b r m l):((R.job b r m l).map (·.1)).Nodup:=b5d h.facts h.len
theorem inn (h:RowIs N b r m l):∀x∈R.job b r m l,0<=x.1/\x.1<(N.dies:Int)/\L.has m x.1=true:=by
 have hl:=h.len;intro x hx;rcases mem_job.1 hx with⟨k,hk,rfl⟩ | rfl
 ·have hf:=h.facts.die k (by omega);obtain⟨d,hd⟩:=f9 hf.2.2.1;dsimp only at hf ⊢;rw[hd]at hf ⊢;have:=a4C h.mask.2 hf.1;exact⟨by omega,by omega,hf.1⟩
 ·have hf:=h.facts.par;obtain⟨d,hd⟩:=f9 hf.2.1;dsimp only;rw[hd]at hf ⊢;have:=a4C h.mask.2 hf.1;exact⟨by omega,by omega,hf.1⟩
theorem sh (h:RowIs N b r m l):∀x∈R.job b r m l,ShAt x.2 x.1 b r/\x.2.mask=m:=by
 obtain⟨p1,p2,p3,p4⟩:=a1J h.par;intro x hx;rcases mem_job.1 hx with⟨k,hk,rfl⟩ | rfl
 ·have hmem:l.getD k En.zero∈l:=by rw[d7,c9 hk];exact H6 _
  have hf:=h.facts.die k (by omega);refine⟨⟨h.data _ hmem,p4 _ hmem,rfl,rfl,hf.1,?_⟩,rfl⟩;have:(G.parity m b r==G.die m b r (k:Nat))=false:=by rw[l8];exactλe=>hf.2.1 e.symm
  show(G.parity m b r==G.die m b r (k:Nat))=_;rw[this];rfl
 ·refine⟨⟨b1C h.data,b1B h.par,rfl,rfl,h.facts.par.1,?_⟩,rfl⟩;show(G.parity m b r==G.parity m b r)=_;rw[beq_self_eq_true];rfl
theorem on (h:RowIs N b r m l) {d:Nat} (hd:L.has m (d:Nat)=true):∃x∈R.job b r m l,x.1=(d:Nat):=by
 have hlt:=a4C h.mask.2 hd;have:=h.six;rcases h.facts.all d (by omega) hd with e | ⟨k,hk,e⟩
 ·exact⟨_,mem_job.2 (.inr rfl),e.symm⟩
 ·have:=h.len;exact⟨_,mem_job.2 (.inl ⟨k,by omega,rfl⟩),e⟩
end RowIs
structure PartR (N:Nand) (b r m:Int) (l:List En) (g:Nat->Bool):Prop where
 good:∀k x,(R.job b r m l)[k]? =some x->g k=true->M.look N x.1 b r=(x.2,1)
 bad:∀k x,(R.job b r m l)[k]? =some x->g k=false->(M.look N x.1 b r).2≠1
def b0z (g:Nat->Bool) (n k:Nat):Bool:=(List.range (n+1)).all λi=>i==k||g i
def okG (g:Nat->Bool) (n k:Nat):Bool:=g k||b0z g n k
def b8W (b r m:Int) (l:List En) (g:Nat->Bool):List Fnd:=(List.range l.length).filterMap λk=>if okG g l.length k&&(l.getD k En.zero).role !=3 then some ⟨l.getD k En.zero,b,r,k,m,g l.length,!(g k)⟩else none
namespace PartR
variable {N : Nand} {b r m : Int} {l : List En} {g : Nat → Bool}
theorem one2 (h:PartR N b r m l g) (hm:∀x∈R.job b r m l,x.2.mask=m) {k:Nat} {x:Int×Sh} (hk:(R.job b r m l)[k]? =some x):(R.one N b r m x.1).2=g k/\(g k=true->(R.one N b r m x.1).1=x.2):=by
 unfold R.one;cases hg:g k with
 | true=>
  rw[h.good k x hk hg];refine⟨?_,λ_=>rfl⟩;show((1:Int)==1&&x.2.mask==m)=true;rw[hm x (j8 hk)];simp
 | false=>
  refine⟨?_,λh=>by cases h⟩;have:=h.bad k x hk hg;show((M.look N x.1 b r).2==1&&_)=false;rw[beq_eq_false_iff_ne.2 this];rfl
theorem fd (h:PartR N b r m l g) (hm:∀x∈R.job b r m l,x.2.mask=m) (hl:(l.length:Int)=G.slots m):
  (∀k,k<l.length->(R.look N b r m).good.getD k false=g k/\(g k=true->(R.look N b r m).slots.getD k Sh.zero=W.sh b r m (l.getD k En.zero)))/\
  (R.look N b r m).slots.length=l.length/\(R.look N b r m).whole=g l.length/\(g l.length=true->(R.look N b r m).parity=W.parS b r m l):=by
 have hs:(G.slots m).toNat=l.length:=by omega
 obtain⟨w1,w2⟩:=h.one2 hm (X0 b r m l);refine⟨λk hk=>?_,by rw[(Y6 N b r m).1,hs],w1,w2⟩;obtain⟨o1,o2⟩:=h.one2 hm (a2Y b r m l k hk);constructor
 ·unfold R.look R.ones;simp only[hs,d7,i9,I4 hk,C6,j3];exact o1
 ·intro hg;have:=o2 hg;unfold R.look R.ones;simp only[hs,d7,i9,I4 hk,C6,j3]at this ⊢;exact this
theorem mend (h:PartR N b r m l g) (hR:RowIs N b r m l) {j:Nat} (hj:j<l.length):
  R.mendB (R.look N b r m) j=b0z g l.length j/\(b0z g l.length j=true->R.mend (R.look N b r m) j=l.getD j En.zero):=by
 have hm:∀x∈R.job b r m l,x.2.mask=m:=λx hx=>(hR.sh x hx).2;obtain⟨f1,f2,f3,f4⟩:=h.fd hm hR.len;have hrest:R.rest (R.look N b r m) j=(List.range l.length).all λi=>i==j||g i:=by
  unfold R.rest;rw[f2];rw[a2d,D9,D9];constructor
  ·intro hh i hi;have:=hh i hi
   rwa [(f1 i (List.mem_range.1 hi)).1]at this
  ·intro hh i hi;have:=hh i hi
   rwa [(f1 i (List.mem_range.1 hi)).1]
 have hoth:b0z g l.length j=((List.range l.length).all (λi=>i==j||g i)&&g l.length):=by
  unfold b0z;rw[s9,List.all_append];have:(l.length==j)=false:=by rw[l8];omega
  simp[this]
 cases hO:b0z g l.length j with
 | false=>
  refine⟨?_,λe=>by cases e⟩;unfold R.mendB;rw[hrest,f3,<- hoth,hO];rfl
 | true=>
  rw[hoth,f7]at hO;have hpar:=f4 hO.2;have hall:=List.all_eq_true.1 hO.1;have her:(R.look N b r m).slots.eraseIdx j=(l.map (W.sh b r m)).eraseIdx j:=by
   apply x9;intro i;rw[List.getElem?_eraseIdx,List.getElem?_eraseIdx];have key:∀i,i≠j->(R.look N b r m).slots[i]? =(l.map (W.sh b r m))[i]?:=λi hij=>by
    rcases O7 i l.length with hi | hi
    ·have hgi:g i=true:=by have:=hall i (List.mem_range.2 hi);simpa[hij]using this
     have:=(f1 i hi).2 hgi;rw[d7,c9 (by omega),j3]at this;rw[c9 (by omega),this,i9,d7,c9 hi];rfl
    ·rw[j5 (by omega),j5 (by rw[l7];omega)]
   split
   ·exact key i (by omega)
   ·exact key (i+1) (by omega)
  have he:l[j]? =some (l.getD j En.zero):=by rw[d7,c9 hj,j3]
  obtain⟨b1,b2⟩:=b5C hR.data hR.par he;unfold R.mendB R.mend;rw[hrest,hO.1,f3,hO.2,hpar,her,b1,b2];exact⟨rfl,λ_=>rfl⟩
theorem read (h:PartR N b r m l g) (hR:RowIs N b r m l) (hoff:N.off=false) {i:Nat} (hi:i<l.length):
  R.read N b r (i:Nat) m=if okG g l.length i then(l.getD i En.zero,0)else(En.zero,10):=by
 have hm:∀x∈R.job b r m l,x.2.mask=m:=λx hx=>(hR.sh x hx).2;have hl:=hR.len;obtain⟨f1,f2,f3,f4⟩:=h.fd hm hR.len;obtain⟨m1,m2⟩:=h.mend hR hi;have hf:=hR.facts.die i (by omega);have hg:V8 N.dies N.blocks N.pages 0 b r=true:=by
  have hd:=hR.inn _ (X0 b r m l |>j8);exact Nand.geoIn_of ⟨by omega,by omega⟩ hR.blk hR.row
 unfold R.read;rw[d6 (by rw[hg];simp;omega),hoff,d6 (by decide),j4,(f1 i hi).1,m1];unfold okG;cases hgi:g i with
 | true=>
  rw[d8 rfl,(f1 i hi).2 hgi];rfl
 | false=>
  rw[d6 (by decide),D2];cases ho:b0z g l.length i with
  | true=>rw[d8 rfl,d8 rfl,m2 ho]
  | false=>rw[d6 (by decide),d6 (by decide)]
theorem fnd (h:PartR N b r m l g) (hR:RowIs N b r m l) {k:Nat} (hk:k<l.length):
  R.fnd (R.look N b r m) b r m k=if okG g l.length k&&(l.getD k En.zero).role !=3 then some ⟨l.getD k En.zero,b,r,k,m,g l.length,!(g k)⟩else none:=by
 have hm:∀x∈R.job b r m l,x.2.mask=m:=λx hx=>(hR.sh x hx).2;obtain⟨f1,f2,f3,f4⟩:=h.fd hm hR.len;obtain⟨m1,m2⟩:=h.mend hR hk;unfold R.fnd R.okAt R.enAt;rw[(f1 k hk).1,f3,m1];unfold okG;cases hgi:g k with
 | true=>
  rw[(f1 k hk).2 hgi];rfl
 | false=>
  simp only[D2,H2,W0];cases ho:b0z g l.length k with
  | true=>rw[m2 ho]
  | false=>rfl
theorem allM (h:PartR N b r m l g) (hR:RowIs N b r m l):R.allM N b r m=b8W b r m l g:=by
 have hl:=hR.len;unfold R.allM b8W;rw[(Y6 N b r m).1,show(G.slots m).toNat=l.length from by omega];exact a3O λk hk=>h.fnd hR (List.mem_range.1 hk)
end PartR
def gOf (N:Nand) (b r m:Int) (l:List En) (k:Nat):Bool:=match(R.job b r m l)[k]? with
 | some x=>(M.look N x.1 b r).2==1
 | none=>false
def RowIn (N:Nand) (b r m:Int) (l:List En):Prop:=∀x∈R.job b r m l,∀c,N.pageAt x.1 b r=some c->a1w x.2 c
theorem RowIn.part {N:Nand} {b r m:Int} {l:List En} (h:RowIn N b r m l) (hR:RowIs N b r m l):PartR N b r m l (gOf N b r m l):=by
 refine⟨λk x hk hg=>?_,λk x hk hg=>?_⟩
 ·unfold gOf at hg;rw[hk]at hg;have hx:=j8 hk;have h1:(M.look N x.1 b r).2=1:=by simpa using hg
  cases hp:N.pageAt x.1 b r with
  | none=>exact absurd h1 (a1N hp)
  | some c=>exact a2E (hR.sh x hx).1 hp (h x hx c hp) h1
 ·unfold gOf at hg;rw[hk]at hg;simpa using hg
structure Nand.Lit (N:Nand):Prop where
 off:N.off=false
 cuts:N.cuts=false
namespace Nand
theorem Lit.cutB {N:Nand} (h:N.Lit):N.cutB=false:=by unfold Nand.cutB;rw[h.cuts];rfl
theorem Lit.cutN {N:Nand} (h:N.Lit):N.cutN.Lit:=by
 constructor
 ·show(if N.cutB then true else N.off)=false;rw[h.cutB];exact h.off
 ·show(if N.cutB then false else N.cuts)=false;rw[h.cutB];exact h.cuts
theorem Lit.new (d b p:Nat):(Nand.new d b p).Lit:=⟨rfl,rfl⟩
theorem Lit.prog {N:Nand} (h:N.Lit) (x y z:Int) (pg:List UInt8):(N.progN x y z pg).Lit:=by
 unfold Nand.progN;split
 ·exact h
 ·split
  ·exact⟨h.off,h.cuts⟩
  ·rw[h.cutB];exact⟨h.cutN.off,h.cutN.cuts⟩
theorem Lit.erase {N:Nand} (h:N.Lit) (x y:Int):(N.eraseN x y).Lit:=by
 unfold Nand.eraseN;dsimp only;rw[h.cutB];split
 ·exact h
 ·rw[d6 (by decide)];split
  ·exact⟨h.cutN.off,h.cutN.cuts⟩
  ·exact⟨h.cutN.off,h.cutN.cuts⟩
end Nand
end
end Go.Proofs.YtmafiplddapokaaGreat
