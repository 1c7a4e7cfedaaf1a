/- Helpers. No condition. -/
import Derived.Test.YtpakpgkdpofbhaaGreatC00
import Derived.Test.YtpakpgkdpofbhaaGreatC03
import Derived.Test.YtpakpgkdpofbhaaGreatC04
import Derived.Test.YtpakpgkdpofbhaaGreatC05
import Derived.Test.YtpakpgkdpofbhaaGreatC08
import Derived.Test.YtpakpgkdpofbhaaGreatC09
import Derived.Test.YtpakpgkdpofbhaaGreatC10
set_option maxRecDepth 20000
set_option linter.all false
namespace Go.Proofs.YtpakpgkdpofbhaaGreat
open Go Go.RowKit
structure Fl where
 at_:Int
 kind:Int
 x:Int
 y:Int
 z:Int
 n:Int
 xx:Int
deriving DecidableEq
def dF:Fl:=⟨0,0,0,0,0,0,0⟩
def flC (f:Fl):List Value:=[iI f.at_,iI f.kind,iI f.x,iI f.y,iI f.z,iI f.n,iI f.xx]
def flV (f:Fl):Value:= .agg #[iI f.at_,iI f.kind,iI f.x,iI f.y,iI f.z,iI f.n,iI f.xx]
def x8 (l:List Fl):List Value:=l.flatMap flC
theorem W0 (l:List Fl):(x8 l).length=l.length*7:=by
 induction l with
 | nil=>rfl
 | cons x l ih=>simp only[x8,q9,f9,m6]at ih ⊢;rw[ih,show(flC x).length=7 from rfl];omega
theorem Y4:∀(l:List Fl) (r:List Value) (k:Nat) (x:Fl),l[k]? =some x->((x8 l++r).drop (k*7)).take 7=flC x
 | [],_,_,_,h=>by simp at h
 | y::l,r,0,x,h=>by simp at h;subst h;simp[x8,flC]
 | y::l,r,k+1,x,h=>by
  have:=Y4 l r k x (by simpa using h);rw[show(k+1)*7=7+k*7 from by omega,<- A4,show(x8 (y::l)++r).drop 7=x8 l++r from rfl];exact this
theorem a1d:∀(l:List Fl) (r:List Value) (k:Nat) (x:Fl),k<l.length->(x8 l++r).take (k*7)++flC x++(x8 l++r).drop (k*7+7)=x8 (l.set k x)++r
 | [],_,_,_,h=>by simp at h
 | y::l,r,0,x,h=>by rw[L7,W9];rfl
 | y::l,r,k+1,x,h=>by
  have:=a1d l r k x (by simpa using h);rw[Q8,show x8 (y::l)++r=flC y++(x8 l++r)from by simp[x8],show(k+1)*7=(flC y).length+k*7 from by show _=7+k*7;omega,R2,show(flC y).length+k*7+7=(flC y).length+(k*7+7)from by omega,List.drop_length_add_append,s8,s8,<- s8 (List.take _ _),this];simp[x8]
def a8K (l:List Fl) (j:Nat):List Fl:=(l.set j (l.getD (j-1) dF)).set (j-1) (l.getD j dF)
def a7u (f:Fl->Fl->Int):Nat->List Fl->List Fl
 | 0,l=>l
 | j+1,l=>if f (l.getD (j+1) dF) (l.getD j dF)<0 then a7u f j (a8K l (j+1))else l
def Y9 (f:Fl->Fl->Int) (l:List Fl):Nat->List Fl
 | 0=>l
 | k+1=>a7u f (k+1) (Y9 f l k)
def U5 (f:Fl->Fl->Int) (l:List Fl):List Fl:=Y9 f l (l.length-1)
theorem a4Y (l:List Fl) (j:Nat):(a8K l j).length=l.length:=by simp[a8K]
theorem b4V (l:List Fl) (j:Nat) (h:j+1<l.length):(a8K l (j+1)).Perm l:=by
 induction l generalizing j with
 | nil=>simp at h
 | cons x l ih=>
  cases j with
  | zero=>
   cases l with
   | nil=>simp at h
   | cons y l=>simp only[a8K,Q8,a0r,M7,I8,List.getD_cons_zero,a0a];exact List.Perm.swap _ _ _
  | succ j=>
   have:=ih j (by simpa using h);simp only[a8K,M7,Q8,a0a]at this ⊢;exact this.cons x
theorem a4A (f:Fl->Fl->Int):∀(j:Nat) (l:List Fl),j<l.length->(a7u f j l).Perm l
 | 0,l,_=>a0f _
 | j+1,l,h=>by
  unfold a7u;split
  ·exact(a4A f j _ (by rw[a4Y];omega)).trans (b4V l j h)
  ·exact a0f _
theorem a5h (f:Fl->Fl->Int) (l:List Fl):∀k,k<l.length->(Y9 f l k).Perm l/\(Y9 f l k).length=l.length
 | 0,_=>⟨a0f _,rfl⟩
 | k+1,h=>by
  obtain⟨h1,h2⟩:=a5h f l k (by omega);exact⟨(a4A f (k+1) _ (by omega)).trans h1,by rw[Y9,(a4A f (k+1) _ (by omega)).length_eq,h2]⟩
theorem a3O (f:Fl->Fl->Int) (l:List Fl):(U5 f l).Perm l:=by
 cases l with
 | nil=>exact a0f _
 | cons x l=>exact(a5h f (x::l) _ (by simp)).1
theorem a9e (f:Fl->Fl->Int):∀(j:Nat) (l:List Fl),(a7u f j l).length=l.length
  | 0,l=>rfl
  | j + 1, l => by unfold a7u; split
                   · rw[a9e f j,a4Y]
                   · rfl
theorem a6s (f:Fl->Fl->Int) (l:List Fl):∀k,(Y9 f l k).length=l.length
 | 0=>rfl
 | k+1=>by rw[Y9,a9e,a6s f l k]
theorem c0N (c:Nat) (f:Fl->Fl->Int) (hcal:I6 Tryz.prog c=true) (hf:∀x y,Fn Tryz.prog c [flV x,flV y] [] (Ps (iI (f x y)) []))
  (g n cap:Nat) (l:List Fl) (hl:l.length=n) (hn:n<=4611686018427387904) (r:List Value):FP 290 [.slice (some ⟨g,0,none⟩) n cap,iI 0,iI n,fnV c] [.pt g 57 (x8 l++r)]
  (Ps (.tuple #[]) [.pt g 57 (x8 (U5 f l)++r)]):=by
 refine FE [2,0,0,0] Tryz.func290 λX F hX=>?_;refine J.q λ_=>?_;refine J.l (α:=Nat) (λi=>1<=i/\i<=max 1 n) (λi=>[si 8 i,⟨0, .slice (some ⟨g,0,none⟩) n cap,2, .tt⟩,si 1 0,si 2 n,⟨3,fnV c,0, .tt⟩]) [1] (λi=>[.pt g 57 (x8 (Y9 f l (i-1))++r)]) (λi=>n-i) (1) (⟨by omega,by omega⟩) λi hI=>?_;refine J.qd (λ_ h1=>?_) λ_ h1=>?_
 ·simp only[c9,g6]at h1;refine J.q λ_=>?_;refine J.l (α:=(Nat×List Fl)) (λy=>y.1<=i/\y.2.length=n/\a7u f y.1 y.2=Y9 f l i) (λy=>[si 9 y.1,si 8 i,⟨0, .slice (some ⟨g,0,none⟩) n cap,2, .tt⟩,si 1 0,si 2 n,⟨3,fnV c,0, .tt⟩]) [1] (λy=>[.pt g 57 (x8 y.2++r)]) (λy=>y.1) ((i,Y9 f l (i-1))) (⟨j7 _,by rw[a6s,hl],by obtain⟨k,rfl⟩:∃k,i=k+1:=⟨i-1,by omega⟩;rfl⟩) λy hI=>?_;obtain⟨j,m⟩:=y;dsimp only at hI ⊢;have hget:∀e,e<n->m[e]? =some (m.getD e dF):=λe he=>by rw[d6,d5 (by omega),j5]
  rcases K7 j with h2 | h2
  ·subst h2;refine J.pn 4 (.of [0,4,8,12,16,20,24,28,33,36,40,44,48,53,58,60,64]) [] [1] λ_ _=>?_;rw[show decide (((0:Nat):Int)>0)=false from rfl];refine J.q λ_=>?_;refine J.vT (flV dF) rfl rfl (λhg a w he hC=>by simp[G.on]at hg) ?_;refine J.q λ_=>?_;refine J.vT (flV dF) rfl rfl (λhg a w he hC=>by simp[G.on]at hg) ?_;refine J.q λ_=>?_;refine J.gcase hX rfl rfl rfl ⟨rfl,trivial⟩ (λh=>by cases h) (λ_=>?_);refine J.vT (.bool false) rfl rfl (λhg a w he hC=>by simp[G.on]at hg) ?_;refine J.qF λ_=>?_;have hm:m=Y9 f l (i+1-1):=hI.2.2;rw[hm];refine J.q λ_=>?_;refine J.n (i+1) (⟨by omega,by omega⟩) (by omega) [0,1]
  ·obtain⟨j,rfl⟩:∃k,j=k+1:=⟨j-1,by omega⟩;refine J.pn 4 (.of [0,4,8,12,16,20,24,28,33,36,40,44,48,53,58,60,64]) [] [1] λ_ _=>?_;rw[show decide (((j+1:Nat):Int)>0)=true from j3 (by omega)];refine J.q λ_=>?_;refine J.vT (flV (m.getD (j+1) dF)) rfl rfl (λhg a w he hC=>?_) ?_
   ·exact C7 tk rfl rfl he hg rfl rfl (hC rfl _ (r8 (i:=1) rfl)) (by rw[show 0+((j+1:Nat):Int).toNat*7=(j+1)*7 from by omega];exact Y4 m r _ _ (hget _ (by omega))) rfl
   refine J.q λ_=>?_;refine J.vT (flV (m.getD j dF)) rfl rfl (λhg a w he hC=>?_) ?_
   ·exact C7 tk rfl rfl he hg rfl rfl (hC rfl _ (r8 (i:=1) rfl)) (by rw[show 0+(((j+1:Nat):Int)-1).toNat*7=j*7 from by omega];exact Y4 m r _ _ (hget _ (by omega))) rfl
   refine J.q λ_=>?_;refine J.call hX hcal (hf (m.getD (j+1) dF) (m.getD j dF)) [] 0 rfl rfl rfl rfl (by(repeat' (first | exact Conj.nil | refine Conj.cons ?_ ?_ | omega | exact hq0 | (simpa using hq0) | (exactλh=>h) | exact rfl | (intro hq;have hq0:=hq;try simp only[i9,j8,c9,i7,c8]at hq) | (simp;done) | (simp;omega) | decide))) rfl rfl (λ_=>rfl) ?_;refine cpq ⟨_,rfl,⟨rfl,trivial⟩,?_⟩;refine J.qd (λ_ h3=>?_) λ_ h3=>?_
   ·simp only[o0,c9]at h3;refine J.pq (.take true 0 (.take true 1 (.take true 2 (.take true 3 (.take true 4 (.take true 5 (.take true 6 (.take true 7 (.take true 8 (.take true 10 (.take true 11 (.take true 12 (.alt false 9 ((.of [54,56,62,64,71])) (.alt false 13 ((.of [38,56,62,64,71])) .non)))))))))))))) [16,17] [] λ_ _=>?_;refine J.alts ?_ ?_
    ·refine J.v (flV (m.getD j dF)) rfl rfl (λhg a w he hs=>?_) ?_
     ·exact C7 tk rfl rfl he hg rfl rfl (hs.get (i:=1) rfl) (by rw[show 0+(((j+1:Nat):Int)-1).toNat*7=j*7 from by omega];exact Y4 m r _ _ (hget _ (by omega))) rfl
     refine J.q λ_=>?_;refine J.v (flV (m.getD (j+1) dF)) rfl rfl (λhg a w he hs=>?_) ?_
     ·exact C7 tk rfl rfl he hg rfl rfl (hs.get (i:=1) rfl) (by rw[show 0+((j+1:Nat):Int).toNat*7=(j+1)*7 from by omega];exact Y4 m r _ _ (hget _ (by omega))) rfl
     refine J.q λ_=>?_;refine J.storeN hX tk 1 rfl rfl rfl rfl rfl rfl rfl rfl rfl rfl rfl rfl rfl ?_ (x8 (m.set (j+1) (m.getD j dF))++r) ?_ rfl (λ_=>rfl) ⟨trivial,?_⟩
     ·rw[f9,W0];show 0+((j+1:Nat):Int).toNat*7+7<=_;omega
     ·rw[show 0+((j+1:Nat):Int).toNat*7=(j+1)*7 from by omega];exact a1d m r (j+1) _ (by omega)
     refine J.q λ_=>?_;refine J.storeN hX tk 1 rfl rfl rfl rfl rfl rfl rfl rfl rfl rfl rfl rfl rfl ?_ (x8 (a8K m (j+1))++r) ?_ rfl (λ_=>rfl) ⟨trivial,?_⟩
     ·rw[f9,W0,n8];show 0+(((j+1:Nat):Int)-1).toNat*7+7<=_;omega
     ·rw[show 0+(((j+1:Nat):Int)-1).toNat*7=j*7 from by omega];exact a1d _ r j _ (by rw[n8];omega)
     refine J.q λ_=>?_;rw[show((j+1:Nat):Int)-1=(j:Int)from by omega];refine J.q λ_=>?_;refine J.n ((j,a8K m (j+1))) (⟨by dsimp only;omega,by rw[a4Y];exact hI.2.1,by rw[<- hI.2.2];exact(d8 h3).symm⟩) (by dsimp only;omega) [0,1]
    ·refine J.v (flV (m.getD (j+1) dF)) rfl rfl (λhg a w he hs=>?_) ?_
     ·exact C7 tk rfl rfl he hg rfl rfl (hs.get (i:=1) rfl) (by rw[show 0+((j+1:Nat):Int).toNat*7=(j+1)*7 from by omega];exact Y4 m r _ _ (hget _ (by omega))) rfl
     refine J.q λ_=>?_;refine J.v (flV (m.getD j dF)) rfl rfl (λhg a w he hs=>?_) ?_
     ·exact C7 tk rfl rfl he hg rfl rfl (hs.get (i:=1) rfl) (by rw[show 0+(((j+1:Nat):Int)-1).toNat*7=j*7 from by omega];exact Y4 m r _ _ (hget _ (by omega))) rfl
     refine J.q λ_=>?_;refine J.storeN hX tk 1 rfl rfl rfl rfl rfl rfl rfl rfl rfl rfl rfl rfl rfl ?_ (x8 (m.set (j+1) (m.getD j dF))++r) ?_ rfl (λ_=>rfl) ⟨trivial,?_⟩
     ·rw[f9,W0];show 0+((j+1:Nat):Int).toNat*7+7<=_;omega
     ·rw[show 0+((j+1:Nat):Int).toNat*7=(j+1)*7 from by omega];exact a1d m r (j+1) _ (by omega)
     refine J.q λ_=>?_;refine J.storeN hX tk 1 rfl rfl rfl rfl rfl rfl rfl rfl rfl rfl rfl rfl rfl ?_ (x8 (a8K m (j+1))++r) ?_ rfl (λ_=>rfl) ⟨trivial,?_⟩
     ·rw[f9,W0,n8];show 0+(((j+1:Nat):Int)-1).toNat*7+7<=_;omega
     ·rw[show 0+(((j+1:Nat):Int)-1).toNat*7=j*7 from by omega];exact a1d _ r j _ (by rw[n8];omega)
     refine J.q λ_=>?_;rw[show((j+1:Nat):Int)-1=(j:Int)from by omega];refine J.q λ_=>?_;refine J.n ((j,a8K m (j+1))) (⟨by dsimp only;omega,by rw[a4Y];exact hI.2.1,by rw[<- hI.2.2];exact(d8 h3).symm⟩) (by dsimp only;omega) [0,1]
   ·simp only[o0,c8]at h3;have hm:m=Y9 f l (i+1-1):=by rw[show i+1-1=i from rfl,<- hI.2.2];exact(d7 h3).symm
    rw[hm];refine J.q λ_=>?_;refine J.n (i+1) (⟨by omega,by omega⟩) (by omega) [0,1]
 ·simp only[c8,g6]at h1;have hi:Y9 f l (i-1)=U5 f l:=by
   rw[U5,hl,show i-1=n-1 from by omega]
  rw[hi];refine J.q λ_=>?_;refine J.f [1] ?_;exact⟨rfl,rfl⟩
end Go.Proofs.YtpakpgkdpofbhaaGreat
namespace Go.Proofs.YtpakpgkdpofbhaaGreat
namespace Tl
def clean (t:Tl) (k:Int) (on:Bool):Tl:=t.set k {t.at_ k with used:=!on}
def hold (t:Tl) (k:Int) (on:Bool):Tl:=t.set k {t.at_ k with held:=on}
def die (t:Tl) (d:Int):Tl:=if t.hasDie d=true then⟨t.d,t.b,t.p,t.l,L.with_ t.dead d⟩else t
end Tl
def En.pad:En:=⟨0,0,3,zeros16⟩
structure Dv where
 N:Nand
 t:Tl
 T:Tb
 op:Int
 row:Int
 mask:Int
 next:Int
namespace Dv
def pick (S:Dv):Int:=a0c (λx y=>T8 (S.t.wear x) (S.t.wear y)) (C8 (U4 S.t S.T) S.op S.t.b)
def left (S:Dv):Bool:=decide (S.op>=0)&&decide (S.row<S.N.pages)&&decide (G.slots S.mask>0)
def slots (S:Dv):Int:=if S.left then G.slots S.mask else G.slots (S.t.mask S.pick)
def opened (S:Dv):Dv:={S with t:=S.t.clean S.pick false,op:=S.pick,row:=0,mask:=(S.t.clean S.pick false).mask S.pick}
def lose (f:Int) (S:Dv) (d:Nat):Dv:=
 if L.has f d then
  {S with t:=if S.N.deadAt d then S.t.die d else S.t.bad d S.op,mask:=L.without S.mask d}
 else S
def loses (S:Dv) (f:Int):Dv:=(List.range S.N.dies).foldl (lose f) S
def numAt (l:List En) (next:Int) (k:Nat):En:=if k<l.length then {l.getD k En.zero with seq:=next+k}else En.pad
def num (l:List En) (next:Int) (n:Nat):List En:=(List.range n).map (numAt l next)
def puts (T:Tb) (b r m:Int) (es:List En) (k:Nat):Tb:=(List.range k).foldl (λT (i:Nat)=>T.put (es.getD i En.zero) b r i m) T
def fit (S:Dv) (l:List En):Nat:=min l.length (G.slots S.mask).toNat
def es (S:Dv) (l:List En):List En:=num l S.next (G.slots S.mask).toNat
def wr (S:Dv) (l:List En):Nand×Int×Int:=R.write S.N S.op S.row S.mask (S.es l)
def wrote (S:Dv) (l:List En):Dv:={S with N:=(S.wr l).1,row:=S.row+1,next:=S.next+S.fit l}
def write:Nat->Dv->List En->Dv×Int×Int
 | 0,S,_=>(S,0,0)
 | k+1,S,l=>
  if l.length=0 then(S,0,0)
  else if S.left=false/\S.pick<0 then(S,0,11)
  else
   let S1:=if S.left then S else S.opened
   if S1.next>1099511627775-(S1.fit l:Int)+1 then(S1,0,11)
   else if(S1.wr l).2.2=1 then({S1 with next:=S1.next+S1.fit l,N:=(S1.wr l).1},0,1)
   else if(S1.wr l).2.2=0 then({S1.wrote l with T:=puts S1.T S1.op S1.row S1.mask (S1.es l) (S1.fit l)},S1.fit l,0)
   else if(S1.wr l).2.2=9 then(S1.wrote l,0,9)
   else write k ((S1.wrote l).loses (S1.wr l).2.1) l
def fuel:Nat:=160
def pen (S:Dv) (l:List En):Dv×Int×Int:=write fuel S l
def rd (S:Dv) (i:Int):En×Int:=
 let a:=(Tb.look S.T.at_ i).getD AtV.zero
 let x:=R.read S.N a.block a.row a.slot a.mask
 if x.2=9 then(En.zero,9)
 else if x.2≠0\/x.1.lpn≠i\/x.1.seq≠a.seq then(⟨i,0,4,zeros16⟩,0)
 else(x.1,0)
def rds (S:Dv):List Int->List En×Int
 | []=>([],0)
 | i::l=>if(S.rd i).2≠0 then([],(S.rd i).2)else((S.rd i).1::(rds S l).1,(rds S l).2)
def carryGo:Nat->Dv->List Int->Int->Dv×Int×Int
 | 0,S,_,done=>(S,done,0)
 | k+1,S,l,done=>
  if l.length=0 then(S,done,0)
  else
   let r:=S.rds (l.take (max S.slots 1).toNat)
   if r.2≠0 then(S,done,r.2)
   else
    let w:=S.pen r.1
    if w.2.2≠0 then(w.1,done+w.2.1,w.2.2)
    else carryGo k w.1 (l.drop w.2.1.toNat) (done+w.2.1)
def carry (S:Dv) (b most:Int):Dv×Int×Int:=
 let l:=(S.T.ins b).take (max most 0).toNat
 carryGo l.length S l 0
def eraseD (b m:Int) (x:Nand×Tl×Int) (d:Nat):Nand×Tl×Int:=
 if x.2.2≠0 then x
 else if L.has m d=false then x
 else
  let e:=x.1.eraseE d b
  (x.1.eraseN d b,if e=0 then x.2.1 else if e=9 then x.2.1 else if e=8 then x.2.1.die d else x.2.1.bad d b,if e=9 then 9 else 0)
def eraseB (N:Nand) (t:Tl) (b:Int):Nand×Tl×Int:=(List.range N.dies).foldl (eraseD b (t.mask b)) (N,t,0)
def wores (N:Nand) (t:Tl) (b:Int):Tl:=(List.range N.dies).foldl (λt (d:Nat)=>t.wore b (N.wornAt d b)) t
def eraseT (N:Nand) (t:Tl) (b:Int):Tl:=if(wores N t b).usable b then(wores N t b).clean b true else wores N t b
def erase (N:Nand) (t:Tl) (b:Int):Nand×Tl×Int:=
 let x:=eraseB N t b
 if x.2.2≠0 then x else(x.1,eraseT x.1 x.2.1 b,0)
def clearGo:List Int->Nand->Tl->Nand×Tl×Int
 | [],N,t=>(N,t,0)
 | b::l,N,t=>
  let x:=erase N t b
  if x.2.2≠0 then x else clearGo l x.1 x.2.1
def clearX (N:Nand) (t:Tl) (T:Tb) (o:Int):Nand×Tl×Int:=clearGo (C8 (V5 t T) o t.b) N t
def clear(S:Dv):Dv×Int:=
 let x:=clearX S.N S.t S.T S.op
 ({S with N:=x.1,t:=x.2.1},x.2.2)
def victim (S:Dv):Int:=a0c (λx y=>orI [T8 (S.T.count x) (S.T.count y),T8 (S.t.wear x) (S.t.wear y)]) (C8 (a2z S.t S.T) S.op S.t.b)
def free (S:Dv):Nat:=(C8 (U4 S.t S.T) S.op S.t.b).length
def roomGo:Nat->Dv->Dv×Int
 | 0,S=>(S,0)
 | k+1,S=>
  if(S.free:Int)>4 then(S,0)
  else if S.victim<0\/S.T.count S.victim>=S.t.p*G.slots (S.t.mask S.victim)then(S,0)
  else
   let c:=S.carry S.victim (S.T.count S.victim)
   if c.2.2≠0 then(c.1,c.2.2)
   else
    let d:=c.1.clear
    if d.2≠0 then d else roomGo k d.1
def room (S:Dv):Dv×Int:=if S.clear.2≠0 then S.clear else roomGo S.t.b S.clear.1
def hurts (S:Dv):List Int:=C8 (a1H S.t S.T) (-1) S.t.b
def leftN (S:Dv):Int:=(S.hurts.map S.T.count).sum
def seeDead (N:Nand) (t:Tl):Tl:=(List.range t.d).foldl (λt (d:Nat)=>if N.deadAt d then t.die d else t) t
def seen (S:Dv):Dv:={S with t:=seeDead S.N S.t}
def step (S:Dv) (most:Int):Dv×Int×Int:=
 let r:=S.seen.room
 if r.2≠0 then(r.1,0,r.2)
 else match r.1.hurts with
  | []=>(r.1,0,0)
  | b::_=>r.1.carry b most
def tornGo:Nat->Dv->List En->Dv×Int
 | 0,S,_=>(S,0)
 | k+1,S,l=>
  if l.length=0 then(S,0)
  else
   let r:=S.room
   if r.2≠0 then r
   else
    let w:=r.1.pen l
    if w.2.2≠0 then(w.1,w.2.2)else tornGo k w.1 (l.drop w.2.1.toNat)
def torn (S:Dv) (l:List En):Dv×Int:=tornGo l.length S l
end Dv
end Go.Proofs.YtpakpgkdpofbhaaGreat
namespace Go.Proofs.YtpakpgkdpofbhaaGreat
open Go Go.RowKit
theorem c2E (d b p:Nat) (h:D8 d b p=true):FP 25 [.agg #[iI d,iI b,iI p]] [] (λv As=>v= .bool true/\As=[]):=by
 have hbd:(3<=d/\d<=6)/\(8<=b/\b<=16)/\(2<=p/\p<=8):=by simp[D8]at h;omega
 refine FE [0] Tryz.func25 λX F hX=>?_;refine J.qr [] λ_=>?_;refine⟨?_,rfl⟩;simp;omega
def lgN (d b p:Nat):Nat:=((b-5)*p*(d-2)+1)/2
theorem b0w (d b p:Nat) (hd:2<=d) (hb:5<=b):(((b:Int)-5)*p*((d:Int)-2)+1).tdiv 2=(lgN d b p:Int):=by
 have e1:(b:Int)-5=((b-5:Nat):Int):=by omega
 have e2:(d:Int)-2=((d-2:Nat):Int):=by omega
 rw[e1,e2,<- Int.natCast_mul,<- Int.natCast_mul,show(((b-5)*p*(d-2):Nat):Int)+1=(((b-5)*p*(d-2)+1:Nat):Int)from by omega,a1j (by omega)];unfold lgN;omega
theorem a8l (d b p:Nat) (h:D8 d b p=true):FP 29 [.agg #[iI d,iI b,iI p]] [] (λv As=>v=iI (lgN d b p)/\As=[]):=by
 have hbd:(3<=d/\d<=6)/\(8<=b/\b<=16)/\(2<=p/\p<=8):=by simp[D8]at h;omega
 have h1:0<=((b:Int)-5)*p/\((b:Int)-5)*p<=88:=by
  refine⟨R7 (by omega) (by omega),?_⟩;have:((b:Int)-5)*p<=11*8:=Q1 (by omega) (by omega) (by omega) (by omega);omega
 have h2:0<=((b:Int)-5)*p*((d:Int)-2)/\((b:Int)-5)*p*((d:Int)-2)<=352:=by
  refine⟨R7 h1.1 (by omega),?_⟩;have:((b:Int)-5)*p*((d:Int)-2)<=88*4:=Q1 h1.2 (by omega) (by omega) (by omega);omega
 have h3: -1<=(((b:Int)-5)*p*((d:Int)-2)+1).tdiv 2/\(((b:Int)-5)*p*((d:Int)-2)+1).tdiv 2<=1000:=by
  generalize((b:Int)-5)*p*((d:Int)-2)=x at h2;rw[a1j (by omega)];omega
 refine FE [0] Tryz.func29 λX F hX=>?_;refine J.qp (c2E d b p h) [] λ_=>?_;refine J.qF λ_=>?_;refine J.qr [] λ_=>?_;exact⟨by rw[b0w d b p (by omega) (by omega)],rfl⟩
namespace Tl
def ofD (N:Nand) (b:Nat) (t:Tl) (d:Nat):Tl:=
 let t:=t.wore b (N.wornAt d b)
 if L.has (t.mask b) d&&decide ((N.next d b:Int)>0)then t.clean b false else t
def ofB (N:Nand) (t:Tl) (b:Nat):Tl:=(List.range N.dies).foldl (ofD N b) t
def of (N:Nand):Tl:=(List.range N.blocks).foldl (ofB N) (Dv.seeDead N (Tl.new N.dies N.blocks N.pages))
end Tl
structure Fv where
 S:Dv
 L:List En
 nx:Int
 off:Bool
namespace Fv
def lg (F:Fv):Int:=lgN F.S.N.dies F.S.N.blocks F.S.N.pages
def ask (F:Fv):Fv:={F with off:=F.off||F.S.N.off}
def told (F:Fv) (e:Int):Fv:={F with off:=F.off||e==9}
def get (F:Fv) (i:Int):List UInt8×Int:=
 if(a3u F.L i).2 then((a3u F.L i).1.data,0)
 else match Tb.look F.S.T.at_ i with
  | none=>(zeros16,0)
  | some a=>
   if a.role=2 then(zeros16,0)else if a.role=4 then(zeros16,10)
   else
    let x:=R.read F.S.N a.block a.row a.slot a.mask
    if x.2≠0\/x.1.lpn≠i\/x.1.seq≠a.seq then(zeros16,10)else(x.1.data,0)
def read (F:Fv) (i:Int):Fv×List UInt8×Int:=
 if F.ask.off then(F.ask,zeros16,9)
 else if i<0\/i>=F.ask.lg then(F.ask,zeros16,3)
 else(F.ask,F.ask.get i)
def writes (F:Fv):Fv×Int:=
 let r:=F.S.room
 if r.2≠0 then({F with S:=r.1}.told r.2,r.2)
 else
  let w:=r.1.pen F.L
  ({F with S:=w.1,L:=a1l F.L (F.L.take w.2.1.toNat)}.told w.2.2,w.2.2)
def put (F:Fv) (e:En):Fv:={F with L:=a3U F.L {e with seq:=F.nx},nx:=F.nx+1}
def waits (F:Fv) (e:En):Fv×Int:=
 if F.ask.off then(F.ask,9)
 else if e.lpn<0\/e.lpn>=F.ask.lg then(F.ask,3)
 else if(F.ask.L.length:Int)>=F.ask.S.slots then
  let w:=F.ask.writes
  if w.2≠0 then w else(w.1.put e,0)
 else(F.ask.put e,0)
def write (F:Fv) (i:Int) (d:List UInt8):Fv×Int:=F.waits ⟨i,0,1,d⟩
def trim (F:Fv) (i:Int):Fv×Int:=F.waits ⟨i,0,2,zeros16⟩
def flushGo:Nat->Fv->Fv×Int
 | 0,F=>(F,0)
 | k+1,F=>
  if F.L.length=0 then(F,0)
  else
   let w:=F.writes
   if w.2≠0 then w else flushGo k w.1
def flush (F:Fv):Fv×Int:=if F.ask.off then(F.ask,9)else flushGo F.L.length F.ask
def tick (F:Fv):Fv×Int:=
 if F.ask.off then(F.ask,9)
 else
  let s:=F.ask.S.step 4
  ({F.ask with S:=s.1}.told s.2.2,s.2.2)
def whole (F:Fv):Fv×Bool:=
 if F.ask.off then(F.ask,false)
 else({F.ask with S:=F.ask.S.seen},F.ask.S.seen.leftN==0)
end Fv
namespace Dv
def holds (S:Dv) (l:List Int) (on:Bool):Dv:={S with t:=l.foldl (λt b=>t.hold b on) S.t}
end Dv
def M4 (N:Nand):Dv×Int:=
 let s:=V.scan N (lgN N.dies N.blocks N.pages)
 let S:Dv:=⟨N,Tl.of N,s.tb,-1,0,0,max s.next 1⟩
 let a:=(S.holds s.held true).torn (s.torn.take s.first)
 if a.2≠0 then a
 else
  let b:=(a.1.holds s.held false).clear
  if b.2≠0 then b
  else
   let c:=b.1.torn (s.torn.drop s.first)
   if c.2≠0 then c else c.1.room
def Fv.of (S:Dv):Fv:=⟨S,[],0,false⟩
theorem a7l (q:Nat) (t:Tl) (hb:t.b<=1000) (hl:t.l.length=t.b) (k:Int) (on:Bool):FP 153 [pp q,iI k, .bool on] [TlA q t] (Ps (.tuple #[]) [TlA q (t.clean k on)]):=by
 refine FE [2,0,0] Tryz.func153 λX F hX=>?_;refine J.o (α:=Nat) 1 λg=>?_;refine J.qp (a6k q t hb g k) [1,2] λ_=>?_;cases hh:t.has k with
 | false=>
  rw[Tl.adr,hh,d7 (by simp)];refine J.qF λ_=>?_;refine J.q λ_=>?_;refine J.cl (λg:Nat=>TlP q t g) g [1,2] ?_;refine J.q λ_=>?_;refine J.f [1] ?_;exact⟨rfl,by rw[Tl.clean,Tl.set,hh];rfl⟩
 | true=>
  rw[Tl.adr,hh,d8 rfl];refine J.qT λ_=>?_;refine J.q λ_=>?_;refine J.s1 2 ((t.clean k on).l.flatMap sbL) ?_ ?_ ?_
  ·rw[t.len_l,hl];simp only[Tl.has,i9,c9]at hh;omega
  ·exact t.set_at hl hh 2 (by omega) _ _ rfl
  refine J.close (f:=λg:Nat=>TlP q (t.clean k on) g) g [1,2] rfl (by simp only[TlP,Tl.clean,Tl.set_d,Tl.set_b,Tl.set_p,Tl.set_dead];rfl) rfl ?_;refine J.q λ_=>?_;refine J.f [1] ?_;exact⟨rfl,rfl⟩
theorem a4W (q:Nat) (t:Tl) (d:Int):FP 104 [pp q,iI d] [TlA q t] (Ps (.tuple #[]) [TlA q (t.die d)]):=by
 refine FE [2,0] Tryz.func104 λX F hX=>?_;refine J.o (α:=Nat) 1 λg=>?_;refine J.qp (b6K q t g d) [1,2] λ_=>?_;refine J.qd (λ_ h1=>?_) λ_ h1=>?_
 ·refine J.qp (b0x t.dead d) [] λ_=>?_;have he:t.die d=⟨t.d,t.b,t.p,t.l,L.with_ t.dead d⟩:=by rw[Tl.die,d8 h1]
  refine J.q λ_=>?_;refine J.close (f:=λg:Nat=>TlP q (t.die d) g) g [1,2] rfl (by rw[he];rfl) rfl ?_;refine J.q λ_=>?_;refine J.f [1] ?_;exact⟨rfl,rfl⟩
 ·refine J.q λ_=>?_;refine J.cl (λg:Nat=>TlP q t g) g [1,2] ?_;refine J.q λ_=>?_;refine J.f [1] ?_;exact⟨rfl,by rw[Tl.die,d7 (by rw[h1];simp)];rfl⟩
end Go.Proofs.YtpakpgkdpofbhaaGreat
namespace Go.Proofs.YtpakpgkdpofbhaaGreat
theorem a9k (f:Int->Int->Int):∀(l:List Int) (m:Int),a2G f l m=m\/a2G f l m∈l
 | [],m=> .inl rfl
 | x::l,m=>by
  rw[a2G];rcases a9k f l (if f x m<0 then x else m)with h | h
  ·rw[h];split
   ·exact .inr (z6 ..)
   ·exact .inl rfl
  ·exact .inr (B3 _ h)
theorem b1C (f:Int->Int->Int) {l:List Int} (h:l≠[]):a0c f l∈l:=by
 cases l with
 | nil=>exact absurd rfl h
 | cons x l=>
  rcases a9k f l x with e | e
  ·show a2G f l x∈_;rw[e];exact z6 ..
  ·exact B3 _ e
theorem mem_pkSome {kind:Int->Bool} {o x:Int} {n:Nat}:x∈C8 kind o n↔0<=x/\x<n/\x≠o/\kind x=true:=by
 simp only[C8,W3,List.mem_filter,M8,i9,C2,D4];constructor
 ·rintro⟨k,⟨h1,h2,h3⟩,rfl⟩;exact⟨by omega,by omega,h2,h3⟩
 ·rintro⟨h1,h2,h3,h4⟩;obtain⟨k,rfl⟩:=g7 h1;exact⟨k,⟨by omega,h3,h4⟩,rfl⟩
theorem b5i (f:Int->Int->Int) (kind:Int->Bool) (o:Int) (n:Nat):(a0c f (C8 kind o n)= -1/\C8 kind o n=[])\/(a0c f (C8 kind o n)∈C8 kind o n/\0<=a0c f (C8 kind o n)):=by
 by_cases h:C8 kind o n=[]
 ·left;rw[h];exact⟨rfl,rfl⟩
 ·right;have:=b1C f h;exact⟨this,(mem_pkSome.1 this).1⟩
structure Tl.Fit (t:Tl) (N:Nand):Prop where
 d:t.d=N.dies
 b:t.b=N.blocks
 p:t.p=N.pages
 len:t.l.length=t.b
namespace Tl
theorem set_len (t:Tl) (k:Int) (s:Sb):(t.set k s).l.length=t.l.length:=by unfold set;split<;>simp
theorem Fit.set {t:Tl} {N:Nand} (h:t.Fit N) (k:Int) (s:Sb):(t.set k s).Fit N:=
 ⟨by rw[set_d];exact h.d,by rw[set_b];exact h.b,by rw[set_p];exact h.p,by rw[set_len,set_b];exact h.len⟩
theorem Fit.wore {t:Tl} {N:Nand} (h:t.Fit N) (k n:Int):(t.wore k n).Fit N:=h.set _ _
theorem Fit.clean {t:Tl} {N:Nand} (h:t.Fit N) (k:Int) (on:Bool):(t.clean k on).Fit N:=h.set _ _
theorem Fit.hold {t:Tl} {N:Nand} (h:t.Fit N) (k:Int) (on:Bool):(t.hold k on).Fit N:=h.set _ _
theorem Fit.bad {t:Tl} {N:Nand} (h:t.Fit N) (d k:Int):(t.bad d k).Fit N:=by unfold Tl.bad;split;(· exact h.set _ _);exact h
theorem Fit.die {t:Tl} {N:Nand} (h:t.Fit N) (d:Int):(t.die d).Fit N:=by unfold Tl.die;split;(· exact⟨h.d,h.b,h.p,h.len⟩);exact h
theorem Fit.like {t:Tl} {N N':Nand} (h:t.Fit N) (l:N.Like N'):t.Fit N':=⟨h.d.trans l.dies.symm,h.b.trans l.blocks.symm,h.p.trans l.pages.symm,h.len⟩
def blanks (t:Tl):Nat:=t.l.countP λs=>!s.used
theorem countP_set {α:Type} (p:α->Bool) (x y:α):∀(l:List α) (k:Nat),l[k]? =some x->(l.set k y).countP p+(if p x then 1 else 0)=l.countP p+(if p y then 1 else 0)
 | [],k,h=>by simp at h
 | z::l,0,h=>by
  simp only[R0,l8]at h;subst h;simp only[a0r,a0e];omega
 | z::l,k+1,h=>by
  have:=countP_set p x y l k (by simpa using h);simp only[Q8,a0e];omega
theorem blanks_same {t:Tl} (hl:t.l.length=t.b) (k:Int) (s:Sb) (h:s.used=(t.at_ k).used):(t.set k s).blanks=t.blanks:=by
 unfold set blanks;split
 ·rename_i hh;have:=countP_set (λs:Sb=>!s.used) (t.at_ k) s t.l k.toNat (get_at hl hh);dsimp only;rw[h]at this;omega
 ·rfl
theorem blanks_bad {t:Tl} (hl:t.l.length=t.b) (d k:Int):(t.bad d k).blanks=t.blanks:=by
 unfold Tl.bad;split
 ·exact blanks_same hl _ _ rfl
 ·rfl
theorem blanks_die (t:Tl) (d:Int):(t.die d).blanks=t.blanks:=by unfold Tl.die;split<;>rfl
theorem blanks_open {t:Tl} (hl:t.l.length=t.b) {k:Int} (h:t.blank k=true):(t.clean k false).blanks+1=t.blanks:=by
 simp only[blank,i9,i7]at h;have:=countP_set (λs:Sb=>!s.used) (t.at_ k) {t.at_ k with used:=!false} t.l k.toNat (get_at hl h.1);unfold clean set blanks;rw[d8 h.1];simp only[h.2]at this;simpa using this
theorem blanks_le {t:Tl} (hl:t.l.length=t.b):t.blanks<=t.b:=by unfold blanks;rw[<- hl];exact a0L
end Tl
structure Dv.Ok (S:Dv) (k m:Nat):Prop where
 gd:S.N.Gd k m
 t:S.t.Fit S.N
 T:S.T.Ok
 sl:∀x∈S.T.at_,0<=x.2.slot/\x.2.slot<=1000
 row:0<=S.row/\S.row<=8
 next:1<=S.next/\S.next<=1099511627776
theorem Nand.Ok.bd16 {N:Nand} (h:N.Ok):(3<=N.dies/\N.dies<=6)/\(8<=N.blocks/\N.blocks<=16)/\(2<=N.pages/\N.pages<=8):=by
 have:=h.geo;simp[D8]at this;omega
theorem Tb.put_slot {T:Tb} {e:En} {b r s m:Int} (h:∀x∈T.at_,0<=x.2.slot/\x.2.slot<=1000) (hs:0<=s/\s<=1000):∀x∈(T.put e b r s m).at_,0<=x.2.slot/\x.2.slot<=1000:=by
 have key:∀(l:List (Int×AtV)) (k:Int) (v:AtV),(∀x∈l,0<=x.2.slot/\x.2.slot<=1000)->(0<=v.slot/\v.slot<=1000)->∀x∈Tb.put1 l k v,0<=x.2.slot/\x.2.slot<=1000:=by
  intro l k v
  induction l with
  | nil=>intro _ hv x hx;simp[Tb.put1]at hx;subst hx;exact hv
  | cons y l ih=>
   intro hl hv x hx;simp only[Tb.put1]at hx;split at hx
   ·rcases List.mem_cons.1 hx with rfl | hx
    ·exact hv
    ·exact hl x (B3 _ hx)
   ·rcases List.mem_cons.1 hx with rfl | hx
    ·exact hl _ (z6 ..)
    ·exact ih (λz hz=>hl z (B3 _ hz)) hv x hx
 unfold Tb.put;split
 ·exact key _ _ _ h hs
 ·exact h
namespace Dv
variable {S : Dv} {k m : Nat}
theorem Ok.less (h:S.Ok k m) {k':Nat} (hk:k'<=k):S.Ok k' m:=⟨h.gd.less hk (j7 _),h.t,h.T,h.sl,h.row,h.next⟩
theorem slots_le (x:Int):0<=G.slots x/\G.slots x<=7:=by
 have:=L.count_le x;unfold G.slots;split<;>omega
theorem num_len (l:List En) (next:Int) (n:Nat):(num l next n).length=n:=by simp[num]
theorem getD_data {l:List En} (hd:∀s∈l,s.data.length=16) {i:Nat} (h:i<l.length):(l.getD i En.zero).data.length=16:=by
 rw[d6,d5 h];exact hd _ (I0 _)
theorem num_data {l:List En} (hd:∀s∈l,s.data.length=16) (next:Int) (n:Nat):∀s∈num l next n,s.data.length=16:=by
 intro s hs;simp only[num,W3]at hs;obtain⟨i,_,rfl⟩:=hs;unfold numAt;split
 ·rename_i h;exact getD_data hd h
 ·rfl
theorem fit_le (S:Dv) (l:List En):S.fit l<=7/\S.fit l<=l.length/\(S.fit l:Int)<=G.slots S.mask:=by
 have:=slots_le S.mask;unfold fit;omega
theorem lose_N (f:Int) (S:Dv) (d:Nat):(lose f S d).N=S.N/\(lose f S d).T=S.T/\(lose f S d).op=S.op/\(lose f S d).row=S.row/\(lose f S d).next=S.next:=by
 unfold lose;split<;>exact⟨rfl,rfl,rfl,rfl,rfl⟩
theorem lose_t (f:Int) (S:Dv) (d:Nat) (h:S.t.Fit S.N):(lose f S d).t.Fit S.N/\(lose f S d).t.blanks=S.t.blanks:=by
 unfold lose;split
 ·dsimp only;split
  ·exact⟨h.die _,Tl.blanks_die _ _⟩
  ·exact⟨h.bad _ _,Tl.blanks_bad h.len _ _⟩
 ·exact⟨h,rfl⟩
theorem foldl_lose (f:Int):∀(q:List Nat) (S:Dv),(S.t.Fit S.N)->(q.foldl (lose f) S).N=S.N/\(q.foldl (lose f) S).T=S.T/\(q.foldl (lose f) S).op=S.op/\(q.foldl (lose f) S).row=S.row/\(q.foldl (lose f) S).next=S.next/\(q.foldl (lose f) S).t.Fit S.N/\(q.foldl (lose f) S).t.blanks=S.t.blanks
 | [],S,h=>⟨rfl,rfl,rfl,rfl,rfl,h,rfl⟩
 | d::q,S,h=>by
  obtain⟨e1,e2,e3,e4,e5⟩:=lose_N f S d;have ht:=lose_t f S d h;have ih:=foldl_lose f q (lose f S d) (by rw[e1];exact ht.1);rw[C0];rw[e1,e2,e3,e4,e5,ht.2]at ih;exact ih
theorem loses_same (S:Dv) (f:Int) (h:S.t.Fit S.N):(S.loses f).N=S.N/\(S.loses f).T=S.T/\(S.loses f).op=S.op/\(S.loses f).row=S.row/\(S.loses f).next=S.next/\(S.loses f).t.Fit S.N/\(S.loses f).t.blanks=S.t.blanks:=foldl_lose f _ S h
theorem Ok.loses (h:S.Ok k m) (f:Int):(S.loses f).Ok k m:=by
 obtain⟨e1,e2,_,e4,e5,e6,_⟩:=loses_same S f h.t;exact⟨by rw[e1];exact h.gd,by rw[e1];exact e6,by rw[e2];exact h.T,by rw[e2];exact h.sl,by rw[e4];exact h.row,by rw[e5];exact h.next⟩
theorem pick_spec (S:Dv):S.pick= -1\/(0<=S.pick/\S.pick<S.t.b/\S.pick≠S.op/\U4 S.t S.T S.pick=true):=by
 rcases b5i (λx y=>T8 (S.t.wear x) (S.t.wear y)) (U4 S.t S.T) S.op S.t.b with h | h
 ·exact .inl h.1
 ·exact .inr (mem_pkSome.1 h.1)
theorem pick_blank {S:Dv} (h:¬S.pick<0):S.t.blank S.pick=true:=by
 rcases S.pick_spec with e | ⟨_,_,_,e⟩
 ·omega
 ·simp only[U4,i9]at e;exact e.1.2
theorem Ok.opened (h:S.Ok k m):S.opened.Ok k m:=⟨h.gd,h.t.clean _ _,h.T,h.sl,by show(0:Int)<=0/\(0:Int)<=8;omega,h.next⟩
theorem puts_ok {T:Tb} (h:T.Ok) (hs:∀x∈T.at_,0<=x.2.slot/\x.2.slot<=1000) (b r mk:Int) (es:List En):∀n,n<=1000->(puts T b r mk es n).Ok/\(∀x∈(puts T b r mk es n).at_,0<=x.2.slot/\x.2.slot<=1000)/\(puts T b r mk es n).logical=T.logical
 | 0,_=>⟨h,hs,rfl⟩
 | n+1,hn=>by
  have ih:=puts_ok h hs b r mk es n (by omega);have e:puts T b r mk es (n+1)=(puts T b r mk es n).put (es.getD n En.zero) b r (n:Nat) mk:=by unfold puts;rw[t6,z8];rfl
  rw[e];exact⟨ih.1.put _ _ _ _ _,Tb.put_slot ih.2.1 (by omega),by rw[Tb.put_logical];exact ih.2.2⟩
theorem puts_succ (T:Tb) (b r mk:Int) (es:List En) (n:Nat):puts T b r mk es (n+1)=(puts T b r mk es n).put (es.getD n En.zero) b r (n:Nat) mk:=by unfold puts;rw[t6,z8];rfl
def mu (S:Dv):Nat:=9*S.t.blanks+(if S.left then(S.N.pages-S.row).toNat else 0)
theorem mu_le (h:S.Ok k m):S.mu<=152:=by
 have h1:=Tl.blanks_le h.t.len;have h2:=h.gd.ok.bd16;have h3:=h.t.b;have h4:=h.row;unfold mu;split<;>omega
theorem left_spec (h:S.left=true):0<=S.op/\S.row<S.N.pages/\0<G.slots S.mask:=by
 simp only[left,i9,c9]at h;omega
def at1 (S:Dv):Dv:=if S.left then S else S.opened
theorem Ok.at1 (h:S.Ok k m):S.at1.Ok k m:=by unfold Dv.at1;split;(· exact h);exact h.opened
theorem at1_like (S:Dv):S.at1.N=S.N/\S.at1.T=S.T/\S.at1.next=S.next:=by unfold at1;split<;>exact⟨rfl,rfl,rfl⟩
theorem usable_slots {t:Tl} {b:Int} (h:t.usable b=true):0<G.slots (t.mask b):=by simpa[Tl.usable]using h
theorem mask_clean {t:Tl} (hl:t.l.length=t.b) (k:Int) (on:Bool) (j:Int):(t.clean k on).mask j=t.mask j:=by
 unfold Tl.clean Tl.mask Tl.alive;have e1:(t.set k {t.at_ k with used:=!on}).has j=t.has j:=by unfold Tl.has;rw[Tl.set_b]
 rw[e1,Tl.set_d,Tl.set_dead];split
 ·rename_i hj;congr 1;unfold Tl.set;split
  ·rename_i hk;unfold Tl.at_;dsimp only
   by_cases e:k.toNat=j.toNat
   ·simp only[Tl.has,i9,c9]at hk hj;have:k=j:=by omega
    subst this;rw[d6,List.getElem?_set_self (by omega)];rfl
   ·rw[d6,List.getElem?_set_ne e,<- d6]
  ·rfl
 ·rfl
theorem at1_left (h:S.Ok k m) (h0:¬(S.left=false/\S.pick<0)):S.at1.left=true/\S.at1.op<S.N.blocks\/S.left=true:=by
 unfold at1;cases hl:S.left with
 | true=>exact .inr rfl
 | false=>
  left;rw[d7 s9];have hp:¬S.pick<0:=λe=>h0 ⟨hl,e⟩;rcases S.pick_spec with e | ⟨e1,e2,_,e4⟩
  ·omega
  ·have hb:=h.gd.ok.bd16;have htb:=h.t.b;simp only[U4,i9]at e4;have hu:=usable_slots e4.1.1;refine⟨?_,by show S.pick<_;omega⟩;have g1:S.opened.op=S.pick:=rfl;have g2:S.opened.row=0:=rfl;have g3:S.opened.mask=S.t.mask S.pick:=mask_clean h.t.len _ _ _;have g4:S.opened.N=S.N:=rfl;unfold left;rw[g1,g2,g3,g4,j3 (by omega),j3 (by omega),j3 (by omega)];rfl
theorem at1_left' (h:S.Ok k m) (h0:¬(S.left=false/\S.pick<0)):S.at1.left=true:=by
 rcases at1_left h h0 with e | e
 ·exact e.1
 ·unfold at1;rw[d8 e];exact e
theorem mu_at1 (h:S.Ok k m) (h0:¬(S.left=false/\S.pick<0)):S.at1.mu<=S.mu:=by
 unfold at1;cases hl:S.left with
 | true=>rw[d8 rfl];exact j7 _
 | false=>
  rw[d7 s9];have hp:¬S.pick<0:=λe=>h0 ⟨hl,e⟩;have h1:=Tl.blanks_open h.t.len (pick_blank hp);have h2:=h.gd.ok.bd16;have e1:S.opened.t.blanks=(S.t.clean S.pick false).blanks:=rfl;have e2:S.opened.N.pages=S.N.pages:=rfl;have e3:S.opened.row=0:=rfl;unfold mu;rw[e1,e2,e3,hl];split<;>simp only[N9,a1g]<;>omega
theorem wr_gd (h:S.Ok (8+k) m) {l:List En} (hd:∀s∈l,s.data.length=16):(S.wr l).1.Gd k m:=a3D (num_data hd _ _) h.gd
theorem wr_like (S:Dv) (l:List En):S.N.Like (S.wr l).1:=b2E _ _ _ _ _
theorem Ok.wrote (h:S.Ok (8+k) m) {l:List En} (hd:∀s∈l,s.data.length=16) (hr:S.row<S.N.pages) (hn:¬S.next>1099511627775-(S.fit l:Int)+1):(S.wrote l).Ok k m:=by
 have h1:=h.gd.ok.bd16;have h2:=h.row;have h3:=h.next;exact⟨wr_gd h hd,h.t.like (S.wr_like l),h.T,h.sl,by show 0<=S.row+1/\S.row+1<=8;omega,by show 1<=S.next+(S.fit l:Int)/\S.next+(S.fit l:Int)<=1099511627776;omega⟩
theorem mu_wrote (h:S.Ok (8+k) m) (hl:S.left=true) (l:List En) (f:Int):((S.wrote l).loses f).mu<S.mu:=by
 have ht:(S.wrote l).t.Fit (S.wrote l).N:=h.t.like (S.wr_like l);obtain⟨e1,_,_,e4,_,_,e7⟩:=loses_same (S.wrote l) f ht;have hs:=left_spec hl;have hp:=(S.wr_like l).pages;unfold mu;rw[e7,e1,e4,hl];have e8:(S.wrote l).row=S.row+1:=rfl;have e9:(S.wrote l).N.pages=S.N.pages:=hp;have e10:(S.wrote l).t=S.t:=rfl;rw[e8,e9,e10,d8 rfl];split<;>omega
theorem write_succ (f:Nat) (S:Dv) (l:List En):write (f+1) S l=(if l.length=0 then(S,0,0)else if S.left=false/\S.pick<0 then(S,0,11)else if S.at1.next>1099511627775-(S.at1.fit l:Int)+1 then(S.at1,0,11)else if(S.at1.wr l).2.2=1 then({S.at1 with next:=S.at1.next+S.at1.fit l,N:=(S.at1.wr l).1},0,1)else if(S.at1.wr l).2.2=0 then({S.at1.wrote l with T:=puts S.at1.T S.at1.op S.at1.row S.at1.mask (S.at1.es l) (S.at1.fit l)},S.at1.fit l,0)else if(S.at1.wr l).2.2=9 then(S.at1.wrote l,0,9)else write f ((S.at1.wrote l).loses (S.at1.wr l).2.1) l:Dv×Int×Int):=rfl
theorem write_keep:∀(f:Nat) (S:Dv) (l:List En) (k:Nat),S.Ok (8*f+k) m->(∀s∈l,s.data.length=16)->(write f S l).1.Ok k m/\S.N.Like (write f S l).1.N/\(write f S l).1.T.logical=S.T.logical
 | 0,S,l,k,h,hd=>⟨h.less (by omega),Nand.Like.refl _,rfl⟩
 | f+1,S,l,k,h,hd=>by
  rw[write_succ];have ha:=at1_like S;have h1:S.at1.Ok (8+(8*f+k)) m:=h.at1.less (by omega);split
  ·exact⟨h.less (by omega),Nand.Like.refl _,rfl⟩
  split
  ·exact⟨h.less (by omega),Nand.Like.refl _,rfl⟩
  rename_i h0;split
  ·exact⟨h1.less (by omega),by rw[ha.1];exact Nand.Like.refl _,by rw[ha.2.1]⟩
  rename_i hn;have hlf:=at1_left' h h0;have hs:=left_spec hlf;have hw:=h1.wrote hd hs.2.1 hn;have hlk:S.N.Like (S.at1.wr l).1:=by have:=S.at1.wr_like l;rw[ha.1]at this;exact this
  split
  ·exact⟨⟨hw.gd.less (by omega) (j7 _),hw.t,h1.T,h1.sl,h1.row,hw.next⟩,hlk,by show S.at1.T.logical=_;rw[ha.2.1]⟩
  split
  ·have hp:=puts_ok h1.T h1.sl S.at1.op S.at1.row S.at1.mask (S.at1.es l) (S.at1.fit l) (by have:=fit_le S.at1 l;omega);exact⟨⟨hw.gd.less (by omega) (j7 _),hw.t,hp.1,hp.2.1,hw.row,hw.next⟩,hlk,by show(puts _ _ _ _ _ _).logical=_;rw[hp.2.2,ha.2.1]⟩
  split
  ·exact⟨hw.less (by omega),hlk,by show S.at1.T.logical=_;rw[ha.2.1]⟩
  ·have ho:=hw.loses (S.at1.wr l).2.1;have hsm:=loses_same (S.at1.wrote l) (S.at1.wr l).2.1 hw.t;have ih:=write_keep f _ l k ho hd;refine⟨ih.1,?_,?_⟩
   ·have:=ih.2.1;rw[hsm.1]at this;exact hlk.trans this
   ·rw[ih.2.2,hsm.2.1];show S.at1.T.logical=_;rw[ha.2.1]
theorem pen_keep (h:S.Ok (8*fuel+k) m) {l:List En} (hd:∀s∈l,s.data.length=16):(S.pen l).1.Ok k m/\S.N.Like (S.pen l).1.N/\(S.pen l).1.T.logical=S.T.logical:=write_keep fuel S l k h hd
theorem write_took:∀(f:Nat) (S:Dv) (l:List En) (k:Nat),S.Ok (8*f+k) m->(∀s∈l,s.data.length=16)->S.mu<f->(write f S l).2.2=0->l.length≠0->1<=(write f S l).2.1/\(write f S l).2.1<=l.length/\(write f S l).2.1<=7
 | 0,S,l,k,h,hd,hm,h0,hl=>by omega
 | f+1,S,l,k,h,hd,hm,h0,hl=>by
  rw[write_succ]at h0 ⊢;rw[d7 hl]at h0 ⊢;split at h0
  ·cases h0
  rename_i hp;rw[d7 hp];split at h0
  ·cases h0
  rename_i hn;rw[d7 hn];have hlf:=at1_left' h hp;have hs:=left_spec hlf;have h1:S.at1.Ok (8+(8*f+k)) m:=h.at1.less (by omega);split at h0
  ·cases h0
  rename_i e1;rw[d7 e1];split at h0
  ·rename_i e2;rw[d8 e2];have:=fit_le S.at1 l;have h2:1<=S.at1.fit l:=by unfold fit;omega
   dsimp only;omega
  rename_i e2;rw[d7 e2];split at h0
  ·cases h0
  rename_i e3;rw[d7 e3];have h3:=mu_at1 h hp;have h4:=mu_wrote h1 hlf l (S.at1.wr l).2.1;have hw:=h1.wrote hd hs.2.1 hn;exact write_took f _ l k (hw.loses _) hd (by omega) h0 hl
theorem pen_took (h:S.Ok (8*fuel+k) m) {l:List En} (hd:∀s∈l,s.data.length=16) (h0:(S.pen l).2.2=0) (hl:l.length≠0):1<=(S.pen l).2.1/\(S.pen l).2.1<=l.length/\(S.pen l).2.1<=7:=
 write_took fuel S l k h hd (by have:=mu_le h;unfold fuel;omega) h0 hl
end Dv
end Go.Proofs.YtpakpgkdpofbhaaGreat
namespace Go.Proofs.YtpakpgkdpofbhaaGreat
open Go Go.RowKit
theorem c1Z (a b:Int):(if b>a then b else a)=max a b:=by split<;>omega
def a2a (p n t l:Nat) (S:Dv):Atom:= .pt p 221 [pp n,pp t,pp l,iI S.op,iI S.row,iI S.mask,iI S.next]
def DvP (p n t l:Nat) (S:Dv):List Atom:=[a2a p n t l S,x6 n S.N,TlA t S.t,TbA l S.T]
theorem b7t (n t l:Nat) (next:Int) (h: -9223372036854775808<=next/\next<=9223372036854775807) (N:Nand) (tl:Tl) (T:Tb):FP 89 [pp n,pp t,pp l,iI next] [] (λv As=>∃p,v=pp p/\As=[a2a p n t l ⟨N,tl,T,-1,0,0,max next 1⟩]):=by
 refine FE [0,0,0,0] Tryz.func89 λX F hX=>?_;refine J.q λbb=>?_;rw[c1Z];refine J.qr [1] λ_=>?_;exact⟨bb 0,rfl,rfl⟩
theorem a2X (p n t l:Nat) (S:Dv):FP 93 [pp p] [a2a p n t l S] (Ps (iI S.op) [a2a p n t l S]):=by
 refine FE [2] Tryz.func93 λX F hX=>?_;refine J.qF λ_=>?_;exact J.qx [1]
theorem b3Y (p n t l:Nat) (S:Dv):FP 217 [pp p] (DvP p n t l S) (Ps (.bool S.left) (DvP p n t l S)):=by
 refine FE [2] Tryz.func217 λX F hX=>?_;refine J.pn 6 (.of [0,4,8,13,16,20,24,28,32,37,40,44,48,53,58,60,64,68,72,76,80,84,89,94,96,100,104]) [26] [1,2,3,4] λ_ _=>?_;cases h1:decide (S.op>=0)with
 | false=>
  refine J.q λ_=>?_;refine J.val hX (.agg #[iI 0,iI 0,iI 0]) 0 rfl rfl (λhg a w he hs=>absurd hg (by simp[G.on])) rfl stq ?_;refine J.q λ_=>?_;refine J.val hX (iI 0) 0 rfl rfl (λhg a w he hs=>absurd hg (by simp[G.on])) rfl stq ?_;refine J.qr [1,2,3,4] λ_=>?_;exact⟨by unfold Dv.left;rw[h1];rfl,rfl⟩
 | true=>
  refine J.qp (a0H n S.N) [2] λ_=>?_;refine J.qn 2 λ_=>?_;cases h2:decide (S.row<(S.N.pages:Int))with
  | false=>
   refine J.q λ_=>?_;refine J.val hX (iI 0) 0 rfl rfl (λhg a w he hs=>absurd hg (by simp[G.on])) rfl stq ?_;refine J.qr [1,2,3,4] λ_=>?_;exact⟨by unfold Dv.left;rw[h1,h2];rfl,rfl⟩
  | true=>
   refine J.qp (a0Y S.mask) [] λ_=>?_;refine J.qr [1,2,3,4] λ_=>?_;exact⟨by unfold Dv.left;rw[h1,h2],rfl⟩
theorem b1A (p n t l:Nat) (S:Dv) (hb:S.t.b<=1000) (hl:S.t.l.length=S.t.b):FP 169 [pp p] (DvP p n t l S) (Ps (iI S.slots) (DvP p n t l S)):=by
 refine FE [2] Tryz.func169 λX F hX=>?_;refine J.qF λ_=>?_;refine J.qp (b3Y p n t l S) [1,2,3,4] λ_=>?_;refine J.qd (λ_ h1=>?_) λ_ h1=>?_
 ·refine J.qp (a0Y S.mask) [] λ_=>?_;refine J.qr [1,2,3,4] λ_=>?_;exact⟨by unfold Dv.slots;rw[d8 h1],rfl⟩
 refine J.p (.of [0,4,8,13,16,20,24,29,32,36,40,45,48,52,56,61,66,70,74,76]) [19] [1,2,3,4] λ_=>?_;refine J.qp (b2X t S.t hb hl l S.T S.op) [3,4] λ_=>?_;refine J.qp (a2e t S.t hb hl S.pick) [3] λ_=>?_;refine J.qp (a0Y (S.t.mask S.pick)) [] λ_=>?_;refine J.qr [1,2,3,4] λ_=>?_;exact⟨by unfold Dv.slots;rw[d7 (by rw[h1];decide)],rfl⟩
theorem b1y (p n t l:Nat) (S:Dv) (hb:S.t.b<=1000) (hl:S.t.l.length=S.t.b):FP 218 [pp p] (DvP p n t l S) (Ps (iI (if S.pick<0 then 11 else 0)) (DvP p n t l (if S.pick<0 then S else S.opened))):=by
 refine FE [2] Tryz.func218 λX F hX=>?_;refine J.p (.of [0,4,8,13,16,20,24,29,32,36,40,45,51,52]) [12,13] [1,2,3,4] λ_=>?_;refine J.qp (b2X t S.t hb hl l S.T S.op) [3,4] λ_=>?_;refine J.qd (λ_ h1=>?_) λ_ h1=>?_
 ·simp only[c9]at h1;have h1:S.pick<0:=h1;refine J.qr [1,2,3,4] λ_=>?_;rw[d8 h1,d8 h1];exact⟨rfl,rfl⟩
 simp only[c8]at h1;have h1:¬S.pick<0:=h1;refine J.qp (a7l t S.t hb hl S.pick false) [3] λ_=>?_;refine J.qp (a2e t (S.t.clean S.pick false) (by unfold Tl.clean;rw[Tl.set_b];exact hb) (by unfold Tl.clean;rw[Tl.set_len,Tl.set_b];exact hl) S.pick) [3] λ_=>?_;refine J.qr [1,2,3,4] λ_=>?_;rw[d7 h1,d7 h1];exact⟨rfl,rfl⟩
theorem b7s (p n t l:Nat) (S:Dv) (hN:S.N.Ok) (hF:S.t.Fit S.N) (f:Int):FP 220 [pp p,iI f] (DvP p n t l S) (Ps (.tuple #[]) (DvP p n t l (S.loses f))):=by
 have hbd:=hN.bd16;refine FE [2,0] Tryz.func220 λX F hX=>?_;refine J.qp (a0H n S.N) [2] λ_=>?_;refine J.q λ_=>?_;refine J.l (α:=(Nat×Dv)) (λz=>z.1<=S.N.dies/\z.2=(List.range z.1).foldl (Dv.lose f) S) (λz=>[si 11 z.1,si 10 S.N.dies,⟨0,pp p,2, .tt⟩,si 1 f]) [1,2,3,4] (λz=>DvP p n t l z.2) (λz=>S.N.dies-z.1) ((0,S)) (⟨j4 _,rfl⟩) λz hI=>?_;obtain⟨k,Q⟩:=z;dsimp only at hI ⊢;obtain⟨hk,hQ⟩:=hI;obtain⟨q1,q2,q3,q4,q5,q6,q7⟩:=Dv.foldl_lose f (List.range k) S hF;rw[<- hQ]at q1 q2 q3 q4 q5 q6 q7;have hlb:Q.t.l.length=Q.t.b:=q6.len;have hbb:Q.t.b<=1000:=by have:=q6.b;omega
 refine J.qd (λ_ h1=>?_) λ_ h1=>?_
 ·simp only[c9,g6]at h1;have hs:(List.range (k+1)).foldl (Dv.lose f) S=Dv.lose f Q k:=by rw[t6,z8,<- hQ];rfl
  refine J.qp (a9u f k) [] λ_=>?_;refine J.qd (λ_ h2=>?_) λ_ h2=>?_
  ·simp only[i7]at h2;have hz:Dv.lose f Q k=Q:=by unfold Dv.lose;rw[d7 (by rw[h2];decide)]
   refine J.q λ_=>?_;refine J.n ((k+1,Q)) (⟨by dsimp only;omega,by dsimp only;rw[hs,hz]⟩) (by dsimp only;omega) [0,1,2,3,4]
  simp only[p9]at h2;refine J.qp (a7N n Q.N (by rw[q1];exact hN) k) [2] λ_=>?_;refine J.qd (λ_ h3=>?_) λ_ h3=>?_
  ·have hz:Dv.lose f Q k={Q with t:=Q.t.die k,mask:=L.without Q.mask k}:=by unfold Dv.lose;rw[d8 h2,d8 h3]
   refine J.qp (a4W t Q.t k) [3] λ_=>?_;refine J.qp (a4f Q.mask k) [] λ_=>?_;refine J.q λ_=>?_;refine J.n ((k+1,{Q with t:=Q.t.die k,mask:=L.without Q.mask k})) (⟨by dsimp only;omega,by dsimp only;rw[hs,hz]⟩) (by dsimp only;omega) [0,1,2,3,4]
  ·have hz:Dv.lose f Q k={Q with t:=Q.t.bad k Q.op,mask:=L.without Q.mask k}:=by unfold Dv.lose;rw[d8 h2,d7 (by rw[h3];decide)]
   refine J.p (.of [0,4,8,13,16,20,24,28,33,38]) [] [1,2,4] λ_=>?_;refine J.qp (b2J t Q.t hbb hlb k Q.op) [3] λ_=>?_;refine J.qp (a4f Q.mask k) [] λ_=>?_;refine J.q λ_=>?_;refine J.n ((k+1,{Q with t:=Q.t.bad k Q.op,mask:=L.without Q.mask k})) (⟨by dsimp only;omega,by dsimp only;rw[hs,hz]⟩) (by dsimp only;omega) [0,1,2,3,4]
 ·simp only[c8,g6]at h1;obtain rfl:k=S.N.dies:=by omega
  refine J.q λ_=>?_;refine J.f [1,2,3,4] ?_;exact⟨rfl,by rw[hQ];rfl⟩
theorem num_snoc (l:List En) (next:Int) (k:Nat):Dv.num l next (k+1)=Dv.num l next k++[Dv.numAt l next k]:=by unfold Dv.num;rw[t6,x7];rfl
theorem b1z (p n t l:Nat) (S:Dv) (A:Atom) (a:Option Addr) (m c:Nat) (es:List En) (hA:Rd A a 19 m (p5 es)) (hl:es.length=m) (hm:m<=1000000) (hd:∀s∈es,s.data.length=16) (hn:1<=S.next/\S.next<=1099511627776) (sl:Nat) (hsl:sl<=7):
  FP 219 [pp p, .slice a m c,iI sl] [a2a p n t l S,A]
  (λv As=>∃g c',v=slv g sl c'/\As=[a2a p n t l {S with next:=S.next+(min m sl:Nat)},A,l5 113 19 g sl c' (p5 (Dv.num es S.next sl))]):=by
 refine FE [2,0,0] Tryz.func219 λX F hX=>?_;refine J.q λ_=>?_;refine J.turn1 [] rfl (As:=[l5 113 19 none 0 0 (p5 [])]) (λh s=>Sep.one ⟨rfl,rfl,rfl⟩) rfl ?_;refine J.q λ_=>?_;refine J.l (α:=(Nat×Int×Option Nat×Nat)) (λz=>z.1<=sl/\z.2.1=S.next+(min m z.1:Nat)) (λz=>[si 11 z.1,si 10 sl,sv 7 (slv z.2.2.1 (Dv.num es S.next z.1).length z.2.2.2),⟨0,pp p,2, .tt⟩,sv 1 (.slice a m c)]) [1,3] (λz=>[a2a p n t l {S with next:=z.2.1},l5 113 19 z.2.2.1 (Dv.num es S.next z.1).length z.2.2.2 (p5 (Dv.num es S.next z.1))]) (λz=>sl-z.1) ((0,S.next,none,0)) (⟨j4 _,by simp⟩) λz hI=>?_;obtain⟨k,nx,ga,ca⟩:=z;dsimp only at hI ⊢;obtain⟨hk,hnx⟩:=hI;have hlen:(Dv.num es S.next k).length=k:=Dv.num_len _ _ _;refine J.qd (λ_ h1=>?_) λ_ h1=>?_
 ·simp only[c9,g6]at h1;have hs:=num_snoc es S.next k;refine J.qd (λ_ h2=>?_) λ_ h2=>?_
  ·simp only[c9,a0F,Int.ofNat_le]at h2;have hx:Dv.numAt es S.next k=En.pad:=by unfold Dv.numAt;rw[d7 (by omega)]
   refine J.q λ_=>?_;refine J.ap 3 4 0 (W1 (Dv.num es S.next k) En.pad) λa3 c3=>?_;rw[<- hx,<- hs,show(Dv.num es S.next k).length+1=(Dv.num es S.next (k+1)).length from by rw[hs];simp];refine J.q λ_=>?_;refine J.n ((k+1,nx,a3,c3)) (⟨by dsimp only;omega,by dsimp only;rw[hnx];congr 2;omega⟩) (by dsimp only;omega) [0,1,2,3]
  simp only[c8,a0F,Int.ofNat_le]at h2;have hkl:k<es.length:=by omega
  have hx:Dv.numAt es S.next k={es.getD k En.zero with seq:=S.next+k}:=by unfold Dv.numAt;rw[d8 hkl]
  have hget:es[k]? =some (es.getD k En.zero):=by rw[d6,d5 hkl,j5]
  refine J.know (p:=∃g o,a=some ⟨g,o,none⟩) (λh' s=>Rd.addr (hA _ (s.get (i:=2) rfl)) (by omega)) λhk2=>?_;obtain⟨g,o,rfl⟩:=hk2;refine J.q λ_=>?_;refine J.v (enV (es.getD k En.zero)) rfl rfl (λhg a w he hw=>?_) ?_
  ·exact V4 tk rfl rfl he rfl rfl rfl (hA _ (hw.get (i:=2) rfl)) (by omega) (j:=k*19) (by omega) (by have:=W7 es [] k _ hget;rwa [n9]at this) rfl
  refine J.q λ_=>?_;refine J.ap 3 5 0 (W1 (Dv.num es S.next k) {es.getD k En.zero with seq:=nx}) λa3 c3=>?_;have hnk:nx=S.next+(k:Int):=by rw[hnx,Nat.min_eq_right (by omega)]
  rw[hnk,<- hx,<- hs,show(Dv.num es S.next k).length+1=(Dv.num es S.next (k+1)).length from by rw[hs];simp];refine J.q λ_=>?_;refine J.n ((k+1,S.next+k+1,a3,c3)) (⟨by dsimp only;omega,by dsimp only;rw[Nat.min_eq_right (by omega)];omega⟩) (by dsimp only;omega) [0,1,2,3]
 ·simp only[c8,g6]at h1;obtain rfl:k=sl:=by omega
  rw[hnx];refine J.qr [1,2,3] λ_=>?_;exact⟨ga,ca,by rw[hlen],by rw[hlen];rfl⟩
theorem a3J (p n t l:Nat) (S:Dv) (k mm:Nat) (hO:S.Ok (8*Dv.fuel+k) mm) (A:Atom) (a:Option Addr) (m c:Nat) (es:List En) (hA:Rd A a 19 m (p5 es)) (hl:es.length=m) (hm:m<=1000000) (hd:∀s∈es,s.data.length=16):
  FP 155 [pp p, .slice a m c] (DvP p n t l S++[A])
  (Ps (.tuple #[iI (S.pen es).2.1,iI (S.pen es).2.2]) (DvP p n t l (S.pen es).1++[A])):=by
 have hmu:=Dv.mu_le hO;refine FE [2,0] Tryz.func155 λX F hX=>?_;refine J.qF λ_=>?_;refine J.q λ_=>?_;refine J.l (α:=(Nat×Dv)) (λz=>z.2.Ok (8*z.1+k) mm/\z.2.mu<z.1/\Dv.write z.1 z.2 es=S.pen es) (λz=>[⟨0,pp p,2, .tt⟩,sv 1 (.slice a m c)]) [1,2,3,4] (λz=>DvP p n t l z.2) (λz=>z.1) ((Dv.fuel,S)) (⟨hO,by dsimp only;unfold Dv.fuel;omega,rfl⟩) λz hI=>?_;obtain⟨j,Q⟩:=z;dsimp only at hI ⊢;obtain⟨hQ,hj,hw⟩:=hI;obtain⟨j,rfl⟩:∃i,j=i+1:=⟨j-1,by omega⟩;have hQ1:Q.Ok (8+(8*j+k)) mm:=hQ.less (by omega);have hbd:=hQ.gd.ok.bd16;have hlb:=hQ.t.len;have hbb:Q.t.b<=1000:=by have:=hQ.t.b;omega
 rw[Dv.write_succ]at hw;refine J.qd (λ_ h1=>?_) λ_ h1=>?_
 ·simp only[c9]at h1;have hlen:es.length≠0:=by omega
  rw[d7 hlen]at hw;refine J.qp (b3Y p n t l Q) [1,2,3,4] λ_=>?_;refine J.q λ_=>?_
  by_cases hns:Q.left=false/\Q.pick<0
  ·rw[d8 hns]at hw;rw[hns.1];refine J.qT λ_=>?_;refine J.qp (b1y p n t l Q hbb hlb) [1,2,3,4] λ_=>?_;rw[d8 hns.2,d8 hns.2];refine J.qT λ_=>?_;refine J.qr [1,2,3,4,5] λ_=>?_;rw[<- hw];exact⟨rfl,rfl⟩
  rw[d7 hns]at hw;refine J.join (α:=Unit) (λ_=>[⟨0,pp p,2, .tt⟩,sv 1 (.slice a m c)]) (λ_=>[.hp F,a2a p n t l Q.at1,x6 n Q.at1.N,TlA t Q.at1.t,TbA l Q.at1.T,A]) (λhj=>?_) (λ_=>?_)
  ·refine J.qd (λ_ h2=>?_) λ_ h2=>?_
   ·simp only[i7]at h2;have hp:¬Q.pick<0:=λe=>hns ⟨h2,e⟩;refine J.qp (b1y p n t l Q hbb hlb) [1,2,3,4] λ_=>?_;rw[d7 hp,d7 hp];have ha:Q.at1=Q.opened:=by unfold Dv.at1;rw[h2];rfl
    rw[ha]at hj;refine J.qF λ_=>?_;refine J.qn 1 λ_=>?_;exact J.goto [0,1,2,3,4,5] (hj ()) ⟨rfl,rfl,trivial⟩ rfl rfl
   ·simp only[p9]at h2;have ha:Q.at1=Q:=by unfold Dv.at1;rw[h2];rfl
    rw[ha]at hj;refine J.qn 1 λ_=>?_;exact J.goto [0,1,2,3,4,5] (hj ()) ⟨rfl,rfl,trivial⟩ rfl rfl
  have h3:=Dv.at1_left' hQ hns;have h4:=Dv.mu_at1 hQ hns;have hQ3:=hQ1.at1;clear hQ1 hlb hbb;generalize Q.at1=P at hw h3 h4 hQ3 ⊢;have hs:=Dv.left_spec h3;have hfit:=Dv.fit_le P es;have hsb:=Dv.slots_le P.mask;have hnx:=hQ3.next;have hrow:=hQ3.row;obtain⟨sl,hsl⟩:∃sl:Nat,G.slots P.mask=(sl:Int):=⟨(G.slots P.mask).toNat,by omega⟩;have hfs:P.fit es=min m sl:=by unfold Dv.fit;rw[hsl,hl,l6]
  have hes:P.es es=Dv.num es P.next sl:=by unfold Dv.es;rw[hsl,l6]
  have hmin:(if(sl:Int)<(m:Int)then(sl:Int)else(m:Int))=(P.fit es:Int):=by rw[hfs];split<;>omega
  refine J.qp (a0Y P.mask) [] λ_=>?_;rw[hsl];refine J.qn 8 λ_=>?_;rw[hmin];refine J.qd (λ_ h5=>?_) λ_ h5=>?_
  ·simp only[c9]at h5;have h5:P.next>1099511627775-(P.fit es:Int)+1:=h5;rw[d8 h5]at hw;refine J.qr [1,2,3,4,5] λ_=>?_;rw[<- hw];exact⟨rfl,rfl⟩
  simp only[c8]at h5;have h5:¬P.next>1099511627775-(P.fit es:Int)+1:=h5;rw[d7 h5]at hw;refine J.qc (b1z p n t l P A a m c es hA hl hm hd hnx sl (by omega)) [1,5] λ_=>?_;rintro v As ⟨g,c1,rfl,rfl⟩;refine⟨_,rfl,trivial,?_⟩;rw[<- hes,<- hfs];have hdn:∀s∈P.es es,s.data.length=16:=Dv.num_data hd _ _;have hlen2:(P.es es).length=sl:=by rw[hes,Dv.num_len]
  refine J.know (λh' s=>u7 (c:=(g,c1)) (by omega) (s.get (i:=6) rfl)) λhg=>?_;obtain⟨ga,rfl⟩:=hg;refine J.know (λh' s=>a0w (show a0E _ _ (some ga) sl c1 _ _ from s.get (i:=6) rfl)) λhcap=>?_;have hRd:Rd (l5 113 19 (some ga) sl c1 (p5 (P.es es))) (some ⟨ga,0,none⟩) 19 sl (p5 (P.es es)):=R8 113 19 (some ga) sl c1 (p5 (P.es es));refine J.pq (.of [0,4,8,13,16,20,24,29,32,36,40,44,49,52,58,60,64,68,72,76]) [19] [1,3,4,5,6] λ_ _=>?_;refine J.ca hX (by kernel_rfl) (a5c n P.N (l5 113 19 (some ga) sl c1 (p5 (P.es es))) P.op P.row P.mask (some ⟨ga,0,none⟩) sl c1 mm (P.es es) hRd hlen2 hdn (hQ3.gd.less (by omega) (j7 _))) [2,6] 0 rfl rfl rfl rfl rfl rfl (λ_=>rfl) ?_;refine cpq ⟨_,rfl,stq,?_⟩;have hwr:R.write P.N P.op P.row P.mask (P.es es)=P.wr es:=rfl;rw[hwr];refine J.qd (λ_ h6=>?_) λ_ h6=>?_
  ·simp only[m5]at h6;rw[d8 h6]at hw;refine J.qr [1,2,3,4,5] λ_=>?_;rw[<- hw];exact⟨by rw[h6],rfl⟩
  simp only[j9,D4]at h6;rw[d7 h6]at hw;refine J.qd (λ_ h7=>?_) λ_ h7=>?_
  ·simp only[m5]at h7;rw[d8 h7]at hw;refine J.q λ_=>?_;have hfn:(P.fit es:Int).toNat-0=P.fit es:=by omega
   rw[hfn];have hpo:=λi (hi:i<=1000)=>Dv.puts_ok hQ3.T hQ3.sl P.op P.row P.mask (P.es es) i hi;refine J.q λ_=>?_;refine J.l (α:=Nat) (λi=>i<=P.fit es) (λi=>[si 109 i,si 108 (P.fit es:Int),sv 107 (.slice (some ⟨ga,0,none⟩) (P.fit es) (c1-0)),⟨0,pp p,2, .tt⟩,si 8 (P.fit es:Int),si 9 P.row]) [4] (λi=>[TbA l (Dv.puts P.T P.op P.row P.mask (P.es es) i)]) (λi=>P.fit es-i) (0) (j4 _) λi hI=>?_;refine J.qd (λ_ h9=>?_) λ_ h9=>?_
   ·simp only[c9,g6]at h9;have hil:i<(P.es es).length:=by omega
    have hget:(P.es es)[i]? =some ((P.es es).getD i En.zero):=by rw[d6,d5 hil,j5]
    have hseq: -9223372036854775808<=((P.es es).getD i En.zero).seq/\((P.es es).getD i En.zero).seq<9223372036854775807:=by
     have:(P.es es).getD i En.zero=Dv.numAt es P.next i:=by
      rw[hes];unfold Dv.num;rw[d6,j6,O9 (by omega)];rfl
     rw[this];unfold Dv.numAt;split
     ·show-9223372036854775808<=P.next+(i:Int)/\P.next+(i:Int)<9223372036854775807;omega
     ·show-9223372036854775808<=(0:Int)/\(0:Int)<9223372036854775807;omega
    refine J.q λ_=>?_;refine J.v (enV ((P.es es).getD i En.zero)) rfl rfl (λhg a w he hw=>?_) ?_
    ·exact V4 tk rfl rfl he rfl rfl rfl (hRd _ (hw.get (i:=6) rfl)) (by omega) (j:=i*19) (by omega) (by have:=W7 (P.es es) [] i _ hget;rwa [n9]at this) rfl
    refine J.p (.of [0,4,8,13,17,20,24,28,33,36,40,44,48,52,56,61,66]) [] [1,2,3,5,6,7] λ_=>?_;refine J.qp (a7n l (Dv.puts P.T P.op P.row P.mask (P.es es) i) ((P.es es).getD i En.zero) P.op P.row i P.mask hseq (hpo i (by omega)).1.bd) [4] λ_=>?_;rw[<- Dv.puts_succ];refine J.q λ_=>?_;refine J.n (i+1) (by omega) (by omega) [0,1,2,3,4,5,6]
   ·simp only[c8,g6]at h9;obtain rfl:i=P.fit es:=by omega
    refine J.qr [1,2,3,4,5] λ_=>?_;rw[<- hw];exact⟨rfl,rfl⟩
  simp only[j9,D4]at h7;rw[d7 h7]at hw;refine J.qd (λ_ h8=>?_) λ_ h8=>?_
  ·simp only[m5]at h8;rw[d8 h8]at hw;refine J.qr [1,2,3,4,5] λ_=>?_;rw[<- hw];exact⟨by rw[h8],rfl⟩
  simp only[j9,D4]at h8;rw[d7 h8]at hw;have hWO:=hQ3.wrote hd hs.2.1 h5;have hmu2:=Dv.mu_wrote hQ3 h3 es (P.wr es).2.1;refine J.qp (b7s p n t l (P.wrote es) hWO.gd.ok hWO.t (P.wr es).2.1) [1,2,3,4] λ_=>?_;refine J.q λ_=>?_;refine J.n ((j,(P.wrote es).loses (P.wr es).2.1)) (⟨hWO.loses _,by dsimp only;omega,hw⟩) (by dsimp only;omega) [0,1,2,3,4,5]
 ·simp only[c8]at h1;have hlen:es.length=0:=by omega
  rw[d8 hlen]at hw;refine J.qr [1,2,3,4,5] λ_=>?_;rw[<- hw];exact⟨rfl,rfl⟩
theorem a3V {P:Program} {T:Tab} {E:Env} {n:Nat} {ac:Act} {w:World} (hT:TabOK P T) {o:Oper} {t e size:Nat} {x y:Operand} {k1 k2 t1 t2:Nat} {g1 g2:G} {a:Option Addr} {m c h:Nat} {kk:IntKind} {s1 b1 b2:Nat} {z1 z2:List Value} {td:TD} (hop:o.op= .slice t x none (some y) none) (hx:ev E x=some ⟨k1, .slice a m c,t1,g1⟩) (hy:ev E y=some ⟨k2, .int kk h,t2,g2⟩) (he:EnvOK n E ac) (v1:g1.on=true) (v2:g2.on=true)
  (ht:T.get t=some ⟨.slice e size,s1,z1,b1⟩) (hte:T.get e=some ⟨td,size,z2,b2⟩) (hc:h<=c):
  (execOp ac.eval o).run P w= .ok (.value (.slice a h c)) w:=by
 have e1:=A6 he hx;have e2:=A6 he hy;simp only[Slot.val,v1,v2]at e1 e2;obtain⟨d,f,zv,ok⟩:=y8 (hT.get ht);obtain⟨fe,rfl,g1,g2⟩:=ok.slice rfl;have h0:∀ad:Addr,ad.add 0=ad:=λad=>by unfold Addr.add;rw[d8 rfl]
 cases a with
 | none=>
  simp only[execOp,hop,B5,I7,e1,e2,Instr.sliceAt,Instr.slice,Instr.sliceBounds,Instr.sliceBound,asIntOf,Sem.run_bind,Sem.run_pure,Result.andThen_ok,s4 ok.hd,E9 g1,g2];simp[hc,h0]
 | some ad=>
  simp only[execOp,hop,B5,I7,e1,e2,Instr.sliceAt,Instr.slice,Instr.sliceBounds,Instr.sliceBound,asIntOf,Sem.run_bind,Sem.run_pure,Result.andThen_ok,s4 ok.hd,E9 g1,g2];simp[hc,h0]
theorem c4d (x:Int):(if(0:Int)>x then 0 else x)=max x 0:=by split<;>omega
theorem min2 (x y:Int):(if y<x then y else x)=min x y:=by split<;>omega
end Go.Proofs.YtpakpgkdpofbhaaGreat
namespace Go.Proofs.YtpakpgkdpofbhaaGreat
theorem b1K {N:Nand} (hN:N.Ok) (b r m:Int) (k:Nat):(R.mend (R.look N b r m) k).data.length=16:=by
 unfold R.mend;split
 ·unfold W.back;split
  ·unfold W.backS;refine a3R (λt ht=>?_) _ rfl;have hd:=a1B hN b r m;rw[K9,U0]at ht;rcases ht with ht | rfl
   ·exact hd.1 t (a2b ht)
   ·exact hd.2
  ·rfl
 ·rfl
theorem b7j {N:Nand} (hN:N.Ok) (b r s m:Int):(R.read N b r s m).1.data.length=16:=by
 unfold R.read;split
 ·rfl
 split
 ·rfl
 split
 ·rename_i h;have hd:=(a1B hN b r m).1;have hl:=X8 N b r m;rw[d6]at h ⊢
  by_cases hs:s.toNat<(R.look N b r m).slots.length
  ·rw[d5 hs];exact hd _ (I0 _)
  ·rw[l4 (by omega)];rfl
 ·split
  ·exact b1K hN _ _ _ _
  ·rfl
namespace Dv
variable {S : Dv} {k m : Nat}
theorem rd_len (h:S.Ok k m) (i:Int):(S.rd i).1.data.length=16:=by
 unfold rd;dsimp only;split
 ·rfl
 split
 ·rfl
 ·exact b7j h.gd.ok _ _ _ _
theorem rds_len (h:S.Ok k m):∀l:List Int,(∀s∈(S.rds l).1,s.data.length=16)/\(S.rds l).1.length<=l.length/\((S.rds l).2=0->(S.rds l).1.length=l.length)
 | []=>⟨by simp[rds],by simp[rds],λ_=>rfl⟩
 | i::l=>by
  have ih:=rds_len h l;rw[rds];split
  ·rename_i h0;exact⟨by simp,by simp,λe=>absurd e h0⟩
  ·refine⟨λs hs=>?_,by simp only[m6];omega,λe=>by simp only[m6];rw[ih.2.2 e]⟩;rcases List.mem_cons.1 hs with rfl | hs
   ·exact rd_len h i
   ·exact ih.1 s hs
def cost:Nat:=8*fuel
theorem carryGo_keep:∀(f:Nat) (S:Dv) (l:List Int) (d:Int) (k:Nat),S.Ok (cost*f+k) m->(carryGo f S l d).1.Ok k m/\S.N.Like (carryGo f S l d).1.N/\(carryGo f S l d).1.T.logical=S.T.logical
 | 0,S,l,d,k,h=>⟨h.less (by omega),Nand.Like.refl _,rfl⟩
 | f+1,S,l,d,k,h=>by
  rw[carryGo];dsimp only;have hs:S.Ok (8*fuel+(cost*f+k)) m:=h.less (by unfold cost;rw[W2];omega);split
  ·exact⟨h.less (by omega),Nand.Like.refl _,rfl⟩
  split
  ·exact⟨h.less (by omega),Nand.Like.refl _,rfl⟩
  have hp:=pen_keep hs (rds_len h (l.take (max S.slots 1).toNat)).1;split
  ·exact⟨hp.1.less (by omega),hp.2.1,hp.2.2⟩
  ·have ih:=carryGo_keep f _ (l.drop (S.pen (S.rds (l.take (max S.slots 1).toNat)).1).2.1.toNat) (d+(S.pen (S.rds (l.take (max S.slots 1).toNat)).1).2.1) k hp.1;exact⟨ih.1,hp.2.1.trans ih.2.1,ih.2.2.trans hp.2.2⟩
theorem take_le (l:List Int) (n:Nat):(l.take n).length<=l.length:=by rw[l9];omega
theorem ins_le (h:S.Ok k m) (b:Int):(S.T.ins b).length<=65536:=by
 have h1:=h.T.ins_len b;have h2:=h.T.log;rw[h.T.ins]at h1 ⊢;have:=S.T.inK_len b S.T.logical.toNat
 omega
def costC:Nat:=cost*65536
theorem carry_keep (h:S.Ok (costC+k) m) (b most:Int):(S.carry b most).1.Ok k m/\S.N.Like (S.carry b most).1.N/\(S.carry b most).1.T.logical=S.T.logical:=by
 unfold carry;dsimp only;have h1:=ins_le h b;have h2:=take_le (S.T.ins b) (max most 0).toNat
 have h3:cost*((S.T.ins b).take (max most 0).toNat).length<=costC:=O8 _ (by omega);exact carryGo_keep _ S _ 0 k (h.less (by omega))
theorem seeDead_fit {N:Nand} {t:Tl} (N':Nand) (h:t.Fit N):(seeDead N' t).Fit N:=by
 unfold seeDead;generalize List.range t.d=q
 induction q generalizing t with
 | nil=>exact h
 | cons d q ih=>
  rw[C0];apply ih;split
  ·exact h.die _
  ·exact h
theorem Ok.seen (h:S.Ok k m):S.seen.Ok k m:=⟨h.gd,seeDead_fit _ h.t,h.T,h.sl,h.row,h.next⟩
theorem eraseD_keep (b mk:Int) (x:Nand×Tl×Int) (d:Nat) (hN:x.1.Gd (1+k) m) (ht:x.2.1.Fit x.1):(eraseD b mk x d).1.Gd k m/\(eraseD b mk x d).2.1.Fit x.1/\x.1.Like (eraseD b mk x d).1:=by
 unfold eraseD;split
 ·exact⟨hN.less (by omega) (j7 _),ht,Nand.Like.refl _⟩
 split
 ·exact⟨hN.less (by omega) (j7 _),ht,Nand.Like.refl _⟩
 ·refine⟨Nand.Gd.erase (by rw[U7];exact hN) _ _,?_,Nand.like_erase _ _ _⟩;dsimp only
  (repeat' split)<;>first | exact ht | exact ht.die _ | exact ht.bad _ _
theorem foldl_eraseD (b mk:Int):∀(q:List Nat) (x:Nand×Tl×Int),x.1.Gd (q.length+k) m->x.2.1.Fit x.1->(q.foldl (eraseD b mk) x).1.Gd k m/\(q.foldl (eraseD b mk) x).2.1.Fit x.1/\x.1.Like (q.foldl (eraseD b mk) x).1
 | [],x,h,ht=>⟨h.less (by simp) (j7 _),ht,Nand.Like.refl _⟩
 | d::q,x,h,ht=>by
  have h1:=eraseD_keep b mk x d (k:=q.length+k) (h.less (by simp only[m6];omega) (j7 _)) ht;have ih:=foldl_eraseD b mk q (eraseD b mk x d) h1.1 (h1.2.1.like h1.2.2);rw[C0];exact⟨ih.1,⟨ih.2.1.d.trans h1.2.2.dies,ih.2.1.b.trans h1.2.2.blocks,ih.2.1.p.trans h1.2.2.pages,ih.2.1.len⟩,h1.2.2.trans ih.2.2⟩
theorem eraseB_keep {N:Nand} {t:Tl} (hN:N.Gd (6+k) m) (ht:t.Fit N) (b:Int):(eraseB N t b).1.Gd k m/\(eraseB N t b).2.1.Fit N/\N.Like (eraseB N t b).1:=by
 have:=hN.ok.bd16;exact foldl_eraseD b _ _ _ (hN.less (by rw[D9];omega) (j7 _)) ht
theorem wores_fit {N N':Nand} {t:Tl} (h:t.Fit N) (b:Int):(wores N' t b).Fit N:=by
 unfold wores;generalize List.range N'.dies=q
 induction q generalizing t with
 | nil=>exact h
 | cons d q ih=>rw[C0];exact ih (h.wore _ _)
theorem eraseT_fit {N N':Nand} {t:Tl} (h:t.Fit N) (b:Int):(eraseT N' t b).Fit N:=by
 unfold eraseT;split
 ·exact(wores_fit h b).clean _ _
 ·exact wores_fit h b
theorem erase_keep {N:Nand} {t:Tl} (hN:N.Gd (6+k) m) (ht:t.Fit N) (b:Int):(erase N t b).1.Gd k m/\(erase N t b).2.1.Fit N/\N.Like (erase N t b).1:=by
 have h:=eraseB_keep hN ht b;unfold erase;dsimp only;split
 ·exact h
 ·exact⟨h.1,eraseT_fit h.2.1 b,h.2.2⟩
theorem clearGo_keep:∀(l:List Int) (N:Nand) (t:Tl),N.Gd (6*l.length+k) m->t.Fit N->(clearGo l N t).1.Gd k m/\(clearGo l N t).2.1.Fit N/\N.Like (clearGo l N t).1
 | [],N,t,h,ht=>⟨h.less (by simp) (j7 _),ht,Nand.Like.refl _⟩
 | b::l,N,t,h,ht=>by
  have h1:=erase_keep (k:=6*l.length+k) (h.less (by simp only[m6];omega) (j7 _)) ht b;rw[clearGo];split
  ·exact⟨h1.1.less (by omega) (j7 _),h1.2⟩
  ·have ih:=clearGo_keep l _ _ h1.1 (h1.2.1.like h1.2.2);exact⟨ih.1,⟨ih.2.1.d.trans h1.2.2.dies,ih.2.1.b.trans h1.2.2.blocks,ih.2.1.p.trans h1.2.2.pages,ih.2.1.len⟩,h1.2.2.trans ih.2.2⟩
theorem clearX_keep {N:Nand} {t:Tl} (hN:N.Gd (96+k) m) (ht:t.Fit N) (T:Tb) (o:Int):(clearX N t T o).1.Gd k m/\(clearX N t T o).2.1.Fit N/\N.Like (clearX N t T o).1:=by
 have h1:=hN.ok.bd16;have h2:=ht.b;have h3:=a0g (V5 t T) o t.b;exact clearGo_keep _ N t (hN.less (by omega) (j7 _)) ht
theorem clear_keep (h:S.Ok (96+k) m):S.clear.1.Ok k m/\S.N.Like S.clear.1.N/\S.clear.1.T=S.T:=by
 have h1:=clearX_keep h.gd h.t S.T S.op;exact⟨⟨h1.1,h1.2.1.like h1.2.2,h.T,h.sl,h.row,h.next⟩,h1.2.2,rfl⟩
def costR:Nat:=costC+96
theorem roomGo_keep:∀(f:Nat) (S:Dv) (k:Nat),S.Ok (costR*f+k) m->(roomGo f S).1.Ok k m/\S.N.Like (roomGo f S).1.N/\(roomGo f S).1.T.logical=S.T.logical
 | 0,S,k,h=>⟨h.less (by omega),Nand.Like.refl _,rfl⟩
 | f+1,S,k,h=>by
  rw[roomGo];split
  ·exact⟨h.less (by omega),Nand.Like.refl _,rfl⟩
  split
  ·exact⟨h.less (by omega),Nand.Like.refl _,rfl⟩
  dsimp only;have hc:=carry_keep (S:=S) (k:=96+(costR*f+k)) (m:=m) (h.less (by unfold costR;rw[W2];omega)) S.victim (S.T.count S.victim);split
  ·exact⟨hc.1.less (by omega),hc.2⟩
  have hd:=clear_keep hc.1;split
  ·exact⟨hd.1.less (by omega),hc.2.1.trans hd.2.1,by rw[hd.2.2];exact hc.2.2⟩
  ·have ih:=roomGo_keep f _ k hd.1;exact⟨ih.1,(hc.2.1.trans hd.2.1).trans ih.2.1,by rw[ih.2.2,hd.2.2];exact hc.2.2⟩
def costM:Nat:=costR*16+96
theorem room_keep (h:S.Ok (costM+k) m):S.room.1.Ok k m/\S.N.Like S.room.1.N/\S.room.1.T.logical=S.T.logical:=by
 have hb:=h.gd.ok.bd16;have htb:=h.t.b;have hc:=clear_keep (S:=S) (k:=costR*16+k) (m:=m) (h.less (by unfold costM;omega));unfold room;split
 ·exact⟨hc.1.less (by omega),hc.2.1,by rw[hc.2.2]⟩
 ·have h1:costR*S.t.b<=costR*16:=O8 _ (by omega);have ih:=roomGo_keep S.t.b S.clear.1 k (hc.1.less (by omega));exact⟨ih.1,hc.2.1.trans ih.2.1,by rw[ih.2.2,hc.2.2]⟩
def costS:Nat:=costM+costC
theorem step_keep (h:S.Ok (costS+k) m) (most:Int):(S.step most).1.Ok k m/\S.N.Like (S.step most).1.N/\(S.step most).1.T.logical=S.T.logical:=by
 have hr:=room_keep (S:=S.seen) (k:=costC+k) (m:=m) (h.seen.less (by unfold costS;omega));have e:S.seen.N=S.N:=rfl;have e2:S.seen.T=S.T:=rfl;rw[e,e2]at hr;unfold step;dsimp only;split
 ·exact⟨hr.1.less (by omega),hr.2⟩
 ·split
  ·exact⟨hr.1.less (by omega),hr.2⟩
  ·rename_i b _ _;have hc:=carry_keep hr.1 b most;exact⟨hc.1,hr.2.1.trans hc.2.1,hc.2.2.trans hr.2.2⟩
def costT:Nat:=costM+cost
theorem tornGo_keep:∀(f:Nat) (S:Dv) (l:List En) (k:Nat),S.Ok (costT*f+k) m->(∀s∈l,s.data.length=16)->(tornGo f S l).1.Ok k m/\S.N.Like (tornGo f S l).1.N/\(tornGo f S l).1.T.logical=S.T.logical
 | 0,S,l,k,h,_=>⟨h.less (by omega),Nand.Like.refl _,rfl⟩
 | f+1,S,l,k,h,hd=>by
  rw[tornGo];dsimp only;split
  ·exact⟨h.less (by omega),Nand.Like.refl _,rfl⟩
  have hr:=room_keep (S:=S) (k:=8*fuel+(costT*f+k)) (m:=m) (h.less (by unfold costT cost;rw[W2];omega));split
  ·exact⟨hr.1.less (by omega),hr.2⟩
  have hp:=pen_keep hr.1 hd;split
  ·exact⟨hp.1.less (by omega),hr.2.1.trans hp.2.1,hp.2.2.trans hr.2.2⟩
  ·have ih:=tornGo_keep f _ (l.drop (S.room.1.pen l).2.1.toNat) k hp.1 (λs hs=>hd s (a4v hs));exact⟨ih.1,(hr.2.1.trans hp.2.1).trans ih.2.1,(ih.2.2.trans hp.2.2).trans hr.2.2⟩
end Dv
end Go.Proofs.YtpakpgkdpofbhaaGreat
namespace Go.Proofs.YtpakpgkdpofbhaaGreat
open Go Go.RowKit
theorem c0e {T:Tb} (h:∀x∈T.at_,0<=x.2.slot/\x.2.slot<=1000) (i:Int):0<=((Tb.look T.at_ i).getD AtV.zero).slot/\((Tb.look T.at_ i).getD AtV.zero).slot<=1000:=by
 cases hl:Tb.look T.at_ i with
 | none=>show(0:Int)<=0/\(0:Int)<=1000;omega
 | some a=>exact h _ (Tb.look_mem hl)
theorem b9U (n l:Nat) (S:Dv) (k mm:Nat) (hO:S.Ok k mm) (i:Int):FP 235 [pp n,pp l,iI i] [x6 n S.N,TbA l S.T]
  (Ps (.tuple #[enV (S.rd i).1,iI (S.rd i).2]) [x6 n S.N,TbA l S.T]):=by
 have hsl:=c0e hO.sl i;refine FE [2,3,0] Tryz.func235 λX F hX=>?_;refine J.qp (a2W l S.T i) [2] λ_=>?_;have hrd:S.rd i=(let a:=(Tb.look S.T.at_ i).getD AtV.zero;let x:=R.read S.N a.block a.row a.slot a.mask;if x.2=9 then(En.zero,9)else if x.2≠0\/x.1.lpn≠i\/x.1.seq≠a.seq then(⟨i,0,4,zeros16⟩,0)else(x.1,0)):=rfl;generalize(Tb.look S.T.at_ i).getD AtV.zero=a at hsl hrd ⊢;generalize(Tb.look S.T.at_ i).isSome=is;refine J.qp (b0l n S.N hO.gd.ok hO.gd.room a.block a.row a.slot a.mask (by omega) (by omega)) [1] λ_=>?_;dsimp only at hrd;generalize R.read S.N a.block a.row a.slot a.mask=r at hrd ⊢;obtain⟨e,x⟩:=r;dsimp only at hrd ⊢;refine J.qd (λ_ h1=>?_) λ_ h1=>?_
 ·simp only[m5]at h1;rw[d8 h1]at hrd;refine J.qr [1,2] λ_=>?_;rw[hrd,h1];exact⟨rfl,rfl⟩
 simp only[j9,D4]at h1;rw[d7 h1]at hrd;refine J.qn 4 λ_=>?_;cases hx:(x !=0)with
 | true=>
  have hx':x≠0:=by simpa using hx
  rw[d8 (.inl hx')]at hrd;refine J.qT λ_=>?_;refine J.qr [1,2] λ_=>?_;rw[hrd];exact⟨rfl,rfl⟩
 | false=>
  have hx':x=0:=by simpa using hx
  refine J.qn 5 λ_=>?_;cases hy:(e.lpn !=i)with
  | true=>
   have hy':e.lpn≠i:=by simpa using hy
   rw[d8 (.inr (.inl hy'))]at hrd;refine J.qT λ_=>?_;refine J.qr [1,2] λ_=>?_;rw[hrd];exact⟨rfl,rfl⟩
  | false=>
   have hy':e.lpn=i:=by simpa using hy
   refine J.qd (λ_ h2=>?_) λ_ h2=>?_
   ·have hz:e.seq≠a.seq:=by simpa using h2
    rw[d8 (.inr (.inr hz))]at hrd;refine J.qr [1,2] λ_=>?_;rw[hrd];exact⟨rfl,rfl⟩
   ·have hz:e.seq=a.seq:=by simpa using h2
    rw[d7 (by rw[hx',hy',hz];simp)]at hrd;refine J.qr [1,2] λ_=>?_;rw[hrd];exact⟨rfl,rfl⟩
theorem a6T (a:Option Nat) (n c:Nat):slv a n c= .slice (oad a) n c:=by cases a<;>rfl
theorem b7k (S:Dv) {C:List Int} {E:List En} {i:Nat} {x:Int} (h:S.rds C=(E++(S.rds (C.drop i)).1,(S.rds (C.drop i)).2)) (hx:C[i]? =some x):((S.rd x).2≠0->(S.rds C).2=(S.rd x).2)/\((S.rd x).2=0->S.rds C=((E++[(S.rd x).1])++(S.rds (C.drop (i+1))).1,(S.rds (C.drop (i+1))).2)):=by
 obtain⟨h1,h2⟩:=List.getElem?_eq_some_iff.1 hx;have hd:C.drop i=x::C.drop (i+1):=by rw[v8 h1,h2]
 rw[hd]at h;rw[h];refine⟨λh0=>?_,λh0=>?_⟩
 ·rw[Dv.rds,d8 h0]
 ·rw[Dv.rds,d7 (by simp[h0])];simp
theorem a4T:∀(f:Nat) (S:Dv) (l:List En),0<=(Dv.write f S l).2.1/\(Dv.write f S l).2.1<=7
 | 0,S,l=>by show(0:Int)<=0/\(0:Int)<=7;omega
 | f+1,S,l=>by
  rw[Dv.write_succ];have hf:=Dv.fit_le S.at1 l;split
  ·show(0:Int)<=0/\(0:Int)<=7;omega
  split
  ·show(0:Int)<=0/\(0:Int)<=7;omega
  split
  ·show(0:Int)<=0/\(0:Int)<=7;omega
  split
  ·show(0:Int)<=0/\(0:Int)<=7;omega
  split
  ·show(0:Int)<=(S.at1.fit l:Int)/\(S.at1.fit l:Int)<=7;omega
  split
  ·show(0:Int)<=0/\(0:Int)<=7;omega
  ·exact a4T f _ l
set_option maxHeartbeats 1000000 in
theorem a7p (n t l p:Nat) (S:Dv) (k mm:Nat) (hO:S.Ok (Dv.costC+k) mm) (b most:Int):FP 162 [pp n,pp l,pp p,iI b,iI most] (DvP p n t l S)
  (Ps (.tuple #[iI (S.carry b most).2.1,iI (S.carry b most).2.2]) (DvP p n t l (S.carry b most).1)):=by
 have hlog:=hO.T.log;have hins:=Dv.ins_le hO b;obtain⟨L,hL⟩:∃L,L=S.T.ins b:=⟨_,rfl⟩;obtain⟨u,hu⟩:∃u:Nat,u=min (max most 0).toNat L.length:=⟨_,rfl⟩;refine FE [3,5,2,0,0] Tryz.func162 λX F hX=>?_;refine J.qF λ_=>?_;refine J.qc (b3P l S.T S.T.logical.toNat (by omega) (by omega) b) [4] λ_=>?_;rintro v As ⟨a,c,rfl,rfl⟩;refine⟨_,rfl,trivial,?_⟩;rw[<- hL];refine J.know (λh' s=>a0w (show a0E _ _ a L.length c _ _ from s.get (i:=5) rfl)) λhcap=>?_;rw[<- hL]at hins;have hmin:(if(L.length:Int)<(if(0:Int)>most then 0 else most)then(L.length:Int)else(if(0:Int)>most then 0 else most))=(u:Int):=by rw[c4d,min2,hu];omega
 have hul:u<=L.length:=by omega
 refine J.qn 10 λ_=>?_;rw[hmin,a6T];refine J.v (.slice (oad a) u c) rfl rfl (λhg aa w he hw=>a3V tk rfl rfl rfl he rfl rfl rfl rfl (by omega)) ?_;refine J.q λ_=>?_;have hcar:S.carry b most=Dv.carryGo (L.take u).length S (L.take u) 0:=by
  unfold Dv.carry;rw[<- hL];have:L.take (max most 0).toNat=L.take u:=by
   rw[hu]
   by_cases hle:(max most 0).toNat<=L.length
   ·rw[J5 hle]
   ·rw[Nat.min_eq_right (by omega),m7 (by omega),m7 (j7 _)]
  rw[this]
 have htl:(L.take u).length=u:=by rw[l9];omega
 rw[htl]at hcar;refine J.q λ_=>?_;refine J.l (α:=(Nat×Nat×Dv)) (λz=>z.1<=u/\u-z.1<=z.2.1/\z.2.2.Ok (Dv.cost*z.2.1+k) mm/\Dv.carryGo z.2.1 z.2.2 ((L.take u).drop z.1) z.1=S.carry b most) (λz=>[si 13 z.1,sv 12 (.slice (oad a) u c),⟨0,pp n,3, .tt⟩,⟨1,pp l,5, .tt⟩,⟨2,pp p,2, .tt⟩]) [1,2,3,4] (λz=>DvP p n t l z.2.2) (λz=>u-z.1) ((0,u,S)) (⟨j4 _,by dsimp only;omega,hO.less (by have:Dv.cost*u<=Dv.costC:=O8 _ (by omega);dsimp only;omega),hcar.symm⟩) λz hI=>?_;obtain⟨d,j,Q⟩:=z;dsimp only at hI ⊢;obtain⟨hd,hj,hQ,hw⟩:=hI;refine J.qd (λ_ h1=>?_) λ_ h1=>?_
 ·simp only[c9,g6]at h1;obtain⟨j,rfl⟩:∃i,j=i+1:=⟨j-1,by omega⟩;have hQ1:Q.Ok (8*Dv.fuel+(Dv.cost*j+k)) mm:=hQ.less (by rw[W2];unfold Dv.cost;omega);have hbd:=hQ.gd.ok.bd16;have hlb:=hQ.t.len;have hbb:Q.t.b<=1000:=by have:=hQ.t.b;omega
  rw[Dv.carryGo,d7 (by rw[x4,htl];omega)]at hw;dsimp only at hw;obtain⟨s,hs⟩:∃s:Nat,s=(max Q.slots 1).toNat:=⟨_,rfl⟩;rw[<- hs]at hw;refine J.know (λh' s=>u7 (c:=(a,c)) (by omega) (s.get (i:=5) rfl)) λhg=>?_;obtain⟨ga,rfl⟩:=hg;refine J.qp (b1A p n t l Q hbb hlb) [1,2,3,4] λ_=>?_;have hsb:0<=Q.slots/\Q.slots<=7:=by
   unfold Dv.slots;split
   ·exact Dv.slots_le _
   ·exact Dv.slots_le _
  have hs1:1<=s/\s<=7:=by omega
  have h51:(if(1:Int)>Q.slots then 1 else Q.slots)=(s:Int):=by rw[hs];split<;>omega
  obtain⟨e,he⟩:∃e:Nat,e=min (d+s) u:=⟨_,rfl⟩;refine J.qn 4 λ_=>?_;rw[h51];have h54:(if(u:Int)<(d:Int)+(s:Int)then(u:Int)else(d:Int)+(s:Int))=(e:Int):=by rw[he];split<;>omega
  refine J.qn 4 λ_=>?_;rw[h54];refine J.q λ_=>?_;have h55:((e:Int).toNat-(d:Int).toNat)=e-d:=by omega
  obtain⟨w,hw0⟩:∃w,e=d+w:=⟨e-d,by omega⟩;have hw1:e-d=w:=by omega
  rw[h55,hw1,show 0+(d:Int).toNat*1=d from by omega,show c-(d:Int).toNat=c-d from by omega];obtain⟨C,hC⟩:∃C,C=((L.take u).drop d).take s:=⟨_,rfl⟩;have hCl:C.length=w:=by rw[hC,l9,x4,htl];omega
  have hCg:∀i,i<w->∃x,C[i]? =some x/\(n7 L)[d+i]? =some (iI x):=λi hi=>by
   have hx:d+i<L.length:=by omega
   refine⟨L[d+i],?_,?_⟩
   ·rw[hC,A9,d8 (by omega),C4,A9,d8 (by omega),d5 hx]
   ·rw[n7,j6,d5 hx];rfl
  rw[<- hC]at hw;refine J.turn1 [] rfl (As:=[l5 113 19 none 0 0 (p5 [])]) (λh s=>Sep.one ⟨rfl,rfl,rfl⟩) rfl ?_;refine J.q λ_=>?_;refine J.l (α:=(Nat×List En×Option Nat×Nat)) (λz=>z.1<=w/\z.2.1.length=z.1/\(∀x∈z.2.1,x.data.length=16)/\Q.rds C=(z.2.1++(Q.rds (C.drop z.1)).1,(Q.rds (C.drop z.1)).2)) (λz=>[si 57 z.1,si 56 w,sv 55 (.slice (some ⟨ga,d,none⟩) w (c-d)),sv 14 (slv z.2.2.1 z.2.1.length z.2.2.2),si 13 d,⟨12, .slice (oad (some ga)) u c,0, .tt⟩,⟨0,pp n,3, .tt⟩,⟨1,pp l,5, .tt⟩,⟨2,pp p,2, .tt⟩]) [6] (λz=>[l5 113 19 z.2.2.1 z.2.1.length z.2.2.2 (p5 z.2.1)]) (λz=>w-z.1) ((0,[],none,0)) (⟨j4 _,rfl,by simp,by simp⟩) λz hI=>?_;obtain⟨i,E,ea,ec⟩:=z;dsimp only at hI ⊢;obtain⟨hi,hE,hEd,hrd⟩:=hI;refine J.qd (λ_ h2=>?_) λ_ h2=>?_
  ·simp only[c9,g6]at h2;obtain⟨x,hx,hx2⟩:=hCg i h2;obtain⟨st1,st2⟩:=b7k Q hrd hx;refine J.q λ_=>?_;refine J.v (iI x) rfl rfl (λhg aa w he hw=>z7 tk rfl rfl he rfl rfl rfl (hw.get (i:=5) rfl) (by rw[show d+(i:Int).toNat*1=d+i from by omega];exact hx2)) ?_;refine J.qp (b9U n l Q _ mm hQ1 x) [2,4] λ_=>?_;have hrl:=Dv.rd_len hQ1 x;refine J.qd (λ_ h3=>?_) λ_ h3=>?_
   ·simp only[C2,D4]at h3;have h4:=st1 h3;rw[d8 (by rw[h4];exact h3)]at hw;refine J.qr [1,2,3,4] λ_=>?_;rw[<- hw,h4];exact⟨rfl,rfl⟩
   simp only[p6]at h3;have h4:=st2 h3;refine J.q λ_=>?_;refine J.ap 6 8 0 (W1 E (Q.rd x).1) λa3 c3=>?_;rw[show E.length+1=(E++[(Q.rd x).1]).length from by simp];refine J.q λ_=>?_;refine J.n ((i+1,E++[(Q.rd x).1],a3,c3)) (⟨by dsimp only;omega,by simp[hE],λy hy=>(List.mem_append.1 hy).elim (hEd y) (λhy=>by rw[List.mem_singleton.1 hy];exact hrl),h4⟩) (by dsimp only;omega) [0,1,2,3,4,5,6]
  simp only[c8,g6]at h2;have hie:i=w:=by omega
  have hrd2:Q.rds C=(E,0):=by
   rw[hrd,D5 (by omega),Dv.rds];simp
  rw[hrd2,d7 (by simp)]at hw;dsimp only at hw;have htook:=λh0=>Dv.pen_took hQ1 hEd h0 (by omega);have hkeep:=Dv.pen_keep hQ1 hEd;refine J.q λ_=>?_;rw[a6T];refine J.q λ_=>?_;refine J.ca hX (by kernel_rfl) (a3J p n t l Q _ mm hQ1 (l5 113 19 ea E.length ec (p5 E)) (oad ea) E.length ec E (R8 113 19 ea E.length ec (p5 E)) rfl (by omega) hEd) [1,2,3,4,6] 0 rfl rfl rfl rfl rfl rfl (λ_=>rfl) ?_;refine cpq ⟨_,rfl,trivial,?_⟩;have hpb:0<=(Q.pen E).2.1/\(Q.pen E).2.1<=7:=a4T _ _ _;generalize Q.pen E=W at hw htook hkeep hpb ⊢;obtain⟨P,nn,er⟩:=W;dsimp only at hw htook hkeep hpb ⊢;refine J.qd (λ_ h5=>?_) λ_ h5=>?_
  ·simp only[C2,D4]at h5;rw[d8 h5]at hw;refine J.qr [1,2,3,4] λ_=>?_;rw[<- hw];exact⟨rfl,rfl⟩
  ·simp only[p6]at h5;rw[d7 (by rw[h5];decide)]at hw;have htk:=htook h5;obtain⟨v,rfl⟩:=g7 hpb.1;have hEl:E.length=w:=by omega
   have hvw:v<=w:=by have:=htk.2.1;omega
   rw[A4]at hw;refine J.q λ_=>?_;refine J.n ((d+v,j,P)) (⟨by dsimp only;omega,by dsimp only;omega,hkeep.1,hw⟩) (by dsimp only;omega) [0,1,2,3,4,5]
 ·simp only[c8,g6]at h1;obtain rfl:d=u:=by omega
  have hz:(L.take d).drop d=[]:=D5 (by omega);have hw2:S.carry b most=(Q,(d:Int),0):=by
   rw[<- hw,hz];cases j with
   | zero=>rfl
   | succ j=>rw[Dv.carryGo,d8 List.length_nil]
  refine J.qr [1,2,3,4] λ_=>?_;rw[hw2];exact⟨rfl,rfl⟩
end Go.Proofs.YtpakpgkdpofbhaaGreat
