/- Helpers. No condition. -/
import Derived.Test.YtmafiplddapokaaGreatT05
set_option maxRecDepth 20000
set_option linter.all false
namespace Go.Proofs.YtmafiplddapokaaGreat
section
open Go Go.RowKit
theorem b7i (b4 b5:Nat) (die blk:Int) (x:A3):FP 250 (a1G x::[pp b4,pp b5]) [.pt b4 3 [iI die], .pt b5 3 [iI blk]]
  (Ps (.bool ((x.1 !=die)||(x.2.1 !=blk))) [.pt b4 3 [iI die], .pt b5 3 [iI blk]]):=by
 refine FE [0,2,3] Tryz.func250 λX F hX=>?_;exact J.qx [1,2]
theorem b9N (q:Nat) (l:List A3) (hl:l.length<=1000) (die blk:Int):FP 220 [pp q,iI die,iI blk] [a1K q l]
  (λv As=>∃a cap l',l'.Perm (l.filter λx=>!((x.1 !=die)||(x.2.1 !=blk)))/\v=slv a l'.length cap/\As=[a1K q l,l9 39 3 a l'.length cap (E5 l')]):=by
 refine FE [2,0,0] Tryz.func220 λX F hX=>?_;refine J.q λbb=>?_;refine J.cb (c2L q l hl) [1] ?_;rintro v As ⟨a,cap,l',hp,rfl,rfl⟩;refine⟨_,rfl,trivial,?_⟩;refine J.q λ_=>?_;refine J.turn1 [2,3] rfl (As:=[.hp (HP.of [.pt (bb 0) 3 [iI die], .pt (bb 1) 3 [iI blk]])]) (λh s=>Sep.hpOf.2 s) rfl ?_;refine J.q λ_=>?_;refine J.ca hX (by kernel_rfl) (b1D 250 [pp (bb 0),pp (bb 1)] (λx=>(x.1 !=die)||(x.2.1 !=blk)) _ (by kernel_rfl) (λx=>Fn.pack (b7i (bb 0) (bb 1) die blk x)) a l'.length cap l' rfl (by rw[hp.length_eq];omega)) [4,2] 0 rfl rfl rfl rfl rfl rfl (λ_=>rfl) ?_;rintro v As ⟨l2,rfl,rfl,rfl⟩;refine⟨_,rfl,trivial,?_⟩;refine J.qr [1,4] λ_=>?_;exact⟨a,cap,_,hp.filter _,rfl,rfl⟩
def ext (l:List NCell) (m:Nat):List NCell:=l++List.replicate m Nand.zcell
theorem b8N (l:List NCell) (m:Nat):ext l m++[Nand.zcell]=ext l (m+1):=by simp[ext,a4G]
theorem a5J (l:List NCell) (m:Nat):(ext l m).length=l.length+m:=by simp[ext]
def a2d (l:List NCell) (k:Nat):List NCell:=(l.take k).map (λc=>{c with lost:=true})++l.drop k
theorem b3B (l:List NCell) (k:Nat):(a2d l k).length=l.length:=by simp[a2d];omega
theorem b2p {l:List NCell} {k:Nat} (h:k<l.length):(a2d l k).modify k (λc=>{c with lost:=true})=a2d l (k+1):=by
 apply z8;intro j;rw[a1C];simp only[a2d,I8,j5,l5,i5,C6,J5]
 by_cases e:k=j
 ·subst e;rw[d4 (by omega),d7 (by omega),d7 (by omega),show k+(k-min k l.length)=k from by omega];rw[c9 h];simp
 ·have e2:(λa:NCell=>if k=j then {a with lost:=true}else a)=id:=by funext a;rw[d4 e];rfl
  simp only[Option.map_eq_map,e2,Option.map_id_fun,id]
  by_cases h1:j<k
  ·rw[d7 (show j<min k l.length by omega),d7 h1,d7 (show j<min (k+1) l.length by omega),d7 (show j<k+1 by omega)]
  ·rw[d4 (show¬j<min k l.length by omega),d4 (show¬j<min (k+1) l.length by omega),show k+(j-min k l.length)=j from by omega,show k+1+(j-min (k+1) l.length)=j from by omega]
theorem a6R:∀(l' pl:List A3),pl.Nodup->l'.foldl List.erase pl=pl.filter (λx=>decide (x∉l'))
 | [],pl,_=>(List.filter_eq_self.2 (by simp)).symm
 | a::l',pl,h=>by
  rw[B3,a6R l' _ (h.erase a),h.erase_eq_filter,List.filter_filter];apply List.filter_congr;intro x _
  by_cases e:x=a
  ·subst e;simp
  ·simp[e]
theorem b6m {l' pl:List A3} {x y:Int} (h:pl.Nodup) (hp:l'.Perm (pl.filter λa=>!((a.1 !=x)||(a.2.1 !=y)))):l'.foldl List.erase pl=pl.filter λa=>!(decide (a.1=x)&&decide (a.2.1=y)):=by
 rw[a6R l' pl h];apply List.filter_congr;intro a ha;have:a∈l'↔(a.1=x/\a.2.1=y):=by
  rw[hp.mem_iff,List.mem_filter];simp[ha]
 by_cases h1:a.1=x/\a.2.1=y
 ·rw[n7 (by rw[this];simpa using h1)];simp[h1]
 ·rw[i7 (by rw[this];exact h1)];simp only[not_and]at h1
  by_cases h2:a.1=x
  ·simp[h2,h1 h2]
  ·simp[h2]
theorem b3O {N:Nand} {x y:Int} (h:N.refuses x y 0=0) (h6:N.cutB=true):N.eraseN x y=N.cutN.setBlk x.toNat y.toNat {N.blk x.toNat y.toNat with cells:=((N.blk x.toNat y.toNat).cells++List.replicate (N.pages-(N.blk x.toNat y.toNat).cells.length) Nand.zcell).map λc=>{c with lost:=true}}:=by
 unfold Nand.eraseN;rw[d4 (by simp[h]),d7 h6]
theorem b2L {N:Nand} {x y:Int} (h:N.refuses x y 0=0) (h6:N.cutB=false) (h7:(N.blk x.toNat y.toNat).fails=true):N.eraseN x y=N.cutN.setBlk x.toNat y.toNat {N.blk x.toNat y.toNat with met:=true}:=by
 unfold Nand.eraseN;rw[d4 (by simp[h]),d4 (by simp[h6]),d7 h7]
theorem b6n {N:Nand} {x y:Int} (h:N.refuses x y 0=0) (h6:N.cutB=false) (h7:(N.blk x.toNat y.toNat).fails=false):N.eraseN x y={N.cutN.setBlk x.toNat y.toNat {N.blk x.toNat y.toNat with cells:=[],worn:=(N.blk x.toNat y.toNat).worn+1}with plan:=N.plan.filter λa=>!(decide (a.1=x)&&decide (a.2.1=y))}:=by
 unfold Nand.eraseN;rw[d4 (by simp[h]),d4 (by simp[h6]),d4 (by simp[h7])]
theorem b4w (p:Nat) (N:Nand) (hN:N.Ok) (hR:N.Room) (hpn:N.plan.Nodup) (hpl:N.plan.length<=1000) (x y:Int):FP 179 [pp p,iI x,iI y] [C3 p N] (Ps (iI (N.eraseE x y)) [C3 p (N.eraseN x y)]):=by
 have hbd:=hN.bd;have hnum:=hN.num;have hr0:=hR.ops;refine FE [2,0,0] Tryz.func179 λX F hX=>?_;refine J.qp (a2U x y) [] λ_=>?_;refine J.qp (a6j p N hN x y 0) [1] λ_=>?_;refine J.qd (λ_ h=>?_) λ_ h=>?_
 ·simp only[G9,I1]at h;refine J.qr [1] λ_=>?_;exact⟨by simp only[Nand.eraseE,I1,h,not_false_eq_true,d7],by simp only[Nand.eraseN,I1,h,not_false_eq_true,d7];rfl⟩
 simp only[A8]at h;obtain⟨hoff,hdd,hr⟩:=Nand.refuses_zero h;obtain⟨i,rfl⟩:=f9 hr.1;obtain⟨j,rfl⟩:=f9 hr.2.2.1;have hi:i<N.dies:=by omega
 have hj:j<N.blocks:=by omega
 have hlen:=(hN.cells i j hi hj).1;refine J.o (α:=NLoc) 1 λY=>?_;refine J.openAt 5 (i*N.blocks+j) rfl rfl (a1q _ _ _ _ _ (a8u hi hj)) rfl ?_;rw[(a0w hj).1,(a0w hj).2];refine J.o (α:=(Option Nat×Nat)) 6 λc=>?_;refine J.p (.of [0,4,8,13,16,20,26,29,32]) [8] [1,2,3,4,5,6,7] λ_=>?_;refine J.qp (a2U i j) [] λ_=>?_;refine J.q λ_=>?_;refine J.valT hX (pp (Y.bp (i*N.blocks+j))) 7 rfl rfl (λ_ a w he hC=>?_) rfl ?_
 ·refine(I5 (key:=((i:Int),(j:Int),0)) a1f a3I (z:= .pointer none) (λw=>by kernel_rfl) rfl rfl rfl rfl he rfl rfl (hC rfl _ (C0 (i:=2) rfl))).trans ?_;simp only[a1B hi hj];rfl
 refine J.qp (c1i p N Y hN hR) [1] λ_=>?_;refine J.qd (λ_ h6=>?_) λ_ h6=>?_
 ·refine J.q λ_=>?_;rw[show(N.blk i j).cells=ext (N.blk i j).cells 0 from by simp[ext]];refine J.q λ_=>?_;refine J.l (α:=(Option Nat×Nat×Nat)) (λz=>(ext (N.blk i j).cells z.2.2).length<=N.pages) (λz=>[⟨8,pp (Y.bp (i*N.blocks+j)),7, .tt⟩,⟨0,pp p,2, .tt⟩]) [6,7] (λz=>[.pt (Y.bp (i*N.blocks+j)) 107 [slv z.1 (ext (N.blk i j).cells z.2.2).length z.2.1,iI (N.blk i j).worn, .bool (N.blk i j).fails, .bool (N.blk i j).met],l9 112 34 z.1 (ext (N.blk i j).cells z.2.2).length z.2.1 (P5 (ext (N.blk i j).cells z.2.2))]) (λz=>N.pages-(ext (N.blk i j).cells z.2.2).length) ((c.1,c.2,0)) (by rw[a5J];omega) λz hI=>?_;obtain⟨a,cap,m⟩:=z;dsimp only at hI ⊢;refine J.p (.of [0,4,8,13,16,20,24,28,32,37,40]) [] [1,2,3,4,5,6,7] λ_=>?_;refine J.qd (λ_ h8=>?_) λ_ h8=>?_
  ·simp only[d6,i6]at h8;rw[show N.cutN.pages=N.pages from rfl]at h8;refine J.q λ_=>?_;refine J.append hX tk 7 8 0 rfl rfl rfl rfl rfl rfl rfl rfl rfl rfl rfl rfl rfl rfl rfl rfl ?_ ?_ (λ_=>rfl) λa' cap'=>⟨_,b7d Nand.zcell rfl rfl,trivial,?_⟩
   ·simp only[maxLen];omega
   ·omega
   refine J.q λ_=>?_;rw[b0L _ Nand.zcell,b8N];refine J.q λ_=>?_;refine J.n ((a',cap',m+1)) (by dsimp only;rw[a5J]at h8 ⊢;omega) (by dsimp only;rw[a5J]at h8 ⊢;rw[a5J];omega) [0,1,2,3,4,5,6,7]
  ·simp only[c8,i6]at h8;rw[show N.cutN.pages=N.pages from rfl]at h8;have hm:(ext (N.blk i j).cells m).length=N.pages:=by omega
   have hm2:m=N.pages-(N.blk i j).cells.length:=by rw[a5J]at hm;omega
   have hext:ext (N.blk i j).cells m=(N.blk i j).cells++List.replicate (N.pages-(N.blk i j).cells.length) Nand.zcell:=by rw[hm2];rfl
   generalize ext (N.blk i j).cells m=B at hm hext;refine J.know (λh' s=>D7 (c:=(a,cap)) (by omega) (s.get (i:=7) rfl)) λhg=>?_;obtain⟨g,hg⟩:=hg;simp only at hg;subst hg;refine J.openOwn 7 rfl rfl (λ_=>rfl) λr q1 q2 q3 q4=>?_;refine J.q λ_=>?_;refine J.l (α:=Nat) (λk=>k<=B.length) (λk=>[si 56 k,si 55 B.length,⟨8,pp (Y.bp (i*N.blocks+j)),7, .tt⟩]) [7] (λk=>[.pt g 112 (P5 (a2d B k)++r)]) (λk=>B.length-k) (0) (j8 _) λk hI=>?_;refine J.qd (λ_ h9=>?_) λ_ h9=>?_
   ·simp only[d6,i6]at h9;refine J.q λ_=>?_;have hbl:(a2d B k).length=B.length:=b3B B k;obtain⟨cl,hcl⟩:∃cl,(a2d B k)[k]? =some cl:=⟨_,c9 (by omega)⟩;refine J.s1 7 (P5 (a2d B (k+1))++r) ?_ ?_ ?_
    ·rw[d8,I6];show 0+(k:Int).toNat*34+32<_;simp only[i9];omega
    ·rw[show 0+(k:Int).toNat*34+32=k*34+32 from by simp,Q1 _ _ (by rw[I6];omega)];rw[a2l _ k 32 _ (λc=>{c with lost:=true}) cl hcl (by omega) rfl,b2p h9]
    refine J.q λ_=>?_;refine J.nx (k+1) (by omega) (by omega) (λ_ s=>s)
   ·simp only[c8,i6]at h9;obtain rfl:k=B.length:=by omega
    have hall:a2d B B.length=B.map λc=>{c with lost:=true}:=by simp[a2d]
    rw[hall];have hmb:(B.map λc=>{c with lost:=true}).length=B.length:=by simp
    generalize hB':(B.map λc=>{c with lost:=true})=B' at hmb;refine J.closeOwn (e:=112) (size:=34) (n:=B.length) (cap:=cap) (xs:=P5 B') 7 rfl rfl (by rw[I6,hmb]) q2 q3 (by rw[d8,I6,hmb];rw[I6]at q4;exact q4) (by rw[D9 (by rw[I6,hmb])]) rfl ?_;rw[<- hmb];refine J.q λ_=>?_;refine J.closeN p N (N.cutN.setBlk i j {N.blk i j with cells:=B'}) Y i j hj ({N.blk i j with cells:=B'}) (some g,cap) [1,2,3,4,5,6,7] rfl rfl rfl rfl (rfl) rfl ?_;refine J.qr [1] λ_=>?_;exact⟨by simp[Nand.eraseE,h,h6],by rw[b3O h h6,<- hB',hext];rfl⟩
 refine J.qd (λ_ h7=>?_) λ_ h7=>?_
 ·refine J.q λ_=>?_;refine J.closeN p N (N.cutN.setBlk i j {N.blk i j with met:=true}) Y i j hj ({N.blk i j with met:=true}) _ [1,2,3,4,5,6,7] rfl rfl rfl rfl (rfl) rfl ?_;refine J.qr [1] λ_=>?_;exact⟨by simp[Nand.eraseE,h,h6,h7],by rw[b2L h h6 h7];rfl⟩
 have hw:=(hnum.2.2 i j);refine J.q λ_=>?_;refine J.turn1 [7] rfl (As:=[l9 112 34 none 0 0 (P5 [])]) (λh s=>Sep.one ⟨rfl,rfl,rfl⟩) rfl ?_;refine J.qc (b9N Y.q N.plan hpl i j) [3] λ_=>?_;rintro v As ⟨a,cap,l',hp,rfl,rfl⟩;have hl12:l'.length<=1000:=by rw[hp.length_eq];exact E9 (J8 _ _) hpl
 refine⟨_,rfl,trivial,?_⟩;refine J.q λ_=>?_;refine J.l (α:=Nat) (λk=>k<=l'.length) (λk=>[si 92 k,si 91 l'.length,sv 90 (slv a l'.length cap),⟨0,pp p,2, .tt⟩]) [3] (λk=>[a1K Y.q ((l'.take k).foldl List.erase N.plan)]) (λk=>l'.length-k) (0) (j8 _) λk hI=>?_;refine J.qd (λ_ h9=>?_) λ_ h9=>?_
 ·simp only[d6,i6]at h9;cases a with
  | none=>
   refine J.know (λh' s=>(s.get (i:=8) rfl).2.1) λhn0=>?_;omega
  | some g=>
   have hk:l'[k]? =some (l'.getD k d3):=by rw[d5,c9 h9,j4]
   refine J.q λ_=>?_;refine J.v (a1G (l'.getD k d3)) rfl rfl (λhg a w he hs=>?_) ?_
   ·exact M3 tk rfl rfl he rfl rfl rfl (hs.get (i:=8) rfl) (by rw[show 0+(k:Int).toNat*3=k*3 from by omega];exact a8X hk) rfl
   refine J.p (.of [0,4,8,13,17,22]) [] [1,2,4,5,6,7,8,9] λ_=>?_;refine J.qp (b7h Y.q ((l'.take k).foldl List.erase N.plan) (l'.getD k d3).1 (l'.getD k d3).2.1 (l'.getD k d3).2.2) [3] λ_=>?_;refine J.q λ_=>?_;have hst:((l'.take k).foldl List.erase N.plan).erase (l'.getD k d3)=(l'.take (k+1)).foldl List.erase N.plan:=by
    rw[D2,hk];simp
   rw[show(((l'.getD k d3).1,(l'.getD k d3).2.1,(l'.getD k d3).2.2):A3)=l'.getD k d3 from rfl,hst];refine J.q λ_=>?_;refine J.n (k+1) (by omega) (by omega) [0,1,2,3,4,5,6,7,8]
 ·simp only[c8,i6]at h9;obtain rfl:k=l'.length:=by omega
  rw[T6,b6m hpn hp];refine J.q λ_=>?_;refine J.closeN p N ({N.cutN.setBlk i j {N.blk i j with cells:=[],worn:=(N.blk i j).worn+1}with plan:=N.plan.filter λa=>!(decide (a.1=(i:Int))&&decide (a.2.1=(j:Int)))}) Y i j hj ({N.blk i j with cells:=[],worn:=(N.blk i j).worn+1}) (none,0) [1,2,3,4,5,6,7] rfl rfl rfl rfl (rfl) rfl ?_;refine J.qr [1] λ_=>?_;exact⟨by simp[Nand.eraseE,h,h6,h7],by rw[b6n h h6 h7];rfl⟩
def rdP (a:Option Addr) (size n:Nat) (xs:List Value) (h:Hl):Prop:=
 xs.length=n*size/\(0<n->∃b o cs ty fr,a=some ⟨b,o,none⟩/\h b=some (.cells cs ty fr)/\(cs.toList.drop o).take (n*size)=xs)
theorem rdP.up {a:Option Addr} {size n:Nat} {xs:List Value} {h h':Hl} (l:Hle h h') (s:rdP a size n xs h):rdP a size n xs h':=
 ⟨s.1,λhn=>let⟨b,o,cs,ty,fr,h1,h2,h3⟩:=s.2 hn;⟨b,o,cs,ty,fr,h1,l _ _ h2,h3⟩⟩
def Rd (A:Atom) (a:Option Addr) (size n:Nat) (xs:List Value):Prop:=∀h,A.sat h->rdP a size n xs h
theorem Rd.addr {a:Option Addr} {size n:Nat} {xs:List Value} {h:Hl} (s:rdP a size n xs h) (hn:0<n):∃g o,a=some ⟨g,o,none⟩:=let⟨b,o,_,_,_,e,_⟩:=s.2 hn;⟨b,o,e⟩
def oad (a:Option Nat):Option Addr:=match a with | some g=>some ⟨g,0,none⟩ | none=>none
theorem Y6 (e size:Nat) (a:Option Nat) (n cap:Nat) (xs:List Value):Rd (l9 e size a n cap xs) (oad a) size n xs:=by
 intro h s;obtain⟨h0,h1⟩:=s;refine⟨h0,λhn=>?_⟩;cases a with
 | none=>omega
 | some g=>
  obtain⟨cur,q1,q2,q3,q4,q5⟩:=h1;exact⟨g,0,cur,e,(0,0),rfl,q1,by simpa using q5⟩
theorem a3K (b t:Nat) (cs:List Value) (size n:Nat) (h:cs.length=n*size):Rd (.pt b t cs) (some ⟨b,0,none⟩) size n cs:=by
 intro h' s;exact⟨h,λ_=>⟨b,0,cs.toArray,t,(0,0),rfl,s,by simp[<- h]⟩⟩
theorem Rd.take {A:Atom} {a:Option Addr} {size n:Nat} {xs:List Value} (h:Rd A a size n xs) (k:Nat) (hk:k<=n):Rd A a size k (xs.take (k*size)):=by
 intro h' s;obtain⟨h0,h1⟩:=h h' s;have hle:k*size<=n*size:=H9 _ hk;refine⟨by rw[l5,h0];omega,λhk0=>?_⟩;obtain⟨b,o,cs,ty,fr,e1,e2,e3⟩:=h1 (by omega);refine⟨b,o,cs,ty,fr,e1,e2,?_⟩;rw[<- e3,a5V,K5 hle]
section
variable {P : Program} {T : Tab} {E : Env} {n : Nat} {a : Act} {w : World}
theorem a7q {b o size m:Nat} {xs:List Value} (hb:rdP (some ⟨b,o,none⟩) size m xs (hl w)) (hm:0<m) {j:Nat} {v:Value} (hv:xs[j]? =some v):w.cell? ⟨b,o+j,none⟩=some v:=by
 obtain⟨b',o',cs,ty,fr,e1,e2,e3⟩:=hb.2 hm;simp only[l7,Addr.mk.injEq,and_true]at e1;obtain⟨rfl,rfl⟩:=e1;rw[cell_of_row w b (o+j) cs ty fr e2];rw[<- e3,C6]at hv;split at hv
 ·rw[J5]at hv;simpa using hv
 ·cases hv
theorem a2x (hT:TabOK P T) {oo:Oper} {t:TypeId} {x:Operand} {k tg b off o j size m:Nat} {g:G} {ti:TI} {xs l:List Value} (hop:oo.op= .load t x) (hx:ev E x=some ⟨k, .pointer (some ⟨b,off,none⟩),tg,g⟩) (he:EnvOK n E a) (hg:g.on=true) (hti:T.get t=some ti) (h1:ti.d.one=false)
  (hb:rdP (some ⟨b,o,none⟩) size m xs (hl w)) (hm:0<m) (hoff:off=o+j) (hv:(xs.drop j).take ti.size=l) (hl:l.length=ti.size):(execOp a.eval oo).run P w= .ok (.value (.agg l.toArray)) w:=by
 have ex:=C8 he hx;simp only[Slot.val,hg]at ex;obtain⟨d,f,z,ok⟩:=C1 (hT.get hti);have hmm:=ok.many h1;have hr:w.rangeAt b off l:=by
  intro i v hi;subst hoff;rw[<- hv,C6]at hi;split at hi
  ·rw[J5]at hi;rw[Nat.add_assoc];exact a7q hb hm hi
  ·cases hi
 have hr2:=run_loadVar_mid (P:=P) w b off t l d hr ok.hd (by cases d<;>simp_all [a0v,TypeDesc.isRow]) (by rw[ok.hf];simp[hl,ok.hsize]);simp only[execOp,hop,ex,Instr.loadAt,Instr.sureAddr,Sem.run_bind,Sem.run_pure,Result.andThen_ok,hr2]
theorem a7r (hT:TabOK P T) {oo:Oper} {t:TypeId} {x:Operand} {k tg b off o j size m:Nat} {g:G} {ti:TI} {xs:List Value} {v:Value} (hop:oo.op= .load t x) (hx:ev E x=some ⟨k, .pointer (some ⟨b,off,none⟩),tg,g⟩) (he:EnvOK n E a) (hg:g.on=true) (hti:T.get t=some ti) (h1:ti.d.one=true)
  (hb:rdP (some ⟨b,o,none⟩) size m xs (hl w)) (hm:0<m) (hoff:off=o+j) (hv:xs[j]? =some v):(execOp a.eval oo).run P w= .ok (.value v) w:=by
 have ex:=C8 he hx;simp only[Slot.val,hg]at ex;obtain⟨d,f,z,ok⟩:=C1 (hT.get hti);subst hoff;simp only[execOp,hop,ex,Instr.loadAt,Instr.sureAddr,Sem.run_bind,Sem.run_pure,Result.andThen_ok,a2f ok.hd (ok.one h1) (a7q hb hm hv)]
end
section
variable {X : Cx} {P : Program} {T : Tab} {K : List KI} {E : Env} {L : List Atom} {N : Nat} {F : HP} {Post : Value → List Atom → Prop} {rs : List ResultVar}
theorem J.appendR (hX:IsCx X P rs N F Post) (hT:TabOK P T) {ops:Array Oper} {C:Cl} {lt:Bool} {i:Nat} {t:PT} {o:Oper} {g:G} {x y:Operand} {st e size by_:Nat} {ks tgs:Nat} {gs:G} {a:Option Nat} {n cap:Nat} {xs:List Value} {ky tgy:Nat} {gy:G} {b oo m c:Nat} {cs:List Value} {s1 b1:Nat} {z1:List Value} {E':Value->Env} {Ay:Atom} (is iy tag:Nat)
  (ho:J2 ops.toList i=some o) (hg:gd ops.toList E o=some g) (hgo:g.on=true) (hop:o.op= .call ⟨.builtin .append,#[x,y],#[st,st]⟩)
  (hx:ev E x=some ⟨ks,slv a n cap,tgs,gs⟩) (hvx:gs.on=true) (hy:ev E y=some ⟨ky, .slice (some ⟨b,oo,none⟩) m c,tgy,gy⟩) (hvy:gy.on=true)
  (hLs:J2 L is=some (l9 e size a n cap xs)) (hLy:J2 L iy=some Ay) (hrd:Rd Ay (some ⟨b,oo,none⟩) size m cs) (hst:T.get st=some ⟨.slice e size,s1,z1,b1⟩) {td:TD} {z:List Value} (he:T.get e=some ⟨td,size,z,by_⟩) (hz:Nat.beq z.length size=true)
  (hsz:Nat.blt 0 size=true) (h1:∀u∈cs,u.oneCell'=true) (h63:n+m<=maxLen) (hbytes:(n+m)*by_<=140737488355328)
  (hd:∀v,Y5 N o.dst v tag .tt E=some (E' v))
  (hJ:∀a' cap',∃L',V2 L is (l9 e size a' (n+m) cap' (xs++cs))=some L'/\Conj (M6 lt C L')/\J X (.reg ops C t::K) (E' (slv a' (n+m) cap')) L'):J X (.reg ops C (.alt lt i t .non)::K) E L:=by
 refine J.op hX (S:=λv L'=>∃a' cap',v=slv a' (n+m) cap'/\L'=L.set is (l9 e size a' (n+m) cap' (xs++cs))) tag ho hg hgo (λa0 w hen hs=>?_) hd (λv L' ⟨a',cap',e1,e2⟩=>by subst e1;subst e2;obtain⟨L2,q1,q2⟩:=hJ a' cap';rw[<- V0 q1];exact q2);obtain⟨d,f,zv,ok⟩:=C1 (hT.get hst);obtain⟨fe,rfl,g1,g2⟩:=ok.slice rfl;obtain⟨d',f',zv',ok'⟩:=C1 (hT.get he);have hf:fe=f':=by have:=g1.symm.trans ok'.hf;injection this
 subst hf;have hzz:z=zv'.cells.toList:=ok'.hzero;subst hzz;rw[J1]at hLs hLy;have hrow:=a8j (hs.get hLs);have hrd2:=hrd _ (hs.get hLy);have hnews:∀j u,cs[j]? =some u->w.cell? ((⟨b,oo,none⟩:Addr).add j)=some u:=λj u hu=>by
  rw[Addr.add_none];refine a7q hrd2 ?_ hu;rcases P9 m with h0 | h0
  ·have:=hrd2.1;rw[h0,Q3]at this;rw[m7 this]at hu;simp at hu
  ·exact h0
 obtain⟨v',w',r1,r2,r3,_,r5⟩:=run_append_own_at (P:=P) w 0 st o.type e fe zv' size by_ ok.hd ok'.hf ok'.hz g2 ok'.hbytes.symm (by have:=D1 hz;simpa using this) (L5 hsz) _ n xs hrow ⟨b,oo,none⟩ m c cs hrd2.1 hnews h1 h63 hbytes (j8 _);obtain⟨a',cap',e1,e2,e3⟩:=b1U r2;subst e1;have ex:=C8 hen hx;have ey:=C8 hen hy;simp only[Slot.val,hvx,hvy]at ex ey;refine⟨_,_, .value (slv a' (n+m) cap'),w',⟨a',cap',rfl,rfl⟩,?_, .inl rfl,?_,Ext.grown r3⟩
 ·simp only[execOp,hop,resolve,Sem.run_bind,Sem.run_pure,Result.andThen_ok,invoke,builtin,a3S,n8,S8,ex,ey,r1]
 ·refine Sep.step hs hLs (x:=(slv a n cap).ownBlock) (x':=a') (λh g0 hh he0=>?_) r3 (by rw[<- e3];exact r5) (λh hh=>⟨e2.1,?_⟩)
  ·cases a with
   | none=>simp[slv,Value.ownBlock]at he0
   | some ga=>
    simp only[slv,Value.ownBlock,l7]at he0;subst he0;obtain⟨cur,h1,_⟩:=hh.2;exact⟨_,h1⟩
  ·have e22:=e2.2;cases a' with
   | none=>exact e22
   | some ga=>
    obtain⟨cur,q1,q2⟩:=e22;exact⟨cur,(hh ga rfl).trans q1,q2⟩
end
theorem b6d {w:World} {g:Nat} {cur cs:Array Value} {t:TypeId} (h:w.heap[g]? =some (.cells cur t (0,0))):hl (w.setRow g cs)=V3 (hl w) g (.cells cs t (0,0)):=by
 funext x;unfold V3
 by_cases e:x=g
 ·subst e;rw[d7 rfl];exact setRow_heap w x cur cs t _ h
 ·rw[d4 e];exact setRow_other w g x _ e
section
variable {X : Cx} {P : Program} {T : Tab} {K : List KI} {E : Env} {L : List Atom} {N : Nat} {F : HP} {Post : Value → List Atom → Prop} {rs : List ResultVar}
theorem J.copy (hX:IsCx X P rs N F Post) (hT:TabOK P T) {ops:Array Oper} {C:Cl} {lt:Bool} {i:Nat} {t:PT} {o:Oper} {g:G} {x y:Operand} {dT sT e by_:Nat} {kx tx ky ty:Nat} {gx gy:G} {b off dl dc b2 oo sl sc tb:Nat} {old xs:List Value} {s1 b1:Nat} {z1:List Value} {E':Value->Env} {Ay:Atom} (is iy:Nat)
  (ho:J2 ops.toList i=some o) (hg:gd ops.toList E o=some g) (hgo:g.on=true) (hop:o.op= .call ⟨.builtin .copy,#[x,y],#[dT,sT]⟩)
  (hx:ev E x=some ⟨kx, .slice (some ⟨b,off,none⟩) dl dc,tx,gx⟩) (hvx:gx.on=true) (hy:ev E y=some ⟨ky, .slice (some ⟨b2,oo,none⟩) sl sc,ty,gy⟩) (hvy:gy.on=true)
  (hLx:J2 L is=some (.pt b tb old)) (hLy:J2 L iy=some Ay) (hrd:Rd Ay (some ⟨b2,oo,none⟩) 1 sl xs) (hst:T.get dT=some ⟨.slice e 1,s1,z1,b1⟩) {td:TD} {z:List Value} (he:T.get e=some ⟨td,1,z,by_⟩)
  (cs:List Value) (hcs:xs.take (Nat.min sl dl)=cs) (hlt:off+cs.length<=old.length) (h1:∀u∈xs,u.oneCell'=true) (cs':List Value) (hcs':old.take off++cs++old.drop (off+cs.length)=cs') {L2:List Atom} (hL2:V2 L is (.pt b tb cs')=some L2)
  (hd:∀v,Y5 N o.dst v 0 .tt E=some (E' v)) (hJ:Conj (M6 lt C L2)/\J X (.reg ops C t::K) (E' (goInt cs.length)) L2):J X (.reg ops C (.alt lt i t .non)::K) E L:=by
 refine J.op hX (S:=λv' L'=>v'=goInt cs.length/\L'=L.set is (.pt b tb cs')) 0 ho hg hgo (λa0 w hen hs=>?_) hd (λv L' ⟨e1,e2⟩=>by subst e1;subst e2;rw[<- V0 hL2];exact hJ);rw[J1]at hLx hLy;have ex:=C8 hen hx;have ey:=C8 hen hy;simp only[Slot.val,hvx,hvy]at ex ey;obtain⟨d,f,zv,ok⟩:=C1 (hT.get hst);obtain⟨fe,rfl,g1,g2⟩:=ok.slice rfl;have hblk:Blk w b tb old.toArray:=hs.pt hLx;have hrd2:=hrd _ (hs.get hLy);have hxl:xs.length=sl:=by rw[hrd2.1,U7]
 have hn:cs.length=Nat.min sl dl:=by
  rw[<- hcs,l5,hxl];exact K5 (Nat.min_le_left sl dl)
 have hsrc:∀j v,cs[j]? =some v->w.cell? ((⟨b2,oo,none⟩:Addr).add j)=some v:=λj u hu=>by
  have hj:j<cs.length:=(List.getElem?_eq_some_iff.1 hu).1;rw[<- hcs,C6]at hu;split at hu
  ·rw[Addr.add_none];refine a7q hrd2 ?_ hu;have:=(List.getElem?_eq_some_iff.1 hu).1;omega
  ·cases hu
 have h1':∀v∈cs,v.oneCell'=true:=λv hv=>h1 v (by rw[<- hcs]at hv;exact I7 hv);have hsz:(P.info? e).map (·.size)=some 1:=by rw[g1];exact congrArg some g2
 have hrun:=run_copy_row (P:=P) w dT sT o.type e b off dl dc ⟨b2,oo,none⟩ sl sc old.toArray tb cs ok.hd hsz hblk hn hsrc (by simpa using hlt) h1';have harr:(old.toArray.toList.take off++cs++old.toArray.toList.drop (off+cs.length)).toArray=cs'.toArray:=congrArg List.toArray hcs';rw[harr]at hrun;refine⟨_,_, .value (goInt cs.length),w.setRow b cs'.toArray,⟨rfl,rfl⟩,?_, .inl rfl,?_,Ext.grown (b1g w b _)⟩
 ·simp only[execOp,hop,resolve,Sem.run_bind,Sem.run_pure,Result.andThen_ok,invoke,builtin,a3S,n8,S8,ex,ey,hrun]
 ·rw[b6d hblk];exact hs.setPt cs' hLx
end
end
section
open Go.RowKit

theorem c1x (s:Nat) (h:s<2147483648):bits .and .u32 (s:Int) 2147483648=0:=by
 rw[show(2147483648:Int)=((2147483648:Nat):Int)from rfl,u32_and_nat _ _ (by omega) (by omega),show(2147483648:Nat)=2^31 from rfl,nat_bit];have:s/2^31=0:=by omega
 rw[this];rfl
theorem b9B (s:Nat) (h:2147483648<=s) (h2:s<4294967296):bits .and .u32 (s:Int) 2147483648=2147483648:=by
 rw[show(2147483648:Int)=((2147483648:Nat):Int)from rfl,u32_and_nat _ _ (by omega) (by omega),show(2147483648:Nat)=2^31 from rfl,nat_bit];have:s/2^31=1:=by omega
 rw[this]

set_option maxRecDepth 100000 in
set_option maxHeartbeats 400000 in
theorem b0d (s x:Nat) (hs:s<4294967296) (hx:x<256) (w:World):
  Calls Tryz.prog 261 #[.int .u32 s, .int .u8 x] w λe w'=>e= .returned (.int .u32 (K.step s x))/\w=w':=by
 have e1:IntKind.u32.wrap ((x:Int)*16777216)=((x*16777216:Nat):Int):=by rw[IntWalk.u32_in _ (by omega)];omega
 have e2:bits .xor .u32 (s:Int) ((x*16777216:Nat):Int)=((s ^^^ x*16777216:Nat):Int):=u32_xor_nat _ _ hs (by omega);have hlt0:s ^^^ x*16777216<4294967296:=Z9 (n:=32) (by omega) (by omega);have hst:=Lib.hid (show K.step s x=K.rounds 8 (s ^^^ x*16777216)from rfl);generalize s ^^^ x*16777216=s0 at*;generalize hX:x*16777216=X at*;have HX:=Lib.hid hX;clear hX
 go_enter Tryz.func261,Tryz.ntmps261
 go_wp2
 go_loop [0,11] (λv c=>∃k:Nat,k<=8/\c= .int .i64 k/\v= .int .u32 (K.rounds k s0)) (λ_ c=>8-(intOf c).toNat)
 case atStart=>exact⟨0,by omega,rfl,rfl⟩
 case round=>
  obtain⟨k,hk,rfl,rfl⟩:=hrel;clear e1 e2
  by_cases hlt:k<8
  ·have hr:=K.rounds_lt k s0 hlt0;have hn:K.round (K.rounds k s0)=K.rounds (k+1) s0:=rfl;generalize K.rounds k s0=t at*
   by_cases ht:t<2147483648
   ·have e3:=c1x t ht;have e4:K.round t=t*2:=by simp[K.round,ht]
    have Hn:=Lib.hid (e4.symm.trans hn);clear e4 hn
    go_wp2
    go_round
    case rel=>exact⟨k+1,by omega,by go_num,by rw[<- Hn.out];go_num⟩
    case measure=>simp[intOf];omega
   ·have e3:=b9B t (by omega) hr;have e4:K.round t=(t*2 % 4294967296) ^^^ 1947962583:=by simp[K.round,ht]
    have e5:bits .xor .u32 ((t*2 % 4294967296:Nat):Int) 1947962583=(((t*2 % 4294967296) ^^^ 1947962583:Nat):Int):=u32_xor_nat _ 1947962583 (by omega) (by omega);have e6:IntKind.u32.wrap ((t:Int)*2)=((t*2 % 4294967296:Nat):Int):=by rw[IntKind.wrap_u32'];omega
    have Hn:=Lib.hid (e4.symm.trans hn);clear e4 hn;generalize t*2 % 4294967296=t2 at*;generalize t2 ^^^ 1947962583=t3 at*
    go_wp2
    go_round
    case rel=>exact⟨k+1,by omega,by go_num,by rw[<- Hn.out]⟩
    case measure=>simp[intOf];omega
  ·have:k=8:=by omega
   subst this
   go_wp2
   go_ret
   exact⟨by rw[hst.out];rfl,rfl⟩

end
section
open Go Go.RowKit
theorem b4U (n:Int):FP 259 [iI n] [] (Ps (.bool (decide (n>=1)&&decide (n<=64))) []):=by
 refine FE [0] Tryz.func259 λX F hX=>?_;exact J.qx []
theorem a5G (u j k:Nat) (h:j<=k):(u:Int).fdiv (2^min (j:Int).toNat k)=((u/2^j:Nat):Int):=by
 rw[Int.fdiv_eq_ediv_of_nonneg _ (Int.le_of_lt (Int.pow_pos (by decide))),i9,K5 h];simp
theorem b9z (u j:Nat) (hu:u<18446744073709551616) (h:j<=64):IntKind.u64.wrap (BitVec.ofInt IntKind.u64.bits ((u:Int).fdiv (2^min (j:Int).toNat IntKind.u64.bits))&&& BitVec.ofInt IntKind.u64.bits 1).toNat=((u.testBit j).toNat:Int):=by
 show bits .and .u64 _ 1=_;have hb:u/2^j<=u:=Nat.div_le_self _ _;rw[a5G u j IntKind.u64.bits h,show(1:Int)=((1:Nat):Int)from rfl,u64_and_nat _ _ (by omega) (by omega),nat_mask1,a3j];rcases Nat.mod_two_eq_zero_or_one (u/2^j)with h | h<;>simp[h]
theorem c1w (x j:Nat) (hx:x<256) (h:j<=8):IntKind.u8.wrap (BitVec.ofInt IntKind.u8.bits ((x:Int).fdiv (2^min (j:Int).toNat IntKind.u8.bits))&&& BitVec.ofInt IntKind.u8.bits 1).toNat=((x.testBit j).toNat:Int):=by
 show bits .and .u8 _ 1=_;have hb:x/2^j<=x:=Nat.div_le_self _ _;rw[a5G x j IntKind.u8.bits h,show(1:Int)=((1:Nat):Int)from rfl,u8_and_nat _ _ (by omega) (by omega),nat_mask1,a3j];rcases Nat.mod_two_eq_zero_or_one (x/2^j)with h | h<;>simp[h]
theorem c1F (u n:Nat) (h1:1<=n) (h2:n<=64) (hu:u<2^n):((u:Int).fdiv (2^min ((n:Int)-1).toNat IntKind.u64.bits)).fdiv (2^min (Int.toNat 1) IntKind.u64.bits)=0:=by
 rw[show(n:Int)-1=((n-1:Nat):Int)from by omega,a5G u (n-1) IntKind.u64.bits (show n-1<=64 by omega),show(1:Int)=((1:Nat):Int)from rfl,a5G _ 1 IntKind.u64.bits (by decide),Nat.div_div_eq_div_mul,<- Nat.pow_add,show n-1+1=n from by omega,Nat.div_eq_of_lt hu];rfl
theorem t8 (m:Nat):(m:Int).tdiv 8=((m/8:Nat):Int)/\(m:Int).tmod 8=((m % 8:Nat):Int):=⟨(Int.ofNat_tdiv m 8).symm,(Int.ofNat_tmod m 8).symm⟩
theorem b8W (L:List Bool) (b:Bool) (s:Int) (hs:s=7-((L.length % 8:Nat):Int)):(0<=((b.toNat:Nat):Int)*2^min s.toNat IntKind.u8.bits/\((b.toNat:Nat):Int)*2^min s.toNat IntKind.u8.bits<=255)/\
  bits .or .u8 (Bt.byteAt L (8*(L.length/8)):Int) (((b.toNat:Nat):Int)*2^min s.toNat IntKind.u8.bits)=((Bt.byteAt L (8*(L.length/8))+b.toNat*2^(7-L.length % 8):Nat):Int)/\Bt.byteAt L (8*(L.length/8))+b.toNat*2^(7-L.length % 8)<256:=by
 have hm:min s.toNat IntKind.u8.bits=7-L.length % 8:=by rw[show IntKind.u8.bits=8 from rfl];omega
 have hb:=a2q b;have hp:2^(7-L.length % 8)<=2^7:=a0m (by omega) (by omega);have hmul:=U4 hb hp;have hlt:=Bt.byteAt_lt (L++[b]) (8*(L.length/8));rw[Bt.byteAt_snoc,d7 (by omega),show L.length-8*(L.length/8)=L.length % 8 from by omega]at hlt;have e:((b.toNat:Nat):Int)*2^(7-L.length % 8)=((b.toNat*2^(7-L.length % 8):Nat):Int):=by simp
 rw[hm,e];exact⟨by omega,by rw[u8_or_nat _ _ (Bt.byteAt_lt _ _) (by omega),Bt.byte_or],hlt⟩
def b2i (q:Nat) (l:List Bool) (x:Option Nat×Nat):List Atom:=[.pt q 293 [slv x.1 ((l.length+7)/8) x.2,iI l.length],l9 5 1 x.1 ((l.length+7)/8) x.2 ((Bt.pack l).map bv)]
def a5R (q:Nat) (l:List Bool):Atom:=exA (b2i q l)
theorem b4V (q u n:Nat) (l:List Bool) (h1:1<=n) (h2:n<=64) (hu:u<2^n) (hl:l.length+n<=4096):FP 236 [pp q, .int .u64 u,iI n] [a5R q l] (Ps (.bool true) [a5R q (l++Bt.bits u n)]):=by
 have hu64:u<18446744073709551616:=a5U hu (show 2^n<=2^64 from a0m (by omega) h2);refine FE [2,0,0] Tryz.func236 λX F hX=>?_;refine J.qp (b4U n) [] λ_=>?_;rw[show decide ((n:Int)>=1)=true from i7 (by omega),show decide ((n:Int)<=64)=true from i7 (by omega)];have hp:=c1F u n h1 h2 hu;refine J.o (α:=(Option Nat×Nat)) 1 λx=>?_;obtain⟨a,c⟩:=x;refine J.qd (λ_ h=>?_) λ_ h=>?_
 ·simp only[hp]at h;simp at h;omega
 have hn1:(n:Int)-1-(0:Nat)=(n:Int)-1:=by omega
 refine J.cl (b2i q l) (a,c) [1,2] ?_;refine J.turn1 [1] rfl (As:=[a5R q (l++(Bt.bits u n).take 0)]) (λh s=>by rw[a3l,l8];exact s) rfl ?_;refine J.q λ_=>?_;refine J.l (α:=(Nat×Int)) (λz=>z.1<=n/\z.2=(n:Int)-1-z.1) (λz=>[si 7 z.2,⟨0,pp q,2, .tt⟩,⟨1, .int .u64 u,0, .tt⟩]) [1] (λz=>[a5R q (l++(Bt.bits u n).take z.1)]) (λz=>n-z.1) ((0,(n:Int)-1)) (⟨j8 _,by simp⟩) λz hI=>?_;obtain⟨k,i⟩:=z;dsimp only at hI ⊢;obtain⟨hk,hi⟩:=hI;refine J.qd (λ_ h=>?_) λ_ h=>?_
 ·simp only[d6]at h;obtain⟨j,rfl⟩:=f9 h;have hs:l++(Bt.bits u n).take (k+1)=(l++(Bt.bits u n).take k)++[u.testBit j]:=by
   rw[Bt.take_bits_succ u n k (by omega),m9,show n-1-k=j from by omega]
  have hL:(l++(Bt.bits u n).take k).length=l.length+k:=by rw[d8,l5,Bt.length_bits];omega
  generalize l++(Bt.bits u n).take k=L at hs hL ⊢;obtain⟨t1,t2⟩:=t8 L.length;obtain⟨v1,v2,v3⟩:=b8W L (u.testBit j) (7-(L.length:Int).tmod 8) (by rw[t2]);have hbit:=b9z u j hu64 (by omega);rw[<- hbit]at v1 v2;have hbl:=a2q (u.testBit j);have hz:=Bt.length_packZ L;refine J.o (α:=(Option Nat×Nat)) 1 λx=>?_;obtain⟨a,c⟩:=x;refine J.q λ_=>?_;refine J.join (α:=Nat×Nat) (λy=>[si 7 j,⟨0,pp q,2, .tt⟩,⟨1, .int .u64 u,0, .tt⟩]) (λy=>[.hp F, .pt q 293 [slv (some y.1) (L.length/8+1) y.2,iI L.length],l9 5 1 (some y.1) (L.length/8+1) y.2 ((Bt.packZ L).map bv)]) (λhj=>?_) (λy=>?_)
  ·refine J.cond rfl (λh=>?_) (λh=>?_)
   ·rw[t2,B4]at h;have h8:L.length % 8=0:=by omega
    have hm:(L.length+7)/8=L.length/8:=by omega
    rw[hm];have hpz:Bt.packZ L=Bt.pack L++[0]:=by rw[Bt.packZ,d7 h8]
    refine J.q λ_=>?_;refine J.append hX tk 3 4 0 rfl rfl rfl rfl rfl rfl rfl rfl rfl rfl rfl rfl rfl rfl rfl rfl (by simp only[maxLen];omega) (by omega) (λ_=>rfl) λa' c'=>⟨_,rfl,trivial,?_⟩;refine J.know (λh' s=>D7 (c:=(a',c')) (Nat.succ_pos _) (s.get (i:=3) rfl)) λhg=>?_;obtain⟨ga,rfl⟩:=hg;refine J.qn 4 λ_=>?_;exact J.goto [0,1,3] (hj (ga,c')) ⟨rfl,rfl,rfl,trivial⟩ rfl (by rw[hpz,s8];rfl)
   ·rw[t2,m6]at h;have h8:¬L.length % 8=0:=by omega
    have hm:(L.length+7)/8=L.length/8+1:=by omega
    rw[hm];have hpz:Bt.packZ L=Bt.pack L:=by rw[Bt.packZ,d4 h8]
    refine J.know (λh' s=>D7 (c:=(a,c)) (Nat.succ_pos _) (s.get (i:=3) rfl)) λhg=>?_;obtain⟨ga,rfl⟩:=hg;refine J.qn 1 λ_=>?_;exact J.goto [0,1,3] (hj (ga,c)) ⟨rfl,rfl,rfl,trivial⟩ rfl (by rw[hpz];rfl)
  obtain⟨g,c⟩:=y;refine J.openOwn 2 rfl rfl (λ_=>rfl) λr q1 q2 q3 q4=>?_;refine J.pq (.of [0,4,8,13,16,20,24,29,32,36,41,44,48,52,56,60,64,68,72,77,80,84,88,92,96,103]) [24,25] [1,2] λ_ _=>?_;refine J.vT (bv (UInt8.ofNat (Bt.byteAt L (8*(L.length/8))))) rfl rfl (λhg a w he hC=>?_) ?_
  ·exact B6 tk rfl rfl he hg rfl rfl (hC rfl _ (C0 (i:=2) rfl)) (by
    rw[show 0+((L.length:Int).tdiv 8).toNat*1=L.length/8 from by omega,E6 (by rw[j5];omega),i5,Bt.packZ_get _ _ (by omega)];rfl)
  refine J.q λ_=>?_;refine J.s1 2 ((Bt.pack (L++[u.testBit j])).map bv++r) ?_ ?_ ?_
  ·rw[d8,j5];omega
  ·rw[show 0+((L.length:Int).tdiv 8).toNat*1=L.length/8 from by omega,Q1 _ _ (by rw[j5];omega),Bt.pack_snoc,A6];congr 2;show Value.int .u8 (bits .or .u8 ((UInt8.ofNat (Bt.byteAt L (8*(L.length/8)))).toNat:Int) _)=_;rw[show(UInt8.ofNat (Bt.byteAt L (8*(L.length/8)))).toNat=_ from K4 (Bt.byteAt_lt _ _),v2];simp[bv,K4 v3]
  have hpl:(Bt.pack (L++[u.testBit j])).length=L.length/8+1:=by rw[Bt.length_pack,d8];simp only[L6];omega
  have hl1:(L++[u.testBit j]).length=L.length+1:=by simp
  refine J.closeOwn (e:=5) (size:=1) (n:=L.length/8+1) (cap:=c) (xs:=(Bt.pack (L++[u.testBit j])).map bv) 2 rfl rfl (by rw[j5,hpl,U7]) q2 q3 (by rw[d8,j5]at*;omega) (by rw[D9 (by rw[j5,hpl,U7])]) rfl ?_;refine J.q λ_=>?_;refine J.turn1 [1,2] rfl (As:=[a5R q (l++(Bt.bits u n).take (k+1))]) (λh s=>Sep.one ⟨(some g,c),by
   rw[hs,b2i,hl1,show(L.length+1+7)/8=L.length/8+1 from by omega];exact s⟩) rfl ?_
  refine J.q λ_=>?_;refine J.n ((k+1,(j:Int)-1)) (⟨by dsimp only;omega,by dsimp only;omega⟩) (by dsimp only;omega) [0,1,2]
 ·simp only[c8]at h;have hkn:k=n:=by omega
  have ht:(Bt.bits u n).take k=Bt.bits u n:=x9 (by rw[Bt.length_bits];omega);rw[ht];exact J.qx [1]
theorem b6H (a:Option Nat) (n cap:Nat) (l:List Value) (hl:l.length=n) (h1:∀u∈l,u.oneCell'=true) (hn:n<=1000000):FP 260 [slv a n cap] [l9 5 1 a n cap l]
  (λv As=>∃a' c',v=slv a' n c'/\As=[l9 5 1 a n cap l,l9 5 1 a' n c' l]):=by
 refine FE [0] Tryz.func260 λX F hX=>?_;cases a with
 | none=>
  refine J.know (λh' s=>(s.get (i:=1) rfl).2) λhn0=>?_;obtain⟨rfl,rfl⟩:=hn0;have:l=[]:=m7 hl;subst this;refine J.qT λ_=>?_;refine J.turn1 [] rfl (As:=[l9 5 1 none 0 0 []]) (λh s=>Sep.one ⟨rfl,rfl,rfl⟩) rfl ?_;refine J.qr [1,2] λ_=>?_;exact⟨none,0,rfl,rfl⟩
 | some g=>
  refine J.qF λ_=>?_;refine J.qn 5 λbb=>?_;refine J.closeOwn (e:=5) (size:=1) (n:=0) (cap:=0) (xs:=[]) 2 rfl rfl rfl (j3 _) (j8 _) rfl rfl rfl ?_;refine J.q λ_=>?_;refine J.appendR hX tk (a:=some (bb 0)) (n:=0) (cap:=0) (xs:=[]) (oo:=0) (Ay:=l9 5 1 (some g) n cap l) 2 1 0 rfl rfl rfl rfl rfl rfl rfl rfl rfl rfl (Y6 _ _ (some g) _ _ _) rfl rfl rfl rfl h1 ?_ ?_ (λ_=>rfl) λa' c'=>⟨_,rfl,trivial,?_⟩
  ·simp only[maxLen];omega
  ·omega
  rw[J6 n,R9];refine J.qr [1,2] λ_=>?_;exact⟨a',c',rfl,rfl⟩
theorem b1w (q:Nat) (l:List Bool) (hl:l.length<=65536):FP 238 [pp q] [a5R q l]
  (λv As=>∃a' c',v=slv a' ((l.length+7)/8) c'/\As=[a5R q l,l9 5 1 a' ((l.length+7)/8) c' ((Bt.pack l).map bv)]):=by
 refine FE [2] Tryz.func238 λX F hX=>?_;refine J.qF λ_=>?_;refine J.o (α:=(Option Nat×Nat)) 1 λx=>?_;obtain⟨a,c⟩:=x;refine J.q λ_=>?_;refine J.ca hX (by kernel_rfl) (b6H a ((l.length+7)/8) c ((Bt.pack l).map bv) (by rw[j5,Bt.length_pack]) (λu hu=>by obtain⟨b,_,rfl⟩:=List.mem_map.1 hu;rfl) (by omega)) [2] 0 rfl rfl rfl rfl rfl rfl (λ_=>rfl) ?_;rintro v As ⟨a',c',rfl,rfl⟩;refine⟨_,rfl,trivial,?_⟩;refine J.cl (b2i q l) (a,c) [1,2] ?_;refine J.qr [1,3] λ_=>?_;exact⟨a',c',rfl,rfl⟩
theorem b9a (a:Option Addr) (n cap:Nat):FP 241 [.slice a n cap] [] (λv As=>∃g,v=pp g/\As=[.pt g 319 [.slice a n cap,iI 0]]):=by
 refine FE [0] Tryz.func241 λX F hX=>?_;refine J.q λbb=>?_;refine J.ru hX [1] ?_;exact⟨bb 0,rfl,rfl⟩
theorem c2q (q:Nat) (u:Int) (n:Nat) (l:List Bool) (h1:1<=n) (h2:n<=64) (h0:0<=u) (hu:u.toNat<2^n) (hl:l.length+n<=4096):FP 236 [pp q, .int .u64 u,iI n] [a5R q l] (Ps (.bool true) [a5R q (l++Bt.bits u.toNat n)]):=by
 obtain⟨u,rfl⟩:=f9 h0;exact b4V q u n l h1 h2 hu hl
theorem b3W (g:Nat) (a:Option Addr) (n cap:Nat) (k:Nat) (h:k<=8*n) (hn:n<=65536):FP 262 [pp g] [.pt g 319 [.slice a n cap,iI k]]
  (Ps (iI (8*(n:Int)-k)) [.pt g 319 [.slice a n cap,iI k]]):=by
 refine FE [2] Tryz.func262 λX F hX=>?_;refine J.qF λ_=>?_;refine J.p (.of [0,4,8,13,16,20,24,28,32,37,40,44]) [11] [1] λ_=>?_;exact J.qx [1]
theorem c1K (u:Nat) (hu:u*2<18446744073709551616) (y:Bool):IntKind.u64.wrap (BitVec.ofInt IntKind.u64.bits ((u:Int)*2)||| BitVec.ofInt IntKind.u64.bits (y.toNat:Int)).toNat=((2*u+y.toNat:Nat):Int):=by
 have hy:=a2q y;show bits .or .u64 _ _=_;rw[show(u:Int)*2=((2*u:Nat):Int)from by omega,u64_or_nat _ _ (by omega) (by omega),nat_join 1 (2*u) y.toNat (by omega) (by omega)]
theorem b9b (g:Nat) (A:Atom) (a:Option Addr) (n cap:Nat) (l:List UInt8) (hA:Rd A a 1 n (l.map bv)) (hl:l.length=n) (hn:n<=65536) (k w:Nat) (h1:1<=w) (h2:w<=64) (h3:k+w<=8*n):FP 242 [pp g,iI w] [.pt g 319 [.slice a n cap,iI k],A]
  (Ps (.tuple #[.int .u64 (Bt.numAt l k w:Nat), .bool true]) [.pt g 319 [.slice a n cap,iI (k+w:Nat)],A]):=by
 refine FE [2,0] Tryz.func242 λX F hX=>?_;refine J.qp (b4U w) [] λ_=>?_;rw[show decide ((w:Int)>=1)=true from i7 (by omega),show decide ((w:Int)<=64)=true from i7 (by omega)];refine J.qp (b3W g a n cap k (by omega) hn) [1] λ_=>?_;refine J.qd (λ_ h=>?_) λ_ h=>?_
 ·simp at h;omega
 refine J.q λ_=>?_;refine J.l (α:=Nat) (λj=>j<=w) (λj=>[⟨6, .int .u64 (Bt.numAt l k j:Nat),0, .tt⟩,si 7 (k+w:Int),⟨0,pp g,2, .tt⟩]) [1] (λj=>[.pt g 319 [.slice a n cap,iI (k+j:Nat)]]) (λj=>w-j) (0) (j8 _) λj hI=>?_;refine J.qd (λ_ h=>?_) λ_ h=>?_
 ·simp only[d6]at h;refine J.know (p:=∃g o,a=some ⟨g,o,none⟩) (λh' s=>Rd.addr (hA _ (s.get (i:=2) rfl)) (by omega)) λhk=>?_;obtain⟨gm,om,rfl⟩:=hk;obtain⟨t1,t2⟩:=t8 (k+j);have hx:l[(k+j)/8]? =some l[(k+j)/8]:=c9 (by omega);have hlt:=a5U (Bt.numAt_lt l k j) (show 2^j<=2^63 from a0m (by omega) (by omega));have hb:Bt.bitAt l (k+j)=l[(k+j)/8].toNat.testBit (7-(k+j) % 8):=by rw[Bt.bitAt,d5,hx];rfl
  have hs:Bt.numAt l k (j+1)=2*Bt.numAt l k j+(Bt.bitAt l (k+j)).toNat:=rfl;generalize l[(k+j)/8]=x at hx hb;have hbit:=c1w x.toNat (7-(k+j) % 8) x.toNat_lt (by omega);rw[<- hb]at hbit;rw[show((7-(k+j) % 8:Nat):Int)=7-((k+j:Nat):Int).tmod 8 from by omega]at hbit;have hbl:=a2q (Bt.bitAt l (k+j));have h21:((Bt.numAt l k j:Nat):Int)*2^min (Int.toNat 1) IntKind.u64.bits=(Bt.numAt l k j:Nat)*2:=congrArg (_* ·) (by decide);have hor:=c1K (Bt.numAt l k j) (by omega) (Bt.bitAt l (k+j));rw[<- hs,<- hbit]at hor;refine J.pq (.of [0,4,8,12,16,21,24,28,32,37,40,44,49,52,56,60,65,68,72,76,80,84,88,92]) [23] [1,2] λ_ _=>?_;refine J.vT (bv x) rfl rfl (λhg a w he hC=>a7r tk rfl rfl he rfl rfl rfl (hA _ (hC rfl _ (C0 (i:=2) rfl))) (by omega) (j:=(k+j)/8) (by omega) (by rw[i5,hx];rfl)) ?_;refine J.q λ_=>?_;rw[h21,hor];refine J.q λ_=>?_;refine J.n (j+1) (by omega) (by omega) [0,1,2]
 ·simp only[c8]at h;obtain rfl:j=w:=by omega
  exact J.qx [1,2]
theorem c3m (A:Atom) (a:Option Addr) (n cap:Nat) (l:List UInt8) (hA:Rd A a 1 n (l.map bv)) (hl:l.length=n) (hn:n<=65536):FP 239 [.slice a n cap] [A] (Ps (.int .u32 (K.sum l:Nat)) [A]):=by
 refine FE [0] Tryz.func239 λX F hX=>?_;refine J.q λ_=>?_;refine J.l (α:=Nat) (λk=>k<=n) (λk=>[si 8 k,si 7 n,sv 6 (.slice a n cap),⟨3, .int .u32 (K.sum (l.take k):Nat),0, .tt⟩]) [] (λk=>[]) (λk=>n-k) (0) (j8 _) λk hI=>?_;refine J.qd (λ_ h=>?_) λ_ h=>?_
 ·simp only[d6,i6]at h;refine J.know (p:=∃g o,a=some ⟨g,o,none⟩) (λh' s=>Rd.addr (hA _ (s.get (i:=1) rfl)) (by omega)) λhk=>?_;obtain⟨gm,om,rfl⟩:=hk;obtain⟨x,hx⟩:∃x,l[k]? =some x:=⟨_,c9 (by omega)⟩;have hs:=K.sum_snoc l k x hx;refine J.q λ_=>?_;refine J.v (bv x) rfl rfl (λhg a w he hw=>a7r tk rfl rfl he rfl rfl rfl (hA _ (hw.get (i:=1) rfl)) (by omega) (j:=k) (by omega) (by rw[i5,hx];rfl)) ?_;refine J.qp ((Fn.of_same (b0d (K.sum (l.take k)) x.toNat (K.sum_lt _) x.toNat_lt))) [] λ_=>?_;rw[<- hs];refine J.q λ_=>?_;refine J.n (k+1) (by omega) (by omega) [0,1]
 simp only[c8,i6]at h;have htk:l.take k=l:=x9 (by omega);rw[htk];exact J.qx [1]
end
section
open Go.RowKit

theorem c0n (role lpn seq:Int):
  bits BinOp.or IntKind.u64 (bits BinOp.or IntKind.u64 (IntKind.u64.wrap (IntKind.u64.wrap role*72057594037927936)) (IntKind.u64.wrap (bits BinOp.and IntKind.u64 (IntKind.u64.wrap lpn) 65535*1099511627776))) (bits BinOp.and IntKind.u64 (IntKind.u64.wrap seq) 1099511627775)=(S.meta_ role lpn seq:Int):=by
 have w64:∀n:Int,IntKind.u64.wrap n=((n % 18446744073709551616).toNat:Int):=λn=>by
  have:IntKind.u64.wrap n=n % 18446744073709551616:=by simp[IntKind.wrap,IntKind.bits,IntKind.signed]
  rw[this];omega
 have hl:bits BinOp.and IntKind.u64 (IntKind.u64.wrap lpn) 65535=((lpn % 65536).toNat:Int):=by
  rw[w64,show(65535:Int)=((65535:Nat):Int)from rfl,u64_and_nat _ _ (by omega) (by omega),nat_mask16];omega
 have hs:bits BinOp.and IntKind.u64 (IntKind.u64.wrap seq) 1099511627775=((seq % 1099511627776).toNat:Int):=by
  rw[w64,show(1099511627775:Int)=((2^40-1:Nat):Int)from rfl,u64_and_nat _ _ (by omega) (by omega),Nat.and_two_pow_sub_one_eq_mod];omega
 have hr:IntKind.u64.wrap (IntKind.u64.wrap role*72057594037927936)=(((role % 256).toNat*72057594037927936:Nat):Int):=by rw[w64 role,w64];omega
 have hl2:IntKind.u64.wrap (((lpn % 65536).toNat:Int)*1099511627776)=(((lpn % 65536).toNat*1099511627776:Nat):Int):=by rw[w64];omega
 rw[hl,hs,hr,hl2,u64_or_nat _ _ (by omega) (by omega),nat_join 56 _ _ (by omega) (by omega),u64_or_nat _ _ (by omega) (by omega),nat_join 40 _ _ (by omega) (by omega)];unfold S.meta_;omega

set_option maxRecDepth 100000 in
set_option maxHeartbeats 400000 in
theorem a7U (role lpn seq:Int) (w:World):
  Calls Tryz.prog 237 #[.int .i64 role, .int .i64 lpn, .int .i64 seq] w λe w'=>e= .returned (.int .u64 (S.meta_ role lpn seq))/\w=w':=by
 have he:=Lib.hid (c0n role lpn seq)
 go_enter Tryz.func237,Tryz.ntmps237
 go_wp2
 go_ret
 exact⟨b0R he.out,rfl⟩

set_option maxRecDepth 100000 in
set_option maxHeartbeats 400000 in
theorem b1S (m:Nat) (hm:m<18446744073709551616) (w:World):
  Calls Tryz.prog 230 #[.int .u64 m] w λe w'=>e= .returned (.tuple #[.int .i64 (m/72057594037927936:Nat), .int .i64 (m/1099511627776 % 65536:Nat), .int .i64 (m % 1099511627776:Nat)])/\w=w':=by
 have e1:bits BinOp.and IntKind.u64 ((m:Int)/1099511627776) 65535=((m/1099511627776 % 65536:Nat):Int):=by
  rw[show(m:Int)/1099511627776=((m/1099511627776:Nat):Int)from rfl,show(65535:Int)=((65535:Nat):Int)from rfl,u64_and_nat _ _ (by omega) (by omega),nat_mask16]
 have e2:bits BinOp.and IntKind.u64 (m:Int) 1099511627775=((m % 1099511627776:Nat):Int):=by
  rw[show(1099511627775:Int)=((2^40-1:Nat):Int)from rfl,u64_and_nat _ _ (by omega) (by omega),Nat.and_two_pow_sub_one_eq_mod]
 have e3:wrap64 ((m/1099511627776 % 65536:Nat):Int)=((m/1099511627776 % 65536:Nat):Int):=IntWalk.wrap64_in _ (by omega);have e4:wrap64 ((m % 1099511627776:Nat):Int)=((m % 1099511627776:Nat):Int):=IntWalk.wrap64_in _ (by omega);have E1:=Lib.hid e1;have E2:=Lib.hid e2;have E3:=Lib.hid e3;have E4:=Lib.hid e4;clear e1 e2 e3 e4
 go_enter Tryz.func230,Tryz.ntmps230
 go_wp2
 go_ret3
 refine⟨?_,rfl⟩;show Ending.returned (Value.tuple #[.int .i64 ((m:Int)/72057594037927936), .int .i64 (wrap64 (bits BinOp.and IntKind.u64 ((m:Int)/1099511627776) 65535)), .int .i64 (wrap64 (bits BinOp.and IntKind.u64 (m:Int) 1099511627775))])=_;rw[E1.out,E2.out,E3.out,E4.out];rfl

theorem a2O:∀(l m:List UInt8),H8 (l.map bv) (m.map bv)=decide (l=m)
 | [],[]=>rfl
 | x::l,y::m=>by
  simp only[n8,H8,bv,a5e,a2O l m]
  by_cases h:x=y
  ·subst h;simp
  ·have:¬x.toNat=y.toNat:=λe=>h (UInt8.toNat_inj.1 e);have h2:((x.toNat:Int)==(y.toNat:Int))=false:=by simp;omega
   simp[h2,h]
 | [],_::_=>by simp[H8]
 | _::_,[]=>by simp[H8]
end
section
open Go Go.RowKit
theorem Rd.drop {A:Atom} {b o size n:Nat} {xs:List Value} (h:Rd A (some ⟨b,o,none⟩) size n xs) (k:Nat) (hk:k<=n):Rd A (some ⟨b,o+k*size,none⟩) size (n-k) (xs.drop (k*size)):=by
 intro h' s;obtain⟨h0,h1⟩:=h h' s;have hle:k*size<=n*size:=H9 _ hk;refine⟨by rw[C5,h0,Nat.sub_mul],λhk0=>?_⟩;obtain⟨b',o',cs,ty,fr,e1,e2,e3⟩:=h1 (by omega);simp only[l7,Addr.mk.injEq,and_true]at e1;obtain⟨rfl,rfl⟩:=e1;refine⟨b,_,cs,ty,fr,rfl,e2,?_⟩;rw[<- e3,List.drop_take,C2,Nat.sub_mul]
section
variable {P : Program} {E : Env} {n : Nat} {a : Act} {w : World}
theorem V8 {lv:List Lk} {o:Oper} {t:TypeId} {x y:Operand} {k1 k2 u1 u2 t2:Nat} {g1 g2:G} {xs ys:List Value} (hop:o.op= .binOp .eql t x y t2) (hx:ev E x=some ⟨k1, .agg xs.toArray,u1,g1⟩) (hy:ev E y=some ⟨k2, .agg ys.toArray,u2,g2⟩) (he:EnvOK n E a) (v1:g1.on=true) (v2:g2.on=true)
  (hl:X3 P 100 t=some lv) (fx:Fits lv xs) (fy:Fits lv ys) (hm:∀zs,mkV P t zs= .agg zs.toArray) (hg:P.eqGuardType P.depth t=false):(execOp a.eval o).run P w= .ok (.value (.bool (H8 xs ys))) w:=by
 have ex:=C8 he hx;have ey:=C8 he hy;simp only[Slot.val,v1,v2]at ex ey;have h:=a8c (w:=w) hl fx fy (hm _) (hm _);simp[execOp,hop,ex,ey,eqGuard,hg,h,Sem.run_bind]
theorem b5F {lv:List Lk} {o:Oper} {t:TypeId} {x y:Operand} {k1 k2 u1 u2 t2:Nat} {g1 g2:G} {xs ys:List Value} (hop:o.op= .binOp .neq t x y t2) (hx:ev E x=some ⟨k1, .agg xs.toArray,u1,g1⟩) (hy:ev E y=some ⟨k2, .agg ys.toArray,u2,g2⟩) (he:EnvOK n E a) (v1:g1.on=true) (v2:g2.on=true)
  (hl:X3 P 100 t=some lv) (fx:Fits lv xs) (fy:Fits lv ys) (hm:∀zs,mkV P t zs= .agg zs.toArray) (hg:P.eqGuardType P.depth t=false):(execOp a.eval o).run P w= .ok (.value (.bool (!H8 xs ys))) w:=by
 have ex:=C8 he hx;have ey:=C8 he hy;simp only[Slot.val,v1,v2]at ex ey;have h:=a8a (w:=w) hl fx fy (hm _) (hm _);simp[execOp,hop,ex,ey,eqGuard,hg,h,Sem.run_bind]
end
def c2V:List Lk:=[.int .u8, .int .u8, .int .u8, .int .u8, .int .u8, .int .u8, .int .u8, .int .u8, .int .u8, .int .u8, .int .u8, .int .u8, .int .u8, .int .u8, .int .u8, .int .u8, .int .u8, .int .u8, .int .u8, .int .u8, .int .u8, .int .u8, .int .u8, .int .u8, .int .u8, .int .u8, .int .u8, .int .u8, .int .u8, .int .u8, .int .u8, .int .u8]
theorem a8B:X3 Tryz.prog 100 110=some c2V:=by kernel_rfl
theorem a6t (p:List UInt8):Fits c2V (T4 p):=⟨rfl,rfl,rfl,rfl,rfl,rfl,rfl,rfl,rfl,rfl,rfl,rfl,rfl,rfl,rfl,rfl,rfl,rfl,rfl,rfl,rfl,rfl,rfl,rfl,rfl,rfl,rfl,rfl,rfl,rfl,rfl,rfl,trivial⟩
theorem c0j (zs:List Value):mkV Tryz.prog 110 zs= .agg zs.toArray:=by simp[mkV,Tryz.underlying110]
theorem c2Y:Tryz.prog.eqGuardType Tryz.prog.depth 110=false:=by kernel_rfl
theorem c2g (x y:List UInt8) (hx:x.length=32) (hy:y.length=32):H8 (T4 x) (T4 y)=decide (x=y):=by rw[X2 x hx,X2 y hy,a2O]
def lvD:List Lk:=[.int .u8, .int .u8, .int .u8, .int .u8, .int .u8, .int .u8, .int .u8, .int .u8, .int .u8, .int .u8, .int .u8, .int .u8, .int .u8, .int .u8, .int .u8, .int .u8]
theorem a1g (p:List UInt8):Fits lvD (H4 p):=⟨rfl,rfl,rfl,rfl,rfl,rfl,rfl,rfl,rfl,rfl,rfl,rfl,rfl,rfl,rfl,rfl,trivial⟩
theorem eqD (x y:List UInt8) (hx:x.length=16) (hy:y.length=16):H8 (H4 x) (H4 y)=decide (x=y):=by rw[a1y x hx,a1y y hy,a2O]
theorem a2C:X3 Tryz.prog 100 36=some lvD:=by kernel_rfl
theorem mkD (zs:List Value):mkV Tryz.prog 36 zs= .agg zs.toArray:=by simp[mkV,Tryz.underlying36]
theorem gdD:Tryz.prog.eqGuardType Tryz.prog.depth 36=false:=by kernel_rfl
def shL (s:Sh):List Value:=[byC s.data 0,byC s.data 1,byC s.data 2,byC s.data 3,byC s.data 4,byC s.data 5,byC s.data 6,byC s.data 7,byC s.data 8,byC s.data 9,byC s.data 10,byC s.data 11,byC s.data 12,byC s.data 13,byC s.data 14,byC s.data 15,
 iI s.role,iI s.lpn,iI s.seq,iI s.kind,iI s.block,iI s.row,iI s.mask]
abbrev shV (s:Sh):Value:= .agg (shL s).toArray
abbrev pgV (p:List UInt8):Value:= .agg (T4 p).toArray
theorem b8A (role lpn seq:Int):FP 237 [iI role,iI lpn,iI seq] [] (Ps (.int .u64 (S.meta_ role lpn seq)) []):=Fn.of_same (a7U role lpn seq)
theorem c1Z (m:Nat) (hm:m<18446744073709551616):FP 230 [.int .u64 m] [] (Ps (.tuple #[iI (m/72057594037927936:Nat),iI (m/1099511627776 % 65536:Nat),iI (m % 1099511627776:Nat)]) []):=Fn.of_same (b1S m hm)
def P7 (s:Sh):List UInt8:=if S.may s then S.put s else a3n
theorem a3Z (s:Sh) (h:s.data.length=16):(P7 s).length=32:=by
 unfold P7;split
 ·exact S.length_put s h
 ·rfl
theorem b8F (p:List UInt8) (h:p.length=32):(S.getV p).data.length=16:=by
 unfold S.getV S.get;split
 ·simp[S.fields,h]
 ·rfl
section
variable {P : Program} {T : Tab} {E : Env} {w : World} {n0 : Nat} {a : Act}
theorem a3w (hT:TabOK P T) {o:Oper} {ty e len:Nat} {x y:Operand} {k1 k2 t1 t2:Nat} {g1 g2:G} {ik:IntKind} {i:Int} {cs:Array Value} {v:Value} {ti:TI} (hop:o.op= .index ty x y) (hx:ev E x=some ⟨k1, .agg cs,t1,g1⟩) (hy:ev E y=some ⟨k2, .int ik i,t2,g2⟩) (he:EnvOK n0 E a) (v1:g1.on=true) (v2:g2.on=true)
  (hd:P.underlying ty=some (.array len e)) (hti:T.get e=some ti) (h1:ti.d.one=true) (hs:Nat.beq ti.size 1=true) (h0:0<=i) (hl:i<(len:Int)) (hv:cs[i.toNat]? =some v):(execOp a.eval o).run P w= .ok (.value v) w:=by
 have ex:=C8 he hx;have ey:=C8 he hy;simp only[Slot.val,v1,v2]at ex ey;obtain⟨d,f,z,ok⟩:=C1 (hT.get hti);have hsz:f.size=1:=by rw[<- ok.hsize];exact D1 hs
 have hp:=a8i (P:=P) (w:=w) ok.hd ok.hf cs i.toNat
 rw[ok.one h1,hv]at hp;simp only[execOp,hop,ex,ey,Instr.index,asIntOf,Sem.run_bind,Sem.run_pure,Result.andThen_ok,s9 hd,d7 (And.intro h0 hl),I9 ok.hf,hsz,U7,hp];simp
end
theorem b8y (n a:Int):FP 254 [iI n,iI a] [] (Ps (.bool (S.inB n a)) []):=by
 refine FE [0,0] Tryz.func254 λX F hX=>?_;exact J.qx []
theorem c0C (s:Sh) (h:s.data.length=16):FP 255 [shV s] [] (Ps (.bool (S.entry s)) []):=by
 refine FE [0] Tryz.func255 λX F hX=>?_;refine J.q λ_=>?_;refine J.v (.bool (decide (s.data=zeros16))) rfl rfl (λhg a w he hs=>?_) ?_
 ·rw[<- eqD s.data zeros16 h rfl];exact V8 (xs:=H4 s.data) (ys:=H4 zeros16) rfl rfl rfl he rfl rfl a2C (a1g _) (a1g _) mkD gdD
 refine J.qd (λ_ h1=>?_) λ_ h1=>?_
 ·rw[B4]at h1;refine J.qr [] λ_=>?_;exact⟨by rw[S.entry,d7 h1],rfl⟩
 rw[m6]at h1;refine J.qd (λ_ h2=>?_) λ_ h2=>?_
 ·rw[h2];rw[B4]at h2;refine J.qT λ_=>?_;refine J.qr [] λ_=>?_;exact⟨by rw[S.entry,d4 h1,d7 (.inl h2)],rfl⟩
 rw[m6]at h2;refine J.qd (λ_ h4=>?_) λ_ h4=>?_
 ·rw[B4]at h4;refine J.qr [] λ_=>?_;exact⟨by rw[S.entry,d4 h1,d7 (.inr h4)],rfl⟩
 rw[m6]at h4;refine J.qd (λ_ h3=>?_) λ_ h3=>?_
 ·rw[B4]at h3;refine J.qr [] λ_=>?_;exact⟨by rw[S.entry,d4 h1,d4 (by omega),d7 h3];rfl,rfl⟩
 rw[m6]at h3;refine J.qr [] λ_=>?_;exact⟨by rw[S.entry,d4 h1,d4 (by omega),d4 h3],rfl⟩
theorem b0j (s:Sh) (h:s.data.length=16):FP 227 [shV s] [] (Ps (.bool (S.may s)) []):=by
 have hc:=L.count_le s.mask;have e:∀k:Nat,decide ((k:Int)>=2)=decide (2<=k):=λk=>by rw[a2v];simp;omega
 refine FE [0] Tryz.func227 λX F hX=>?_;refine J.qp (b8y s.block 15) [] λ_=>?_;refine J.q λ_=>?_;refine J.cg hX (b8y s.row 7) ?_;refine J.q λ_=>?_;refine J.cg hX (a5B s.mask) ?_;refine J.qp (b8y s.seq 1099511627775) [] λ_=>?_;refine J.q λ_=>?_;refine J.cg hX (b8y s.lpn 65535) ?_;refine J.q λ_=>?_;refine J.cg hX (b8y s.role 255) ?_;refine J.q λ_=>?_;refine J.cg hX (c0C s h) ?_;refine J.run hX tk 400 (λb20=>rfl) (λb20=>?_) (λb20=>?_)
 ·repeat' (first | exact Conj.nil | refine Conj.cons ?_ ?_ | (intros;first | assumption | simp_all))
 refine J.ru hX [] ?_;exact⟨by rw[S.may,S.place,S.numbers,<- e];rfl,rfl⟩
theorem hbv (l:List UInt8):∀u∈l.map bv,u.oneCell'=true:=λu hu=>by
 obtain⟨x,_,rfl⟩:=List.mem_map.1 hu;rfl
theorem c1g (d z q:List UInt8) (hd:d.length=16) (hz:z.length=16) (hq:q.length<=16):(T4 (d++z)).take 16++q.map bv++(T4 (d++z)).drop (16+(q.map bv).length)=T4 (d++(q++z.drop q.length)):=by
 rw[X2 _ (by rw[d8];omega),X2 _ (by simp only[d8,C5];omega),j5,<- hd,s8,D9 (j5 _),s8,s8,m9];congr 2;rw[<- s8,<- List.map_drop,List.drop_append,s8,Y4 (by omega),S8,R9,Nat.add_sub_cancel_left]
def hdF (s:Sh):Nat->Int | 0=>s.block | 1=>s.row | 2=>s.mask | _=>s.kind
def hdk (s:Sh):Nat->List Bool | 0=>[]++Bt.bits (S.meta_ s.role s.lpn s.seq) 64 | k+1=>hdk s k++Bt.bits (hdF s k).toNat 8
theorem u4i:Tryz.prog.underlying 296=some (.array 4 3):=by kernel_rfl
theorem b8z (s:Sh) (h:s.data.length=16):FP 200 [shV s] [] (Ps (.tuple #[pgV (P7 s), .bool (S.may s)]) []):=by
 refine FE [0] Tryz.func200 λX F hX=>?_;refine J.q λbb=>?_;refine J.cb (b0j s h) [] ?_;refine cpq ⟨_,rfl,trivial,?_⟩;cases hm:S.may s with
 | false=>
  refine J.qT λ_=>?_;refine J.qr [] λ_=>?_;exact⟨by rw[P7,hm];rfl,rfl⟩
 | true=>
  obtain⟨m1,m2,m3,m4⟩:=S.may_bounds s hm;have hF:∀k,0<=hdF s k/\(hdF s k).toNat<2^8:=λk=>by
   unfold hdF;split<;>constructor<;>first | omega | (rw[show(2:Nat)^8=256 from rfl];omega)
  have hkl:∀k,(hdk s k).length=64+8*k:=λk=>by
   induction k with
   | zero=>simp[hdk,Bt.length_bits]
   | succ k ih=>rw[hdk,d8,ih,Bt.length_bits];omega
  refine J.qF λ_=>?_;refine J.q λcc=>?_;refine J.turn1 [] rfl (As:=[l9 5 1 none 0 0 []]) (λh s=>Sep.one ⟨rfl,rfl,rfl⟩) rfl ?_;refine J.cl (b2i (cc 0) []) (none,0) [4,5] ?_;refine J.qp ((Fn.of_same (a7U s.role s.lpn s.seq))) [] λ_=>?_;refine J.q λ_=>?_;refine J.ca hX (by kernel_rfl) (b4V (cc 0) _ 64 [] (by decide) (by decide) (S.meta_lt _ _ _) (by decide)) [4] 0 rfl rfl rfl rfl rfl rfl (λ_=>rfl) ?_;refine cpq ⟨_,rfl,trivial,?_⟩;refine J.q λ_=>?_;refine J.l (α:=Nat) (λk=>k<=4) (λk=>[si 32 k,⟨31, .agg #[iI s.block,iI s.row,iI s.mask,iI s.kind],0, .tt⟩,⟨5,pp (cc 0),5, .tt⟩,⟨1,pp (bb 0),2, .tt⟩,⟨2,pp (bb (0+1)),3, .tt⟩,⟨4,pp (bb (0+1+1)),4, .tt⟩]) [4] (λk=>[a5R (cc 0) (hdk s k)]) (λk=>4-k) (0) (j8 _) λk hI=>?_;refine J.qd (λ_ h1=>?_) λ_ h1=>?_
  ·simp only[d6]at h1;refine J.q λ_=>?_;refine J.v (iI (hdF s k)) rfl rfl (λhg a w he hw=>a3w tk rfl rfl rfl he rfl rfl u4i rfl rfl rfl (by omega) (by omega) (by rcases(by omega:k=0\/k=1\/k=2\/k=3)with rfl | rfl | rfl | rfl<;>rfl)) ?_;have hq:=hF k;have hq2:(hdF s k).toNat<256:=hq.2;have hk2:=hkl k;refine J.qp (c2q (cc 0) (hdF s k) 8 (hdk s k) (by decide) (by decide) hq.1 hq.2 (by omega)) [4] λ_=>?_;refine J.q λ_=>?_;refine J.n (k+1) (by omega) (by omega) [0,1,2,3,4,5]
  simp only[c8]at h1;obtain rfl:k=4:=by omega
  have hk4:=hkl 4;have hp4:(Bt.pack (hdk s 4)).length=12:=by rw[Bt.length_pack,hk4]
  refine J.pq (.of [0,4,8,14]) [] [1] λ_ _=>?_;refine J.copy hX tk 3 1 rfl rfl rfl rfl rfl rfl rfl rfl rfl rfl ((a3K (bb 0) _ (shL s) 1 23 rfl).take 16 (by decide)) rfl rfl (H4 s.data) rfl (L5 rfl) (by rw[show(shL s).take (16*1)=H4 s.data from rfl,a1y _ h];exact hbv _) (T4 (s.data++zeros16)) (by rw[X2 _ (by rw[d8,h];rfl),s8,a1y _ h,j5,h];rfl) rfl (λ_=>rfl) ⟨⟨rfl,trivial⟩,?_⟩;refine J.p (.of [0,4,10,14]) [] [] λ_=>?_;refine J.qc (b1w (cc 0) (hdk s 4) (by omega)) [4] λ_=>?_;rintro v As ⟨a,c,rfl,rfl⟩;refine⟨_,rfl,trivial,?_⟩;rw[hk4,show(64+8*4+7)/8=12 from rfl];refine J.know (λh' s=>D7 (c:=(a,c)) (by decide) (s.get (i:=6) rfl)) λhg=>?_;obtain⟨g,rfl⟩:=hg;refine J.q λ_=>?_;refine J.copy hX tk 3 6 rfl rfl rfl rfl rfl rfl rfl rfl rfl rfl (Y6 _ _ _ _ _ _) rfl rfl ((Bt.pack (hdk s 4)).map bv) (x9 (by rw[j5,hp4];decide)) (by rw[j5,hp4];exact L5 rfl) (hbv _) _ (c1g s.data zeros16 _ h rfl (by rw[hp4];decide)) rfl (λ_=>rfl) ⟨trivial,?_⟩;rw[hp4];have hQ:(s.data++(Bt.pack (hdk s 4)++zeros16.drop 12)).length=32:=by rw[d8,d8,h,hp4];rfl
  have hQ2:(s.data++(Bt.pack (hdk s 4)++zeros16.drop 12)).take 28=s.data++Bt.pack (hdk s 4):=by rw[<- m9];exact D9 (by rw[d8,h,hp4])
  have hR:=(a3K (bb (0+1+1)) 110 (T4 (s.data++(Bt.pack (hdk s 4)++zeros16.drop 12))) 1 32 rfl).take 28 (by decide);rw[X2 _ hQ,U7,<- List.map_take,hQ2,<- X2 _ hQ]at hR;refine J.q λ_=>?_;refine J.ca hX (by kernel_rfl) (c3m _ _ 28 32 _ hR (by rw[d8,h,hp4]) (by decide)) [3] 0 rfl rfl rfl rfl rfl rfl (λ_=>rfl) ?_;refine cpq ⟨_,rfl,trivial,?_⟩;have hsum:=K.sum_lt (s.data++Bt.pack (hdk s 4));refine J.q λ_=>?_;refine J.ca hX (by kernel_rfl) (b4V (cc 0) _ 32 (hdk s 4) (by decide) (by decide) hsum (by omega)) [4] 0 rfl rfl rfl rfl rfl rfl (λ_=>rfl) ?_;refine cpq ⟨_,rfl,trivial,?_⟩;have hl5:(hdk s 4++Bt.bits (K.sum (s.data++Bt.pack (hdk s 4))) 32).length=128:=by rw[d8,hk4,Bt.length_bits]
  have hput:P7 s=s.data++Bt.pack (hdk s 4++Bt.bits (K.sum (s.data++Bt.pack (hdk s 4))) 32):=by rw[P7,d7 hm];rfl
  generalize hdk s 4++Bt.bits (K.sum (s.data++Bt.pack (hdk s 4))) 32=L at hl5 hput ⊢;have hp5:(Bt.pack L).length=16:=by rw[Bt.length_pack,hl5]
  refine J.p (.of [0,4,10,14]) [] [] λ_=>?_;refine J.qc (b1w (cc 0) L (by omega)) [4] λ_=>?_;rintro v As ⟨a,c,rfl,rfl⟩;refine⟨_,rfl,trivial,?_⟩;rw[hl5,show(128+7)/8=16 from rfl];refine J.know (λh' s=>D7 (c:=(a,c)) (by decide) (s.get (i:=7) rfl)) λhg=>?_;obtain⟨g',rfl⟩:=hg;refine J.q λ_=>?_;refine J.copy hX tk 3 7 rfl rfl rfl rfl rfl rfl rfl rfl rfl rfl (Y6 _ _ _ _ _ _) rfl rfl ((Bt.pack L).map bv) (x9 (by rw[j5,hp5];decide)) (by rw[j5,hp5];exact L5 rfl) (hbv _) _ (c1g s.data _ _ h (by rw[d8,hp4];rfl) (by rw[hp5];decide)) rfl (λ_=>rfl) ⟨trivial,?_⟩;rw[hp5,show(Bt.pack (hdk s 4)++zeros16.drop 12).drop 16=[]from Y4 (by rw[d8,hp4];decide),l8,<- hput];refine J.qr [] λ_=>?_;exact⟨by rw[hm];rfl,rfl⟩
def sel (j k:Nat) (x:Nat):Int:=if j<k then x else 0
theorem u4p:Tryz.prog.underlying 306=some (.array 4 305):=by kernel_rfl
def gof:Nat->Nat | 0=>20 | 1=>21 | 2=>22 | _=>19
def gtk (m:Nat) (b:List UInt8) (k:Nat):List Value:=[iI (m/72057594037927936:Nat),iI (m/1099511627776 % 65536:Nat),iI (m % 1099511627776:Nat),iI (sel 3 k (Bt.numAt b 88 8)),iI (sel 0 k (Bt.numAt b 64 8)),iI (sel 1 k (Bt.numAt b 72 8)),iI (sel 2 k (Bt.numAt b 80 8))]
theorem b8B (p:List UInt8) (h:p.length=32):FP 205 [pgV p] [] (Ps (.tuple #[shV (S.getV p),iI (S.getE p)]) []):=by
 have hpl:(p.take 16).length=16:=by rw[l5,h];rfl
 have hb:(p.drop 16).length=16:=by rw[C5,h]
 have hpc:(T4 p).take 16=H4 (p.take 16):=by rw[X2 p h,a1y _ hpl,List.map_take]
 have hone:∀u∈T4 p,u.oneCell'=true:=by rw[X2 p h];exact hbv p
 have hm:Bt.numAt (p.drop 16) 0 64<18446744073709551616:=Bt.numAt_lt _ 0 64;have hf:=λk=>Bt.numAt_lt (p.drop 16) k 8;rw[show(2:Nat)^8=256 from rfl]at hf;refine FE [0] Tryz.func205 λX F hX=>?_;refine J.q λbb=>?_;refine J.plan (.of [0,4,8,14]) [] [1] (by rw[hX.hP];kernel_rfl) (by kernel_rfl) ?_;refine J.q λ_=>?_;refine J.copy hX tk 3 1 rfl rfl rfl rfl rfl rfl rfl rfl rfl rfl (a3K (bb 0) _ (T4 p) 1 32 rfl) rfl rfl (H4 (p.take 16)) hpc (L5 rfl) hone (shL ⟨p.take 16,0,0,0,0,0,0,0⟩) rfl rfl (λ_=>rfl) ⟨⟨rfl,trivial⟩,?_⟩;have hR:=(a3K (bb 0) 110 (T4 p) 1 32 rfl).drop 16 (by decide);rw[show(T4 p).drop (16*1)=(p.drop 16).map bv from by rw[X2 p h,List.map_drop]]at hR;refine J.qc (b9a (some ⟨bb 0,0+16*1,none⟩) 16 16) [] λ_=>?_;rintro v As ⟨g,rfl,rfl⟩;refine⟨_,rfl,trivial,?_⟩;refine J.q λ_=>?_;refine J.ca hX (by kernel_rfl) (b9b g _ _ 16 16 _ hR hb (by decide) 0 64 (by decide) (by decide) (by decide)) [4,1] 0 rfl rfl rfl rfl rfl rfl (λ_=>rfl) ?_;refine cpq ⟨_,rfl,trivial,?_⟩;refine J.qp ((Fn.of_same (b1S _ hm))) [] λ_=>?_;refine J.q λ_=>?_;refine J.l (α:=Nat) (λk=>k<=4) (λk=>[si 39 k,⟨38, .agg #[.pointer (some ⟨bb (0+1+1),0+20,none⟩), .pointer (some ⟨bb (0+1+1),0+21,none⟩), .pointer (some ⟨bb (0+1+1),0+22,none⟩), .pointer (some ⟨bb (0+1+1),0+19,none⟩)],0, .tt⟩,⟨1,pp (bb 0),2, .tt⟩,⟨2,pp (bb (0+1)),3, .tt⟩,⟨4,pp (bb (0+1+1)),4, .tt⟩,sp 5 g]) [3,4] (λk=>[.pt (bb (0+1+1)) 212 (H4 (p.take 16)++gtk (Bt.numAt (p.drop 16) 0 64) (p.drop 16) k), .pt g 319 [.slice (some ⟨bb 0,0+16*1,none⟩) 16 16,iI (64+8*k:Nat)]]) (λk=>4-k) (0) (j8 _) λk hI=>?_;refine J.qd (λ_ h1=>?_) λ_ h1=>?_
 ·simp only[d6]at h1;have hq:=hf (64+8*k);have hk:k=0\/k=1\/k=2\/k=3:=by omega
  refine J.q λ_=>?_;refine J.v (.pointer (some ⟨bb (0+1+1),0+gof k,none⟩)) rfl rfl (λhg a w he hw=>a3w tk rfl rfl rfl he rfl rfl u4p rfl rfl rfl (by omega) (by omega) (by rcases hk with rfl | rfl | rfl | rfl<;>rfl)) ?_;refine J.q λ_=>?_;refine J.ca hX (by kernel_rfl) (b9b g _ _ 16 16 _ hR hb (by decide) (64+8*k) 8 (by decide) (by decide) (by omega)) [4,1] 0 rfl rfl rfl rfl rfl rfl (λ_=>rfl) ?_;refine cpq ⟨_,rfl,trivial,?_⟩;refine J.q λ_=>?_;refine J.s1 3 (H4 (p.take 16)++gtk (Bt.numAt (p.drop 16) 0 64) (p.drop 16) (k+1)) ?_ ?_ ?_
  ·rcases hk with rfl | rfl | rfl | rfl<;>exact L5 rfl
  ·rcases hk with rfl | rfl | rfl | rfl<;>rfl
  refine J.q λ_=>?_;refine J.n (k+1) (by omega) (by omega) [0,1,2,3,4]
 simp only[c8]at h1;obtain rfl:k=4:=by omega
 rw[show H4 (p.take 16)++gtk (Bt.numAt (p.drop 16) 0 64) (p.drop 16) 4=shL (S.fields p)from rfl];refine J.qp (b8z (S.fields p) hpl) [] λ_=>?_;refine J.q λ_=>?_;refine J.v (.bool (!decide (P7 (S.fields p)=p))) rfl rfl (λhg a w he hs=>?_) ?_
 ·rw[<- c2g _ p (a3Z _ hpl) h];exact b5F (xs:=T4 (P7 (S.fields p))) (ys:=T4 p) rfl rfl rfl he hg hg a8B (a6t _) (a6t _) c0j c2Y
 have hget:S.get p=if(!S.may (S.fields p)|| !decide (P7 (S.fields p)=p))=true then none else some (S.fields p):=by
  unfold S.get P7;cases S.may (S.fields p)<;>simp
 refine J.qd (λ_ h1=>?_) λ_ h1=>?_
 ·rw[d7 h1]at hget;refine J.qr [] λ_=>?_;exact⟨by rw[S.getV,S.getE,hget];rfl,rfl⟩
 ·rw[d4 (by rw[h1];decide)]at hget;refine J.qr [] λ_=>?_;exact⟨by rw[S.getV,S.getE,hget];rfl,rfl⟩
structure En where
 lpn:Int
 seq:Int
 role:Int
 data:List UInt8
def enL (e:En):List Value:=[iI e.lpn,iI e.seq,iI e.role,byC e.data 0,byC e.data 1,byC e.data 2,byC e.data 3,byC e.data 4,byC e.data 5,byC e.data 6,byC e.data 7,byC e.data 8,byC e.data 9,byC e.data 10,byC e.data 11,byC e.data 12,byC e.data 13,byC e.data 14,byC e.data 15]
abbrev enV (e:En):Value:= .agg (enL e).toArray
namespace W
def sh (b r m:Int) (e:En):Sh:=⟨e.data,e.role,e.lpn,e.seq,1,b,r,m⟩
def ok (b r m:Int) (e:En):Bool:=S.may (sh b r m e)
def own (b r m:Int) (e:En):Sh:=if ok b r m e then sh b r m e else Sh.zero
end W
theorem b1K (b r m:Int) (e:En) (h:e.data.length=16):FP 199 [iI b,iI r,iI m,enV e] [] (Ps (.tuple #[shV (W.own b r m e), .bool (W.ok b r m e)]) []):=by
 refine FE [0,0,0,0] Tryz.func199 λX F hX=>?_;refine J.qp (b0j (W.sh b r m e) h) [] λ_=>?_;refine J.qd (λ_ h1=>?_) λ_ h1=>?_
 ·simp only[i4]at h1;refine J.qr [] λ_=>?_;exact⟨by rw[W.own,W.ok,h1];rfl,rfl⟩
 ·simp only[B5]at h1;refine J.qr [] λ_=>?_;exact⟨by rw[W.own,W.ok,h1];rfl,rfl⟩
namespace W
def mix (x s:List UInt8) (k:Nat):List UInt8:=(List.zipWith (· ^^^ ·) x s).take k++x.drop k
def ovM (m x:Int):Int:=IntKind.u64.wrap ((BitVec.ofInt 64 m ^^^ BitVec.ofInt 64 x).toNat:Int)
def over1 (x:List UInt8×Int) (s:Sh):List UInt8×Int:=(mix x.1 s.data 16,ovM x.2 (S.meta_ s.role s.lpn s.seq))
def over (l:List Sh):List UInt8×Int:=l.foldl over1 (zeros16,0)
end W
def J0 (l:List Sh):List Value:=l.flatMap shL
theorem b4i (s:Sh):(shL s).length=23:=rfl
theorem a4F:∀(l:List Sh) (r:List Value) (k:Nat) (x:Sh),l[k]? =some x->((J0 l++r).drop (k*23)).take 23=shL x
 | [],_,_,_,h=>by simp at h
 | y::l,r,0,x,h=>by
  simp at h;subst h;rw[Q3,a0b];simp only[J0,z7,m9];exact D9 (b4i y)
 | y::l,r,k+1,x,h=>by
  have:=a4F l r k x (by simpa using h);rw[show(k+1)*23=23+k*23 from by omega,<- C2];simp only[J0,z7,m9]at this ⊢;rw[U8 (b4i y)];exact this
theorem b1a {x s:List UInt8} (hx:x.length=16) (hs:s.length=16) (k:Nat) (hk:k<=16):(W.mix x s k).length=16:=by simp[W.mix,hx,hs];omega
theorem c0m {x s:List UInt8} (hx:x.length=16) (hs:s.length=16) {k:Nat} (hk:k<16):(W.mix x s k).getD k 0=x.getD k 0:=by
 have e:(W.mix x s k)[k]? =x[k]?:=by
  rw[W.mix,B1 (by simp[hx,hs];omega),J5];congr 1;simp[hx,hs];omega
 rw[d5,e,d5]
theorem c0l {x s:List UInt8} (hx:x.length=16) (hs:s.length=16) {k:Nat} (hk:k<16):(W.mix x s k).set k (x.getD k 0 ^^^ s.getD k 0)=W.mix x s (k+1):=by
 apply z8;intro j;rw[A9,b1a hx hs k (by omega)];simp only[W.mix,I8,l5,List.length_zipWith,hx,hs,Nat.min_self,C6,J5]
 by_cases e:k=j
 ·subst e;rw[d7 rfl,d7 hk,d7 (by omega),d7 (by omega)];simp[List.getElem?_zipWith,hx,hs,hk]
 ·rw[d4 e]
  by_cases h1:j<k
  ·rw[d7 (show j<min k 16 by omega),d7 h1,d7 (show j<min (k+1) 16 by omega),d7 (show j<k+1 by omega)]
  ·rw[d4 (show¬j<min k 16 by omega),d4 (show¬j<min (k+1) 16 by omega),show k+(j-min k 16)=j from by omega,show k+1+(j-min (k+1) 16)=j from by omega]
theorem u81:Tryz.prog.underlying 36=some (.array 16 5):=by kernel_rfl
theorem b0v {x:List UInt8} (h:x.length=16) {k:Nat} (hk:k<16):(H4 x)[k]? =some (bv (x.getD k 0)):=by
 rw[a1y x h,i5];simp[h,hk]
theorem b6p {x:List UInt8} (h:x.length=16) {k:Nat} {b:UInt8}:(H4 x).set k (bv b)=H4 (x.set k b):=by
 rw[a1y x h,a1y _ (by simpa using h),A6]
theorem b9k (b c:UInt8):IntKind.u8.wrap ((BitVec.ofInt IntKind.u8.bits (b.toNat:Int) ^^^ BitVec.ofInt IntKind.u8.bits (c.toNat:Int)).toNat:Int)=((b ^^^ c).toNat:Int):=by
 have h:=b6z b (c.toNat:Int);have h1:((c.toNat:Int) % 256)=c.toNat:=by have:=c.toNat_lt;omega
 have h2:IntKind.u8.wrap (c.toNat:Int)=(c.toNat:Int):=by
  have:IntKind.u8.wrap (c.toNat:Int)=(c.toNat:Int) % 256:=by simp[IntKind.wrap,IntKind.bits,IntKind.signed]
  rw[this,h1]
 rw[h2,h1]at h;simpa using h
theorem a3b {l:List Sh} (hd:∀s∈l,s.data.length=16):∀(x:List UInt8×Int),x.1.length=16->(l.foldl W.over1 x).1.length=16:=by
 induction l with
 | nil=>intro x h;exact h
 | cons s l ih=>intro x h;exact ih (λt ht=>hd t (by simp[ht])) _ (b1a h (hd s (by simp)) 16 (by omega))
theorem a1X (a:Option Nat) (n cap:Nat) (l:List Sh) (hl:l.length=n) (hn:n<=1000) (hd:∀s∈l,s.data.length=16):FP 228 [slv a n cap] [l9 212 23 a n cap (J0 l)]
  (Ps (.tuple #[.agg (H4 (W.over l).1).toArray, .int .u64 (W.over l).2]) [l9 212 23 a n cap (J0 l)]):=by
 refine FE [0] Tryz.func228 λX F hX=>?_;refine J.q λbb=>?_;refine J.l (α:=Nat) (λk=>k<=n) (λk=>[si 12 k,si 11 n,sv 10 (slv a n cap),⟨5, .int .u64 ((l.take k).foldl W.over1 (zeros16,0)).2,0, .tt⟩,⟨4,pp (bb (0+1)),4, .tt⟩,⟨2,pp (bb 0),3, .tt⟩]) [3] (λk=>[.pt (bb (0+1)) 36 (H4 ((l.take k).foldl W.over1 (zeros16,0)).1)]) (λk=>n-k) (0) (j8 _) λk hI=>?_;have hxl:((l.take k).foldl W.over1 (zeros16,0)).1.length=16:=a3b (λt ht=>hd t (I7 ht)) _ rfl;refine J.qd (λ_ h1=>?_) λ_ h1=>?_
 ·simp only[d6,i6]at h1;obtain⟨s,hs⟩:∃s,l[k]? =some s:=⟨_,c9 (by omega)⟩;have hsl:s.data.length=16:=hd s (j9 hs);have hnext:(l.take (k+1)).foldl W.over1 (zeros16,0)=W.over1 ((l.take k).foldl W.over1 (zeros16,0)) s:=by
   rw[D2,hs];simp
  generalize(l.take k).foldl W.over1 (zeros16,0)=x at hxl hnext;cases a with
  | none=>
   refine J.know (λh' s=>(s.get (i:=1) rfl).2.1) λhn0=>?_;omega
  | some g=>
   refine J.q λ_=>?_;refine J.v (shV s) rfl rfl (λhg a w he hw=>?_) ?_
   ·exact M3 tk rfl rfl he rfl rfl rfl (hw.get (i:=1) rfl) (by rw[show 0+(k:Int).toNat*23=k*23 from by omega];have:=a4F l [] k s hs;rwa [l8]at this) rfl
   refine J.q λcc=>?_;refine J.lo (α:=Nat) (λi=>i<=16) (λi=>[si 18 i,⟨17, .agg (H4 s.data).toArray,0, .tt⟩,⟨7,pp (cc 0),5, .tt⟩,si 12 k,si 11 n,sv 10 (slv (some g) n cap),⟨5, .int .u64 x.2,0, .tt⟩,⟨4,pp (bb (0+1)),4, .tt⟩,⟨2,pp (bb 0),3, .tt⟩]) [3] (λi=>[.pt (bb (0+1)) 36 (H4 (W.mix x.1 s.data i))]) (λi=>16-i) (0) (j8 _) rfl ?_ (λ_=>rfl) λi hI=>?_
   ·rw[show W.mix x.1 s.data 0=x.1 from by simp[W.mix]];rfl
   have hml:=b1a hxl hsl i hI;refine J.qd (λ_ h2=>?_) λ_ h2=>?_
   ·simp only[d6]at h2;have h3:i<16:=by omega
    refine J.q λ_=>?_;refine J.v (bv (s.data.getD i 0)) rfl rfl (λhg a w he hw=>?_) ?_
    ·exact a3w tk rfl rfl rfl he rfl rfl u81 rfl rfl rfl (by omega) (by omega) (by rw[i9];have:=b0v hsl h3;simpa using this)
    refine J.q λ_=>?_;refine J.v (bv (x.1.getD i 0)) rfl rfl (λhg a w he hw=>?_) ?_
    ·exact B6 tk rfl rfl he rfl rfl rfl (hw.get (i:=3) rfl) (by rw[show 0+(i:Int).toNat*1=i from by omega,b0v hml h3,c0m hxl hsl h3])
    refine J.q λ_=>?_;refine J.s1 3 (H4 (W.mix x.1 s.data (i+1))) ?_ ?_ ?_
    ·show 0+(i:Int).toNat*1<16;omega
    ·rw[show 0+(i:Int).toNat*1=i from by omega,b9k,<- c0l hxl hsl h3];exact b6p hml
    refine J.q λ_=>?_;refine J.nx (i+1) (by omega) (by omega) (λ_ s=>s)
   ·simp only[c8]at h2;obtain rfl:i=16:=by omega
    refine J.qp (b8A s.role s.lpn s.seq) [] λ_=>?_;refine J.q λ_=>?_;have e1:W.mix x.1 s.data 16=((l.take (k+1)).foldl W.over1 (zeros16,0)).1:=by rw[hnext];rfl
    have e2:IntKind.u64.wrap ((BitVec.ofInt IntKind.u64.bits x.2 ^^^ BitVec.ofInt IntKind.u64.bits (S.meta_ s.role s.lpn s.seq)).toNat:Int)=((l.take (k+1)).foldl W.over1 (zeros16,0)).2:=by rw[hnext];rfl
    rw[e1,e2];refine J.q λ_=>?_;refine J.n (k+1) (by omega) (by omega) [0,1,2,3]
 ·simp only[c8,i6]at h1;obtain rfl:k=l.length:=by omega
  rw[T6];exact J.qx [1]
def n9 (l:List En):List Value:=l.flatMap enL
theorem c0N (e:En):(enL e).length=19:=rfl
theorem a0s:∀(l:List En) (r:List Value) (k:Nat) (x:En),l[k]? =some x->((n9 l++r).drop (k*19)).take 19=enL x
 | [],_,_,_,h=>by simp at h
 | y::l,r,0,x,h=>by
  simp at h;subst h;rw[Q3,a0b];simp only[n9,z7,m9];exact D9 rfl
 | y::l,r,k+1,x,h=>by
  have:=a0s l r k x (by simpa using h);rw[show(k+1)*19=19+k*19 from by omega,<- C2];simp only[n9,z7,m9]at this ⊢;rw[U8 (c0N y)];exact this
theorem R1 (l:List Sh) (s:Sh):J0 (l++[s])=J0 l++shL s:=by simp[J0]
namespace W
def parS (b r m:Int) (l:List En):Sh:=
 let x:=over (l.map (sh b r m))
 ⟨x.1,(x.2.toNat/72057594037927936:Nat),(x.2.toNat/1099511627776 % 65536:Nat),(x.2.toNat % 1099511627776:Nat),2,b,r,m⟩
def parB (b r m:Int) (l:List En):Bool:=decide ((l.length:Int)=G.slots m)&& !l.isEmpty&&l.all (ok b r m)
def par (b r m:Int) (l:List En):Sh:=if parB b r m l then parS b r m l else Sh.zero
end W
theorem c1I (m x:Int):0<=W.ovM m x/\W.ovM m x<18446744073709551616:=by
 have:W.ovM m x=((BitVec.ofInt 64 m ^^^ BitVec.ofInt 64 x).toNat:Int) % 18446744073709551616:=by simp[W.ovM,IntKind.wrap,IntKind.bits,IntKind.signed]
 rw[this];omega
theorem a5y:∀(l:List Sh) (x:List UInt8×Int),0<=x.2/\x.2<18446744073709551616->∃k:Nat,(l.foldl W.over1 x).2=k/\k<18446744073709551616
 | [],x,h=>⟨x.2.toNat,by simp only[List.foldl_nil];omega,by omega⟩
 | s::l,x,_=>a5y l _ (c1I _ _)
theorem a0Q (m:Int):0<=G.slots m/\G.slots m<=7:=by
 have:=L.count_le m;unfold G.slots;split<;>omega
theorem b1J (b r m:Int) (A:Atom) (a:Option Addr) (n cap:Nat) (l:List En) (hA:Rd A a 19 n (n9 l)) (hl:l.length=n) (hd:∀s∈l,s.data.length=16):FP 198 [iI b,iI r,iI m, .slice a n cap] [A]
  (λv As=>v= .tuple #[shV (W.par b r m l), .bool (W.parB b r m l)]/\As=[A]):=by
 refine FE [0,0,0,0] Tryz.func198 λX F hX=>?_;refine J.q λbb=>?_;refine J.cb (a1t m) [] ?_;refine cpq ⟨_,rfl,trivial,?_⟩;refine J.qd (λ_ h1=>?_) λ_ h1=>?_
 ·refine J.qr [1] λ_=>?_;have:W.parB b r m l=false:=by
   simp only[j7,G9,I1,B4]at h1;unfold W.parB;rw[hl];rcases h1 with h1 | h1
   ·simp[h1]
   ·have:l=[]:=m7 (by omega);subst this;simp
  exact⟨by rw[W.par,this];rfl,rfl⟩
 simp only[D5,A8,m6,I1]at h1;have hn:n<=1000:=by have:=a0Q m;omega
 refine J.turn1 [] rfl (As:=[l9 212 23 none 0 0 (J0 [])]) (λh s=>Sep.one ⟨rfl,rfl,rfl⟩) rfl ?_;refine J.q λ_=>?_;refine J.l (α:=(Nat×Option Nat×Nat)) (λz=>z.1<=n/\(l.take z.1).all (W.ok b r m)=true) (λz=>[si 31 z.1,si 30 n,sv 29 (.slice a n cap),sv 10 (slv z.2.1 z.1 z.2.2),⟨8,pp (bb 0),3, .tt⟩,si 0 b,si 1 r,si 2 m]) [3] (λz=>[l9 212 23 z.2.1 z.1 z.2.2 (J0 ((l.take z.1).map (W.sh b r m)))]) (λz=>n-z.1) ((0,none,0)) (⟨j8 _,rfl⟩) λz hI=>?_;obtain⟨k,a',cap'⟩:=z;dsimp only at hI ⊢;refine J.qd (λ_ h2=>?_) λ_ h2=>?_
 ·simp only[d6,i6]at h2;obtain⟨e,he0⟩:∃e,l[k]? =some e:=⟨_,c9 (by omega)⟩;have hel:e.data.length=16:=hd e (j9 he0);refine J.know (p:=∃g o,a=some ⟨g,o,none⟩) (λh' s=>Rd.addr (hA _ (s.get (i:=1) rfl)) (by omega)) λhk=>?_;obtain⟨g,o,rfl⟩:=hk;refine J.q λ_=>?_;refine J.v (enV e) rfl rfl (λhg a w he hw=>?_) ?_
  ·exact a2x tk rfl rfl he rfl rfl rfl (hA _ (hw.get (i:=1) rfl)) (by omega) (j:=k*19) (by omega) (by have:=a0s l [] k e he0;rwa [l8]at this) rfl
  refine J.qp (b1K b r m e hel) [] λ_=>?_;have htk:l.take (k+1)=l.take k++[e]:=by rw[D2,he0];rfl
  refine J.qd (λ_ h3=>?_) λ_ h3=>?_
  ·simp only[i4]at h3;refine J.qr [1] λ_=>?_;have:W.parB b r m l=false:=by
    unfold W.parB;have:l.all (W.ok b r m)=false:=by
     rw[List.all_eq_false];exact⟨e,j9 he0,by simp[h3]⟩
    rw[this];simp
   exact⟨by rw[W.par,this];rfl,rfl⟩
  ·simp only[B5]at h3;rw[show W.own b r m e=W.sh b r m e from d7 h3];refine J.q λ_=>?_;refine J.append hX tk 3 6 0 rfl rfl rfl rfl rfl rfl rfl rfl rfl rfl rfl rfl rfl rfl rfl rfl ?_ ?_ (λ_=>rfl) λa2 cap2=>⟨_,(congrArg (λz=>V2 _ 3 (l9 _ _ _ _ _ z)) (R1 _ (W.sh b r m e)).symm).trans rfl,trivial,?_⟩
   ·simp only[maxLen];omega
   ·omega
   rw[show(l.take k).map (W.sh b r m)++[W.sh b r m e]=(l.take (k+1)).map (W.sh b r m)from by rw[htk,s8];rfl];refine J.q λ_=>?_;refine J.n ((k+1,a2,cap2)) (⟨by dsimp only;omega,by dsimp only;rw[htk,List.all_append,hI.2];simp[h3]⟩) (by dsimp only;omega) [0,1,2,3]
 ·simp only[c8,i6]at h2;obtain rfl:k=n:=by omega
  rw[show l.take k=l from x9 (by omega)]at*;refine J.qp (a1X a' k cap' (l.map (W.sh b r m)) (by rw[j5,hl]) hn (λs hs=>by obtain⟨e,he,rfl⟩:=List.mem_map.1 hs;exact hd e he)) [3] λ_=>?_;obtain⟨mm,hm1,hm2⟩:=a5y (l.map (W.sh b r m)) (zeros16,0) ⟨by decide,by decide⟩;have hm1:(W.over (l.map (W.sh b r m))).2=(mm:Int):=hm1;rw[hm1];refine J.qp (c1Z mm hm2) [] λ_=>?_;refine J.qr [1] λ_=>?_;have hB:W.parB b r m l=true:=by
   unfold W.parB;rw[hl,hI.2];have:l.isEmpty=false:=by
    cases l with
    | nil=>simp at hl;omega
    | cons x l=>rfl
   rw[this];simp[h1.1]
  refine⟨?_,rfl⟩;have hx:mm=(W.over (l.map (W.sh b r m))).2.toNat:=by rw[hm1];rfl
  rw[W.par,hB,d7 rfl,W.parS,<- hx];rfl
theorem a9N {N:Nand} (hN:N.Ok) (x y z:Int):(N.readV x y z).length=32:=by
 unfold Nand.readV;split
 ·rfl
 ·rename_i h;simp only[I1,a1r]at h;obtain⟨_,_,hr⟩:=Nand.refuses_zero h;split
  ·rfl
  ·rename_i c hc;split
   ·rfl
   ·exact(hN.cells _ _ (by omega) (by omega)).2 c (j9 hc)
namespace M
def bad (s:Sh) (x y z:Int):Bool:=s.block !=y||s.row !=z|| !L.has s.mask x||(G.parity s.mask s.block s.row==x) !=(s.kind==2)
def look (N:Nand) (x y z:Int):Sh×Int:=
 let e:=N.readE x y z
 if e=0 then
  let p:=N.readV x y z
  if S.getE p≠0\/bad (S.getV p) x y z=true then(Sh.zero,3)else(S.getV p,1)
 else if e=5 then(Sh.zero,2)
 else if e=8\/e=9\/e=3\/e=12 then(Sh.zero,4)
 else(Sh.zero,3)
end M
theorem a6k (p:Nat) (N:Nand) (hN:N.Ok) (hR:N.Room) (x y z:Int):FP 166 [pp p, .agg #[iI x,iI y,iI z]] [C3 p N]
  (Ps (.tuple #[shV (M.look N x y z).1,iI (M.look N x y z).2]) [C3 p N]):=by
 refine FE [2,0] Tryz.func166 λX F hX=>?_;refine J.qp (a8o p N hN x y z) [1] λ_=>?_;refine J.qd (λ_ h1=>?_) λ_ h1=>?_
 ·simp only[B4]at h1;refine J.qp (b8B (N.readV x y z) (a9N hN x y z)) [] λ_=>?_;refine J.p (.of [0,5,8,13,16,21,28,33,26,36,40]) [10] [1,2,3,4,5] λ_=>?_;refine J.qp (a1x (S.getV (N.readV x y z)).mask (S.getV (N.readV x y z)).block (S.getV (N.readV x y z)).row) [] λ_=>?_;have hlk:M.look N x y z=if S.getE (N.readV x y z)≠0\/M.bad (S.getV (N.readV x y z)) x y z=true then(Sh.zero,3)else(S.getV (N.readV x y z),1):=by simp only[M.look];rw[d7 h1]
  generalize hE:S.getE (N.readV x y z)=ge at hlk;generalize hS:S.getV (N.readV x y z)=s at hlk;refine J.q λ_=>?_;refine J.gcase hX rfl rfl rfl trivial (λhb=>?_) (λhb=>?_)
  ·have hb2:(ge !=0||s.block !=y||s.row !=z)=false:=by rw[i4]at hb;exact hb
   rw[hb2];refine J.qp (b0c s.mask x) [] λ_=>?_;have hcond:(false|| !L.has s.mask x||(G.parity s.mask s.block s.row==x) !=(s.kind==2))=true->ge≠0\/M.bad s x y z=true:=λh=>by
    simp only[D5]at hb2;right;unfold M.bad;rw[hb2.1.2,hb2.2];exact h
   have hcond2:(false|| !L.has s.mask x||(G.parity s.mask s.block s.row==x) !=(s.kind==2))=false->¬(ge≠0\/M.bad s x y z=true):=λh=>by
    simp only[D5]at hb2;have h0:ge=0:=by simpa using hb2.1.1
    have h2:M.bad s x y z=false:=by unfold M.bad;rw[hb2.1.2,hb2.2];exact h
    simp[h0,h2]
   refine J.qd (λ_ h5=>?_) λ_ h5=>?_
   ·refine J.qr [1] λ_=>?_;have hc:ge≠0\/M.bad s x y z=true:=hcond h5;rw[hlk,d7 hc];exact⟨rfl,rfl⟩
   ·refine J.qr [1] λ_=>?_;have hc:¬(ge≠0\/M.bad s x y z=true):=hcond2 h5;rw[hlk,d4 hc];exact⟨rfl,rfl⟩
  ·have hb2:(ge !=0||s.block !=y||s.row !=z)=true:=by rw[B5]at hb;exact hb
   rw[hb2];refine J.q λ_=>?_;refine J.v (.bool false) rfl rfl (λhg a w he hw=>by simp[G.on]at hg) ?_;have hc:ge≠0\/M.bad s x y z=true:=by
    simp only[j7,G9,I1]at hb2;rcases hb2 with(h | h) | h
    ·exact .inl h
    ·right;simp[M.bad,h]
    ·right;simp[M.bad,h]
   rw[d7 hc]at hlk;refine J.qd (λ_ h5=>?_) λ_ h5=>?_
   ·refine J.qr [1] λ_=>?_;rw[hlk];exact⟨rfl,rfl⟩
   ·simp at h5
 simp only[m6,I1]at h1;refine J.qd (λ_ h2=>?_) λ_ h2=>?_
 ·simp only[B4]at h2;refine J.qr [1] λ_=>?_;exact⟨by simp only[M.look];rw[d4 h1,d7 h2];rfl,rfl⟩
 simp only[m6,I1]at h2;have hgone:(N.readE x y z=8\/N.readE x y z=9\/N.readE x y z=3\/N.readE x y z=12)->M.look N x y z=(Sh.zero,4):=λh=>by simp only[M.look];rw[d4 h1,d4 h2,d7 h]
 have hbad:¬(N.readE x y z=8\/N.readE x y z=9\/N.readE x y z=3\/N.readE x y z=12)->M.look N x y z=(Sh.zero,3):=λh=>by simp only[M.look];rw[d4 h1,d4 h2,d4 h]
 refine J.qd (λ_ g8=>?_) λ_ g8=>?_
 ·rw[g8];refine J.qT λ_=>?_;refine J.qr [1] λ_=>?_;simp only[B4]at g8;rw[hgone (by simp[g8])];exact⟨rfl,rfl⟩
 refine J.qd (λ_ g9=>?_) λ_ g9=>?_
 ·rw[g9];refine J.qT λ_=>?_;refine J.qr [1] λ_=>?_;simp only[B4]at g9;rw[hgone (by simp[g9])];exact⟨rfl,rfl⟩
 refine J.qd (λ_ g3=>?_) λ_ g3=>?_
 ·rw[g3];refine J.qT λ_=>?_;refine J.qr [1] λ_=>?_;simp only[B4]at g3;rw[hgone (by simp[g3])];exact⟨rfl,rfl⟩
 refine J.qd (λ_ g12=>?_) λ_ g12=>?_
 ·refine J.qr [1] λ_=>?_;simp only[B4]at g12;rw[hgone (by simp[g12])];exact⟨rfl,rfl⟩
 refine J.qr [1] λ_=>?_;simp only[m6,I1]at g8 g9 g3 g12;rw[hbad (by simp[g8,g9,g3,g12])];exact⟨rfl,rfl⟩
def B2 (l:List Int):List Value:=l.map (.int .i64)
theorem a1z (l:List Int) (x:Int):B2 (l++[x])=B2 l++[iI x]:=by simp[B2]
namespace M
def rowN (N:Nand) (b r:Int) (k:Nat):List (Sh×Int):=(List.range k).map λd:Nat=>look N (d:Int) b r
end M
theorem a9K (N:Nand) (b r:Int) (k:Nat):M.rowN N b r (k+1)=M.rowN N b r k++[M.look N (k:Int) b r]:=by simp[M.rowN,t6]
theorem c1k (p:Nat) (N:Nand) (hN:N.Ok) (hR:N.Room) (b r:Int):FP 163 [pp p,iI b,iI r] [C3 p N]
  (λv As=>∃a1 c1 a2 c2,v= .tuple #[slv a1 N.dies c1,slv a2 N.dies c2]/\As=[C3 p N,l9 212 23 a1 N.dies c1 (J0 ((M.rowN N b r N.dies).map (·.1))),l9 3 1 a2 N.dies c2 (B2 ((M.rowN N b r N.dies).map (·.2)))]):=by
 have hbd:=hN.bd;refine FE [2,0,0] Tryz.func163 λX F hX=>?_;refine J.qp (a2V p N) [1] λ_=>?_;refine J.turn1 [] rfl (As:=[l9 212 23 none 0 0 (J0 []),l9 3 1 none 0 0 (B2 [])]) (λh s=>⟨λ_=>0,λi A hA=>by
  match i,hA with
  | 0,hA=>simp at hA;subst hA;exact⟨rfl,rfl,rfl⟩
  | 1,hA=>simp at hA;subst hA;exact⟨rfl,rfl,rfl⟩
  | k+2,hA=>simp at hA⟩) rfl ?_
 refine J.q λ_=>?_;refine J.l (α:=(Nat×(Option Nat×Nat)×(Option Nat×Nat))) (λz=>z.1<=N.dies) (λz=>[si 16 z.1,si 15 N.dies,sv 8 (slv z.2.1.1 z.1 z.2.1.2),sv 9 (slv z.2.2.1 z.1 z.2.2.2),⟨0,pp p,2, .tt⟩,si 1 b,si 2 r]) [2,3] (λz=>[l9 212 23 z.2.1.1 z.1 z.2.1.2 (J0 ((M.rowN N b r z.1).map (·.1))),l9 3 1 z.2.2.1 z.1 z.2.2.2 (B2 ((M.rowN N b r z.1).map (·.2)))]) (λz=>N.dies-z.1) ((0,(none,0),(none,0))) (j8 _) λz hI=>?_;obtain⟨k,⟨a1,c1⟩,⟨a2,c2⟩⟩:=z;dsimp only at hI ⊢;refine J.qd (λ_ h1=>?_) λ_ h1=>?_
 ·simp only[d6,i6]at h1;refine J.qp (a6k p N hN hR k b r) [1] λ_=>?_;refine J.q λ_=>?_;refine J.append hX tk 2 5 0 rfl rfl rfl rfl rfl rfl rfl rfl rfl rfl rfl rfl rfl rfl rfl rfl ?_ ?_ (λ_=>rfl) λa3 c3=>⟨_,(congrArg (λz=>V2 _ 2 (l9 _ _ _ _ _ z)) (R1 _ (M.look N k b r).1).symm).trans rfl,trivial,?_⟩
  ·simp only[maxLen];omega
  ·omega
  refine J.q λ_=>?_;refine J.append hX tk 3 6 0 rfl rfl rfl rfl rfl rfl rfl rfl rfl rfl rfl rfl rfl rfl rfl rfl ?_ ?_ (λ_=>rfl) λa4 c4=>⟨_,(congrArg (λz=>V2 _ 3 (l9 _ _ _ _ _ z)) (a1z _ (M.look N k b r).2).symm).trans rfl,trivial,?_⟩
  ·simp only[maxLen];omega
  ·omega
  rw[show(M.rowN N b r k).map (·.1)++[(M.look N k b r).1]=(M.rowN N b r (k+1)).map (·.1)from by rw[a9K,s8];rfl,show(M.rowN N b r k).map (·.2)++[(M.look N k b r).2]=(M.rowN N b r (k+1)).map (·.2)from by rw[a9K,s8];rfl];refine J.q λ_=>?_;refine J.n ((k+1,(a3,c3),(a4,c4))) (by dsimp only;omega) (by dsimp only;omega) [0,1,2,3]
 ·simp only[c8,i6]at h1;obtain rfl:k=N.dies:=by omega
  refine J.qr [1,2,3] λ_=>?_;exact⟨a1,c1,a2,c2,rfl,rfl⟩
theorem c2m (x y:Int):FP 213 [iI x,iI y] [] (Ps (.bool (decide (x<y))) []):=by
 refine FE [] Tryz.func213 λX F hX=>?_;refine J.qp (b1u x) [] λ_=>?_;refine J.q λ_=>?_;refine J.gcase hX rfl rfl rfl trivial (λhb=>by cases hb) (λ_=>?_);refine J.q λ_=>?_;refine J.v (.bool false) rfl rfl (λhg a w he hw=>by simp[G.on]at hg) ?_;refine J.qr [] λ_=>?_;exact⟨by simp,rfl⟩
end
end Go.Proofs.YtmafiplddapokaaGreat
