/- Helpers. No condition. -/
import Derived.Test.YtpohajhbfllbbaaGreatE20
import Derived.Test.YtpohajhbfllbbaaGreatE21
import Derived.Test.YtpohajhbfllbbaaGreatE29
set_option maxRecDepth 20000
set_option linter.all false
namespace Go.Proofs.YtpohajhbfllbbaaGreat
open Go
theorem mem_masks {N:Nand} {b r m:Int}:m∈M.masks N b r↔∃i:Nat,i<N.dies/\(M.look N (i:Nat) b r).2=1/\(M.look N (i:Nat) b r).1.mask=m:=by
 unfold M.masks;rw[(a4a _ (a7C _)).2,a8H,List.mem_filterMap];unfold M.rowN;constructor
 ·rintro⟨z,hz,hm⟩;obtain⟨i,hi,rfl⟩:=List.mem_map.1 hz;unfold M.maskOf at hm;split at hm
  ·rename_i h1;injection hm with hm;exact⟨i,List.mem_range.1 hi,h1,hm⟩
  ·cases hm
 ·rintro⟨i,hi,h1,h2⟩;refine⟨_,List.mem_map_of_mem (List.mem_range.2 hi),?_⟩;unfold M.maskOf;rw[if_pos h1,h2]
theorem one_iff {N:Nand} {b r m d:Int}:(R.one N b r m d).2=true↔(M.look N d b r).2=1/\(M.look N d b r).1.mask=m:=by
 unfold R.one;simp
theorem a9D {N:Nand} {b r m:Int} {k:Nat} (hk:(k:Int)<G.slots m):(R.look N b r m).good.getD k false=(R.one N b r m (G.die m b r (k:Nat))).2/\(R.look N b r m).slots.getD k Sh.zero=(R.one N b r m (G.die m b r (k:Nat))).1:=by
 have hk2:k<(G.slots m).toNat:=by omega
 unfold R.look R.ones;simp only[List.getD_eq_getElem?_getD,List.getElem?_map,List.getElem?_range hk2,Option.map_some,Option.getD_some,and_self]
structure Ev (C:En->Prop) (N:Nand) (b r m:Int) (l:List En):Prop where
 is:RowIs N b r m l
 inn:RowIn N b r m l
 kind:∀e∈l,e.role=3\/C e
structure Old (d:Nat) (E:En->Prop) (N:Nand) (b r:Int) (l:List En):Prop where
 is:RowIs N b r (L.all N.dies) l
 inn:∀x∈R.job b r (L.all N.dies) l,x.1=(d:Int)->∀c,N.pageAt (d:Int) b r=some c->a4p x.2 c
 kind:∀e∈l,e.role=3\/E e
inductive DscG (fd:Int) (C E:En->Prop) (N:Nand) (b r:Int):Prop
 | none:(∀(d:Int) (c:NCell),N.pageAt d b r=some c->c.lost=true)->DscG fd C E N b r
 | all (l:List En):Ev C N b r (L.all N.dies) l->DscG fd C E N b r
 | but (d:Nat) (l:List En):fd=(d:Int)->d<N.dies->Ev C N b r (L.without (L.all N.dies) (d:Nat)) l->((∀c,N.pageAt (d:Int) b r=some c->c.lost=true)\/∃l',Old d E N b r l')->DscG fd C E N b r
theorem Ev.look {C:En->Prop} {N:Nand} {b r m:Int} {l:List En} (h:Ev C N b r m l) {x:Int×Sh} (hx:x∈R.job b r m l) (h1:(M.look N x.1 b r).2=1):M.look N x.1 b r=(x.2,1):=by
 cases hp:N.pageAt x.1 b r with
 | none=>exact absurd h1 (V9 hp)
 | some c=>exact a0p (h.is.sh x hx).1 hp (h.inn x hx c hp) h1
theorem Ev.found {C:En->Prop} {N:Nand} {b r m:Int} {l:List En} (h:Ev C N b r m l) (hoff:N.off=false) {f:Fnd} (hf:f∈R.allM N b r m):C f.en/\f.mask=m/\∃k:Nat,k<l.length/\f.slot=k/\f.en=l.getD k En.zero/\R.read N b r f.slot m=(f.en,0)/\f.whole=gOf N b r m l l.length:=by
 have hp:=h.inn.part h.is;rw[hp.allM h.is]at hf;unfold b4H at hf;obtain⟨k,hk,hx⟩:=List.mem_filterMap.1 hf;have hk:=List.mem_range.1 hk;split at hx
 ·rename_i hok;rw[Bool.and_eq_true]at hok;injection hx with hx;subst hx;have hrd:=hp.read h.is hoff hk;rw[hok.1,if_pos rfl]at hrd;refine⟨?_,rfl,k,hk,rfl,rfl,hrd,rfl⟩;rcases h.kind _ (D6 hk)with e | e
  ·have:=hok.2;rw[e]at this;cases this
  ·exact e
 ·cases hx
theorem Old.found {d:Nat} {E:En->Prop} {N:Nand} {b r:Int} {l:List En} (h:Old d E N b r l) (h6:3<=N.dies/\N.dies<=6) (hno:∀i:Nat,i<N.dies->i≠d->(M.look N (i:Nat) b r).2=1->(M.look N (i:Nat) b r).1.mask≠L.all N.dies) {f:Fnd} (hf:f∈R.allM N b r (L.all N.dies)):E f.en:=by
 have hsl:=(a1x N.dies (by omega) h6.1).1;have hlen:=h.is.len;have hone:∀x∈R.job b r (L.all N.dies) l,(R.one N b r (L.all N.dies) x.1).2=true->x.1=(d:Int)/\(R.one N b r (L.all N.dies) x.1).1=x.2:=λx hx h1=>by
  obtain⟨g1,g2⟩:=one_iff.1 h1;obtain⟨n1,n2,_⟩:=h.is.inn x hx;have hto:((x.1.toNat:Nat):Int)=x.1:=Int.toNat_of_nonneg n1;have hxd:x.1=(d:Int):=Classical.byContradiction λhne=>hno x.1.toNat (by omega) (by omega) (by rw[hto];exact g1) (by rw[hto];exact g2);refine⟨hxd,?_⟩;cases hp:N.pageAt x.1 b r with
  | none=>exact absurd g1 (V9 hp)
  | some c=>
   have:=a0p (h.is.sh x hx).1 hp (h.inn x hx hxd c (by rw[<- hxd];exact hp)) g1;unfold R.one;rw[this]
 unfold R.allM at hf;obtain⟨k,hk,hx⟩:=List.mem_filterMap.1 hf;have hk:=List.mem_range.1 hk;rw[(D5 N b r _).1]at hk;unfold R.fnd at hx;split at hx
 ·rename_i hok;rw[Bool.and_eq_true]at hok;injection hx with hx;subst hx;have hkl:k<l.length:=by omega
  have hj:=List.mem_of_getElem? (a1H b r (L.all N.dies) l k hkl);obtain⟨a1,a2⟩:=a9D (N:=N) (b:=b) (r:=r) (m:=L.all N.dies) (k:=k) (by omega);cases hg:(R.look N b r (L.all N.dies)).good.getD k false with
  | true=>
   rw[hg]at a1;obtain⟨_,e2⟩:=hone _ hj a1.symm;have he:R.enAt (R.look N b r (L.all N.dies)) k=l.getD k En.zero:=by
    unfold R.enAt;rw[hg,if_pos rfl,a2,e2];rfl
   show E (R.enAt (R.look N b r (L.all N.dies)) k);rcases h.kind _ (D6 hkl)with e | e
   ·have:=hok.2;rw[he,e]at this;cases this
   ·rw[he];exact e
  | false=>
   exfalso
   have hm:R.mendB (R.look N b r (L.all N.dies)) k=true:=by
    have:=hok.1;unfold R.okAt at this;rw[hg,Bool.false_or]at this;exact this
   unfold R.mendB at hm;simp only[Bool.and_eq_true]at hm;have hrest:=hm.1.1;have hwh:(R.one N b r (L.all N.dies) (G.parity (L.all N.dies) b r)).2=true:=hm.1.2;obtain⟨j,hjk,hjl⟩:∃j,j≠k/\j<l.length:=⟨if k=0 then 1 else 0,by split<;>omega,by split<;>omega⟩;unfold R.rest at hrest;rw[List.all_eq_true]at hrest;have h1:=hrest j (List.mem_range.2 (by rw[(D5 N b r _).1];omega));have h1:(R.look N b r (L.all N.dies)).good.getD j false=true:=by
    rw[Bool.or_eq_true]at h1;rcases h1 with e | e
    ·exact absurd (eq_of_beq e) hjk
    ·exact e
   rw[(a9D (by omega)).1]at h1;have d1:=(hone _ (List.mem_of_getElem? (a1H b r (L.all N.dies) l j hjl)) h1).1;have d2:=(hone _ (List.mem_of_getElem? (M2 b r (L.all N.dies) l)) hwh).1;have hnd:=h.is.nodup;have e3:((R.job b r (L.all N.dies) l).map (·.1))[j]? =((R.job b r (L.all N.dies) l).map (·.1))[l.length]?:=by
    rw[List.getElem?_map,List.getElem?_map,a1H b r (L.all N.dies) l j hjl,M2];exact congrArg some (d1.trans d2.symm)
   have:=(List.getElem?_inj (by rw[List.length_map];simp[R.job];omega) hnd).1 e3;omega
 ·cases hx
namespace DscG
variable {fd : Int} {C C' E E' : En → Prop} {N N' : Nand} {b r : Int}
theorem mono (h:DscG fd C E N b r) (hC:∀e,C e->C' e) (hE:∀e,E e->E' e):DscG fd C' E' N b r:=by
 cases h with
 | none h=>exact .none h
 | all l h=>exact .all l ⟨h.is,h.inn,λe he=>(h.kind e he).imp id (hC e)⟩
 | but d l e hd h o=>exact .but d l e hd ⟨h.is,h.inn,λe he=>(h.kind e he).imp id (hC e)⟩ (o.imp id λ⟨l',o⟩=>⟨l',o.is,o.inn,λe he=>(o.kind e he).imp id (hE e)⟩)
theorem less (h:DscG fd C E N b r) (hl:N.Like N') (hp:∀(d:Int) (c:NCell),N'.pageAt d b r=some c->c.lost=true\/∃c0,N.pageAt d b r=some c0/\(∀s,a4p s c0->a4p s c)/\(c0.lost=true->c.lost=true)):DscG fd C E N' b r:=by
 have hev:∀m l,Ev C N b r m l->Ev C N' b r m l:=λm l h=>⟨h.is.like hl,λx hx c hc=>by
  rcases hp _ c hc with e | ⟨c0,h1,h2,_⟩
  ·exact .inl e
  ·exact h2 _ (h.inn x hx c0 h1),h.kind⟩
 cases h with
 | none h=>
  refine .none λd c hc=>?_;rcases hp d c hc with e | ⟨c0,h1,_,h3⟩
  ·exact e
  ·exact h3 (h d c0 h1)
 | all l h=>exact .all l (by rw[hl.dies];exact hev _ _ h)
 | but d l e hd h o=>
  refine .but d l e (by rw[hl.dies];exact hd) (by rw[hl.dies];exact hev _ _ h) ?_;rcases o with o | ⟨l',o⟩
  ·left;intro c hc;rcases hp _ c hc with e | ⟨c0,h1,_,h3⟩
   ·exact e
   ·exact h3 (o c0 h1)
  ·right;refine⟨l',by rw[hl.dies];exact o.is.like hl,λx hx hxd c hc=>?_,o.kind⟩;rw[hl.dies]at hx;rcases hp _ c hc with e | ⟨c0,h1,h2,_⟩
   ·exact .inl e
   ·exact h2 _ (o.inn x hx hxd c0 h1)
theorem gone (h:DscG fd C E N b r) (hl:N.Like N') (hp:∀(d:Int) (c:NCell),N'.pageAt d b r=some c->c.lost=true\/N.pageAt d b r=some c):DscG fd C E N' b r:=
 h.less hl λd c hc=>(hp d c hc).imp id λh=>⟨c,h,λ_ h=>h,λh=>h⟩
theorem fnd (h:DscG fd C E N b r) (hoff:N.off=false) (h6:3<=N.dies/\N.dies<=6) {f:Fnd} (hf:f∈R.all N b r):
  E f.en\/C f.en/\(f.mask=L.all N.dies\/∃d:Nat,fd=(d:Int)/\d<N.dies/\f.mask=L.without (L.all N.dies) (d:Nat))/\∃l,Ev C N b r f.mask l/\∃k:Nat,k<l.length/\f.slot=k/\f.en=l.getD k En.zero/\R.read N b r f.slot f.mask=(f.en,0)/\f.whole=gOf N b r f.mask l l.length:=by
 have hall:=L.all_has N.dies (by omega);unfold R.all at hf;obtain⟨m,hm,hf⟩:=List.mem_flatMap.1 hf;obtain⟨i,hi,g1,g2⟩:=mem_masks.1 hm;have hfin:∀m l,Ev C N b r m l->f∈R.allM N b r m->C f.en/\f.mask=m/\∃l,Ev C N b r f.mask l/\∃k:Nat,k<l.length/\f.slot=k/\f.en=l.getD k En.zero/\R.read N b r f.slot f.mask=(f.en,0)/\f.whole=gOf N b r f.mask l l.length:=λm l h hf=>by
  obtain⟨a1,a2,a3⟩:=h.found hoff hf;subst a2;exact⟨a1,rfl,l,h,a3⟩
 have hpg:∃c,N.pageAt (i:Int) b r=some c/\c.lost=false:=by
  cases hp:N.pageAt (i:Int) b r with
  | none=>exact absurd g1 (V9 hp)
  | some c=>
   refine⟨c,rfl,?_⟩;cases hl:c.lost with
   | false=>rfl
   | true=>
    exfalso
    have:(M.look N (i:Nat) b r).2≠1:=b0F (by
     unfold Nand.readE;split
     ·assumption
     ·rw[hp];dsimp only;rw[hl];exact(by decide:(6:Int)≠0))
    exact this g1
 obtain⟨c,hc,hcl⟩:=hpg;cases h with
 | none h=>rw[h _ c hc]at hcl;cases hcl
 | all l h=>
  right;obtain⟨x,hx,hxi⟩:=h.is.on (d:=i) (by rw[hall,decide_eq_true (by omega),decide_eq_true (by omega)];rfl);have h1:=h.look hx (by rw[hxi];exact g1);rw[hxi]at h1;rw[h1]at g2;have:m=L.all N.dies:=g2.symm.trans (h.is.sh x hx).2;subst this;obtain⟨a1,a2,a3⟩:=hfin _ l h hf;exact⟨a1, .inl a2,a3⟩
 | but d l e hd h o=>
  have hwo:=L.without_has (L.set_all N.dies (by omega)) (d:=(d:Int)) (by omega);have hmain:∀j:Nat,j<N.dies->j≠d->(M.look N (j:Nat) b r).2=1->(M.look N (j:Nat) b r).1.mask=L.without (L.all N.dies) (d:Nat):=λj hj hjd k1=>by
   obtain⟨x,hx,hxi⟩:=h.is.on (d:=j) (by rw[hwo,hall,decide_eq_true (by omega),decide_eq_true (by omega),decide_eq_false (by omega)];rfl);have h1:=h.look hx (by rw[hxi];exact k1);rw[hxi]at h1;rw[h1];exact(h.is.sh x hx).2
  by_cases hid:i=d
  ·subst hid;rcases o with o | ⟨l',o⟩
   ·rw[o c hc]at hcl;cases hcl
   ·obtain⟨x,hx,hxi⟩:=o.is.on (d:=i) (by rw[hall,decide_eq_true (by omega),decide_eq_true (by omega)];rfl);have h1:=a0p (o.is.sh x hx).1 (by rw[hxi];exact hc) (o.inn x hx hxi c hc) (by rw[hxi];exact g1);rw[hxi]at h1;rw[h1]at g2;have:m=L.all N.dies:=g2.symm.trans (o.is.sh x hx).2;subst this;left;refine o.found h6 (λj hj hjd k1 k2=>?_) hf;have:=hmain j hj hjd k1;rw[k2]at this;have h2:L.has (L.all N.dies) (i:Int)=L.has (L.without (L.all N.dies) (i:Nat)) (i:Int):=congrArg (λz=>L.has z (i:Int)) this;rw[hwo,hall,decide_eq_true (by omega),decide_eq_true (by omega)]at h2;simp at h2
  ·right;have:m=L.without (L.all N.dies) (d:Nat):=g2.symm.trans (hmain i hi hid g1);subst this;obtain⟨a1,a2,a3⟩:=hfin _ l h hf;exact⟨a1, .inr ⟨d,e,hd,a2⟩,a3⟩
end DscG
theorem Full.found2 {fd:Int} {N:Nand} {b r m:Int} {l:List En} (h:Full fd N b r m l) (hoff:N.off=false) (hdead:∀i:Nat,(i:Int)≠fd->N.dead.getD i false=false) (hm:∃i:Nat,(i:Int)≠fd/\L.has m (i:Nat)=true) {j:Nat} (hj:j<l.length) (hr:(l.getD j En.zero).role≠3):∃f∈R.all N b r,f.en=l.getD j En.zero/\f.mask=m/\f.slot=j:=by
 obtain⟨i,hi,hmi⟩:=hm;obtain⟨x,hx,hxi⟩:=h.is.on hmi;obtain⟨n1,n2,_⟩:=h.is.inn x hx;obtain⟨t,ht⟩:=h.good x hx (by rw[hxi];exact hi);have hrf:N.refuses x.1 b r=0:=by
  unfold Nand.refuses;rw[hoff,if_neg (by decide),Nand.geoIn_of ⟨n1,n2⟩ h.is.blk h.is.row,if_neg (by decide),hdead _ (by omega)];rfl
 have hlk:=a1b (h.is.sh x hx).1 hrf ht;have hmem:m∈M.masks N b r:=mem_masks.2 ⟨i,by omega,by rw[<- hxi,hlk],by rw[<- hxi,hlk];exact(h.is.sh x hx).2⟩;refine⟨⟨l.getD j En.zero,b,r,j,m,gOf N b r m l l.length,!(gOf N b r m l j)⟩,?_,rfl,rfl,rfl⟩;unfold R.all;refine List.mem_flatMap.2 ⟨m,hmem,?_⟩;rw[(h.inn.part h.is).allM h.is];unfold b4H;refine List.mem_filterMap.2 ⟨j,List.mem_range.2 hj,?_⟩;rw[if_pos];rw[h.okAll hoff hdead hj,Bool.true_and];exact bne_iff_ne.2 hr
theorem Full.mask_eq {fd:Int} {C:En->Prop} {N:Nand} {b r m m':Int} {l l':List En} (h:Full fd N b r m l) (hoff:N.off=false) (hdead:∀i:Nat,(i:Int)≠fd->N.dead.getD i false=false) {i:Nat} (hi:(i:Int)≠fd) (hm:L.has m (i:Nat)=true) (hm':L.has m' (i:Nat)=true) (h2:Ev C N b r m' l'):m'=m:=by
 obtain⟨x,hx,hxi⟩:=h.is.on hm;obtain⟨n1,n2,_⟩:=h.is.inn x hx;obtain⟨t,ht⟩:=h.good x hx (by rw[hxi];exact hi);have hrf:N.refuses x.1 b r=0:=by
  unfold Nand.refuses;rw[hoff,if_neg (by decide),Nand.geoIn_of ⟨n1,n2⟩ h.is.blk h.is.row,if_neg (by decide),hdead _ (by omega)];rfl
 have hlk:=a1b (h.is.sh x hx).1 hrf ht;obtain⟨y,hy,hyi⟩:=h2.is.on hm';have hyx:y.1=x.1:=by rw[hxi,hyi]
 have hl2:=h2.look hy (by rw[hyx,hlk]);rw[hyx,hlk]at hl2;injection hl2 with hl2 _;rw[<- (h2.is.sh y hy).2,<- (h.is.sh x hx).2,hl2]
def CS (W:List (Int×En)) (T:Tb) (b r:Int) (e:En):Prop:=∃w a,Tb.look W e.lpn=some w/\Tb.look T.at_ e.lpn=some a/\(e.seq<a.seq\/e.seq=a.seq/\a.block=b/\a.row=r/\e.role=w.role/\e.data=w.data)
def CE (T:Tb) (e:En):Prop:=∃a,Tb.look T.at_ e.lpn=some a/\e.seq<a.seq
structure GI (fd:Int) (W:List (Int×En)) (S:Dv):Prop where
 inv:Inv fd S
 hd:Hd S W
 wok:WOk W
 msk:∀i a,Tb.look S.T.at_ i=some a->Msk S.N.dies fd a.mask
 dsc:∀b r:Nat,b<S.N.blocks->r<S.N.pages->DscG fd (CS W S.T b r) (CE S.T) S.N b r
 ff:(∀i:Nat,S.N.dead.getD i false=false)->∀i j:Nat,(S.N.blk i j).fails=false
theorem a6N {W:List (Int×En)} {l:List En} (h:WOk W) (hf:∀e∈l,FitR e):∀n,n<=l.length->WOk (M8 W l n)
 | 0,_=>h
 | n+1,hn=>by
  rw[O7];exact(a6N h hf n (by omega)).put (hf _ (D6 (by omega)))
theorem a5q {l:List En} (hnd:(l.map (·.lpn)).Nodup) {n:Nat} (hn:n<=l.length):∀a b,a<b->b<n->(l.getD a En.zero).lpn≠(l.getD b En.zero).lpn:=λa b hab hb e=>by
 have g1:a<l.length:=by omega
 have g2:b<l.length:=by omega
 have h3:(l.map (·.lpn))[a]? =(l.map (·.lpn))[b]?:=by
  rw[List.getElem?_map,List.getElem?_map,List.getElem?_eq_getElem g1,List.getElem?_eq_getElem g2];rw[List.getD_eq_getElem?_getD,List.getD_eq_getElem?_getD,List.getElem?_eq_getElem g1,List.getElem?_eq_getElem g2]at e;exact congrArg some e
 have:=(List.getElem?_inj (by rw[List.length_map];exact g1) hnd).1 h3;omega
namespace GI
variable {fd : Int} {W : List (Int × En)} {S Q : Dv} {k m : Nat} {l : List En}
theorem at1 (h:GI fd W S) (hO:S.Ok k m) (h0:¬(S.left=false/\S.pick<0)):GI fd W S.at1:=by
 have hat:=Dv.at1_like S;have hw:Went fd S S.at1 0:=by
  unfold Dv.at1;cases hl:S.left with
  | true=>rw[if_pos rfl];exact Went.refl h.inv
  | false=>rw[if_neg Bool.false_ne_true];exact(h.inv.opens hO hl λe=>h0 ⟨hl,e⟩).1
 refine⟨hw.inv,h.hd.went h.inv hw,h.wok,λi a ha=>?_,λb r hb hr=>?_,by rw[hat.1];exact h.ff⟩
 ·rw[hat.2.1]at ha;rw[hat.1];exact h.msk i a ha
 ·rw[hat.1]at hb hr ⊢;rw[hat.2.1];exact h.dsc b r hb hr
theorem wrote (h:GI fd W Q) (hO:Q.Ok k m) (hl:Last fd Q l) (hf:∀e∈l,FitR e) (hnd:(l.map (·.lpn)).Nodup) (hlg:∀e∈l,e.lpn<Q.T.logical):GI fd (M8 W l (Q.fit l)) (t6 Q l):=by
 have hg:=hO.gd.ok.bd16;obtain⟨l1,l2⟩:=hl.look h.inv hO hf hlg hnd;have hH:=h.hd.wrote h.inv hO hl hf hlg hnd;have hlk:Q.N.Like (t6 Q l).N:=hl.turn.like;have hfit:=Dv.fit_le Q l;have hfd:Q.fit l=min l.length (G.slots Q.mask).toNat:=rfl;obtain⟨n,hn⟩:∃n,Q.fit l=n:=⟨_,rfl⟩;rw[hn]at l1 l2 hH hfit hfd ⊢;obtain⟨w1,w2⟩:=K0 (W:=W) (l:=l) n (a5q hnd hfit.2.1);have hR:=h.inv.rowIs hO hl.left hf hl.bd;have ho:=h.inv.opn hl.left;have hrdy:RdyW Q.N Q.op Q.row Q.mask:=⟨h.inv.lit,λd hd ha=>(ho.cells d hd).2 ha⟩;have hq:=hrdy.rdy hR;have w3:WroteR Q.N (t6 Q l).N Q.op Q.row (R.job Q.op Q.row Q.mask (Q.es l)):=(a5J hrdy hR).2.2;have hF:Full fd (t6 Q l).N Q.op Q.row Q.mask (Q.es l):=hl.turn.full;have hsq:∀i a,Tb.look Q.T.at_ i=some a->a.seq<Q.next:=λi a ha=>(h.inv.st i a ha).seq.2;have hmono:∀b r e,CS W Q.T b r e->CS (M8 W l n) (t6 Q l).T b r e:=λb r e ⟨w,a,h1,h2,h3⟩=>by
  by_cases hex:∃j,j<n/\(l.getD j En.zero).lpn=e.lpn
  ·obtain⟨j,hj,hje⟩:=hex;have x1:=l1 j hj;have x2:=w1 j hj;have ha:=hsq _ _ h2;rw[hje]at x1 x2;refine⟨_,_,x2,x1, .inl ?_⟩;show e.seq<Q.next+(j:Int);omega
  ·have hno:∀j,j<n->(l.getD j En.zero).lpn≠e.lpn:=λj hj hh=>hex ⟨j,hj,hh⟩;exact⟨w,a,by rw[w2 _ hno];exact h1,by rw[l2 _ hno];exact h2,h3⟩
 have hmonoE:∀e,CE Q.T e->CE (t6 Q l).T e:=λe ⟨a,h2,h3⟩=>by
  by_cases hex:∃j,j<n/\(l.getD j En.zero).lpn=e.lpn
  ·obtain⟨j,hj,hje⟩:=hex;have x1:=l1 j hj;have ha:=hsq _ _ h2;rw[hje]at x1;refine⟨_,x1,?_⟩;show e.seq<Q.next+(j:Int);omega
  ·have hno:∀j,j<n->(l.getD j En.zero).lpn≠e.lpn:=λj hj hh=>hex ⟨j,hj,hh⟩;exact⟨a,by rw[l2 _ hno];exact h2,h3⟩
 have hold:∀e,CS W Q.T Q.op Q.row e->CE (t6 Q l).T e:=λe ⟨w,a,_,h2,h3⟩=>by
  refine hmonoE e ⟨a,h2,?_⟩;rcases h3 with h3 | ⟨_,h4,h5,_⟩
  ·exact h3
  ·have:=(h.inv.st _ _ h2).below h4;omega
 refine⟨hl.inv h.inv hO,hH,a6N h.wok hf n hfit.2.1,λi a ha=>?_,λb r hb hr=>?_,λhd i j=>?_⟩
 rotate_right
 ·have hd:∀i:Nat,(Q.wrote l).N.dead.getD i false=false:=hd;rw[hl.turn.dead]at hd;show((Q.wrote l).N.blk i j).fails=false;rw[(hl.turn.flags i j).2.1];exact h.ff hd i j
 ·by_cases hex:∃j,j<n/\(l.getD j En.zero).lpn=i
  ·obtain⟨j,hj,rfl⟩:=hex;rw[l1 j hj]at ha;injection ha with ha;rw[<- ha,hlk.dies];exact ho.mask
  ·rw[l2 i λj hj e=>hex ⟨j,hj,e⟩]at ha;rw[hlk.dies];exact h.msk i a ha
 ·by_cases e:(b:Int)=Q.op/\(r:Int)=Q.row
  ·have hev:Ev (CS (M8 W l n) (t6 Q l).T Q.op Q.row) (t6 Q l).N Q.op Q.row Q.mask (Q.es l):=⟨hF.is,hF.inn,λx hx=>by
    rcases a9s hx with⟨i,hi,hin,rfl⟩ | rfl
    ·right;have hin2:i<n:=by rw[hfd];omega
     exact⟨_,_,w1 i hin2,l1 i hin2, .inr ⟨rfl,rfl,rfl,rfl,rfl⟩⟩
    ·exact .inl rfl⟩
   rw[e.1,e.2];rcases ho.mask.eq hg.1 with⟨hm,_⟩ | ⟨f0,f1,fno,hm⟩
   ·refine .all (Q.es l) ?_;rw[hlk.dies,<- hm];exact hev
   ·obtain⟨d,rfl⟩:=Int.eq_ofNat_of_zero_le f0;have hd:d<Q.N.dies:=by omega
    have hpg:(t6 Q l).N.pageAt (d:Int) Q.op Q.row=Q.N.pageAt (d:Int) Q.op Q.row:=by
     unfold Nand.pageAt;rw[Int.toNat_natCast,w3.rest d Q.op.toNat (.inr λx hx he=>by
      obtain⟨n1,_,n3⟩:=hR.inn x hx;rw[show x.1=(d:Int)from by omega,fno]at n3;cases n3)]
    refine .but d (Q.es l) rfl (by rw[hlk.dies];exact hd) (by rw[hlk.dies,<- hm];exact hev) ?_;have hb0:=ho.blk;have hr0:=ho.row;have hrp:=(Dv.left_spec hl.left).2.1;have h0:=h.dsc Q.op.toNat Q.row.toNat (by omega) (by omega);rw[Int.toNat_of_nonneg hb0.1,Int.toNat_of_nonneg hr0.1]at h0;cases h0 with
    | none h0=>exact .inl λc hc=>h0 d c (by rw[<- hpg];exact hc)
    | all l0 h0=>
     refine .inr ⟨l0,by rw[hlk.dies];exact h0.is.like hlk,λx hx hxd c hc=>?_,λe he=>(h0.kind e he).imp id (hold e)⟩;rw[hlk.dies]at hx;exact h0.inn x hx c (by rw[hxd,<- hpg];exact hc)
    | but d' l0 e' hd' h0 o=>
     obtain rfl:d'=d:=by omega
     rcases o with o | ⟨l',o⟩
     ·exact .inl λc hc=>o c (by rw[<- hpg];exact hc)
     ·refine .inr ⟨l',by rw[hlk.dies];exact o.is.like hlk,λx hx hxd c hc=>?_,λe he=>(o.kind e he).imp id (hmonoE e)⟩;rw[hlk.dies]at hx;exact o.inn x hx hxd c (by rw[<- hpg];exact hc)
  ·refine((h.dsc b r (by rw[<- hlk.blocks];exact hb) (by rw[<- hlk.pages];exact hr)).gone hlk λd c hc=> .inr ?_).mono (hmono b r) hmonoE;rw[a8q]at hc ⊢;rw[<- w3.page hq (Int.natCast_nonneg _) (Int.natCast_nonneg _) (Int.natCast_nonneg _) λe1 e2=>e ⟨e1,e2⟩];exact hc
theorem pen (h:GI fd W S) (hO:S.Ok (8*Dv.fuel+k) m) (hot:Hot2 fd S 0) (hf:∀e∈l,FitR e) (hl0:l.length≠0) (hnd:(l.map (·.lpn)).Nodup) (hlg:∀e∈l,e.lpn<S.T.logical) (hnx:S.next<=1099511627775-1200):
  S.pen l=(S,0,11)/\S.rows=0\/∃(V:Dv) (n:Nat),S.pen l=(V,(n:Int),0)/\Pnd fd S l V n 0/\V.Ok k m/\GI fd (M8 W l n) V/\Hot2 fd V 0:=by
 by_cases hr:S.rows=0
 ·obtain⟨e1,e2⟩:=h.inv.full (hO.less (Nat.le_refl _)) hr;left;refine⟨?_,hr⟩;show Dv.write (159+1) S l=_;rw[Dv.write_succ,if_neg hl0,if_pos ⟨e1,e2⟩]
 ·right;obtain⟨V,n,γ,p1,p2,p3,p4⟩:=h.inv.pen_step hO hot (by omega) hf hl0 hnd hlg hnx h.hd;obtain⟨γ',Q,g1,g2,g3,g4,g5,_,_,_,g9⟩:=h.inv.write_go (l:=l) 0 159 S k (m:=m) hO hot.hot (by omega) hf hl0 (by omega);obtain rfl:γ'=0:=by omega
  obtain rfl:=g9 rfl;obtain⟨q1,q2⟩:=p2.hot 0 hot;obtain rfl:γ=0:=by omega
  have hp:S.pen l=(t6 S.at1 l,(S.at1.fit l:Int),(0:Int)):=g5;rw[hp]at p1;have e1:=congrArg Prod.fst p1;have e2:=congrArg (λz=>z.2.1) p1;dsimp only at e1 e2;have hns:¬(S.left=false/\S.pick<0):=λe=>by
   rcases h.inv.rows_pos (hO.less (Nat.le_refl _)) (by omega)with e2 | e2
   ·rw[e.1]at e2;cases e2
   ·exact e2 e.2
  have hat:=Dv.at1_like S;have hG:=(h.at1 (hO.less (Nat.le_refl _)) hns).wrote g3 g4 hf hnd (λe he=>by rw[hat.2.1];exact hlg e he);subst e1;have e2:S.at1.fit l=n:=by omega
  rw[e2]at hG hp;exact⟨_,n,hp,p2,p3,hG,q2⟩
theorem swap {E:List En} {n:Nat} (h:GI fd (M8 W E n) S) (hW:WOk W) (hE:∀j,j<n->∃e sq,Tb.look W (E.getD j En.zero).lpn=some e/\E.getD j En.zero={e with seq:=sq}) (hd:∀i j,i<j->j<n->(E.getD i En.zero).lpn≠(E.getD j En.zero).lpn):GI fd W S:=by
 obtain⟨w1,w2⟩:=K0 (W:=W) (l:=E) n hd;refine⟨h.inv,h.hd.swap hE hd,hW,h.msk,λb r hb hr=>(h.dsc b r hb hr).mono (λe ⟨w,a,x1,x2,x3⟩=>?_) λe he=>he,h.ff⟩
 by_cases hex:∃j,j<n/\(E.getD j En.zero).lpn=e.lpn
 ·obtain⟨j,hj,hje⟩:=hex;obtain⟨e0,sq,y1,y2⟩:=hE j hj;have z1:=w1 j hj;rw[hje]at z1 y1;rw[z1]at x1;injection x1 with x1;refine⟨e0,a,y1,x2,x3.imp id λ⟨z2,z3,z4,z5,z6⟩=>⟨z2,z3,z4,?_,?_⟩⟩
  ·rw[z5,<- x1,y2]
  ·rw[z6,<- x1,y2]
 ·exact⟨w,a,by rw[<- w2 _ λj hj hh=>hex ⟨j,hj,hh⟩];exact x1,x2,x3⟩
theorem carry_go:∀(f:Nat) (S:Dv) (I:List Int) (done:Int) (k:Nat),GI fd W S->S.Ok (Dv.cost*f+k) m->Hot2 fd S 0->I.length<=f->(∀i∈I,(Tb.look W i).isSome=true)->I.Nodup->S.next+1000*(f:Int)<=1099511627775-1300->
  ∃(V:Dv) (n e:Int),Dv.carryGo f S I done=(V,n,e)/\GI fd W V/\V.Ok k m/\Hot2 fd V 0/\V.next<=S.next+1000*(f:Int)/\V.T.logical=S.T.logical/\S.N.Like V.N
 | 0,S,I,done,k,h,hO,hot,hL,_,_,_=>⟨S,done,0,rfl,h,hO.less (by omega),hot,by omega,rfl,Nand.Like.refl _⟩
 | f+1,S,I,done,k,h,hO,hot,hL,hin,hnd,hnx=>by
  by_cases hl0:I.length=0
  ·have:I=[]:=List.eq_nil_of_length_eq_zero hl0;subst this;exact⟨S,done,0,by rw[Dv.carryGo,if_pos (show([]:List Int).length=0 from rfl)],h,hO.less (by omega),hot,by omega,rfl,Nand.Like.refl _⟩
  ·have hg:=hO.gd.ok.bd16;obtain⟨c,hc⟩:∃c,(max S.slots 1).toNat=c:=⟨_,rfl⟩;have hc2:1<=c:=by omega
   obtain⟨E,e1,e2,e3,e4,e5⟩:=h.hd.rds h.wok (I.take c) λi hi=>hin i (List.mem_of_mem_take hi);have hEl:E.length=min c I.length:=by rw[e2,List.length_take]
   have hnd2:(E.map (·.lpn)).Nodup:=by rw[e3];exact hnd.sublist (List.take_sublist _ _)
   have hlgE:∀e∈E,e.lpn<S.T.logical:=λe he=>by
    have:e.lpn∈I.take c:=by rw[<- e3];exact List.mem_map_of_mem he
    have h1:=hin _ (List.mem_of_mem_take this);obtain⟨w,hw⟩:=Option.isSome_iff_exists.1 h1;obtain⟨_,a,ha,_⟩:=h.hd.each _ _ hw;exact(hO.T.rng _ (Tb.look_mem ha)).2
   have hstep:Dv.carryGo (f+1) S I done=(let w:=S.pen E;if w.2.2≠0 then(w.1,done+w.2.1,w.2.2)else Dv.carryGo f w.1 (I.drop w.2.1.toNat) (done+w.2.1)):=by
    rw[Dv.carryGo,if_neg hl0,hc];dsimp only;rw[e1];dsimp only;rw[if_neg (by decide)]
   rcases h.pen (k:=Dv.cost*f+k) (m:=m) (by have:Dv.cost*(f+1)=Dv.cost*f+Dv.cost:=Nat.mul_succ _ _;exact hO.less (by unfold Dv.cost at this ⊢;omega)) hot e4 (by omega) hnd2 hlgE (by omega)with⟨p1,_⟩ | ⟨V,n,p1,p2,p3,p4,p5⟩
   ·rw[hstep,p1];dsimp only;rw[if_pos (by decide)];exact⟨S,_,11,rfl,h,hO.less (by omega),hot,by omega,rfl,Nand.Like.refl _⟩
   ·have hnE:=p2.n1;have hV:GI fd W V:=p4.swap h.wok (λj hj=>e5 j (by rw[<- e2];omega)) (a5q hnd2 hnE);rw[hstep,p1];dsimp only;rw[if_neg (by decide),Int.toNat_natCast];have hdl:(I.drop n).length=I.length-n:=List.length_drop;have hn1:=p2.n3;have hnx2:=p2.next;obtain⟨U,n2,e2',r1,r2,r3,r4,r5,r6,r7⟩:=carry_go f V (I.drop n) (done+(n:Int)) k hV p3 p5 (by omega) (λi hi=>hin i (List.mem_of_mem_drop hi)) (hnd.sublist (List.drop_sublist _ _)) (by omega);exact⟨U,n2,e2',r1,r2,r3,r4,by omega,r6.trans p2.logical,p2.like.trans r7⟩
theorem carry (h:GI fd W S) (hO:S.Ok (Dv.costC+k) m) (hot:Hot2 fd S 0) (hlg:S.T.logical<=1000) (hnx:S.next<=1099511627775-2000000) (b most:Int):
  ∃(V:Dv) (n e:Int),S.carry b most=(V,n,e)/\GI fd W V/\V.Ok k m/\Hot2 fd V 0/\V.next<=S.next+1000000/\V.T.logical=S.T.logical/\S.N.Like V.N:=by
 obtain⟨I,hI⟩:∃I,(S.T.ins b).take (max most 0).toNat=I:=⟨_,rfl⟩;have hsub:∀j∈I,j∈S.T.ins b:=λj hj=>by rw[<- hI]at hj;exact List.mem_of_mem_take hj
 have hlen:I.length<=1000:=by
  have h1:=ins_len hO.T b;have h2:Tb.cntB S.T.at_ b<=S.T.at_.length:=List.countP_le_length;have h3:=b3X hO.T;rw[<- hI,List.length_take];omega
 have hnd:I.Nodup:=by
  rw[<- hI];refine List.Nodup.sublist (List.take_sublist _ _) ?_;unfold Tb.ins;split
  ·exact List.nodup_nil
  ·unfold Tb.inK;exact List.pairwise_map.2 ((List.nodup_range.filter _).imp λhne e=>hne (by omega))
 have hcost:Dv.cost*I.length<=Dv.costC:=Nat.mul_le_mul_left _ (by omega);obtain⟨V,n,e,r1,r2,r3,r4,r5,r6,r7⟩:=carry_go I.length S I 0 k h (hO.less (by omega)) hot (Nat.le_refl _) (λj hj=>by
  obtain⟨a,ha,_⟩:=b3i (hsub j hj);cases hw:Tb.look W j with
  | none=>rw[h.hd.none hw]at ha;cases ha
  | some e=>rfl) hnd (by omega)
 refine⟨V,n,e,?_,r2,r3,r4,by omega,r6,r7⟩;unfold Dv.carry;rw[hI];exact r1
theorem cleared (h:GI fd W S) {N':Nand} {t':Tl} (c1:S.clear=({S with N:=N',t:=t'},0)) (c2:Inv.Cleared fd S (f8 (i9 S.t S.T) S.op S.t.b) N' t') (c3:Hd {S with N:=N',t:=t'} W):GI fd W {S with N:=N',t:=t'}:=by
 have hers:ErsP S.N N' (f8 (i9 S.t S.T) S.op S.t.b):=by
  have:=a2p (f8 (i9 S.t S.T) S.op S.t.b) S.N S.t;have e:S.clear.1.N=(Dv.clearGo (f8 (i9 S.t S.T) S.op S.t.b) S.N S.t).1:=rfl;rw[<- e,c1]at this;exact this
 refine⟨c2.inv,c3,h.wok,λi a ha=>?_,λb r hb hr=>?_,λhd=>?_⟩
 rotate_right
 ·have hd:∀i:Nat,N'.dead.getD i false=false:=hd;rw[c2.dead]at hd;exact(c2.nofl ⟨hd,h.ff hd⟩).1.2
 ·show Msk N'.dies fd a.mask;rw[c2.like.dies];exact h.msk i a ha
 ·have hb:b<N'.blocks:=hb;have hr:r<N'.pages:=hr;rw[c2.like.blocks]at hb;rw[c2.like.pages]at hr;exact(h.dsc b r hb hr).gone c2.like λd c hc=>hers.less d b r c hc
theorem clear(h:GI fd W S) (hO:S.Ok (96+k) m):∃V,S.clear=(V,0)/\GI fd W V/\V.Ok k m/\V.next=S.next/\V.T=S.T/\V.op=S.op/\S.N.Like V.N/\(Hot2 fd S 0->Hot2 fd V 0):=by
 have hk:=Dv.clear_keep hO;obtain⟨N',t',c1,c2,c3⟩:=h.inv.clear_hd hO h.hd;have hG:=h.cleared c1 c2 c3;rw[c1]at hk;refine⟨_,c1,hG,hk.1,rfl,rfl,rfl,c2.like,λhh=>?_⟩;cases hh with
 | calm hno=>
  have hnf:=c2.nofl ⟨hno.dead,h.ff hno.dead⟩;exact .calm ⟨λi=>by show N'.dead.getD i false=false;rw[c2.dead];exact hno.dead i,List.eq_nil_iff_forall_not_mem.2 λa ha=>(by have:=c2.plan a ha;rw[hno.plan]at this;cases this),λi j=>by show(N'.blk i j).met=false;rw[hnf.2];exact hno.met i j⟩
 | cold h1 h2=>exact .cold (c2.td fd h1) h2
theorem room_go:∀(f:Nat) (S:Dv) (k:Nat),GI fd W S->S.Ok (Dv.costR*f+k) m->Hot2 fd S 0->S.T.logical<=1000->S.next+1000000*(f:Int)<=1099511627775-2000000->
  ∃(V:Dv) (e:Int),Dv.roomGo f S=(V,e)/\GI fd W V/\Hot2 fd V 0
 | 0,S,k,h,hO,hot,_,_=>⟨S,0,rfl,h,hot⟩
 | f+1,S,k,h,hO,hot,hlg,hnx=>by
  rw[Nat.mul_succ]at hO;rw[Dv.roomGo];split
  ·exact⟨S,0,rfl,h,hot⟩
  split
  ·exact⟨S,0,rfl,h,hot⟩
  obtain⟨U,n,e,c1,c2,c3,c4,c5,c6,c7⟩:=h.carry (k:=96+(Dv.costR*f+k)) (hO.less (by unfold Dv.costR;omega)) hot hlg (by omega) S.victim (S.T.count S.victim);dsimp only;rw[c1];dsimp only;split
  ·exact⟨U,e,rfl,c2,c4⟩
  ·obtain⟨V,d1,d2,d3,d4,d5,_,_,d8⟩:=c2.clear (k:=Dv.costR*f+k) c3;rw[d1];dsimp only;rw[if_neg (by decide)];exact room_go f V k d2 d3 (d8 c4) (by rw[d5,c6];exact hlg) (by omega)
theorem room (h:GI fd W S) (hO:S.Ok (Dv.costM+k) m) (hot:Hot2 fd S 0) (hlg:S.T.logical<=1000) (hnx:S.next<=1099511627775-20000000):GI fd W S.room.1/\Hot2 fd S.room.1 0:=by
 have hg:=hO.gd.ok.bd16;have htb:=hO.t.b;obtain⟨U,u1,u2,u3,u4,u5,_,_,u8⟩:=h.clear (k:=Dv.costR*16+k) (hO.less (by unfold Dv.costM;omega));have hm:Dv.costR*S.t.b<=Dv.costR*16:=Nat.mul_le_mul_left _ (by omega);obtain⟨V,e,v1,v2,v3⟩:=room_go S.t.b U k u2 (u3.less (by omega)) (u8 hot) (by rw[u5];exact hlg) (by omega);unfold Dv.room;rw[u1];dsimp only;rw[if_neg (by decide),v1];exact⟨v2,v3⟩
theorem same (h:GI fd W S) {N':Nand} (hl:S.N.Like N') (hb:N'.blk=S.N.blk) (hd:N'.dead=S.N.dead) (hp:N'.plan=S.N.plan) (hlit:N'.Lit) (hi:Inv fd {S with N:=N'}) (hH:Hd {S with N:=N'} W):GI fd W {S with N:=N'}:=by
 refine⟨hi,hH,h.wok,λi a ha=>?_,λb r hb' hr'=>?_,λhdd i j=>?_⟩
 ·show Msk N'.dies fd a.mask;rw[hl.dies];exact h.msk i a ha
 ·have hb':b<N'.blocks:=hb';have hr':r<N'.pages:=hr';rw[hl.blocks]at hb';rw[hl.pages]at hr';refine(h.dsc b r hb' hr').gone hl λd c hc=> .inr ?_;have hc:N'.pageAt d b r=some c:=hc;unfold Nand.pageAt at hc ⊢;rw[hb]at hc;exact hc
 ·have hdd:∀i:Nat,N'.dead.getD i false=false:=hdd;rw[hd]at hdd;show(N'.blk i j).fails=false;rw[hb];exact h.ff hdd i j
end GI
namespace Rmy
variable {fd : Int} {S : Dv} {k m β : Nat} {W : List (Int × En)}
end Rmy
theorem Tl.set_dead2 (t:Tl) (k:Int) (s:Sb):(t.set k s).dead=t.dead/\(t.set k s).d=t.d/\(t.set k s).b=t.b:=by unfold Tl.set;split<;>exact⟨rfl,rfl,rfl⟩
theorem a5Q {N:Nand} {t:Tl} (hd:t.d=N.dies) (h6:N.dies<=6) (hs:L.set t.dead=true):L.set (Dv.seeDead N t).dead=true/\(∀e:Int,L.has (Dv.seeDead N t).dead e=(L.has t.dead e||N.deadAt e))/\(Dv.seeDead N t).l=t.l/\(Dv.seeDead N t).b=t.b/\(Dv.seeDead N t).d=t.d:=by
 have key:∀n,n<=t.d->∀u,u=(List.range n).foldl (λ(t:Tl) (d:Nat)=>if N.deadAt d then t.die d else t) t->L.set u.dead=true/\(∀e:Int,L.has u.dead e=(L.has t.dead e||(decide (e<n)&&N.deadAt e)))/\u.l=t.l/\u.b=t.b/\u.d=t.d:=by
  intro n
  induction n with
  | zero=>
   intro _ u hu;subst hu;refine⟨hs,λe=>?_,rfl,rfl,rfl⟩;have:(decide (e<((0:Nat):Int))&&N.deadAt e)=false:=by
    cases h:N.deadAt e with
    | false=>simp
    | true=>
     unfold Nand.deadAt at h;simp only[Bool.and_eq_true,decide_eq_true_eq]at h;rw[decide_eq_false (by omega),Bool.false_and]
   rw[this,Bool.or_false]
  | succ n ih=>
   intro hn u hu;rw[List.range_succ,List.foldl_append]at hu;obtain⟨v,hv⟩:∃v,v=(List.range n).foldl (λ(t:Tl) (d:Nat)=>if N.deadAt d then t.die d else t) t:=⟨_,rfl⟩;rw[<- hv]at hu;obtain⟨a1,a2,a3,a4,a5⟩:=ih (by omega) v hv;have hu:u=if N.deadAt n then v.die n else v:=hu
   cases hdd:N.deadAt n with
   | false=>
    rw[hdd,if_neg Bool.false_ne_true]at hu;rw[hu];refine⟨a1,λe=>?_,a3,a4,a5⟩;rw[a2]
    by_cases he:e=(n:Int)
    ·rw[he,hdd];simp
    ·have:decide (e<((n+1:Nat):Int))=decide (e<(n:Int)):=by
      by_cases h:e<(n:Int)
      ·rw[decide_eq_true h,decide_eq_true (by omega)]
      ·rw[decide_eq_false h,decide_eq_false (by omega)]
     rw[this]
   | true=>
    rw[hdd,if_pos rfl]at hu;have hdie:v.die n=⟨v.d,v.b,v.p,v.l,L.with_ v.dead n⟩:=by
     unfold Tl.die;rw[if_pos];unfold Tl.hasDie;rw[decide_eq_true (by omega),decide_eq_true (by omega)];rfl
    rw[hdie]at hu;rw[hu];refine⟨L.set_with a1 (by omega),λe=>?_,a3,a4,a5⟩;show L.has (L.with_ v.dead n) e=_;rw[L.with_has a1 (by omega),a2]
    by_cases he:e=(n:Int)
    ·rw[he,hdd,decide_eq_true (show(n:Int)<((n+1:Nat):Int)by omega)];simp
    ·have:decide (e<((n+1:Nat):Int))=decide (e<(n:Int)):=by
      by_cases h:e<(n:Int)
      ·rw[decide_eq_true h,decide_eq_true (by omega)]
      ·rw[decide_eq_false h,decide_eq_false (by omega)]
     rw[this,decide_eq_false he,Bool.or_false]
 obtain⟨b1,b2,b3,b4,b5⟩:=key t.d (Nat.le_refl _) _ rfl;refine⟨b1,λe=>?_,b3,b4,b5⟩;show L.has ((List.range t.d).foldl (λ(t:Tl) (d:Nat)=>if N.deadAt d then t.die d else t) t).dead e=_;rw[b2];cases h:N.deadAt e with
 | false=>simp
 | true=>
  unfold Nand.deadAt at h;simp only[Bool.and_eq_true,decide_eq_true_eq]at h;rw[decide_eq_true (by omega)];rfl
def a1V (dd:Int) (N:Nand) (b k:Nat):Bool:=(List.range k).any λd=>!L.has dd (d:Nat)&&decide ((N.blk d b).cells≠[])
theorem a8h (dd:Int) (N:Nand) (b k:Nat):a1V dd N b (k+1)=(a1V dd N b k||(!L.has dd (k:Nat)&&decide ((N.blk k b).cells≠[]))):=by
 unfold a1V;rw[List.range_succ,List.any_append];simp
namespace Tl
variable {N : Nand} {t : Tl}
theorem ofD_spec (hF:t.Fit N) (h6:N.dies<=6) (hs:L.set t.dead=true) {b d:Nat} (hb:b<N.blocks) (hbad:(t.at_ b).bad=0) (hd:d<N.dies):
  (ofD N b t d).dead=t.dead/\(ofD N b t d).Fit N/\(∀x:Nat,x<N.blocks->x≠b->(ofD N b t d).at_ x=t.at_ x)/\((ofD N b t d).at_ b).bad=0/\((ofD N b t d).at_ b).held=(t.at_ b).held/\((ofD N b t d).at_ b).used=((t.at_ b).used||(!L.has t.dead (d:Nat)&&decide ((N.blk d b).cells≠[]))):=by
 have hh:∀x:Nat,x<N.blocks->t.has (x:Int)=true:=λx hx=>Tl.has_iff.2 (by have:=hF.b;omega);obtain⟨u,hu⟩:∃u,t.wore b (N.wornAt d b)=u:=⟨_,rfl⟩;have hud:u.dead=t.dead/\u.d=t.d/\u.b=t.b:=by rw[<- hu];exact Tl.set_dead2 _ _ _
 have huF:u.Fit N:=by rw[<- hu];exact hF.wore _ _
 have huh:∀x:Nat,x<N.blocks->u.has (x:Int)=true:=λx hx=>Tl.has_iff.2 (by have:=huF.b;omega);have hua:∀x:Nat,x<N.blocks->u.at_ x=if(x:Int)=(b:Int)then {t.at_ b with wear:=if N.wornAt d b>(t.at_ b).wear then N.wornAt d b else(t.at_ b).wear}else t.at_ x:=λx hx=>by
  rw[<- hu];exact Tl.at_set (by rw[hF.len]) _ (hh b hb) (hh x hx)
 have hub:=hua b hb;rw[if_pos rfl]at hub;have hmk:L.has (u.mask b) (d:Nat)= !L.has t.dead (d:Nat):=by
  have h1:=(A6 (t:=u) (b:=b) (by have:=huF.d;omega) (huh b hb) (by rw[hud.1];exact hs) (by rw[hub];show L.set (t.at_ b).bad=true;rw[hbad];decide)).2 (d:Nat);rw[h1,hud.1,hub];show(((decide ((0:Int)<=(d:Nat))&&decide (((d:Nat):Int)<u.d))&& !L.has t.dead (d:Nat))&& !L.has (t.at_ b).bad (d:Nat))=_;rw[hbad,L.has_zero,decide_eq_true (by omega),decide_eq_true (by have:=huF.d;omega)];simp
 have hnx:decide ((N.next d b:Int)>0)=decide ((N.blk d b).cells≠[]):=by
  unfold Nand.next;rw[if_pos ⟨by omega,by omega,by omega,by omega⟩,Int.toNat_natCast,Int.toNat_natCast];cases(N.blk d b).cells with
  | nil=>rfl
  | cons c l=>rw[decide_eq_true (by rw[List.length_cons];omega),decide_eq_true (by simp)]
 have hof:ofD N b t d=if(!L.has t.dead (d:Nat)&&decide ((N.blk d b).cells≠[]))then u.clean b false else u:=by
  unfold ofD;rw[hu];dsimp only;rw[hmk,hnx]
 rw[hof];split
 ·rename_i hc;rw[hc];have hca:∀x:Nat,x<N.blocks->(u.clean b false).at_ x=if(x:Int)=(b:Int)then {u.at_ b with used:=!false}else u.at_ x:=λx hx=>Tl.at_set (by rw[huF.len]) _ (huh b hb) (huh x hx)
  have hcb:=hca b hb;rw[if_pos rfl]at hcb;have hx:=Tl.set_dead2 u b {u.at_ b with used:=!false};refine⟨hx.1.trans hud.1,huF.clean _ _,λx hx hne=>?_,?_,?_,?_⟩
  ·rw[hca x hx,if_neg (by omega),hua x hx,if_neg (by omega)]
  ·rw[hcb,hub];exact hbad
  ·rw[hcb,hub]
  ·rw[hcb];simp
 ·rename_i hc;have hc:(!L.has t.dead (d:Nat)&&decide ((N.blk d b).cells≠[]))=false:=by simpa using hc
  rw[hc];refine⟨hud.1,huF,λx hx hne=>?_,?_,?_,?_⟩
  ·rw[hua x hx,if_neg (by omega)]
  ·rw[hub];exact hbad
  ·rw[hub]
  ·rw[hub];simp
structure OfS (N:Nand) (t0:Tl) (n:Nat) (t:Tl):Prop where
 fit:t.Fit N
 dead:t.dead=t0.dead
 at_:∀b:Nat,b<N.blocks->(t.at_ b).bad=0/\(t.at_ b).held=false/\(t.at_ b).used=(decide (b<n)&&a1V t0.dead N b N.dies)
theorem ofB_spec {t0:Tl} {n:Nat} (h:OfS N t0 n t) (h6:N.dies<=6) (hs:L.set t0.dead=true) (hn:n<N.blocks):OfS N t0 (n+1) (ofB N t n):=by
 have key:∀k,k<=N.dies->∀u,u=(List.range k).foldl (ofD N n) t->u.Fit N/\u.dead=t0.dead/\(∀x:Nat,x<N.blocks->x≠n->u.at_ x=t.at_ x)/\(u.at_ n).bad=0/\(u.at_ n).held=false/\(u.at_ n).used=a1V t0.dead N n k:=by
  intro k
  induction k with
  | zero=>
   intro _ u hu;subst hu;obtain⟨a1,a2,a3⟩:=h.at_ n hn;exact⟨h.fit,h.dead,λ_ _ _=>rfl,a1,a2,a3.trans (by rw[decide_eq_false (Nat.lt_irrefl _)];rfl)⟩
  | succ k ih=>
   intro hk u hu;rw[List.range_succ,List.foldl_append]at hu;obtain⟨v,hv⟩:∃v,v=(List.range k).foldl (ofD N n) t:=⟨_,rfl⟩;rw[<- hv]at hu;have hu:u=ofD N n v k:=hu;obtain⟨a1,a2,a3,a4,a5,a6⟩:=ih (by omega) v hv;obtain⟨b1,b2,b3,b4,b5,b6⟩:=ofD_spec a1 h6 (by rw[a2];exact hs) hn a4 (show k<N.dies by omega);rw[hu];refine⟨b2,b1.trans a2,λx hx hne=>(b3 x hx hne).trans (a3 x hx hne),b4,b5.trans a5,?_⟩;rw[b6,a6,a2,a8h]
 obtain⟨c1,c2,c3,c4,c5,c6⟩:=key N.dies (Nat.le_refl _) _ rfl;refine⟨c1,c2,λb hb=>?_⟩
 by_cases e:b=n
 ·subst e;refine⟨c4,c5,?_⟩;show(((List.range N.dies).foldl (ofD N b) t).at_ b).used=_;rw[c6,decide_eq_true (by omega)];rfl
 ·obtain⟨a1,a2,a3⟩:=h.at_ b hb;have:=c3 b hb e;show(((List.range N.dies).foldl (ofD N n) t).at_ b).bad=0/\(((List.range N.dies).foldl (ofD N n) t).at_ b).held=false/\(((List.range N.dies).foldl (ofD N n) t).at_ b).used=_;rw[this];refine⟨a1,a2,a3.trans ?_⟩
  by_cases hlt:b<n
  ·rw[decide_eq_true hlt,decide_eq_true (by omega)]
  ·rw[decide_eq_false hlt,decide_eq_false (by omega)]
theorem of_spec (hN:N.Ok):L.set (Tl.of N).dead=true/\(∀e:Int,L.has (Tl.of N).dead e=N.deadAt e)/\∀b:Nat,b<N.blocks->((Tl.of N).at_ b).bad=0/\((Tl.of N).at_ b).held=false/\((Tl.of N).at_ b).used=a1V (Tl.of N).dead N b N.dies:=by
 have hg:=hN.bd16;obtain⟨s1,s2,s3,s4,s5⟩:=a5Q (N:=N) (t:=Tl.new N.dies N.blocks N.pages) rfl (by omega) (by show L.set 0=true;decide);have h0:OfS N (Dv.seeDead N (Tl.new N.dies N.blocks N.pages)) 0 (Dv.seeDead N (Tl.new N.dies N.blocks N.pages)):=by
  refine⟨(Tl.Fit.new N).seeDead,rfl,λb hb=>?_⟩;have:(Dv.seeDead N (Tl.new N.dies N.blocks N.pages)).at_ b=Sb.zero:=by
   unfold Tl.at_;rw[s3];show(List.replicate N.blocks Sb.zero).getD _ Sb.zero=Sb.zero;rw[List.getD_eq_getElem?_getD,List.getElem?_replicate];split<;>rfl
  rw[this];exact⟨rfl,rfl,rfl⟩
 have key:∀n,n<=N.blocks->OfS N (Dv.seeDead N (Tl.new N.dies N.blocks N.pages)) n ((List.range n).foldl (ofB N) (Dv.seeDead N (Tl.new N.dies N.blocks N.pages))):=by
  intro n
  induction n with
  | zero=>intro _;exact h0
  | succ n ih=>
   intro hn;rw[List.range_succ,List.foldl_append];exact ofB_spec (ih (by omega)) (by omega) s1 (by omega)
 have hk:=key N.blocks (Nat.le_refl _);have hof:Tl.of N=(List.range N.blocks).foldl (ofB N) (Dv.seeDead N (Tl.new N.dies N.blocks N.pages)):=rfl;rw[<- hof]at hk;refine⟨by rw[hk.dead];exact s1,λe=>?_,λb hb=>?_⟩
 ·rw[hk.dead,s2];show(L.has 0 e||N.deadAt e)=N.deadAt e;rw[L.has_zero,Bool.false_or]
 ·obtain⟨a1,a2,a3⟩:=hk.at_ b hb;refine⟨a1,a2,?_⟩;rw[a3,hk.dead,decide_eq_true hb,Bool.true_and]
end Tl
end Go.Proofs.YtpohajhbfllbbaaGreat
