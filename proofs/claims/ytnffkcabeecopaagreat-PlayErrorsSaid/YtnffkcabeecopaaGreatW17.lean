/- Helpers. No condition. -/
import Derived.Test.YtnffkcabeecopaaGreatW10
import Derived.Test.YtnffkcabeecopaaGreatW12
import Derived.Test.YtnffkcabeecopaaGreatW13
import Derived.Test.YtnffkcabeecopaaGreatW15
import Derived.Test.YtnffkcabeecopaaGreatW16
set_option maxRecDepth 20000
set_option linter.all false
namespace Go.Proofs.YtnffkcabeecopaaGreat
open Go
theorem mem_masks {N:Nand} {b r m:Int}:m∈M.masks N b r↔∃i:Nat,i<N.dies/\(M.look N (i:Nat) b r).2=1/\(M.look N (i:Nat) b r).1.mask=m:=by
 unfold M.masks;rw[(a3M _ (a7p _)).2,a8t,List.mem_filterMap];unfold M.rowN;constructor
 ·rintro⟨z,hz,hm⟩;obtain⟨i,hi,rfl⟩:=List.mem_map.1 hz;unfold M.maskOf at hm;split at hm
  ·rename_i h1;injection hm with hm;exact⟨i,List.mem_range.1 hi,h1,hm⟩
  ·cases hm
 ·rintro⟨i,hi,h1,h2⟩;refine⟨_,List.mem_map_of_mem (List.mem_range.2 hi),?_⟩;unfold M.maskOf;rw[if_pos h1,h2]
theorem one_iff {N:Nand} {b r m d:Int}:(R.one N b r m d).2=true↔(M.look N d b r).2=1/\(M.look N d b r).1.mask=m:=by
 unfold R.one;simp
theorem a9j {N:Nand} {b r m:Int} {k:Nat} (hk:(k:Int)<G.slots m):(R.look N b r m).good.getD k false=(R.one N b r m (G.die m b r (k:Nat))).2/\(R.look N b r m).slots.getD k Sh.zero=(R.one N b r m (G.die m b r (k:Nat))).1:=by
 have hk2:k<(G.slots m).toNat:=by omega
 unfold R.look R.ones;simp only[List.getD_eq_getElem?_getD,List.getElem?_map,List.getElem?_range hk2,Option.map_some,Option.getD_some,and_self]
structure Ev (C:En->Prop) (N:Nand) (b r m:Int) (l:List En):Prop where
 is:RowIs N b r m l
 inn:RowIn N b r m l
 kind:∀e∈l,e.role=3\/C e
structure Old (d:Nat) (E:En->Prop) (N:Nand) (b r:Int) (l:List En):Prop where
 is:RowIs N b r (L.all N.dies) l
 inn:∀x∈R.job b r (L.all N.dies) l,x.1=(d:Int)->∀c,N.pageAt (d:Int) b r=some c->a4a x.2 c
 kind:∀e∈l,e.role=3\/E e
inductive DscG (fd:Int) (C E:En->Prop) (N:Nand) (b r:Int):Prop
 | none:(∀(d:Int) (c:NCell),N.pageAt d b r=some c->c.lost=true)->DscG fd C E N b r
 | all (l:List En):Ev C N b r (L.all N.dies) l->DscG fd C E N b r
 | but (d:Nat) (l:List En):fd=(d:Int)->d<N.dies->Ev C N b r (L.without (L.all N.dies) (d:Nat)) l->((∀c,N.pageAt (d:Int) b r=some c->c.lost=true)\/∃l',Old d E N b r l')->DscG fd C E N b r
theorem Ev.look {C:En->Prop} {N:Nand} {b r m:Int} {l:List En} (h:Ev C N b r m l) {x:Int×Sh} (hx:x∈R.job b r m l) (h1:(M.look N x.1 b r).2=1):M.look N x.1 b r=(x.2,1):=by
 cases hp:N.pageAt x.1 b r with
 | none=>exact absurd h1 (U8 hp)
 | some c=>exact a0d (h.is.sh x hx).1 hp (h.inn x hx c hp) h1
theorem Ev.found {C:En->Prop} {N:Nand} {b r m:Int} {l:List En} (h:Ev C N b r m l) (hoff:N.off=false) {f:Fnd} (hf:f∈R.allM N b r m):C f.en/\f.mask=m/\∃k:Nat,k<l.length/\f.slot=k/\f.en=l.getD k En.zero/\R.read N b r f.slot m=(f.en,0)/\f.whole=gOf N b r m l l.length:=by
 have hp:=h.inn.part h.is;rw[hp.allM h.is]at hf;unfold b4r at hf;obtain⟨k,hk,hx⟩:=List.mem_filterMap.1 hf;have hk:=List.mem_range.1 hk;split at hx
 ·rename_i hok;rw[Bool.and_eq_true]at hok;injection hx with hx;subst hx;have hrd:=hp.read h.is hoff hk;rw[hok.1,if_pos rfl]at hrd;refine⟨?_,rfl,k,hk,rfl,rfl,hrd,rfl⟩;rcases h.kind _ (D5 hk)with e | e
  ·have:=hok.2;rw[e]at this;cases this
  ·exact e
 ·cases hx
theorem Old.found {d:Nat} {E:En->Prop} {N:Nand} {b r:Int} {l:List En} (h:Old d E N b r l) (h6:3<=N.dies/\N.dies<=6) (hno:∀i:Nat,i<N.dies->i≠d->(M.look N (i:Nat) b r).2=1->(M.look N (i:Nat) b r).1.mask≠L.all N.dies) {f:Fnd} (hf:f∈R.allM N b r (L.all N.dies)):E f.en:=by
 have hsl:=(a1o N.dies (by omega) h6.1).1;have hlen:=h.is.len;have hone:∀x∈R.job b r (L.all N.dies) l,(R.one N b r (L.all N.dies) x.1).2=true->x.1=(d:Int)/\(R.one N b r (L.all N.dies) x.1).1=x.2:=λx hx h1=>by
  obtain⟨g1,g2⟩:=one_iff.1 h1;obtain⟨n1,n2,_⟩:=h.is.inn x hx;have hto:((x.1.toNat:Nat):Int)=x.1:=Int.toNat_of_nonneg n1;have hxd:x.1=(d:Int):=Classical.byContradiction λhne=>hno x.1.toNat (by omega) (by omega) (by rw[hto];exact g1) (by rw[hto];exact g2);refine⟨hxd,?_⟩;cases hp:N.pageAt x.1 b r with
  | none=>exact absurd g1 (U8 hp)
  | some c=>
   have:=a0d (h.is.sh x hx).1 hp (h.inn x hx hxd c (by rw[<- hxd];exact hp)) g1;unfold R.one;rw[this]
 unfold R.allM at hf;obtain⟨k,hk,hx⟩:=List.mem_filterMap.1 hf;have hk:=List.mem_range.1 hk;rw[(D4 N b r _).1]at hk;unfold R.fnd at hx;split at hx
 ·rename_i hok;rw[Bool.and_eq_true]at hok;injection hx with hx;subst hx;have hkl:k<l.length:=by omega
  have hj:=List.mem_of_getElem? (a1y b r (L.all N.dies) l k hkl);obtain⟨a1,a2⟩:=a9j (N:=N) (b:=b) (r:=r) (m:=L.all N.dies) (k:=k) (by omega);cases hg:(R.look N b r (L.all N.dies)).good.getD k false with
  | true=>
   rw[hg]at a1;obtain⟨_,e2⟩:=hone _ hj a1.symm;have he:R.enAt (R.look N b r (L.all N.dies)) k=l.getD k En.zero:=by
    unfold R.enAt;rw[hg,if_pos rfl,a2,e2];rfl
   show E (R.enAt (R.look N b r (L.all N.dies)) k);rcases h.kind _ (D5 hkl)with e | e
   ·have:=hok.2;rw[he,e]at this;cases this
   ·rw[he];exact e
  | false=>
   exfalso
   have hm:R.mendB (R.look N b r (L.all N.dies)) k=true:=by
    have:=hok.1;unfold R.okAt at this;rw[hg,Bool.false_or]at this;exact this
   unfold R.mendB at hm;simp only[Bool.and_eq_true]at hm;have hrest:=hm.1.1;have hwh:(R.one N b r (L.all N.dies) (G.parity (L.all N.dies) b r)).2=true:=hm.1.2;obtain⟨j,hjk,hjl⟩:∃j,j≠k/\j<l.length:=⟨if k=0 then 1 else 0,by split<;>omega,by split<;>omega⟩;unfold R.rest at hrest;rw[List.all_eq_true]at hrest;have h1:=hrest j (List.mem_range.2 (by rw[(D4 N b r _).1];omega));have h1:(R.look N b r (L.all N.dies)).good.getD j false=true:=by
    rw[Bool.or_eq_true]at h1;rcases h1 with e | e
    ·exact absurd (eq_of_beq e) hjk
    ·exact e
   rw[(a9j (by omega)).1]at h1;have d1:=(hone _ (List.mem_of_getElem? (a1y b r (L.all N.dies) l j hjl)) h1).1;have d2:=(hone _ (List.mem_of_getElem? (L5 b r (L.all N.dies) l)) hwh).1;have hnd:=h.is.nodup;have e3:((R.job b r (L.all N.dies) l).map (·.1))[j]? =((R.job b r (L.all N.dies) l).map (·.1))[l.length]?:=by
    rw[List.getElem?_map,List.getElem?_map,a1y b r (L.all N.dies) l j hjl,L5];exact congrArg some (d1.trans d2.symm)
   have:=(List.getElem?_inj (by rw[List.length_map];simp[R.job];omega) hnd).1 e3;omega
 ·cases hx
namespace DscG
variable {fd : Int} {C C' E E' : En → Prop} {N N' : Nand} {b r : Int}
theorem mono (h:DscG fd C E N b r) (hC:∀e,C e->C' e) (hE:∀e,E e->E' e):DscG fd C' E' N b r:=by
 cases h with
 | none h=>exact .none h
 | all l h=>exact .all l ⟨h.is,h.inn,λe he=>(h.kind e he).imp id (hC e)⟩
 | but d l e hd h o=>exact .but d l e hd ⟨h.is,h.inn,λe he=>(h.kind e he).imp id (hC e)⟩ (o.imp id λ⟨l',o⟩=>⟨l',o.is,o.inn,λe he=>(o.kind e he).imp id (hE e)⟩)
theorem less (h:DscG fd C E N b r) (hl:N.Like N') (hp:∀(d:Int) (c:NCell),N'.pageAt d b r=some c->c.lost=true\/∃c0,N.pageAt d b r=some c0/\(∀s,a4a s c0->a4a s c)/\(c0.lost=true->c.lost=true)):DscG fd C E N' b r:=by
 have hev:∀m l,Ev C N b r m l->Ev C N' b r m l:=λm l h=>⟨h.is.like hl,λx hx c hc=>by
  rcases hp _ c hc with e | ⟨c0,h1,h2,_⟩
  ·exact .inl e
  ·exact h2 _ (h.inn x hx c0 h1),h.kind⟩
 cases h with
 | none h=>
  refine .none λd c hc=>?_;rcases hp d c hc with e | ⟨c0,h1,_,h3⟩
  ·exact e
  ·exact h3 (h d c0 h1)
 | all l h=>exact .all l (by rw[hl.dies];exact hev _ _ h)
 | but d l e hd h o=>
  refine .but d l e (by rw[hl.dies];exact hd) (by rw[hl.dies];exact hev _ _ h) ?_;rcases o with o | ⟨l',o⟩
  ·left;intro c hc;rcases hp _ c hc with e | ⟨c0,h1,_,h3⟩
   ·exact e
   ·exact h3 (o c0 h1)
  ·right;refine⟨l',by rw[hl.dies];exact o.is.like hl,λx hx hxd c hc=>?_,o.kind⟩;rw[hl.dies]at hx;rcases hp _ c hc with e | ⟨c0,h1,h2,_⟩
   ·exact .inl e
   ·exact h2 _ (o.inn x hx hxd c0 h1)
theorem gone (h:DscG fd C E N b r) (hl:N.Like N') (hp:∀(d:Int) (c:NCell),N'.pageAt d b r=some c->c.lost=true\/N.pageAt d b r=some c):DscG fd C E N' b r:=
 h.less hl λd c hc=>(hp d c hc).imp id λh=>⟨c,h,λ_ h=>h,λh=>h⟩
theorem fnd (h:DscG fd C E N b r) (hoff:N.off=false) (h6:3<=N.dies/\N.dies<=6) {f:Fnd} (hf:f∈R.all N b r):
  E f.en\/C f.en/\(f.mask=L.all N.dies\/∃d:Nat,fd=(d:Int)/\d<N.dies/\f.mask=L.without (L.all N.dies) (d:Nat))/\∃l,Ev C N b r f.mask l/\∃k:Nat,k<l.length/\f.slot=k/\f.en=l.getD k En.zero/\R.read N b r f.slot f.mask=(f.en,0)/\f.whole=gOf N b r f.mask l l.length:=by
 have hall:=L.all_has N.dies (by omega);unfold R.all at hf;obtain⟨m,hm,hf⟩:=List.mem_flatMap.1 hf;obtain⟨i,hi,g1,g2⟩:=mem_masks.1 hm;have hfin:∀m l,Ev C N b r m l->f∈R.allM N b r m->C f.en/\f.mask=m/\∃l,Ev C N b r f.mask l/\∃k:Nat,k<l.length/\f.slot=k/\f.en=l.getD k En.zero/\R.read N b r f.slot f.mask=(f.en,0)/\f.whole=gOf N b r f.mask l l.length:=λm l h hf=>by
  obtain⟨a1,a2,a3⟩:=h.found hoff hf;subst a2;exact⟨a1,rfl,l,h,a3⟩
 have hpg:∃c,N.pageAt (i:Int) b r=some c/\c.lost=false:=by
  cases hp:N.pageAt (i:Int) b r with
  | none=>exact absurd g1 (U8 hp)
  | some c=>
   refine⟨c,rfl,?_⟩;cases hl:c.lost with
   | false=>rfl
   | true=>
    exfalso
    have:(M.look N (i:Nat) b r).2≠1:=b0k (by
     unfold Nand.readE;split
     ·assumption
     ·rw[hp];dsimp only;rw[hl];exact(by decide:(6:Int)≠0))
    exact this g1
 obtain⟨c,hc,hcl⟩:=hpg;cases h with
 | none h=>rw[h _ c hc]at hcl;cases hcl
 | all l h=>
  right;obtain⟨x,hx,hxi⟩:=h.is.on (d:=i) (by rw[hall,decide_eq_true (by omega),decide_eq_true (by omega)];rfl);have h1:=h.look hx (by rw[hxi];exact g1);rw[hxi]at h1;rw[h1]at g2;have:m=L.all N.dies:=g2.symm.trans (h.is.sh x hx).2;subst this;obtain⟨a1,a2,a3⟩:=hfin _ l h hf;exact⟨a1, .inl a2,a3⟩
 | but d l e hd h o=>
  have hwo:=L.without_has (L.set_all N.dies (by omega)) (d:=(d:Int)) (by omega);have hmain:∀j:Nat,j<N.dies->j≠d->(M.look N (j:Nat) b r).2=1->(M.look N (j:Nat) b r).1.mask=L.without (L.all N.dies) (d:Nat):=λj hj hjd k1=>by
   obtain⟨x,hx,hxi⟩:=h.is.on (d:=j) (by rw[hwo,hall,decide_eq_true (by omega),decide_eq_true (by omega),decide_eq_false (by omega)];rfl);have h1:=h.look hx (by rw[hxi];exact k1);rw[hxi]at h1;rw[h1];exact(h.is.sh x hx).2
  by_cases hid:i=d
  ·subst hid;rcases o with o | ⟨l',o⟩
   ·rw[o c hc]at hcl;cases hcl
   ·obtain⟨x,hx,hxi⟩:=o.is.on (d:=i) (by rw[hall,decide_eq_true (by omega),decide_eq_true (by omega)];rfl);have h1:=a0d (o.is.sh x hx).1 (by rw[hxi];exact hc) (o.inn x hx hxi c hc) (by rw[hxi];exact g1);rw[hxi]at h1;rw[h1]at g2;have:m=L.all N.dies:=g2.symm.trans (o.is.sh x hx).2;subst this;left;refine o.found h6 (λj hj hjd k1 k2=>?_) hf;have:=hmain j hj hjd k1;rw[k2]at this;have h2:L.has (L.all N.dies) (i:Int)=L.has (L.without (L.all N.dies) (i:Nat)) (i:Int):=congrArg (λz=>L.has z (i:Int)) this;rw[hwo,hall,decide_eq_true (by omega),decide_eq_true (by omega)]at h2;simp at h2
  ·right;have:m=L.without (L.all N.dies) (d:Nat):=g2.symm.trans (hmain i hi hid g1);subst this;obtain⟨a1,a2,a3⟩:=hfin _ l h hf;exact⟨a1, .inr ⟨d,e,hd,a2⟩,a3⟩
end DscG
theorem Full.found2 {fd:Int} {N:Nand} {b r m:Int} {l:List En} (h:Full fd N b r m l) (hoff:N.off=false) (hdead:∀i:Nat,(i:Int)≠fd->N.dead.getD i false=false) (hm:∃i:Nat,(i:Int)≠fd/\L.has m (i:Nat)=true) {j:Nat} (hj:j<l.length) (hr:(l.getD j En.zero).role≠3):∃f∈R.all N b r,f.en=l.getD j En.zero/\f.mask=m/\f.slot=j:=by
 obtain⟨i,hi,hmi⟩:=hm;obtain⟨x,hx,hxi⟩:=h.is.on hmi;obtain⟨n1,n2,_⟩:=h.is.inn x hx;obtain⟨t,ht⟩:=h.good x hx (by rw[hxi];exact hi);have hrf:N.refuses x.1 b r=0:=by
  unfold Nand.refuses;rw[hoff,if_neg (by decide),Nand.geoIn_of ⟨n1,n2⟩ h.is.blk h.is.row,if_neg (by decide),hdead _ (by omega)];rfl
 have hlk:=a0S (h.is.sh x hx).1 hrf ht;have hmem:m∈M.masks N b r:=mem_masks.2 ⟨i,by omega,by rw[<- hxi,hlk],by rw[<- hxi,hlk];exact(h.is.sh x hx).2⟩;refine⟨⟨l.getD j En.zero,b,r,j,m,gOf N b r m l l.length,!(gOf N b r m l j)⟩,?_,rfl,rfl,rfl⟩;unfold R.all;refine List.mem_flatMap.2 ⟨m,hmem,?_⟩;rw[(h.inn.part h.is).allM h.is];unfold b4r;refine List.mem_filterMap.2 ⟨j,List.mem_range.2 hj,?_⟩;rw[if_pos];rw[h.okAll hoff hdead hj,Bool.true_and];exact bne_iff_ne.2 hr
theorem Full.mask_eq {fd:Int} {C:En->Prop} {N:Nand} {b r m m':Int} {l l':List En} (h:Full fd N b r m l) (hoff:N.off=false) (hdead:∀i:Nat,(i:Int)≠fd->N.dead.getD i false=false) {i:Nat} (hi:(i:Int)≠fd) (hm:L.has m (i:Nat)=true) (hm':L.has m' (i:Nat)=true) (h2:Ev C N b r m' l'):m'=m:=by
 obtain⟨x,hx,hxi⟩:=h.is.on hm;obtain⟨n1,n2,_⟩:=h.is.inn x hx;obtain⟨t,ht⟩:=h.good x hx (by rw[hxi];exact hi);have hrf:N.refuses x.1 b r=0:=by
  unfold Nand.refuses;rw[hoff,if_neg (by decide),Nand.geoIn_of ⟨n1,n2⟩ h.is.blk h.is.row,if_neg (by decide),hdead _ (by omega)];rfl
 have hlk:=a0S (h.is.sh x hx).1 hrf ht;obtain⟨y,hy,hyi⟩:=h2.is.on hm';have hyx:y.1=x.1:=by rw[hxi,hyi]
 have hl2:=h2.look hy (by rw[hyx,hlk]);rw[hyx,hlk]at hl2;injection hl2 with hl2 _;rw[<- (h2.is.sh y hy).2,<- (h.is.sh x hx).2,hl2]
def CS (W:List (Int×En)) (T:Tb) (b r:Int) (e:En):Prop:=∃w a,Tb.look W e.lpn=some w/\Tb.look T.at_ e.lpn=some a/\(e.seq<a.seq\/e.seq=a.seq/\a.block=b/\a.row=r/\e.role=w.role/\e.data=w.data)
def CE (T:Tb) (e:En):Prop:=∃a,Tb.look T.at_ e.lpn=some a/\e.seq<a.seq
structure GI (fd:Int) (W:List (Int×En)) (S:Dv):Prop where
 inv:Inv fd S
 hd:Hd S W
 wok:WOk W
 msk:∀i a,Tb.look S.T.at_ i=some a->Msk S.N.dies fd a.mask
 dsc:∀b r:Nat,b<S.N.blocks->r<S.N.pages->DscG fd (CS W S.T b r) (CE S.T) S.N b r
 ff:(∀i:Nat,S.N.dead.getD i false=false)->∀i j:Nat,(S.N.blk i j).fails=false
theorem a6B {W:List (Int×En)} {l:List En} (h:WOk W) (hf:∀e∈l,FitR e):∀n,n<=l.length->WOk (M5 W l n)
 | 0,_=>h
 | n+1,hn=>by
  rw[O3];exact(a6B h hf n (by omega)).put (hf _ (D5 (by omega)))
theorem a5d {l:List En} (hnd:(l.map (·.lpn)).Nodup) {n:Nat} (hn:n<=l.length):∀a b,a<b->b<n->(l.getD a En.zero).lpn≠(l.getD b En.zero).lpn:=λa b hab hb e=>by
 have g1:a<l.length:=by omega
 have g2:b<l.length:=by omega
 have h3:(l.map (·.lpn))[a]? =(l.map (·.lpn))[b]?:=by
  rw[List.getElem?_map,List.getElem?_map,List.getElem?_eq_getElem g1,List.getElem?_eq_getElem g2];rw[List.getD_eq_getElem?_getD,List.getD_eq_getElem?_getD,List.getElem?_eq_getElem g1,List.getElem?_eq_getElem g2]at e;exact congrArg some e
 have:=(List.getElem?_inj (by rw[List.length_map];exact g1) hnd).1 h3;omega
namespace GI
variable {fd : Int} {W : List (Int × En)} {S Q : Dv} {k m : Nat} {l : List En}
theorem at1 (h:GI fd W S) (hO:S.Ok k m) (h0:¬(S.left=false/\S.pick<0)):GI fd W S.at1:=by
 have hat:=Dv.at1_like S;have hw:Went fd S S.at1 0:=by
  unfold Dv.at1;cases hl:S.left with
  | true=>rw[if_pos rfl];exact Went.refl h.inv
  | false=>rw[if_neg Bool.false_ne_true];exact(h.inv.opens hO hl λe=>h0 ⟨hl,e⟩).1
 refine⟨hw.inv,h.hd.went h.inv hw,h.wok,λi a ha=>?_,λb r hb hr=>?_,by rw[hat.1];exact h.ff⟩
 ·rw[hat.2.1]at ha;rw[hat.1];exact h.msk i a ha
 ·rw[hat.1]at hb hr ⊢;rw[hat.2.1];exact h.dsc b r hb hr
theorem wrote (h:GI fd W Q) (hO:Q.Ok k m) (hl:Last fd Q l) (hf:∀e∈l,FitR e) (hnd:(l.map (·.lpn)).Nodup) (hlg:∀e∈l,e.lpn<Q.T.logical):GI fd (M5 W l (Q.fit l)) (t6 Q l):=by
 have hg:=hO.gd.ok.bd16;obtain⟨l1,l2⟩:=hl.look h.inv hO hf hlg hnd;have hH:=h.hd.wrote h.inv hO hl hf hlg hnd;have hlk:Q.N.Like (t6 Q l).N:=hl.turn.like;have hfit:=Dv.fit_le Q l;have hfd:Q.fit l=min l.length (G.slots Q.mask).toNat:=rfl;obtain⟨n,hn⟩:∃n,Q.fit l=n:=⟨_,rfl⟩;rw[hn]at l1 l2 hH hfit hfd ⊢;obtain⟨w1,w2⟩:=J3 (W:=W) (l:=l) n (a5d hnd hfit.2.1);have hR:=h.inv.rowIs hO hl.left hf hl.bd;have ho:=h.inv.opn hl.left;have hrdy:RdyW Q.N Q.op Q.row Q.mask:=⟨h.inv.lit,λd hd ha=>(ho.cells d hd).2 ha⟩;have hq:=hrdy.rdy hR;have w3:WroteR Q.N (t6 Q l).N Q.op Q.row (R.job Q.op Q.row Q.mask (Q.es l)):=(a5v hrdy hR).2.2;have hF:Full fd (t6 Q l).N Q.op Q.row Q.mask (Q.es l):=hl.turn.full;have hsq:∀i a,Tb.look Q.T.at_ i=some a->a.seq<Q.next:=λi a ha=>(h.inv.st i a ha).seq.2;have hmono:∀b r e,CS W Q.T b r e->CS (M5 W l n) (t6 Q l).T b r e:=λb r e ⟨w,a,h1,h2,h3⟩=>by
  by_cases hex:∃j,j<n/\(l.getD j En.zero).lpn=e.lpn
  ·obtain⟨j,hj,hje⟩:=hex;have x1:=l1 j hj;have x2:=w1 j hj;have ha:=hsq _ _ h2;rw[hje]at x1 x2;refine⟨_,_,x2,x1, .inl ?_⟩;show e.seq<Q.next+(j:Int);omega
  ·have hno:∀j,j<n->(l.getD j En.zero).lpn≠e.lpn:=λj hj hh=>hex ⟨j,hj,hh⟩;exact⟨w,a,by rw[w2 _ hno];exact h1,by rw[l2 _ hno];exact h2,h3⟩
 have hmonoE:∀e,CE Q.T e->CE (t6 Q l).T e:=λe ⟨a,h2,h3⟩=>by
  by_cases hex:∃j,j<n/\(l.getD j En.zero).lpn=e.lpn
  ·obtain⟨j,hj,hje⟩:=hex;have x1:=l1 j hj;have ha:=hsq _ _ h2;rw[hje]at x1;refine⟨_,x1,?_⟩;show e.seq<Q.next+(j:Int);omega
  ·have hno:∀j,j<n->(l.getD j En.zero).lpn≠e.lpn:=λj hj hh=>hex ⟨j,hj,hh⟩;exact⟨a,by rw[l2 _ hno];exact h2,h3⟩
 have hold:∀e,CS W Q.T Q.op Q.row e->CE (t6 Q l).T e:=λe ⟨w,a,_,h2,h3⟩=>by
  refine hmonoE e ⟨a,h2,?_⟩;rcases h3 with h3 | ⟨_,h4,h5,_⟩
  ·exact h3
  ·have:=(h.inv.st _ _ h2).below h4;omega
 refine⟨hl.inv h.inv hO,hH,a6B h.wok hf n hfit.2.1,λi a ha=>?_,λb r hb hr=>?_,λhd i j=>?_⟩
 rotate_right
 ·have hd:∀i:Nat,(Q.wrote l).N.dead.getD i false=false:=hd;rw[hl.turn.dead]at hd;show((Q.wrote l).N.blk i j).fails=false;rw[(hl.turn.flags i j).2.1];exact h.ff hd i j
 ·by_cases hex:∃j,j<n/\(l.getD j En.zero).lpn=i
  ·obtain⟨j,hj,rfl⟩:=hex;rw[l1 j hj]at ha;injection ha with ha;rw[<- ha,hlk.dies];exact ho.mask
  ·rw[l2 i λj hj e=>hex ⟨j,hj,e⟩]at ha;rw[hlk.dies];exact h.msk i a ha
 ·by_cases e:(b:Int)=Q.op/\(r:Int)=Q.row
  ·have hev:Ev (CS (M5 W l n) (t6 Q l).T Q.op Q.row) (t6 Q l).N Q.op Q.row Q.mask (Q.es l):=⟨hF.is,hF.inn,λx hx=>by
    rcases a9b hx with⟨i,hi,hin,rfl⟩ | rfl
    ·right;have hin2:i<n:=by rw[hfd];omega
     exact⟨_,_,w1 i hin2,l1 i hin2, .inr ⟨rfl,rfl,rfl,rfl,rfl⟩⟩
    ·exact .inl rfl⟩
   rw[e.1,e.2];rcases ho.mask.eq hg.1 with⟨hm,_⟩ | ⟨f0,f1,fno,hm⟩
   ·refine .all (Q.es l) ?_;rw[hlk.dies,<- hm];exact hev
   ·obtain⟨d,rfl⟩:=Int.eq_ofNat_of_zero_le f0;have hd:d<Q.N.dies:=by omega
    have hpg:(t6 Q l).N.pageAt (d:Int) Q.op Q.row=Q.N.pageAt (d:Int) Q.op Q.row:=by
     unfold Nand.pageAt;rw[Int.toNat_natCast,w3.rest d Q.op.toNat (.inr λx hx he=>by
      obtain⟨n1,_,n3⟩:=hR.inn x hx;rw[show x.1=(d:Int)from by omega,fno]at n3;cases n3)]
    refine .but d (Q.es l) rfl (by rw[hlk.dies];exact hd) (by rw[hlk.dies,<- hm];exact hev) ?_;have hb0:=ho.blk;have hr0:=ho.row;have hrp:=(Dv.left_spec hl.left).2.1;have h0:=h.dsc Q.op.toNat Q.row.toNat (by omega) (by omega);rw[Int.toNat_of_nonneg hb0.1,Int.toNat_of_nonneg hr0.1]at h0;cases h0 with
    | none h0=>exact .inl λc hc=>h0 d c (by rw[<- hpg];exact hc)
    | all l0 h0=>
     refine .inr ⟨l0,by rw[hlk.dies];exact h0.is.like hlk,λx hx hxd c hc=>?_,λe he=>(h0.kind e he).imp id (hold e)⟩;rw[hlk.dies]at hx;exact h0.inn x hx c (by rw[hxd,<- hpg];exact hc)
    | but d' l0 e' hd' h0 o=>
     obtain rfl:d'=d:=by omega
     rcases o with o | ⟨l',o⟩
     ·exact .inl λc hc=>o c (by rw[<- hpg];exact hc)
     ·refine .inr ⟨l',by rw[hlk.dies];exact o.is.like hlk,λx hx hxd c hc=>?_,λe he=>(o.kind e he).imp id (hmonoE e)⟩;rw[hlk.dies]at hx;exact o.inn x hx hxd c (by rw[<- hpg];exact hc)
  ·refine((h.dsc b r (by rw[<- hlk.blocks];exact hb) (by rw[<- hlk.pages];exact hr)).gone hlk λd c hc=> .inr ?_).mono (hmono b r) hmonoE;rw[a8d]at hc ⊢;rw[<- w3.page hq (Int.natCast_nonneg _) (Int.natCast_nonneg _) (Int.natCast_nonneg _) λe1 e2=>e ⟨e1,e2⟩];exact hc
theorem pen (h:GI fd W S) (hO:S.Ok (8*Dv.fuel+k) m) (hot:Hot2 fd S 0) (hf:∀e∈l,FitR e) (hl0:l.length≠0) (hnd:(l.map (·.lpn)).Nodup) (hlg:∀e∈l,e.lpn<S.T.logical) (hnx:S.next<=1099511627775-1200):
  S.pen l=(S,0,11)/\S.rows=0\/∃(V:Dv) (n:Nat),S.pen l=(V,(n:Int),0)/\Pnd fd S l V n 0/\V.Ok k m/\GI fd (M5 W l n) V/\Hot2 fd V 0:=by
 by_cases hr:S.rows=0
 ·obtain⟨e1,e2⟩:=h.inv.full (hO.less (Nat.le_refl _)) hr;left;refine⟨?_,hr⟩;show Dv.write (159+1) S l=_;rw[Dv.write_succ,if_neg hl0,if_pos ⟨e1,e2⟩]
 ·right;obtain⟨V,n,γ,p1,p2,p3,p4⟩:=h.inv.pen_step hO hot (by omega) hf hl0 hnd hlg hnx h.hd;obtain⟨γ',Q,g1,g2,g3,g4,g5,_,_,_,g9,_⟩:=h.inv.write_go (l:=l) 0 159 S k (m:=m) hO hot.hot (by omega) hf hl0 (by omega);obtain rfl:γ'=0:=by omega
  obtain rfl:=g9 rfl;obtain⟨q1,q2⟩:=p2.hot 0 hot;obtain rfl:γ=0:=by omega
  have hp:S.pen l=(t6 S.at1 l,(S.at1.fit l:Int),(0:Int)):=g5;rw[hp]at p1;have e1:=congrArg Prod.fst p1;have e2:=congrArg (λz=>z.2.1) p1;dsimp only at e1 e2;have hns:¬(S.left=false/\S.pick<0):=λe=>by
   rcases h.inv.rows_pos (hO.less (Nat.le_refl _)) (by omega)with e2 | e2
   ·rw[e.1]at e2;cases e2
   ·exact e2 e.2
  have hat:=Dv.at1_like S;have hG:=(h.at1 (hO.less (Nat.le_refl _)) hns).wrote g3 g4 hf hnd (λe he=>by rw[hat.2.1];exact hlg e he);subst e1;have e2:S.at1.fit l=n:=by omega
  rw[e2]at hG hp;exact⟨_,n,hp,p2,p3,hG,q2⟩
theorem swap {E:List En} {n:Nat} (h:GI fd (M5 W E n) S) (hW:WOk W) (hE:∀j,j<n->∃e sq,Tb.look W (E.getD j En.zero).lpn=some e/\E.getD j En.zero={e with seq:=sq}) (hd:∀i j,i<j->j<n->(E.getD i En.zero).lpn≠(E.getD j En.zero).lpn):GI fd W S:=by
 obtain⟨w1,w2⟩:=J3 (W:=W) (l:=E) n hd;refine⟨h.inv,h.hd.swap hE hd,hW,h.msk,λb r hb hr=>(h.dsc b r hb hr).mono (λe ⟨w,a,x1,x2,x3⟩=>?_) λe he=>he,h.ff⟩
 by_cases hex:∃j,j<n/\(E.getD j En.zero).lpn=e.lpn
 ·obtain⟨j,hj,hje⟩:=hex;obtain⟨e0,sq,y1,y2⟩:=hE j hj;have z1:=w1 j hj;rw[hje]at z1 y1;rw[z1]at x1;injection x1 with x1;refine⟨e0,a,y1,x2,x3.imp id λ⟨z2,z3,z4,z5,z6⟩=>⟨z2,z3,z4,?_,?_⟩⟩
  ·rw[z5,<- x1,y2]
  ·rw[z6,<- x1,y2]
 ·exact⟨w,a,by rw[<- w2 _ λj hj hh=>hex ⟨j,hj,hh⟩];exact x1,x2,x3⟩
theorem carry_go:∀(f:Nat) (S:Dv) (I:List Int) (done:Int) (k:Nat),GI fd W S->S.Ok (Dv.cost*f+k) m->Hot2 fd S 0->I.length<=f->(∀i∈I,(Tb.look W i).isSome=true)->I.Nodup->S.next+1000*(f:Int)<=1099511627775-1300->
  ∃(V:Dv) (n e:Int),Dv.carryGo f S I done=(V,n,e)/\GI fd W V/\V.Ok k m/\Hot2 fd V 0/\V.next<=S.next+1000*(f:Int)/\V.T.logical=S.T.logical/\S.N.Like V.N
 | 0,S,I,done,k,h,hO,hot,hL,_,_,_=>⟨S,done,0,rfl,h,hO.less (by omega),hot,by omega,rfl,Nand.Like.refl _⟩
 | f+1,S,I,done,k,h,hO,hot,hL,hin,hnd,hnx=>by
  by_cases hl0:I.length=0
  ·have:I=[]:=List.eq_nil_of_length_eq_zero hl0;subst this;exact⟨S,done,0,by rw[Dv.carryGo,if_pos (show([]:List Int).length=0 from rfl)],h,hO.less (by omega),hot,by omega,rfl,Nand.Like.refl _⟩
  ·have hg:=hO.gd.ok.bd16;obtain⟨c,hc⟩:∃c,(max S.slots 1).toNat=c:=⟨_,rfl⟩;have hc2:1<=c:=by omega
   obtain⟨E,e1,e2,e3,e4,e5⟩:=h.hd.rds h.wok (I.take c) λi hi=>hin i (List.mem_of_mem_take hi);have hEl:E.length=min c I.length:=by rw[e2,List.length_take]
   have hnd2:(E.map (·.lpn)).Nodup:=by rw[e3];exact hnd.sublist (List.take_sublist _ _)
   have hlgE:∀e∈E,e.lpn<S.T.logical:=λe he=>by
    have:e.lpn∈I.take c:=by rw[<- e3];exact List.mem_map_of_mem he
    have h1:=hin _ (List.mem_of_mem_take this);obtain⟨w,hw⟩:=Option.isSome_iff_exists.1 h1;obtain⟨_,a,ha,_⟩:=h.hd.each _ _ hw;exact(hO.T.rng _ (Tb.look_mem ha)).2
   have hstep:Dv.carryGo (f+1) S I done=(let w:=S.pen E;if w.2.2≠0 then(w.1,done+w.2.1,w.2.2)else Dv.carryGo f w.1 (I.drop w.2.1.toNat) (done+w.2.1)):=by
    rw[Dv.carryGo,if_neg hl0,hc];dsimp only;rw[e1];dsimp only;rw[if_neg (by decide)]
   rcases h.pen (k:=Dv.cost*f+k) (m:=m) (by have:Dv.cost*(f+1)=Dv.cost*f+Dv.cost:=Nat.mul_succ _ _;exact hO.less (by unfold Dv.cost at this ⊢;omega)) hot e4 (by omega) hnd2 hlgE (by omega)with⟨p1,_⟩ | ⟨V,n,p1,p2,p3,p4,p5⟩
   ·rw[hstep,p1];dsimp only;rw[if_pos (by decide)];exact⟨S,_,11,rfl,h,hO.less (by omega),hot,by omega,rfl,Nand.Like.refl _⟩
   ·have hnE:=p2.n1;have hV:GI fd W V:=p4.swap h.wok (λj hj=>e5 j (by rw[<- e2];omega)) (a5d hnd2 hnE);rw[hstep,p1];dsimp only;rw[if_neg (by decide),Int.toNat_natCast];have hdl:(I.drop n).length=I.length-n:=List.length_drop;have hn1:=p2.n3;have hnx2:=p2.next;obtain⟨U,n2,e2',r1,r2,r3,r4,r5,r6,r7⟩:=carry_go f V (I.drop n) (done+(n:Int)) k hV p3 p5 (by omega) (λi hi=>hin i (List.mem_of_mem_drop hi)) (hnd.sublist (List.drop_sublist _ _)) (by omega);exact⟨U,n2,e2',r1,r2,r3,r4,by omega,r6.trans p2.logical,p2.like.trans r7⟩
theorem carry (h:GI fd W S) (hO:S.Ok (Dv.costC+k) m) (hot:Hot2 fd S 0) (hlg:S.T.logical<=1000) (hnx:S.next<=1099511627775-2000000) (b most:Int):
  ∃(V:Dv) (n e:Int),S.carry b most=(V,n,e)/\GI fd W V/\V.Ok k m/\Hot2 fd V 0/\V.next<=S.next+1000000/\V.T.logical=S.T.logical/\S.N.Like V.N:=by
 obtain⟨I,hI⟩:∃I,(S.T.ins b).take (max most 0).toNat=I:=⟨_,rfl⟩;have hsub:∀j∈I,j∈S.T.ins b:=λj hj=>by rw[<- hI]at hj;exact List.mem_of_mem_take hj
 have hlen:I.length<=1000:=by
  have h1:=ins_len hO.T b;have h2:Tb.cntB S.T.at_ b<=S.T.at_.length:=List.countP_le_length;have h3:=b3J hO.T;rw[<- hI,List.length_take];omega
 have hnd:I.Nodup:=by
  rw[<- hI];refine List.Nodup.sublist (List.take_sublist _ _) ?_;unfold Tb.ins;split
  ·exact List.nodup_nil
  ·unfold Tb.inK;exact List.pairwise_map.2 ((List.nodup_range.filter _).imp λhne e=>hne (by omega))
 have hcost:Dv.cost*I.length<=Dv.costC:=Nat.mul_le_mul_left _ (by omega);obtain⟨V,n,e,r1,r2,r3,r4,r5,r6,r7⟩:=carry_go I.length S I 0 k h (hO.less (by omega)) hot (Nat.le_refl _) (λj hj=>by
  obtain⟨a,ha,_⟩:=b2T (hsub j hj);cases hw:Tb.look W j with
  | none=>rw[h.hd.none hw]at ha;cases ha
  | some e=>rfl) hnd (by omega)
 refine⟨V,n,e,?_,r2,r3,r4,by omega,r6,r7⟩;unfold Dv.carry;rw[hI];exact r1
theorem cleared (h:GI fd W S) {N':Nand} {t':Tl} (c1:S.clear=({S with N:=N',t:=t'},0)) (c2:Inv.Cleared fd S (f7 (j3 S.t S.T) S.op S.t.b) N' t') (c3:Hd {S with N:=N',t:=t'} W):GI fd W {S with N:=N',t:=t'}:=by
 have hers:ErsP S.N N' (f7 (j3 S.t S.T) S.op S.t.b):=by
  have:=a2g (f7 (j3 S.t S.T) S.op S.t.b) S.N S.t;have e:S.clear.1.N=(Dv.clearGo (f7 (j3 S.t S.T) S.op S.t.b) S.N S.t).1:=rfl;rw[<- e,c1]at this;exact this
 refine⟨c2.inv,c3,h.wok,λi a ha=>?_,λb r hb hr=>?_,λhd=>?_⟩
 rotate_right
 ·have hd:∀i:Nat,N'.dead.getD i false=false:=hd;rw[c2.dead]at hd;exact(c2.nofl ⟨hd,h.ff hd⟩).1.2
 ·show Msk N'.dies fd a.mask;rw[c2.like.dies];exact h.msk i a ha
 ·have hb:b<N'.blocks:=hb;have hr:r<N'.pages:=hr;rw[c2.like.blocks]at hb;rw[c2.like.pages]at hr;exact(h.dsc b r hb hr).gone c2.like λd c hc=>hers.less d b r c hc
theorem clear(h:GI fd W S) (hO:S.Ok (96+k) m):∃V,S.clear=(V,0)/\GI fd W V/\V.Ok k m/\V.next=S.next/\V.T=S.T/\V.op=S.op/\S.N.Like V.N/\(Hot2 fd S 0->Hot2 fd V 0):=by
 have hk:=Dv.clear_keep hO;obtain⟨N',t',c1,c2,c3⟩:=h.inv.clear_hd hO h.hd;have hG:=h.cleared c1 c2 c3;rw[c1]at hk;refine⟨_,c1,hG,hk.1,rfl,rfl,rfl,c2.like,λhh=>?_⟩;cases hh with
 | calm hno=>
  have hnf:=c2.nofl ⟨hno.dead,h.ff hno.dead⟩;exact .calm ⟨λi=>by show N'.dead.getD i false=false;rw[c2.dead];exact hno.dead i,List.eq_nil_iff_forall_not_mem.2 λa ha=>(by have:=c2.plan a ha;rw[hno.plan]at this;cases this),λi j=>by show(N'.blk i j).met=false;rw[hnf.2];exact hno.met i j⟩
 | cold h1 h2=>exact .cold (c2.td fd h1) h2
 | brn hb=>exact .brn (hb.cleared hO.t.b c2)
theorem room_go:∀(f:Nat) (S:Dv) (k:Nat),GI fd W S->S.Ok (Dv.costR*f+k) m->Hot2 fd S 0->S.T.logical<=1000->S.next+1000000*(f:Int)<=1099511627775-2000000->
  ∃(V:Dv) (e:Int),Dv.roomGo f S=(V,e)/\GI fd W V/\Hot2 fd V 0
 | 0,S,k,h,hO,hot,_,_=>⟨S,0,rfl,h,hot⟩
 | f+1,S,k,h,hO,hot,hlg,hnx=>by
  rw[Nat.mul_succ]at hO;rw[Dv.roomGo];split
  ·exact⟨S,0,rfl,h,hot⟩
  split
  ·exact⟨S,0,rfl,h,hot⟩
  obtain⟨U,n,e,c1,c2,c3,c4,c5,c6,c7⟩:=h.carry (k:=96+(Dv.costR*f+k)) (hO.less (by unfold Dv.costR;omega)) hot hlg (by omega) S.victim (S.T.count S.victim);dsimp only;rw[c1];dsimp only;split
  ·exact⟨U,e,rfl,c2,c4⟩
  ·obtain⟨V,d1,d2,d3,d4,d5,_,_,d8⟩:=c2.clear (k:=Dv.costR*f+k) c3;rw[d1];dsimp only;rw[if_neg (by decide)];exact room_go f V k d2 d3 (d8 c4) (by rw[d5,c6];exact hlg) (by omega)
theorem room (h:GI fd W S) (hO:S.Ok (Dv.costM+k) m) (hot:Hot2 fd S 0) (hlg:S.T.logical<=1000) (hnx:S.next<=1099511627775-20000000):GI fd W S.room.1/\Hot2 fd S.room.1 0:=by
 have hg:=hO.gd.ok.bd16;have htb:=hO.t.b;obtain⟨U,u1,u2,u3,u4,u5,_,_,u8⟩:=h.clear (k:=Dv.costR*16+k) (hO.less (by unfold Dv.costM;omega));have hm:Dv.costR*S.t.b<=Dv.costR*16:=Nat.mul_le_mul_left _ (by omega);obtain⟨V,e,v1,v2,v3⟩:=room_go S.t.b U k u2 (u3.less (by omega)) (u8 hot) (by rw[u5];exact hlg) (by omega);unfold Dv.room;rw[u1];dsimp only;rw[if_neg (by decide),v1];exact⟨v2,v3⟩
theorem same (h:GI fd W S) {N':Nand} (hl:S.N.Like N') (hb:N'.blk=S.N.blk) (hd:N'.dead=S.N.dead) (hp:N'.plan=S.N.plan) (hlit:N'.Lit) (hi:Inv fd {S with N:=N'}) (hH:Hd {S with N:=N'} W):GI fd W {S with N:=N'}:=by
 refine⟨hi,hH,h.wok,λi a ha=>?_,λb r hb' hr'=>?_,λhdd i j=>?_⟩
 ·show Msk N'.dies fd a.mask;rw[hl.dies];exact h.msk i a ha
 ·have hb':b<N'.blocks:=hb';have hr':r<N'.pages:=hr';rw[hl.blocks]at hb';rw[hl.pages]at hr';refine(h.dsc b r hb' hr').gone hl λd c hc=> .inr ?_;have hc:N'.pageAt d b r=some c:=hc;unfold Nand.pageAt at hc ⊢;rw[hb]at hc;exact hc
 ·have hdd:∀i:Nat,N'.dead.getD i false=false:=hdd;rw[hd]at hdd;show(N'.blk i j).fails=false;rw[hb];exact h.ff hdd i j
end GI
theorem Tl.set_dead2 (t:Tl) (k:Int) (s:Sb):(t.set k s).dead=t.dead/\(t.set k s).d=t.d/\(t.set k s).b=t.b:=by unfold Tl.set;split<;>exact⟨rfl,rfl,rfl⟩
theorem a5C {N:Nand} {t:Tl} (hd:t.d=N.dies) (h6:N.dies<=6) (hs:L.set t.dead=true):L.set (Dv.seeDead N t).dead=true/\(∀e:Int,L.has (Dv.seeDead N t).dead e=(L.has t.dead e||N.deadAt e))/\(Dv.seeDead N t).l=t.l/\(Dv.seeDead N t).b=t.b/\(Dv.seeDead N t).d=t.d:=by
 have key:∀n,n<=t.d->∀u,u=(List.range n).foldl (λ(t:Tl) (d:Nat)=>if N.deadAt d then t.die d else t) t->L.set u.dead=true/\(∀e:Int,L.has u.dead e=(L.has t.dead e||(decide (e<n)&&N.deadAt e)))/\u.l=t.l/\u.b=t.b/\u.d=t.d:=by
  intro n
  induction n with
  | zero=>
   intro _ u hu;subst hu;refine⟨hs,λe=>?_,rfl,rfl,rfl⟩;have:(decide (e<((0:Nat):Int))&&N.deadAt e)=false:=by
    cases h:N.deadAt e with
    | false=>simp
    | true=>
     unfold Nand.deadAt at h;simp only[Bool.and_eq_true,decide_eq_true_eq]at h;rw[decide_eq_false (by omega),Bool.false_and]
   rw[this,Bool.or_false]
  | succ n ih=>
   intro hn u hu;rw[List.range_succ,List.foldl_append]at hu;obtain⟨v,hv⟩:∃v,v=(List.range n).foldl (λ(t:Tl) (d:Nat)=>if N.deadAt d then t.die d else t) t:=⟨_,rfl⟩;rw[<- hv]at hu;obtain⟨a1,a2,a3,a4,a5⟩:=ih (by omega) v hv;have hu:u=if N.deadAt n then v.die n else v:=hu
   cases hdd:N.deadAt n with
   | false=>
    rw[hdd,if_neg Bool.false_ne_true]at hu;rw[hu];refine⟨a1,λe=>?_,a3,a4,a5⟩;rw[a2]
    by_cases he:e=(n:Int)
    ·rw[he,hdd];simp
    ·have:decide (e<((n+1:Nat):Int))=decide (e<(n:Int)):=by
      by_cases h:e<(n:Int)
      ·rw[decide_eq_true h,decide_eq_true (by omega)]
      ·rw[decide_eq_false h,decide_eq_false (by omega)]
     rw[this]
   | true=>
    rw[hdd,if_pos rfl]at hu;have hdie:v.die n=⟨v.d,v.b,v.p,v.l,L.with_ v.dead n⟩:=by
     unfold Tl.die;rw[if_pos];unfold Tl.hasDie;rw[decide_eq_true (by omega),decide_eq_true (by omega)];rfl
    rw[hdie]at hu;rw[hu];refine⟨L.set_with a1 (by omega),λe=>?_,a3,a4,a5⟩;show L.has (L.with_ v.dead n) e=_;rw[L.with_has a1 (by omega),a2]
    by_cases he:e=(n:Int)
    ·rw[he,hdd,decide_eq_true (show(n:Int)<((n+1:Nat):Int)by omega)];simp
    ·have:decide (e<((n+1:Nat):Int))=decide (e<(n:Int)):=by
      by_cases h:e<(n:Int)
      ·rw[decide_eq_true h,decide_eq_true (by omega)]
      ·rw[decide_eq_false h,decide_eq_false (by omega)]
     rw[this,decide_eq_false he,Bool.or_false]
 obtain⟨b1,b2,b3,b4,b5⟩:=key t.d (Nat.le_refl _) _ rfl;refine⟨b1,λe=>?_,b3,b4,b5⟩;show L.has ((List.range t.d).foldl (λ(t:Tl) (d:Nat)=>if N.deadAt d then t.die d else t) t).dead e=_;rw[b2];cases h:N.deadAt e with
 | false=>simp
 | true=>
  unfold Nand.deadAt at h;simp only[Bool.and_eq_true,decide_eq_true_eq]at h;rw[decide_eq_true (by omega)];rfl
def a1M (dd:Int) (N:Nand) (b k:Nat):Bool:=(List.range k).any λd=>!L.has dd (d:Nat)&&decide ((N.blk d b).cells≠[])
theorem a7T (dd:Int) (N:Nand) (b k:Nat):a1M dd N b (k+1)=(a1M dd N b k||(!L.has dd (k:Nat)&&decide ((N.blk k b).cells≠[]))):=by
 unfold a1M;rw[List.range_succ,List.any_append];simp
namespace Tl
variable {N : Nand} {t : Tl}
theorem ofD_spec (hF:t.Fit N) (h6:N.dies<=6) (hs:L.set t.dead=true) {b d:Nat} (hb:b<N.blocks) (hbad:(t.at_ b).bad=0) (hd:d<N.dies):
  (ofD N b t d).dead=t.dead/\(ofD N b t d).Fit N/\(∀x:Nat,x<N.blocks->x≠b->(ofD N b t d).at_ x=t.at_ x)/\((ofD N b t d).at_ b).bad=0/\((ofD N b t d).at_ b).held=(t.at_ b).held/\((ofD N b t d).at_ b).used=((t.at_ b).used||(!L.has t.dead (d:Nat)&&decide ((N.blk d b).cells≠[]))):=by
 have hh:∀x:Nat,x<N.blocks->t.has (x:Int)=true:=λx hx=>Tl.has_iff.2 (by have:=hF.b;omega);obtain⟨u,hu⟩:∃u,t.wore b (N.wornAt d b)=u:=⟨_,rfl⟩;have hud:u.dead=t.dead/\u.d=t.d/\u.b=t.b:=by rw[<- hu];exact Tl.set_dead2 _ _ _
 have huF:u.Fit N:=by rw[<- hu];exact hF.wore _ _
 have huh:∀x:Nat,x<N.blocks->u.has (x:Int)=true:=λx hx=>Tl.has_iff.2 (by have:=huF.b;omega);have hua:∀x:Nat,x<N.blocks->u.at_ x=if(x:Int)=(b:Int)then {t.at_ b with wear:=if N.wornAt d b>(t.at_ b).wear then N.wornAt d b else(t.at_ b).wear}else t.at_ x:=λx hx=>by
  rw[<- hu];exact Tl.at_set (by rw[hF.len]) _ (hh b hb) (hh x hx)
 have hub:=hua b hb;rw[if_pos rfl]at hub;have hmk:L.has (u.mask b) (d:Nat)= !L.has t.dead (d:Nat):=by
  have h1:=(A7 (t:=u) (b:=b) (by have:=huF.d;omega) (huh b hb) (by rw[hud.1];exact hs) (by rw[hub];show L.set (t.at_ b).bad=true;rw[hbad];decide)).2 (d:Nat);rw[h1,hud.1,hub];show(((decide ((0:Int)<=(d:Nat))&&decide (((d:Nat):Int)<u.d))&& !L.has t.dead (d:Nat))&& !L.has (t.at_ b).bad (d:Nat))=_;rw[hbad,L.has_zero,decide_eq_true (by omega),decide_eq_true (by have:=huF.d;omega)];simp
 have hnx:decide ((N.next d b:Int)>0)=decide ((N.blk d b).cells≠[]):=by
  unfold Nand.next;rw[if_pos ⟨by omega,by omega,by omega,by omega⟩,Int.toNat_natCast,Int.toNat_natCast];cases(N.blk d b).cells with
  | nil=>rfl
  | cons c l=>rw[decide_eq_true (by rw[List.length_cons];omega),decide_eq_true (by simp)]
 have hof:ofD N b t d=if(!L.has t.dead (d:Nat)&&decide ((N.blk d b).cells≠[]))then u.clean b false else u:=by
  unfold ofD;rw[hu];dsimp only;rw[hmk,hnx]
 rw[hof];split
 ·rename_i hc;rw[hc];have hca:∀x:Nat,x<N.blocks->(u.clean b false).at_ x=if(x:Int)=(b:Int)then {u.at_ b with used:=!false}else u.at_ x:=λx hx=>Tl.at_set (by rw[huF.len]) _ (huh b hb) (huh x hx)
  have hcb:=hca b hb;rw[if_pos rfl]at hcb;have hx:=Tl.set_dead2 u b {u.at_ b with used:=!false};refine⟨hx.1.trans hud.1,huF.clean _ _,λx hx hne=>?_,?_,?_,?_⟩
  ·rw[hca x hx,if_neg (by omega),hua x hx,if_neg (by omega)]
  ·rw[hcb,hub];exact hbad
  ·rw[hcb,hub]
  ·rw[hcb];simp
 ·rename_i hc;have hc:(!L.has t.dead (d:Nat)&&decide ((N.blk d b).cells≠[]))=false:=by simpa using hc
  rw[hc];refine⟨hud.1,huF,λx hx hne=>?_,?_,?_,?_⟩
  ·rw[hua x hx,if_neg (by omega)]
  ·rw[hub];exact hbad
  ·rw[hub]
  ·rw[hub];simp
structure OfS (N:Nand) (t0:Tl) (n:Nat) (t:Tl):Prop where
 fit:t.Fit N
 dead:t.dead=t0.dead
 at_:∀b:Nat,b<N.blocks->(t.at_ b).bad=0/\(t.at_ b).held=false/\(t.at_ b).used=(decide (b<n)&&a1M t0.dead N b N.dies)
theorem ofB_spec {t0:Tl} {n:Nat} (h:OfS N t0 n t) (h6:N.dies<=6) (hs:L.set t0.dead=true) (hn:n<N.blocks):OfS N t0 (n+1) (ofB N t n):=by
 have key:∀k,k<=N.dies->∀u,u=(List.range k).foldl (ofD N n) t->u.Fit N/\u.dead=t0.dead/\(∀x:Nat,x<N.blocks->x≠n->u.at_ x=t.at_ x)/\(u.at_ n).bad=0/\(u.at_ n).held=false/\(u.at_ n).used=a1M t0.dead N n k:=by
  intro k
  induction k with
  | zero=>
   intro _ u hu;subst hu;obtain⟨a1,a2,a3⟩:=h.at_ n hn;exact⟨h.fit,h.dead,λ_ _ _=>rfl,a1,a2,a3.trans (by rw[decide_eq_false (Nat.lt_irrefl _)];rfl)⟩
  | succ k ih=>
   intro hk u hu;rw[List.range_succ,List.foldl_append]at hu;obtain⟨v,hv⟩:∃v,v=(List.range k).foldl (ofD N n) t:=⟨_,rfl⟩;rw[<- hv]at hu;have hu:u=ofD N n v k:=hu;obtain⟨a1,a2,a3,a4,a5,a6⟩:=ih (by omega) v hv;obtain⟨b1,b2,b3,b4,b5,b6⟩:=ofD_spec a1 h6 (by rw[a2];exact hs) hn a4 (show k<N.dies by omega);rw[hu];refine⟨b2,b1.trans a2,λx hx hne=>(b3 x hx hne).trans (a3 x hx hne),b4,b5.trans a5,?_⟩;rw[b6,a6,a2,a7T]
 obtain⟨c1,c2,c3,c4,c5,c6⟩:=key N.dies (Nat.le_refl _) _ rfl;refine⟨c1,c2,λb hb=>?_⟩
 by_cases e:b=n
 ·subst e;refine⟨c4,c5,?_⟩;show(((List.range N.dies).foldl (ofD N b) t).at_ b).used=_;rw[c6,decide_eq_true (by omega)];rfl
 ·obtain⟨a1,a2,a3⟩:=h.at_ b hb;have:=c3 b hb e;show(((List.range N.dies).foldl (ofD N n) t).at_ b).bad=0/\(((List.range N.dies).foldl (ofD N n) t).at_ b).held=false/\(((List.range N.dies).foldl (ofD N n) t).at_ b).used=_;rw[this];refine⟨a1,a2,a3.trans ?_⟩
  by_cases hlt:b<n
  ·rw[decide_eq_true hlt,decide_eq_true (by omega)]
  ·rw[decide_eq_false hlt,decide_eq_false (by omega)]
theorem of_spec (hN:N.Ok):L.set (Tl.of N).dead=true/\(∀e:Int,L.has (Tl.of N).dead e=N.deadAt e)/\∀b:Nat,b<N.blocks->((Tl.of N).at_ b).bad=0/\((Tl.of N).at_ b).held=false/\((Tl.of N).at_ b).used=a1M (Tl.of N).dead N b N.dies:=by
 have hg:=hN.bd16;obtain⟨s1,s2,s3,s4,s5⟩:=a5C (N:=N) (t:=Tl.new N.dies N.blocks N.pages) rfl (by omega) (by show L.set 0=true;decide);have h0:OfS N (Dv.seeDead N (Tl.new N.dies N.blocks N.pages)) 0 (Dv.seeDead N (Tl.new N.dies N.blocks N.pages)):=by
  refine⟨(Tl.Fit.new N).seeDead,rfl,λb hb=>?_⟩;have:(Dv.seeDead N (Tl.new N.dies N.blocks N.pages)).at_ b=Sb.zero:=by
   unfold Tl.at_;rw[s3];show(List.replicate N.blocks Sb.zero).getD _ Sb.zero=Sb.zero;rw[List.getD_eq_getElem?_getD,List.getElem?_replicate];split<;>rfl
  rw[this];exact⟨rfl,rfl,rfl⟩
 have key:∀n,n<=N.blocks->OfS N (Dv.seeDead N (Tl.new N.dies N.blocks N.pages)) n ((List.range n).foldl (ofB N) (Dv.seeDead N (Tl.new N.dies N.blocks N.pages))):=by
  intro n
  induction n with
  | zero=>intro _;exact h0
  | succ n ih=>
   intro hn;rw[List.range_succ,List.foldl_append];exact ofB_spec (ih (by omega)) (by omega) s1 (by omega)
 have hk:=key N.blocks (Nat.le_refl _);have hof:Tl.of N=(List.range N.blocks).foldl (ofB N) (Dv.seeDead N (Tl.new N.dies N.blocks N.pages)):=rfl;rw[<- hof]at hk;refine⟨by rw[hk.dead];exact s1,λe=>?_,λb hb=>?_⟩
 ·rw[hk.dead,s2];show(L.has 0 e||N.deadAt e)=N.deadAt e;rw[L.has_zero,Bool.false_or]
 ·obtain⟨a1,a2,a3⟩:=hk.at_ b hb;refine⟨a1,a2,?_⟩;rw[a3,hk.dead,decide_eq_true hb,Bool.true_and]
end Tl
theorem V.stand_max:∀(n:Nat) (l:List Fnd),l.length=n->∀g∈l,g.en.seq<=(V.standOf l).1.en.seq/\(g.en.seq=(V.standOf l).1.en.seq->g.whole=true->(V.standOf l).1.whole=true)
 | 0,l,hl,g,hg=>by rw[List.eq_nil_of_length_eq_zero hl]at hg;cases hg
 | n+1,l,hl,g,hg=>by
  obtain⟨l',x,rfl⟩:∃l' x,l=l'++[x]:=⟨l.dropLast,l.getLast (λe=>by rw[e]at hl;cases hl),(List.dropLast_concat_getLast _).symm⟩;have hl':l'.length=n:=by simpa using hl
  have ih:=V.stand_max n l' hl';rw[V.standOf_snoc];split
  ·rename_i hc;show g.en.seq<=x.en.seq/\(g.en.seq=x.en.seq->g.whole=true->x.whole=true);rcases List.mem_append.1 hg with hg | hg
   ·rcases hc with hc | hc
    ·exfalso
     rw[V.standOf_true l' (λe=>by rw[e]at hg;cases hg)]at hc;cases hc
    ·have h1:=ih g hg;unfold V.behind at hc;split at hc
     ·have hc:=of_decide_eq_true hc;exact⟨by omega,λe=>by omega⟩
     ·rename_i heq;have heq:(V.standOf l').1.en.seq=x.en.seq:=Classical.byContradiction λh=>heq h;rw[Bool.and_eq_true]at hc;exact⟨by omega,λ_ _=>hc.1⟩
   ·rw[List.mem_singleton]at hg;rw[hg];exact⟨Int.le_refl _,λ_ h=>h⟩
  ·rename_i hc;rcases List.mem_append.1 hg with hg | hg
   ·exact ih g hg
   ·rw[List.mem_singleton]at hg;rw[hg];have hb:V.behind (V.standOf l').1 x=false:=by
     cases h:V.behind (V.standOf l').1 x with
     | false=>rfl
     | true=>exact absurd (.inr h) hc
    unfold V.behind at hb;split at hb
    ·rename_i hne;have hb:=of_decide_eq_false hb;exact⟨by omega,λe=>absurd e.symm hne⟩
    ·rename_i heq;have heq:(V.standOf l').1.en.seq=x.en.seq:=Classical.byContradiction λh=>heq h;refine⟨by omega,λ_ hw=>?_⟩;rw[hw,Bool.true_and]at hb;simpa using hb
theorem V.mem_all {N:Nand} {f:Fnd}:f∈V.all N↔∃b r:Nat,b<N.blocks/\r<N.pages/\f∈R.all N b r:=by
 unfold V.all;simp only[List.mem_flatMap,List.mem_range];constructor
 ·rintro⟨b,hb,r,hr,hf⟩;exact⟨b,r,hb,hr,hf⟩
 ·rintro⟨b,r,hb,hr,hf⟩;exact⟨b,hb,r,hr,hf⟩
theorem V.nextOf_ge:∀(n:Nat) (l:List Fnd),l.length=n->∀f∈l,f.en.seq+1<=V.nextOf l
 | 0,l,hl,g,hg=>by rw[List.eq_nil_of_length_eq_zero hl]at hg;cases hg
 | n+1,l,hl,g,hg=>by
  obtain⟨l',x,rfl⟩:∃l' x,l=l'++[x]:=⟨l.dropLast,l.getLast (λe=>by rw[e]at hl;cases hl),(List.dropLast_concat_getLast _).symm⟩;have hl':l'.length=n:=by simpa using hl
  rw[V.nextOf_snoc];rcases List.mem_append.1 hg with hg | hg
  ·have:=V.nextOf_ge n l' hl' g hg;omega
  ·rw[List.mem_singleton]at hg;rw[hg];omega
theorem a9R (N:Nand) {n:Nat} (hn:n<=65536) (i:Nat):Tb.look (V.scan N n).tb.at_ (i:Int)=if i<n/\(V.standOf (V.of (V.all N) i)).2=true/\Tb.ok (Tb.new n) (V.standOf (V.of (V.all N) i)).1.en=true then some ⟨(V.standOf (V.of (V.all N) i)).1.block,(V.standOf (V.of (V.all N) i)).1.row,(V.standOf (V.of (V.all N) i)).1.slot,(V.standOf (V.of (V.all N) i)).1.mask,(V.standOf (V.of (V.all N) i)).1.en.seq,(V.standOf (V.of (V.all N) i)).1.en.role⟩else none:=by
 have hsz:V.size (n:Int)=n:=by unfold V.size;omega
 have key:=V.goS_look N (V.all N) n n i;rw[<- key];show Tb.look (V.goS N (V.all N) n (V.size n)).tb.at_ (i:Int)=_;rw[hsz]
theorem a4T {α β:Type} (g:Int->β):∀(l:List (Int×α)) (i:Int),Tb.look (l.map λx=>(x.1,g x.1)) i=if(Tb.look l i).isSome=true then some (g i)else none
 | [],i=>rfl
 | x::l,i=>by
  rw[List.map_cons];unfold Tb.look
  by_cases h:i=x.1
  ·rw[if_pos h,if_pos h,h];rfl
  ·rw[if_neg h,if_neg h];exact a4T g l i
theorem a7s {fd:Int} {N:Nand} (h3:3<=N.dies):∃i:Nat,i<N.dies/\(i:Int)≠fd:=by
 by_cases h:fd=0
 ·exact⟨1,by omega,by omega⟩
 ·exact⟨0,by omega,λe=>h e.symm⟩
namespace GI
variable {fd : Int} {W : List (Int × En)} {S : Dv} {k m : Nat}
theorem stand (h:GI fd W S) (hO:S.Ok k m) {i:Int} {a:AtV} (ha:Tb.look S.T.at_ i=some a):
  ∃w f,Tb.look W i=some w/\V.standOf (V.of (V.all S.N) i)=(f,true)/\f∈V.all S.N/\f.en={w with seq:=a.seq}/\f.block=a.block/\f.row=a.row/\f.mask=a.mask/\(∃l,Full fd S.N a.block a.row a.mask l/\∃k:Nat,f.slot=k/\k<l.length/\l.getD k En.zero=f.en)/\f.whole=((M.look S.N (G.parity a.mask a.block a.row) a.block a.row).2==1):=by
 have hg:=hO.gd.ok.bd16;have hoff:=h.inv.lit.off;obtain⟨w,hw⟩:∃w,Tb.look W i=some w:=by
  cases hw:Tb.look W i with
  | none=>rw[h.hd.none hw]at ha;cases ha
  | some w=>exact⟨w,rfl⟩
 obtain⟨l,g1,g2,g3,g4,g5,g6⟩:=(h.inv.st i a ha).row;obtain⟨_,a',ha',hrd⟩:=h.hd.each i w hw;rw[ha]at ha';injection ha' with ha';subst ha';have hslot:((a.slot.toNat:Nat):Int)=a.slot:=Int.toNat_of_nonneg g2;have hle:l.getD a.slot.toNat En.zero={w with seq:=a.seq}:=by
  have:=g1.read hoff h.inv.dead g3;rw[hslot,hrd]at this;injection this with this _;exact this.symm
 have hwk:=h.wok i w hw;have hr3:(l.getD a.slot.toNat En.zero).role≠3:=by
  rw[hle];show w.role≠3;rcases hwk.2.role with e | ⟨e | e,_⟩<;>omega
 have hmk:=h.msk i a ha;obtain⟨i0,hi0,hne0⟩:=a7s (fd:=fd) hg.1.1;have hm0:=hmk.all i0 hi0 hne0;obtain⟨f0,f1,f2,f3,f4⟩:=g1.found2 hoff h.inv.dead ⟨i0,hne0,hm0⟩ g3 hr3;have hblk:=g1.is.blk;have hrow:=g1.is.row;have hf0:f0∈V.all S.N:=V.mem_all.2 ⟨a.block.toNat,a.row.toNat,by omega,by omega,by rw[Int.toNat_of_nonneg hblk.1,Int.toNat_of_nonneg hrow.1];exact f1⟩;have hf0L:f0∈V.of (V.all S.N) i:=List.mem_filter.2 ⟨hf0,by rw[f2,g4];simp⟩;have hne:V.of (V.all S.N) i≠[]:=λe=>by rw[e]at hf0L;cases hf0L
 have htr:=V.standOf_true _ hne;obtain⟨f,hf⟩:∃f,(V.standOf (V.of (V.all S.N) i)).1=f:=⟨_,rfl⟩;have hst:V.standOf (V.of (V.all S.N) i)=(f,true):=by rw[<- hf,<- htr]
 have hfL:f∈V.of (V.all S.N) i:=by rw[<- hf];exact V.standOf_mem htr
 obtain⟨hfa,hfi⟩:=List.mem_filter.1 hfL;have hfi:f.en.lpn=i:=eq_of_beq hfi;have hmax:=(V.stand_max _ _ rfl f0 hf0L).1;rw[hf,f2,g5]at hmax;obtain⟨b,r,hb,hr,hfr⟩:=V.mem_all.1 hfa;obtain⟨e1,e2,_⟩:=a1C hfr;rcases(h.dsc b r hb hr).fnd hoff hg.1 hfr with⟨a',ha',hlt⟩ | ⟨⟨w',a',hw',ha',hcs⟩,hmf,l',hev,k',hk',hsl,hen,hrd',hwh⟩
 ·rw[hfi,ha]at ha';injection ha' with ha';subst ha';omega
 ·rw[hfi,ha]at ha';injection ha' with ha';subst ha';rw[hfi,hw]at hw';injection hw' with hw';subst hw';rcases hcs with hlt | ⟨c1,c2,c3,c4,c5⟩
  ·omega
  ·rw[<- c2,<- c3]at hev hrd' hwh;have hm0':L.has f.mask (i0:Nat)=true:=by
    have hall:=L.all_has S.N.dies (by omega);rcases hmf with e | ⟨d,e,hd,e'⟩
    ·rw[e,hall,decide_eq_true (by omega),decide_eq_true (by omega)];rfl
    ·rw[e',L.without_has (L.set_all S.N.dies (by omega)) (by omega),hall,decide_eq_true (by omega),decide_eq_true (by omega),decide_eq_false (by omega)];rfl
   have hmask:=g1.mask_eq hoff h.inv.dead hne0 hm0 hm0' hev;have hlen:l'.length=l.length:=by
    have x1:=hev.is.len;have x2:=g1.is.len;rw[hmask]at x1;omega
   refine⟨w,f,hw,hst,hfa,?_,by rw[e1,c2],by rw[e2,c3],hmask,⟨l,g1,k',hsl,by omega,?_⟩,?_⟩
   ·have hfe:f.en=⟨f.en.lpn,f.en.seq,f.en.role,f.en.data⟩:=rfl;rw[hfe,hfi,c1,c4,c5,<- hwk.1]
   ·have:=g1.read hoff h.inv.dead (i:=k') (by omega);rw[hmask,hsl,this]at hrd';injection hrd' with hrd' _
   ·rw[hwh];unfold gOf;rw[L5,hmask]
theorem stand_none (h:GI fd W S) (hO:S.Ok k m) {i:Int} (ha:Tb.look S.T.at_ i=none):(V.standOf (V.of (V.all S.N) i)).2=false:=by
 have hg:=hO.gd.ok.bd16;cases htr:(V.standOf (V.of (V.all S.N) i)).2 with
 | false=>rfl
 | true=>
  exfalso
  have hfL:=V.standOf_mem htr;obtain⟨hfa,hfi⟩:=List.mem_filter.1 hfL;have hfi:=eq_of_beq hfi;obtain⟨b,r,hb,hr,hfr⟩:=V.mem_all.1 hfa;rcases(h.dsc b r hb hr).fnd h.inv.lit.off hg.1 hfr with⟨a',ha',_⟩ | ⟨⟨w',a',hw',ha',_⟩,_⟩
  ·rw[hfi,ha]at ha';cases ha'
  ·rw[hfi,ha]at ha';cases ha'
theorem table (h:GI fd W S) (hO:S.Ok k m) (hlog:S.T.logical=(lgN S.N.dies S.N.blocks S.N.pages:Int)) (i:Int):
  (Tb.look S.T.at_ i=none->Tb.look (Dv.mt0 S.N).T.at_ i=none)/\
  ∀a,Tb.look S.T.at_ i=some a->∃w f a',Tb.look W i=some w/\V.standOf (V.of (V.all S.N) i)=(f,true)/\f∈V.all S.N/\f.en={w with seq:=a.seq}/\Tb.look (Dv.mt0 S.N).T.at_ i=some a'/\a'=⟨a.block,a.row,f.slot,a.mask,a.seq,w.role⟩/\(∃l,Full fd S.N a.block a.row a.mask l/\∃k:Nat,f.slot=k/\k<l.length/\l.getD k En.zero=f.en)/\f.whole=((M.look S.N (G.parity a.mask a.block a.row) a.block a.row).2==1):=by
 have h200:=V0 hO.gd.ok;have hsl:∀j:Nat,Tb.look (Dv.mt0 S.N).T.at_ (j:Int)=_:=λj=>a9R S.N (n:=lgN S.N.dies S.N.blocks S.N.pages) (by omega) j;have htOk:(Dv.mt0 S.N).T.Ok:=(Dv.Ok.mt0 hO.gd).T;have hlog0:=Dv.mt0_log hO.gd;constructor
 ·intro hn;cases hx:Tb.look (Dv.mt0 S.N).T.at_ i with
  | none=>rfl
  | some x=>
   exfalso
   have hr:=htOk.rng _ (Tb.look_mem hx);rw[hlog0]at hr;obtain⟨j,rfl⟩:=Int.eq_ofNat_of_zero_le hr.1;rw[hsl j,h.stand_none hO hn,if_neg (by simp)]at hx;cases hx
 ·intro a ha;have hr:=hO.T.rng _ (Tb.look_mem ha);rw[hlog]at hr;obtain⟨j,rfl⟩:=Int.eq_ofNat_of_zero_le hr.1;obtain⟨w,f,h1,h2,h3,h4,h5,h6,h7,h8,h9⟩:=h.stand hO ha;have hwk:=h.wok _ w h1;have hx:=hsl j;rw[h2]at hx;dsimp only at hx;rw[h4,h5,h6,h7,if_pos ⟨by omega,rfl,by
   unfold Tb.ok;show(!(decide (w.lpn<0)||decide (w.lpn>=min (max ((lgN S.N.dies S.N.blocks S.N.pages:Nat):Int) 0) 65536)||(w.role !=1&&w.role !=2&&w.role !=4)))=true;rw[hwk.1,decide_eq_false (by omega),decide_eq_false (by omega)];rcases hwk.2.role with e | ⟨e | e,_⟩<;>rw[e]<;>rfl⟩]at hx
  exact⟨w,f,_,h1,h2,h3,h4,hx,rfl,h8,h9⟩
theorem mt0 (h:GI fd W S) (hO:S.Ok k m) (hlog:S.T.logical=(lgN S.N.dies S.N.blocks S.N.pages:Int)):
  ∃W',(∀i,Tb.look W' i=Tb.look W i)/\W'.length<=W.length/\GI fd W' (Dv.mt0 S.N)/\(∀b,(Dv.mt0 S.N).t.has b=true->((Dv.mt0 S.N).t.at_ b).held=false)/\∀i a',Tb.look (Dv.mt0 S.N).T.at_ i=some a'->∃a,Tb.look S.T.at_ i=some a/\a'.block=a.block:=by
 have hg:=hO.gd.ok.bd16;have h200:=V0 hO.gd.ok;have hO0:(Dv.mt0 S.N).Ok k m:=Dv.Ok.mt0 hO.gd;have hlog0:=Dv.mt0_log hO.gd;obtain⟨t1,t2,t3⟩:=Tl.of_spec hO.gd.ok;have hhas:∀b,(Dv.mt0 S.N).t.has b=true->∃j:Nat,b=(j:Int)/\j<S.N.blocks:=λb hb=>by
  have hb:=Tl.has_iff.1 hb;have hb2:=hO0.t.b;have hb3:(Dv.mt0 S.N).N.blocks=S.N.blocks:=rfl;obtain⟨j,rfl⟩:=Int.eq_ofNat_of_zero_le hb.1;exact⟨j,rfl,by omega⟩
 have hdd:∀d:Nat,(d:Int)≠fd->L.has (Tl.of S.N).dead (d:Nat)=false:=λd hd=>by
  rw[t2];unfold Nand.deadAt;rw[Int.toNat_natCast,h.inv.dead d hd,Bool.and_false]
 have hall:=λi=>h.table hO hlog i;have hsome:∀i a',Tb.look (Dv.mt0 S.N).T.at_ i=some a'->∃a w f,Tb.look S.T.at_ i=some a/\Tb.look W i=some w/\f∈V.all S.N/\f.en={w with seq:=a.seq}/\a'=⟨a.block,a.row,f.slot,a.mask,a.seq,w.role⟩/\∃l,Full fd S.N a.block a.row a.mask l/\∃k:Nat,f.slot=k/\k<l.length/\l.getD k En.zero=f.en:=λi a' ha'=>by
  cases ha:Tb.look S.T.at_ i with
  | none=>rw[(hall i).1 ha]at ha';cases ha'
  | some a=>
   obtain⟨w,f,a2,h1,_,h3,h4,h5,h6,h7,_⟩:=(hall i).2 a ha;rw[h5]at ha';injection ha' with ha';exact⟨a,w,f,rfl,h1,h3,h4,ha'.symm.trans h6,h7⟩
 let W':List (Int×En):=(Dv.mt0 S.N).T.at_.map λx=>(x.1,(Tb.look W x.1).getD En.zero)
 have hW':∀i,Tb.look W' i=Tb.look W i:=λi=>by
  show Tb.look ((Dv.mt0 S.N).T.at_.map λx=>(x.1,(Tb.look W x.1).getD En.zero)) i=_;rw[a4T (λi=>(Tb.look W i).getD En.zero)];cases hx:Tb.look (Dv.mt0 S.N).T.at_ i with
  | some a'=>
   obtain⟨a,w,f,_,h2,_⟩:=hsome i a' hx;rw[h2];rfl
  | none=>
   rw[if_neg (by simp)];cases hw:Tb.look W i with
   | none=>rfl
   | some w=>
    obtain⟨_,a,ha,_⟩:=h.hd.each i w hw;obtain⟨_,_,a2,_,_,_,_,h5,_⟩:=(hall i).2 a ha;rw[hx]at h5;cases h5
 have hinv:Inv fd (Dv.mt0 S.N):=by
  refine⟨h.inv.lit,h.inv.dead,h.inv.plan,h.inv.flags,⟨t1,λd hd=>?_⟩,λb hb=>?_, .inl rfl,λb hb hu d hd=>?_,λi a' ha'=>?_⟩
  ·have hd:L.has (Tl.of S.N).dead d=true:=hd;obtain⟨d',rfl,_⟩:=L.has_rng hd;exact Classical.byContradiction λhne=>by rw[hdd d' hne]at hd;cases hd
  ·obtain⟨j,rfl,hj⟩:=hhas b hb;show L.set ((Tl.of S.N).at_ j).bad=true/\∀d:Int,L.has ((Tl.of S.N).at_ j).bad d=true->d=fd;rw[(t3 j hj).1];exact⟨by decide,λd hd=>by rw[L.has_zero]at hd;cases hd⟩
  ·obtain⟨j,rfl,hj⟩:=hhas b hb;have hu:((Tl.of S.N).at_ j).used=false:=hu;rw[(t3 j hj).2.2]at hu;have hmk:=(A7 (t:=(Dv.mt0 S.N).t) (b:=j) (by have:=hO0.t.d;have h3:(Dv.mt0 S.N).N.dies=S.N.dies:=rfl;omega) hb t1 (by show L.set ((Tl.of S.N).at_ j).bad=true;rw[(t3 j hj).1];decide)).2 d;rw[hmk]at hd;simp only[Bool.and_eq_true,decide_eq_true_eq,Bool.not_eq_true']at hd;have hdl:d<S.N.dies:=by have:=hO0.t.d;have h3:(Dv.mt0 S.N).N.dies=S.N.dies:=rfl;omega
   unfold a1M at hu;rw[List.any_eq_false]at hu;have:=hu d (List.mem_range.2 hdl);have hdf:L.has (Tl.of S.N).dead (d:Nat)=false:=hd.1.2;rw[hdf]at this;show(S.N.blk d ((j:Nat):Int).toNat).cells=[];rw[Int.toNat_natCast];simpa using this
  ·obtain⟨a,w,f,h1,h2,h3,h4,h5,l,h6,kk,h7,h8,h9⟩:=hsome i a' ha';subst h5;have hst:=h.inv.st i a h1;have hwk:=h.wok i w h2;refine⟨⟨l,h6,by show(0:Int)<=f.slot;omega,?_,?_,?_,?_⟩,?_,λe=>?_,⟨hst.seq.1,?_⟩⟩
   ·show f.slot.toNat<l.length;omega
   ·show(l.getD f.slot.toNat En.zero).lpn=i;rw[h7,Int.toNat_natCast,h9,h4];exact hwk.1
   ·show(l.getD f.slot.toNat En.zero).seq=a.seq;rw[h7,Int.toNat_natCast,h9,h4]
   ·show(l.getD f.slot.toNat En.zero).role=w.role;rw[h7,Int.toNat_natCast,h9,h4]
   ·have hblk:=h6.is.blk;show((Tl.of S.N).at_ a.block).used=true;obtain⟨j,hj⟩:=Int.eq_ofNat_of_zero_le hblk.1;rw[hj,(t3 j (by omega)).2.2];obtain⟨i0,hi0,hne0⟩:=a7s (fd:=fd) hg.1.1;obtain⟨x,hx,hxi⟩:=h6.is.on ((h.msk i a h1).all i0 hi0 hne0);obtain⟨tt,ht⟩:=h6.good x hx (by rw[hxi];exact hne0);unfold a1M;rw[List.any_eq_true];refine⟨i0,List.mem_range.2 hi0,?_⟩;rw[hdd i0 hne0];have hne:(S.N.blk i0 j).cells≠[]:=λe=>by
     unfold Nand.pageAt at ht;rw[hxi,hj,Int.toNat_natCast,Int.toNat_natCast,e]at ht;cases ht
    rw[decide_eq_true hne];rfl
   ·have hblk:=h6.is.blk;have e:a.block= -1:=e;omega
   ·have hnx:=V.nextOf_ge _ _ rfl f h3;have hq:f.en.seq=a.seq:=by rw[h4]
    show a.seq<max (V.nextOf (V.all S.N)) 1;omega
 have hhd:Hd (Dv.mt0 S.N) W':=by
  refine⟨?_,λi e he=>?_⟩
  ·show(Dv.mt0 S.N).T.at_.map (·.1)=((Dv.mt0 S.N).T.at_.map λx=>(x.1,(Tb.look W x.1).getD En.zero)).map (·.1);rw[List.map_map];rfl
  ·rw[hW']at he;obtain⟨h1,a,h2,h3⟩:=h.hd.each i e he;obtain⟨w,f,a',g1,g2,g3,g4,g5,g6,⟨l2,q1,kk2,q2,q3,q4⟩,_⟩:=(hall i).2 a h2;rw[he]at g1;injection g1 with g1;subst g1;subst g6;refine⟨h1,_,g5,?_⟩;show R.read S.N a.block a.row f.slot a.mask=({e with seq:=a.seq},0);rw[q2,q1.read h.inv.lit.off h.inv.dead q3,q4,g4]
 refine⟨W',hW',?_,⟨hinv,hhd,λi e he=>h.wok i e (by rw[<- hW'];exact he),λi a' ha'=>?_,λb r hb hr=>(h.dsc b r hb hr).mono (λe ⟨w,a,x1,x2,x3⟩=>?_) λe ⟨a,x1,x2⟩=>?_,h.ff⟩,λb hb=>?_,λi a' ha'=>?_⟩
 ·have h1:=R7 (K:=(Dv.mt0 S.N).T.at_.map (·.1)) (M:=W.map (·.1)) hO0.T.keys λi hi=>by
   obtain⟨x,hx,rfl⟩:=List.mem_map.1 hi;obtain⟨a,w,f,g1,_⟩:=hsome x.1 x.2 (a0R hO0.T hx);rw[<- h.hd.keys];exact List.mem_map.2 ⟨_,Tb.look_mem g1,rfl⟩
  simpa[W']using h1
 ·obtain⟨a,w,f,h1,_,_,_,h5,_⟩:=hsome i a' ha';rw[h5];exact h.msk i a h1
 ·obtain⟨w',f,a',g1,g2,g3,g4,g5,g6,_⟩:=(hall _).2 a x2;rw[x1]at g1;injection g1 with g1;subst g1;subst g6;exact⟨w,_,by rw[hW'];exact x1,g5,x3⟩
 ·obtain⟨w',f,a',g1,g2,g3,g4,g5,g6,_⟩:=(hall _).2 a x1;subst g6;exact⟨_,g5,x2⟩
 ·obtain⟨j,rfl,hj⟩:=hhas b hb;exact(t3 j hj).2.1
 ·obtain⟨a,w,f,h1,_,_,_,h5,_⟩:=hsome i a' ha';exact⟨a,h1,by rw[h5]⟩
end GI
def cur (W:List (Int×En)) (L:List En) (i:Int):List UInt8:=match L.find? (λx=>x.lpn==i)with
 | some e=>e.data
 | none=>match Tb.look W i with
  | some e=>e.data
  | none=>zeros16
structure FI (fd:Int) (W:List (Int×En)) (lg:Nat) (F:Fv):Prop where
 inv:Inv fd F.S
 hd:Hd F.S W
 wok:WOk W
 wr:∀i e,Tb.look W i=some e->e.role≠4
 log:F.S.T.logical=(lg:Int)
 lgn:F.lg=(lg:Int)
 lg2:lg<=200
 des:∀e∈F.L,FitR e/\e.role≠4/\e.lpn<(lg:Int)
 nd:(F.L.map (·.lpn)).Nodup
 off:F.off=false
theorem find_none {L:List En} {i:Int}:L.find? (λx=>x.lpn==i)=none↔i∉L.map (·.lpn):=by
 rw[List.find?_eq_none];constructor
 ·intro h hm;obtain⟨x,hx,e⟩:=List.mem_map.1 hm;exact h x hx (by simp[e])
 ·intro h x hx hb;exact h (List.mem_map.2 ⟨x,hx,by simpa using hb⟩)
theorem b0J {L:List En} (hnd:(L.map (·.lpn)).Nodup) {e:En} (he:e∈L):L.find? (λx=>x.lpn==e.lpn)=some e:=by
 induction L with
 | nil=>cases he
 | cons x L ih=>
  simp only[List.map_cons,List.nodup_cons]at hnd;rw[List.find?_cons];rcases List.mem_cons.1 he with rfl | he
  ·simp
  ·have:(x.lpn==e.lpn)=false:=by
    rw[beq_eq_false_iff_ne];intro e2;exact hnd.1 (by rw[e2];exact List.mem_map_of_mem he)
   rw[this];exact ih hnd.2 he
theorem b0R {L:List En} (hnd:(L.map (·.lpn)).Nodup) (n:Nat):J1 L (L.take n)=L.drop n:=by
 unfold J1;have hsp:L=L.take n++L.drop n:=(List.take_append_drop n L).symm;have hnd2:=hnd;rw[hsp,List.map_append,List.nodup_append]at hnd2;obtain⟨_,_,hdis⟩:=hnd2
 conv=>lhs;arg 2;rw[hsp]
 rw[List.filter_append];have h1:(L.take n).filter (λx=>!((L.take n).any λe=>e.lpn==x.lpn&&e.seq==x.seq))=[]:=by
  rw[List.filter_eq_nil_iff];intro x hx;have:((L.take n).any λe=>e.lpn==x.lpn&&e.seq==x.seq)=true:=List.any_eq_true.2 ⟨x,hx,by simp⟩;rw[this];simp
 have h2:(L.drop n).filter (λx=>!((L.take n).any λe=>e.lpn==x.lpn&&e.seq==x.seq))=L.drop n:=by
  rw[List.filter_eq_self];intro x hx;have:((L.take n).any λe=>e.lpn==x.lpn&&e.seq==x.seq)=false:=by
   rw[<- Bool.not_eq_true,List.any_eq_true];rintro⟨e,he,hb⟩;simp only[Bool.and_eq_true,beq_iff_eq]at hb;exact hdis _ (List.mem_map_of_mem he) _ (List.mem_map_of_mem hx) hb.1
  rw[this];rfl
 rw[h1,h2];rfl
theorem b3B {W:List (Int×En)} {L:List En} (hnd:(L.map (·.lpn)).Nodup) (n:Nat) (hn:n<=L.length) (i:Int):cur (M5 W L n) (L.drop n) i=cur W L i:=by
 have hdisj:∀a b,a<b->b<n->(L.getD a En.zero).lpn≠(L.getD b En.zero).lpn:=λa b hab hb e=>by
  have g1:a<L.length:=by omega
  have g2:b<L.length:=by omega
  have h3:(L.map (·.lpn))[a]? =(L.map (·.lpn))[b]?:=by
   rw[List.getElem?_map,List.getElem?_map,List.getElem?_eq_getElem g1,List.getElem?_eq_getElem g2];rw[List.getD_eq_getElem?_getD,List.getD_eq_getElem?_getD,List.getElem?_eq_getElem g1,List.getElem?_eq_getElem g2]at e;exact congrArg some e
  have:=(List.getElem?_inj (by rw[List.length_map];exact g1) hnd).1 h3;omega
 obtain⟨w1,w2⟩:=J3 (W:=W) (l:=L) n hdisj;have hsp:L=L.take n++L.drop n:=(List.take_append_drop n L).symm;have hnd2:=hnd;rw[hsp,List.map_append,List.nodup_append]at hnd2;obtain⟨hn1,hn2,hdis⟩:=hnd2
 by_cases hi:i∈(L.take n).map (·.lpn)
 ·obtain⟨e,he,rfl⟩:=List.mem_map.1 hi;have hf:=b0J hnd (List.mem_of_mem_take he);have hnone:(L.drop n).find? (λx=>x.lpn==e.lpn)=none:=find_none.2 λhm=>hdis _ hi _ hm rfl;obtain⟨j,hj,hje⟩:=List.mem_iff_getElem.1 he;rw[List.length_take]at hj;have hge:L.getD j En.zero=e:=by
   rw[List.getD_eq_getElem?_getD,List.getElem?_eq_getElem (by omega),Option.getD_some,<- hje,List.getElem_take]
  have hl:=w1 j (by omega);rw[hge]at hl;unfold cur;rw[hnone,hf];dsimp only;rw[hl]
 ·have h1:(L.take n).find? (λx=>x.lpn==i)=none:=find_none.2 hi;have h2:L.find? (λx=>x.lpn==i)=(L.drop n).find? (λx=>x.lpn==i):=by
   conv=>lhs;rw[hsp]
   rw[List.find?_append,h1];rfl
  have h3:Tb.look (M5 W L n) i=Tb.look W i:=w2 i λj hj e=>hi (List.mem_map.2 ⟨L.getD j En.zero,by
   rw[List.getD_eq_getElem?_getD,List.getElem?_eq_getElem (by omega),Option.getD_some];exact List.mem_iff_getElem.2 ⟨j,by rw[List.length_take];omega,List.getElem_take ..⟩,e⟩)
  unfold cur;rw[h2,h3]
theorem a8M {W:List (Int×En)} {L:List En} (hW:WOk W) (hr:∀i e,Tb.look W i=some e->e.role≠4) (hL:∀e∈L,FitR e/\e.role≠4):∀n,n<=L.length->WOk (M5 W L n)/\∀i e,Tb.look (M5 W L n) i=some e->e.role≠4
 | 0,_=>⟨hW,hr⟩
 | n+1,hn=>by
  obtain⟨h1,h2⟩:=a8M hW hr hL n (by omega);have hm:=hL _ (D5 (show n<L.length by omega));rw[O3];refine⟨h1.put hm.1,λi e he=>?_⟩;rw[Tb.look_put1]at he;split at he
  ·injection he with he;rw[<- he];exact hm.2
  ·exact h2 i e he
namespace FI
variable {fd : Int} {W : List (Int × En)} {lg k m : Nat} {F : Fv}
theorem ask (h:FI fd W lg F):F.ask=F:=by
 unfold Fv.ask;rw[h.inv.lit.off,h.off];have:=h.off;cases F;dsimp only at this;rw[this];rfl
theorem len (h:FI fd W lg F):F.L.length<=lg:=by
 have h1:=R7 (K:=F.L.map (·.lpn)) (M:=(List.range lg).map λi:Nat=>(i:Int)) h.nd λx hx=>by
  obtain⟨e,he,rfl⟩:=List.mem_map.1 hx;obtain⟨d1,_,d3⟩:=h.des e he;have:=d1.lpn;exact List.mem_map.2 ⟨e.lpn.toNat,List.mem_range.2 (by omega),by omega⟩
 simpa using h1
theorem get (h:FI fd W lg F) (i:Int):F.get i=(cur W F.L i,0):=by
 unfold Fv.get cur T7;cases hf:F.L.find? (λx=>x.lpn==i)with
 | some e=>rfl
 | none=>
  dsimp only;rw[if_neg Bool.false_ne_true];cases hw:Tb.look W i with
  | none=>rw[h.hd.none hw]
  | some e=>
   obtain⟨h1,a,ha,hr⟩:=h.hd.each i e hw;obtain⟨y,hy,_,_,hyr⟩:=h.inv.read ha;have hwe:=h.wok i e hw;rw[hr]at hy;have her:e.role=a.role:=by injection hy with hy;rw[<- hyr,<- hy]
   have h4:=h.wr i e hw;rw[ha];dsimp only;rcases hwe.2.role with r | ⟨r | r,hz⟩
   ·rw[if_neg (by omega),if_neg (by omega),hr];dsimp only;rw[if_neg];rintro(x | x | x)
    ·exact x rfl
    ·exact x hwe.1
    ·exact x rfl
   ·rw[if_pos (by omega),hz]
   ·exact absurd r h4
theorem read (h:FI fd W lg F) (i:Int):F.read i=if i<0\/i>=(lg:Int)then(F,zeros16,3)else(F,cur W F.L i,0):=by
 unfold Fv.read;rw[h.ask,h.off,if_neg Bool.false_ne_true,h.lgn,h.get]
end FI
theorem a7v {L:List En} {i j:Int} (h:i≠j):(L.filter λx=>!(x.lpn==j)).find? (λx=>x.lpn==i)=L.find? (λx=>x.lpn==i):=by
 induction L with
 | nil=>rfl
 | cons x L ih=>
  rw[List.filter_cons]
  by_cases e:x.lpn=j
  ·have h1:(!(x.lpn==j))=false:=by simp[e]
   have h2:(x.lpn==i)=false:=by rw[beq_eq_false_iff_ne];omega
   rw[h1,if_neg Bool.false_ne_true,ih,List.find?_cons,h2]
  ·have h1:(!(x.lpn==j))=true:=by simp[e]
   rw[h1,if_pos rfl,List.find?_cons,List.find?_cons,ih]
theorem b5t (W:List (Int×En)) (L:List En) (e:En) (i:Int):cur W (I2 L e) i=if i=e.lpn then e.data else cur W L i:=by
 unfold cur I2;rw[List.find?_append]
 by_cases h:i=e.lpn
 ·subst h;have h1:(L.filter λx=>!(x.lpn==e.lpn)).find? (λx=>x.lpn==e.lpn)=none:=by
   rw[List.find?_eq_none];intro x hx hb;have:=(List.mem_filter.1 hx).2;rw[hb]at this;cases this
  rw[h1,if_pos rfl];simp
 ·rw[a7v h,if_neg h];have h2:[e].find? (λx=>x.lpn==i)=none:=by
   rw[List.find?_eq_none];intro x hx hb;simp at hx;subst hx;exact h (eq_of_beq hb).symm
  rw[h2,Option.or_none]
namespace FI
variable {fd : Int} {W : List (Int × En)} {lg k m : Nat} {F : Fv}
theorem put (h:FI fd W lg F) {e:En} (he:FitR e/\e.role≠4/\e.lpn<(lg:Int)):FI fd W lg (F.put e)/\∀i,cur W (F.put e).L i=if i=e.lpn then e.data else cur W F.L i:=by
 refine⟨⟨h.inv,h.hd,h.wok,h.wr,h.log,h.lgn,h.lg2,λx hx=>?_,?_,h.off⟩,λi=>b5t W F.L {e with seq:=F.nx} i⟩
 ·have hx:x∈(F.L.filter λy:En=>!(y.lpn==e.lpn))++[({e with seq:=F.nx}:En)]:=hx;rcases List.mem_append.1 hx with hx | hx
  ·exact h.des x (List.mem_filter.1 hx).1
  ·simp at hx;rw[hx];exact⟨⟨he.1.lpn,he.1.role,he.1.len⟩,he.2.1,he.2.2⟩
 ·show(((F.L.filter λy:En=>!(y.lpn==e.lpn))++[({e with seq:=F.nx}:En)]).map (·.lpn)).Nodup;rw[List.map_append,List.nodup_append];refine⟨List.Nodup.sublist ((List.filter_sublist (p:=λx:En=>!(x.lpn==e.lpn)) (l:=F.L)).map (·.lpn)) h.nd,by simp,λa ha b hb hab=>?_⟩;obtain⟨x,hx,rfl⟩:=List.mem_map.1 ha;simp at hb;have:=(List.mem_filter.1 hx).2;rw[hab,hb]at this;simp at this
def costW:Nat:=Dv.costM+8*Dv.fuel
end FI
theorem b5x (D B P:Nat):V.all (Nand.new D B P)=[]:=by
 unfold V.all;rw[List.flatMap_eq_nil_iff];intro b _;rw[List.flatMap_eq_nil_iff];intro r _;refine b0Z λd=>?_;have:=a8o (N:=Nand.new D B P) (d:=(d:Nat)) (b:=(b:Nat)) (r:=(r:Nat)) (Nat.zero_le _);omega
theorem a9m (N:Nand) (n:Int):∀k,V.goS N [] n k=⟨Tb.new n,[],[],[]⟩
 | 0=>rfl
 | k+1=>by
  rw[V.goS_succ,a9m N n k];unfold V.step;rw[if_neg];show¬(V.standOf (V.of [] k)).2=true;rw[show V.of [] (k:Int)=[]from rfl,V.standOf_nil];exact Bool.false_ne_true
theorem b1L (D B P:Nat) (n:Int):V.scan (Nand.new D B P) n=⟨Tb.new n,[],0,[],1,0⟩:=by
 unfold V.scan V.scanOf;rw[b5x,a9m];have h1:n8 (I7 [])=[]:=a1s;dsimp only;rw[h1];rfl
theorem b1K {t:Tl} (hl:t.l.length=t.b) (k:Int):t.set k (t.at_ k)=t:=by
 unfold Tl.set;split
 ·rename_i h;have hk:=Tl.get_at hl h;have:t.l.set k.toNat (t.at_ k)=t.l:=by
   apply List.ext_getElem?;intro i;rw[List.getElem?_set];split
   ·rename_i e;subst e;rw[hk];split
    ·rfl
    ·rename_i h2;rw[List.getElem?_eq_none (by omega)]at hk;cases hk
   ·rfl
  rw[this]
 ·rfl
theorem a8F (D B P:Nat) (b:Int):(Tl.new D B P).at_ b=Sb.zero:=by
 unfold Tl.new Tl.at_;dsimp only;rw[List.getD_eq_getElem?_getD,List.getElem?_replicate];split<;>rfl
theorem b4I (D B P:Nat) (b d:Nat):Tl.ofD (Nand.new D B P) b (Tl.new D B P) d=Tl.new D B P:=by
 have hw:(Nand.new D B P).wornAt d b=0:=by unfold Nand.wornAt;split<;>rfl
 have hn:(Nand.new D B P).next d b=0:=by unfold Nand.next;split<;>rfl
 have h1:(Tl.new D B P).wore b 0=Tl.new D B P:=by
  have h2:=b1K (t:=Tl.new D B P) (by show(List.replicate B Sb.zero).length=B;rw[List.length_replicate]) (b:Int);unfold Tl.wore;rw[a8F]at h2 ⊢;exact h2
 unfold Tl.ofD;dsimp only;rw[hw,hn,h1,if_neg];simp
theorem b6l (D B P:Nat):Tl.of (Nand.new D B P)=Tl.new D B P:=by
 have hd:Dv.seeDead (Nand.new D B P) (Tl.new D B P)=Tl.new D B P:=a2U λi=>by
  show(List.replicate D false).getD i false=false;rw[List.getD_eq_getElem?_getD,List.getElem?_replicate];split<;>rfl
 have h1:∀(b:Nat) (q:List Nat),q.foldl (Tl.ofD (Nand.new D B P) b) (Tl.new D B P)=Tl.new D B P:=by
  intro b q
  induction q with
  | nil=>rfl
  | cons d q ih=>rw[List.foldl_cons,b4I,ih]
 have h2:∀q:List Nat,q.foldl (Tl.ofB (Nand.new D B P)) (Tl.new D B P)=Tl.new D B P:=by
  intro q
  induction q with
  | nil=>rfl
  | cons b q ih=>
   rw[List.foldl_cons];have:Tl.ofB (Nand.new D B P) (Tl.new D B P) b=Tl.new D B P:=h1 b _;rw[this,ih]
 unfold Tl.of;rw[show(Nand.new D B P).dies=D from rfl,show(Nand.new D B P).blocks=B from rfl,show(Nand.new D B P).pages=P from rfl,hd,h2]
theorem b1P {D B P k m:Nat} {lg:Int} (hO:(Dv.new D B P lg).Ok k m):(Dv.new D B P lg).clear=(Dv.new D B P lg,0)/\(Dv.new D B P lg).room=(Dv.new D B P lg,0):=by
 have hg:=hO.gd.ok.bd16;have hg:(3<=D/\D<=6)/\(8<=B/\B<=16)/\(2<=P/\P<=8):=hg;have hsp:f7 (j3 (Dv.new D B P lg).t (Dv.new D B P lg).T) (Dv.new D B P lg).op (Dv.new D B P lg).t.b=[]:=U3 _ λx hx=>by
  have hx:x<B:=hx;unfold j3 Tl.blank;rw[show(Dv.new D B P lg).t=Tl.new D B P from rfl,a8F,Tl.has_iff.2 (show 0<=(x:Int)/\(x:Int)<(Tl.new D B P).b by show 0<=(x:Int)/\(x:Int)<(B:Int);omega)];simp[Sb.zero]
 have hc:(Dv.new D B P lg).clear=(Dv.new D B P lg,0):=by
  unfold Dv.clear Dv.clearX;rw[hsp];rfl
 have hfr:((Dv.new D B P lg).free:Int)>4:=by
  have h1:=(Inv.new (-1) D B P lg).free_len (k:=k) (m:=m) hO;have h2:(Dv.new D B P lg).t.blanks=B:=by
   show(List.replicate B Sb.zero).countP _=B;rw[List.countP_replicate];rfl
  have h1:(Dv.new D B P lg).free=(Dv.new D B P lg).t.blanks:=h1;omega
 refine⟨hc,?_⟩;unfold Dv.room;rw[hc,if_neg (by simp)];obtain⟨c,hc2⟩:∃c,(Dv.new D B P lg).t.b=c+1:=⟨(Dv.new D B P lg).t.b-1,by show B=B-1+1;omega⟩;rw[hc2];show Dv.roomGo (c+1) (Dv.new D B P lg)=_;unfold Dv.roomGo;rw[if_pos hfr]
theorem a4M {D B P k m:Nat} (hO:(Dv.new D B P (lgN D B P)).Ok k m):u0 (Nand.new D B P)=(Dv.new D B P (lgN D B P),0):=by
 obtain⟨c1,c2⟩:=b1P hO;unfold u0;rw[show(Nand.new D B P).dies=D from rfl,show(Nand.new D B P).blocks=B from rfl,show(Nand.new D B P).pages=P from rfl,b1L,b6l];have e:(⟨Nand.new D B P,Tl.new D B P,Tb.new (lgN D B P),-1,0,0,max 1 1⟩:Dv)=Dv.new D B P (lgN D B P):=rfl;dsimp only;rw[e];have h1:(Dv.new D B P (lgN D B P)).holds [] true=Dv.new D B P (lgN D B P):=rfl;have h2:(Dv.new D B P (lgN D B P)).holds [] false=Dv.new D B P (lgN D B P):=rfl;have h3:(Dv.new D B P (lgN D B P)).torn []=(Dv.new D B P (lgN D B P),0):=rfl;rw[h1,List.take_nil,List.drop_nil,h3];dsimp only;rw[if_neg (by simp),h2,c1];dsimp only;rw[if_neg (by simp),h3];dsimp only;rw[if_neg (by simp)];exact c2
theorem FI.new (fd:Int) {D B P:Nat} (hD:3<=D/\D<=6) (hB:8<=B/\B<=16) (hP:2<=P/\P<=8) (hlg:lgN D B P<=200):FI fd [] (lgN D B P) (Fv.of (Dv.new D B P (lgN D B P))):=
 ⟨Inv.new fd D B P _,⟨rfl,λ_ _ he=>(by cases he)⟩,λ_ _ he=>(by cases he),λ_ _ he=>(by cases he),(by
  show min (max ((lgN D B P:Nat):Int) 0) 65536=_;omega),rfl,hlg,λ_ he=>(by cases he),List.nodup_nil,rfl⟩
namespace Rmy
variable {fd : Int} {S : Dv} {k m β : Nat} {W : List (Int × En)}
theorem pens {E:List En} (h:Rmy fd W S) (hO:S.Ok (8*Dv.fuel+k) m) (hot:Hot2 fd S β) (hr:β<S.rows) (hf:∀e∈E,FitR e) (hl0:E.length≠0) (hnd:(E.map (·.lpn)).Nodup) (hlg:∀e∈E,e.lpn<S.T.logical) (hcap:2*S.T.logical.toNat<=(S.N.blocks-5)*(S.N.pages*(S.N.dies-2))+1) (hnx:S.next<=1099511627775-1200):
  ∃(V:Dv) (n β':Nat),S.pen E=(V,(n:Int),(0:Int))/\1<=n/\n<=E.length/\Rmy fd (M5 W E n) V/\V.Ok k m/\Hot2 fd V β'/\β'<=β/\S.rows+β'<=V.rows+1+β/\S.next<=V.next/\V.next<=S.next+21/\V.N.dead=S.N.dead/\V.N.broken=S.N.broken/\S.N.Like V.N/\V.T.logical=S.T.logical:=by
 obtain⟨V,n,γ,p1,p2,p3,p4⟩:=h.inv.pen_step (E:=E) hO hot hr hf hl0 hnd hlg hnx h.hd;obtain⟨g1,g2⟩:=p2.hot β hot;have hrw:=p2.rows;have hn:=p2.n1;have hlen:(M5 W E n).length=V.T.at_.length:=by
  have:=congrArg List.length p4.keys;simpa using this.symm
 have hal:=b3J p3.T;obtain⟨w1,_⟩:WOk (M5 W E n)/\True:=by
  refine⟨?_,trivial⟩;have:∀j,j<=E.length->WOk (M5 W E j):=by
   intro j
   induction j with
   | zero=>intro _;exact h.wok
   | succ j ih=>
    intro hj;rw[O3];exact(ih (by omega)).put (hf _ (D5 (by omega)))
  exact this n hn
 refine⟨V,n,β-γ,p1,p2.n3,p2.n1,⟨p2.inv,p4,w1,λb hb=>by rw[p2.has]at hb;rw[(p2.sb b hb).1];exact h.held b hb,λhd i j=>by rw[(p2.flags i j).2];exact h.ff (λi=>by rw[<- p2.dead];exact hd i) i j,?_⟩,p3,g2,by omega,by omega,p2.next.1,p2.next.2,p2.dead,p2.broken,p2.like,p2.logical⟩;rw[p2.like.blocks,p2.like.pages,p2.like.dies,hlen];rw[p2.logical]at hal;omega
end Rmy
theorem GI.new (fd:Int) (D B P:Nat) (lg:Int):GI fd [] (Dv.new D B P lg):=
 ⟨Inv.new _ _ _ _ _,⟨rfl,λi e he=>(by cases he)⟩,λi e he=>(by cases he),λi a ha=>(by cases ha),λb r _ _=> .none λd c hc=>(by
  have:(Dv.new D B P lg).N.pageAt d b r=none:=by show(Nand.new D B P).pageAt d b r=none;unfold Nand.pageAt Nand.new;simp
  rw[this]at hc;cases hc),λ_ _ _=>rfl⟩
structure FC (W:List (Int×En)) (lg:Nat) (F:Fv):Prop where
 fi:FI (-1) W lg F
 rmy:Rmy (-1) W F.S
 no:NoF F.S
 rows:5*F.S.N.pages<=F.S.rows+1
 cap:2*lg<=(F.S.N.blocks-5)*(F.S.N.pages*(F.S.N.dies-2))+1
 gi:GI (-1) W F.S
namespace FC
variable {W : List (Int × En)} {lg k m : Nat} {F : Fv}
theorem writes (h:FC W lg F) (hO:F.S.Ok (Dv.costM+(8*Dv.fuel+k)) m) (hnx:F.S.next<=1099511627775-30000000) (hl0:F.L.length≠0):
  ∃(F':Fv) (W':List (Int×En)),F.writes=(F',0)/\FC W' lg F'/\(∀i,cur W' F'.L i=cur W F.L i)/\F'.S.Ok k m/\F'.S.next<=F.S.next+7000/\F'.nx=F.nx/\F'.S.N.broken=F.S.N.broken/\F.S.N.Like F'.S.N/\F'.L.length<F.L.length:=by
 have hg:=hO.gd.ok.bd16;have htb:=hO.t.b;obtain⟨V,β',v1,v2,v3,v4,v5,v6,v7,v8,v9,v10,v11,v12,v13⟩:=h.rmy.room (k:=8*Dv.fuel+k) (hO.less (by
  have:Dv.costR*F.S.t.b<=Dv.costR*16:=Nat.mul_le_mul_left _ (by omega);unfold Dv.costM;omega)) (.calm h.no) (by have:=h.rows;omega) (by omega) (by omega)
 obtain rfl:β'=0:=by omega
 have hmany:=v2.many v3 v4;obtain⟨hg1,hg2⟩:=h.gi.room (k:=8*Dv.fuel+k) hO (.calm h.no) (by have:=h.fi.log;have:=h.fi.lg2;omega) (by omega);rw[v1]at hg1 hg2;have hg1:GI (-1) W V:=hg1;have hg2:Hot2 (-1) V 0:=hg2;have hp:=v11.pages;have hlog:=h.fi.log;have hcap:2*V.T.logical.toNat<=(V.N.blocks-5)*(V.N.pages*(V.N.dies-2))+1:=by
  have:=h.cap;rw[v12,hlog,v11.blocks,v11.pages,v11.dies];omega
 obtain⟨U,n,β2,u1,u2,u3,u4,u5,u6,u7,u8,u9,u10,u11,u12,u13,u14⟩:=v2.pens (E:=F.L) v3 v6 (by omega) (λe he=>(h.fi.des e he).1) hl0 h.fi.nd (λe he=>by rw[v12,hlog];exact(h.fi.des e he).2.2) hcap (by omega);obtain rfl:β2=0:=by omega
 have hgi:GI (-1) (M5 W F.L n) U:=by
  rcases hg1.pen v3 hg2 (λe he=>(h.fi.des e he).1) hl0 h.fi.nd (λe he=>by rw[v12,hlog];exact(h.fi.des e he).2.2) (by omega)with⟨_,hr0⟩ | ⟨U2,n2,q1,_,_,q2,_⟩
  ·omega
  ·rw[u1]at q1;injection q1 with q3 q4;injection q4 with q4 _;have q4:n=n2:=by omega
   rw[q3,q4];exact q2
 obtain⟨w1,w2⟩:=a8M h.fi.wok h.fi.wr (λe he=>⟨(h.fi.des e he).1,(h.fi.des e he).2.1⟩) n u3;have hUno:NoF U:=u6.nof;have hlk:F.S.N.Like U.N:=v11.trans u13;have hwr:F.writes=({F with S:=U,L:=F.L.drop n}.told 0,0):=by
  unfold Fv.writes;rw[v1];dsimp only;rw[if_neg (by decide),u1];dsimp only;rw[Int.toNat_natCast,b0R h.fi.nd]
 refine⟨_,M5 W F.L n,hwr,⟨⟨u4.inv,u4.hd,w1,w2,u14.trans (v12.trans hlog),?_,h.fi.lg2,λx hx=>h.fi.des x (List.mem_of_mem_drop hx),?_,?_⟩,u4,hUno,?_,?_,hgi⟩,b3B h.fi.nd n u3,u5,?_,rfl,u12.trans v10,hlk,?_⟩
 ·have:=h.fi.lgn;unfold Fv.lg at this ⊢;show((lgN U.N.dies U.N.blocks U.N.pages:Nat):Int)=_;rw[hlk.dies,hlk.blocks,hlk.pages];exact this
 ·show((F.L.drop n).map (·.lpn)).Nodup;rw[List.map_drop];exact h.fi.nd.sublist (List.drop_sublist _ _)
 ·show(F.off||(0:Int)==9)=false;rw[h.fi.off];rfl
 ·show 5*U.N.pages<=U.rows+1;rw[u13.pages];omega
 ·show 2*lg<=(U.N.blocks-5)*(U.N.pages*(U.N.dies-2))+1;rw[hlk.blocks,hlk.pages,hlk.dies];exact h.cap
 ·show U.next<=_;omega
 ·show(F.L.drop n).length<_;rw[List.length_drop];omega
theorem put (h:FC W lg F) {e:En} (he:FitR e/\e.role≠4/\e.lpn<(lg:Int)):FC W lg (F.put e)/\∀i,cur W (F.put e).L i=if i=e.lpn then e.data else cur W F.L i:=by
 obtain⟨h1,h2⟩:=h.fi.put he;exact⟨⟨h1,h.rmy,h.no,h.rows,h.cap,h.gi⟩,h2⟩
theorem slots (h:FC W lg F) (hO:F.S.Ok k m):1<=F.S.slots:=by
 have hg:=hO.gd.ok.bd16;exact(h.fi.inv.slots_pos hO (by have:=h.rows;omega)).2
theorem waits (h:FC W lg F) (hO:F.S.Ok (Dv.costM+(8*Dv.fuel+k)) m) (hnx:F.S.next<=1099511627775-30000000) {e:En} (he:FitR e/\e.role≠4/\e.lpn<(lg:Int)):
  ∃(F':Fv) (W':List (Int×En)),F.waits e=(F',0)/\FC W' lg F'/\(∀i,cur W' F'.L i=if i=e.lpn then e.data else cur W F.L i)/\F'.S.Ok k m/\F'.S.next<=F.S.next+7000/\F'.S.N.broken=F.S.N.broken/\F.S.N.Like F'.S.N:=by
 have hlp:=he.1.lpn;unfold Fv.waits;rw[h.fi.ask,h.fi.off,if_neg Bool.false_ne_true,h.fi.lgn,if_neg (by omega)]
 by_cases hs:(F.L.length:Int)>=F.S.slots
 ·rw[if_pos hs];have h1:=h.slots (hO.less (Nat.le_refl _));obtain⟨G,W',w1,w2,w3,w4,w5,_,w6,w7,_⟩:=h.writes hO hnx (by omega);rw[w1];dsimp only;rw[if_neg (by decide)];obtain⟨p1,p2⟩:=w2.put he;exact⟨_,W',rfl,p1,λi=>by rw[p2,w3],w4,w5,w6,w7⟩
 ·rw[if_neg hs];obtain⟨p1,p2⟩:=h.put he;exact⟨_,W,rfl,p1,p2,hO.less (by omega),by show F.S.next<=_;omega,rfl,Nand.Like.refl _⟩
theorem flush_go:∀(f:Nat) (F:Fv) (W:List (Int×En)) (k:Nat),FC W lg F->F.S.Ok (FI.costW*f+k) m->F.L.length<=f->F.S.next+7000*(f:Int)<=1099511627775-30000000->
  ∃(F':Fv) (W':List (Int×En)),Fv.flushGo f F=(F',0)/\FC W' lg F'/\F'.S.Ok k m/\F'.S.next<=F.S.next+7000*(f:Int)/\F'.S.N.broken=F.S.N.broken/\F.S.N.Like F'.S.N/\F'.L=[]/\∀i,cur W' F'.L i=cur W F.L i
 | 0,F,W,k,h,hO,hL,_=>⟨F,W,rfl,h,hO.less (by omega),by omega,rfl,Nand.Like.refl _,List.eq_nil_of_length_eq_zero (by omega),λ_=>rfl⟩
 | f+1,F,W,k,h,hO,hL,hnx=>by
  rw[Fv.flushGo]
  by_cases hl0:F.L.length=0
  ·rw[if_pos hl0];exact⟨F,W,rfl,h,hO.less (by omega),by omega,rfl,Nand.Like.refl _,List.eq_nil_of_length_eq_zero hl0,λ_=>rfl⟩
  ·rw[if_neg hl0];rw[Nat.mul_succ]at hO;obtain⟨G,W',w1,w2,w3,w4,w5,_,w6,w7,w8⟩:=h.writes (k:=FI.costW*f+k) (hO.less (by unfold FI.costW;omega)) (by omega) hl0;rw[w1];dsimp only;rw[if_neg (by decide)];obtain⟨F',W2,r1,r2,r3,r4,r5,r6,r7,r8⟩:=flush_go f G W' k w2 w4 (by omega) (by omega);exact⟨F',W2,r1,r2,r3,by omega,r5.trans w6,w7.trans r6,r7,λi=>(r8 i).trans (w3 i)⟩
theorem flush (h:FC W lg F) (hO:F.S.Ok (FI.costW*200+k) m) (hnx:F.S.next<=1099511627775-50000000):
  ∃(F':Fv) (W':List (Int×En)),F.flush=(F',0)/\FC W' lg F'/\F'.S.Ok k m/\F'.S.next<=F.S.next+1400000/\F'.S.N.broken=F.S.N.broken/\F.S.N.Like F'.S.N/\F'.L=[]/\∀i,cur W' F'.L i=cur W F.L i:=by
 unfold Fv.flush;rw[h.fi.ask,h.fi.off,if_neg Bool.false_ne_true];have hl:=h.fi.len;have h2:=h.fi.lg2;have hm:FI.costW*F.L.length<=FI.costW*200:=Nat.mul_le_mul_left _ (by omega);obtain⟨F',W',r1,r2,r3,r4,r5⟩:=flush_go F.L.length F W k h (hO.less (by omega)) (Nat.le_refl _) (by omega);exact⟨F',W',r1,r2,r3,by omega,r5⟩
theorem new {D B P:Nat} (hD:3<=D/\D<=6) (hB:8<=B/\B<=16) (hP:2<=P/\P<=8) (hlg:lgN D B P<=200) (hcap:2*lgN D B P<=(B-5)*(P*(D-2))+1):FC [] (lgN D B P) (Fv.of (Dv.new D B P (lgN D B P))):=by
 refine⟨FI.new (-1) hD hB hP hlg,⟨Inv.new _ _ _ _ _,⟨rfl,λi e he=>(by cases he)⟩,λi e he=>(by cases he),λb _=>?_,λ_ _ _=>rfl,by simp⟩,NoF.new _ _ _ _,?_,hcap,GI.new _ _ _ _ _⟩
 ·show((Tl.new D B P).at_ b).held=false;rw[a8F];rfl
 ·show 5*P<=(Dv.new D B P (lgN D B P)).rows+1;rw[a9U];have:P*8<=P*B:=Nat.mul_le_mul_left _ hB.1;omega
end FC
end Go.Proofs.YtnffkcabeecopaaGreat
