/- Helpers. No condition. -/
import Derived.Test.YtmafiplddapokaaGreatU02
import Derived.Laws.MakeOwn
import Derived.Laws.OwnMore
import Derived.Maps.RangeRun
set_option maxRecDepth 20000
set_option linter.all false
namespace Go.Proofs.YtmafiplddapokaaGreat
section
open Go Go.RowKit

theorem rgo {P:Program} {w:World} {r:Nat} {es:Array MapEntry} {clock:Nat} (h:w.heap[r]? =some (.map es clock)):(getObj r).run P w= .ok (.map es clock) w:=by simp[getObj,Sem.run,h]
theorem rso {P:Program} {w:World} {r:Nat} {es:Array MapEntry} {clock:Nat} (o:Obj) (h:w.heap[r]? =some (.map es clock)):(setObj r o).run P w= .ok () {w with heap:=w.heap.setIfInBounds r o}:=by simp[setObj,Sem.run,h]
structure KeyOk (P:Program) (T:TypeId) {K:Type} [DecidableEq K] (kv:K->Value):Prop where
 now:∃d,P.underlying T=some d/\∀a b,Instr.sameNow d (kv a) (kv b)=none\/Instr.sameNow d (kv a) (kv b)=some (decide (a=b))
 eq:∀a b w,(Op.equal T (kv a) (kv b)).run P w= .ok (decide (a=b)) w
 check:∀e a w,(Instr.checkKey e 10000 T (kv a)).run P w= .ok () w
 bits:∀a,Instr.sameBits 10000 (kv a) (kv a)=true

section
variable {P : Program} {K : Type} [DecidableEq K] {kv : K → Value}

def fi:List (K×Value)->K->Nat->Option (Nat×Value)
 | [],_,_=>none
 | x::l,k,i=>if k=x.1 then some (i,x.2)else fi l k (i+1)
def Q6:List (K×Value)->K->Option Value
 | [],_=>none
 | x::l,k=>if k=x.1 then some x.2 else Q6 l k
def a1u:List (K×Value)->K->Value->List (K×Value)
 | [],k,v=>[(k,v)]
 | x::l,k,v=>if k=x.1 then(k,v)::l else x::a1u l k v
def a4H:List (K×Value)->K->List (K×Value)
 | [],_=>[]
 | x::l,k=>if k=x.1 then l else x::a4H l k

def a6L (w:World) (r:Nat) (kv:K->Value) (l:List (K×Value)):Prop:=
 ∃es clock,w.heap[r]? =some (.map es clock)/\es.toList.map (λe=>(e.key,e.val))=l.map (λx=>(kv x.1,x.2))/\(es.toList.map (·.born)).Nodup/\∀e∈es.toList,e.born<clock

theorem a8B (l:List (K×Value)) (k:K):∀i,(fi l k i).map (·.2)=Q6 l k:=by
 induction l with
 | nil=>intro i;rfl
 | cons x l ih=>
  intro i;unfold fi Q6;split
  ·rfl
  ·exact ih _

theorem a3D {T:TypeId} (hk:KeyOk P T kv) (k:K) (w:World):∀(es:List MapEntry) (l:List (K×Value)) (i:Nat),es.map (λe=>(e.key,e.val))=l.map (λx=>(kv x.1,x.2))->
  (Instr.findAsking T (kv k) es i).run P w= .ok (fi l k i) w
 | [],[],i,_=>by simp[Instr.findAsking,fi]
 | e::es,x::l,i,h=>by
  simp only[n4,Z6,C4]at h;obtain⟨⟨h1,h2⟩,h3⟩:=h;have ih:=a3D hk k w es l (i+1) h3;unfold Instr.findAsking fi;rw[h1,h2]
  by_cases hh:k=x.1
  ·simp[Sem.run_bind,hk.eq,hh]
  ·simp[Sem.run_bind,hk.eq,hh,ih]
 | [],_::_,_,h=>by simp at h
 | _::_,[],_,h=>by simp at h

theorem a8l {d:TypeDesc} (hd:∀a b,Instr.sameNow d (kv a) (kv b)=none\/Instr.sameNow d (kv a) (kv b)=some (decide (a=b))) (k:K):∀(es:List MapEntry) (l:List (K×Value)) (i:Nat),
  es.map (λe=>(e.key,e.val))=l.map (λx=>(kv x.1,x.2))->Instr.findNow d (kv k) es i=none\/Instr.findNow d (kv k) es i=some (fi l k i)
 | [],[],i,_=> .inr rfl
 | e::es,x::l,i,h=>by
  simp only[n4,Z6,C4]at h;obtain⟨⟨h1,h2⟩,h3⟩:=h;have ih:=a8l hd k es l (i+1) h3;unfold Instr.findNow fi;rw[h1,h2];rcases hd k x.1 with hs | hs
  ·rw[hs];exact .inl rfl
  ·rw[hs]
   by_cases hh:k=x.1
   ·simp[hh]
   ·simp[hh];exact ih
 | [],_::_,_,h=>by simp at h
 | _::_,[],_,h=>by simp at h

theorem a1B {T:TypeId} (hk:KeyOk P T kv) (k:K) (w:World) (es:List MapEntry) (l:List (K×Value)) (h:es.map (λe=>(e.key,e.val))=l.map (λx=>(kv x.1,x.2))):
  (Instr.findKey T (kv k) es).run P w= .ok (fi l k 0) w:=by
 obtain⟨d,hd,hn⟩:=hk.now;unfold Instr.findKey;rw[Sem.run_bind,run_underlying hd];rcases a8l hn k es l 0 h with h1 | h1
 ·simp only[Result.andThen_ok,h1];exact a3D hk k w es l 0 h
 ·simp only[Result.andThen_ok,h1];rfl

theorem b0p {MT T E:TypeId} (hk:KeyOk P T kv) (hm:P.underlying MT=some (.map T E)) {z:Value} (hz:∀w,(zeroValue E).run P w= .ok z w) {w:World} {r:Nat} {l:List (K×Value)} (h:a6L w r kv l) (k:K) (c:Bool):
  (Instr.lookup MT (.map (some r)) (kv k) c).run P w= .ok (if c then .tuple #[(Q6 l k).getD z, .bool (Q6 l k).isSome]else(Q6 l k).getD z) w:=by
 obtain⟨es,clock,h1,h2,_,_⟩:=h;have hf:=a1B hk k w es.toList l h2;have ha:=a8B l k 0;unfold Instr.lookup;simp only[Sem.run_bind,run_underlying hm,Result.andThen_ok,rgo h1,Sem.run_pure,hk.check,hf];rw[<- ha];cases fi l k 0 with
 | none=>simp only[Sem.run_bind,hz,Result.andThen_ok,Sem.run_pure,O3,Option.getD_none,Option.isSome_none]
 | some x=>simp only[Sem.run_bind,Result.andThen_ok,Sem.run_pure,C6,j3,a2m]

theorem a8n (l:List (K×Value)) (k:K):∀i j v,fi l k i=some (j,v)->i<=j/\j<i+l.length:=by
 induction l with
 | nil=>intro i j v h;cases h
 | cons x l ih=>
  intro i j v h;unfold fi at h;split at h
  ·injection h with h;injection h with h1 h2;subst h1;simp
  ·have:=ih _ _ _ h;simp;omega

theorem a4z:∀(es:List MapEntry) (l:List (K×Value)) (k:K) (v:Value) (i j:Nat) (u:Value),es.map (λe=>(e.key,e.val))=l.map (λx=>(kv x.1,x.2))->fi l k i=some (j,u)->
  (es.modify (j-i) λe=>{e with key:=kv k,val:=v}).map (λe=>(e.key,e.val))=(a1u l k v).map (λx=>(kv x.1,x.2))/\(es.modify (j-i) λe=>{e with key:=kv k,val:=v}).map (·.born)=es.map (·.born)
 | [],[],k,v,i,j,u,_,h=>by cases h
 | e::es,x::l,k,v,i,j,u,h,hf=>by
  simp only[n4,Z6,C4]at h;obtain⟨⟨h1,h2⟩,h3⟩:=h;unfold fi at hf;split at hf
  ·rename_i hh;injection hf with hf;injection hf with e1 e2;subst e1;simp[a1u,hh,h3]
  ·rename_i hh;have hl:=a8n _ _ _ _ _ hf;have ih:=a4z es l k v (i+1) j u h3 hf;obtain⟨m,hm⟩:∃m,j-i=m+1:=⟨j-(i+1),by omega⟩;have hm2:j-(i+1)=m:=by omega
   rw[hm2]at ih;simp[hm,a1u,hh,h1,h2,ih.1,ih.2]
 | [],_::_,_,_,_,_,_,h,_=>by simp at h
 | _::_,[],_,_,_,_,_,h,_=>by simp at h
theorem b9O (l:List (K×Value)) (k:K) (v:Value):∀i,fi l k i=none->a1u l k v=l++[(k,v)]:=by
 induction l with
 | nil=>intro i _;rfl
 | cons x l ih=>
  intro i h;unfold fi at h;split at h
  ·cases h
  ·rename_i hh;simp[a1u,hh,ih _ h]

def World.putObj' (w:World) (r:Nat) (o:Obj):World:={w with heap:=w.heap.setIfInBounds r o}
theorem W6 (w:World) (r:Nat) (o:Obj):w.grownBy (World.putObj' w r o) (some r):=
 ⟨rfl,rfl,rfl,by simp[World.putObj'],λk _ hk=>by simp only[World.putObj'];rw[Array.getElem?_setIfInBounds];rw[d6 (λe=>hk (by rw[e]))]⟩

theorem a6P {MT T E:TypeId} (hk:KeyOk P T kv) (hm:P.underlying MT=some (.map T E)) {w:World} {r:Nat} {l:List (K×Value)} (h:a6L w r kv l) (k:K) (v:Value):
  ∃w',(Instr.mapUpdate MT (.map (some r)) (kv k) v).run P w= .ok () w'/\a6L w' r kv (a1u l k v)/\w.grownBy w' (some r)/\w'.heap.size=w.heap.size:=by
 obtain⟨es,clock,h1,h2,h3,h4⟩:=h;have hf:=a1B hk k w es.toList l h2;have hr:r<w.heap.size:=(Array.getElem?_eq_some_iff.1 h1).1;unfold Instr.mapUpdate;simp only[Sem.run_bind,run_underlying hm,Result.andThen_ok,rgo h1,hk.check,hf];cases hfi:fi l k 0 with
 | none=>
  have hp:=b9O l k v 0 hfi;refine⟨World.putObj' w r (.map (es.push {key:=kv k,val:=v,born:=clock}) (clock+1)),?_,⟨es.push {key:=kv k,val:=v,born:=clock},clock+1,?_,?_,?_,?_⟩,W6 _ _ _,by simp[World.putObj']⟩
  ·simp only[rso _ h1];rfl
  ·simp[World.putObj',hr]
  ·rw[hp];simp[h2]
  ·simp only[Array.toList_push,t7,n4,R5];rw[M4];refine⟨h3,by simp,?_⟩;intro a ha b hb;simp at hb;obtain⟨e,he,rfl⟩:=List.mem_map.1 ha;have:=h4 e he;omega
  ·intro e he;simp at he;rcases he with he | rfl
   ·have:=h4 e (by simpa using he);omega
   ·simp
 | some x=>
  obtain⟨j,u⟩:=x;have hl:=a8n _ _ _ _ _ hfi;have hmp:=a4z es.toList l k v 0 j u h2 hfi;rw[a2P]at hmp;have hlen:es.toList.length=l.length:=by have:=congrArg List.length h2;simpa using this
  have hj:j<es.size:=by simp at hlen;omega
  have hkey:((es[j]?).map (·.key)).getD (kv k)=kv k:=by
   have hx:(es.toList.map (λe=>(e.key,e.val)))[j]? =(l.map (λx=>(kv x.1,x.2)))[j]?:=by rw[h2]
   have hfk:∀(l:List (K×Value)) i j u,fi l k i=some (j,u)->(l[j-i]?).map (·.1)=some k:=by
    intro l
    induction l with
    | nil=>intro i j u h;cases h
    | cons x l ih=>
     intro i j u h;unfold fi at h;split at h
     ·rename_i hh;injection h with h;injection h with e1 _;subst e1;simp[hh]
     ·have hl2:=a8n _ _ _ _ _ h;have:=ih _ _ _ h;rw[show j-i=(j-(i+1))+1 from by omega,V5];exact this
   have h5:=hfk l 0 j u hfi;rw[a2P]at h5;rw[i9,i9]at hx;simp only[D5]at hx;cases he:es[j]? with
   | none=>rfl
   | some e=>
    rw[he]at hx;cases hlj:l[j]? with
    | none=>rw[hlj]at hx;simp at hx
    | some y=>
     rw[hlj]at hx h5;simp only[C6,l6,C4]at hx h5;simp[hx.1,h5]
  refine⟨World.putObj' w r (.map (es.modify j λe=>{e with key:=kv k,val:=v}) clock),?_,⟨es.modify j λe=>{e with key:=kv k,val:=v},clock,?_,?_,?_,?_⟩,W6 _ _ _,by simp[World.putObj']⟩
  ·simp only[hkey,Instr.keyThatStays,hk.bits,X7,Sem.run_bind,Sem.run_pure,Result.andThen_ok,rso _ h1];rfl
  ·simp[World.putObj',hr]
  ·rw[Q7];exact hmp.1
  ·rw[Q7,hmp.2];exact h3
  ·intro e he;have:e.born∈(es.modify j λe=>{e with key:=kv k,val:=v}).toList.map (·.born):=L6 he;rw[Q7,hmp.2]at this;obtain⟨e',he',hb⟩:=List.mem_map.1 this;have:=h4 e' he';omega

theorem a9Q:∀(es:List MapEntry) (l:List (K×Value)) (k:K) (i j:Nat) (u:Value),es.map (λe=>(e.key,e.val))=l.map (λx=>(kv x.1,x.2))->fi l k i=some (j,u)->
  (es.eraseIdx (j-i)).map (λe=>(e.key,e.val))=(a4H l k).map (λx=>(kv x.1,x.2))
 | [],[],k,i,j,u,_,h=>by cases h
 | e::es,x::l,k,i,j,u,h,hf=>by
  simp only[n4,Z6,C4]at h;obtain⟨⟨h1,h2⟩,h3⟩:=h;unfold fi at hf;split at hf
  ·rename_i hh;injection hf with hf;injection hf with e1 e2;subst e1;simp[a4H,hh,h3]
  ·rename_i hh;have hl:=a8n _ _ _ _ _ hf;have ih:=a9Q es l k (i+1) j u h3 hf;obtain⟨m,hm⟩:∃m,j-i=m+1:=⟨j-(i+1),by omega⟩;have hm2:j-(i+1)=m:=by omega
   rw[hm2]at ih;simp[hm,a4H,hh,h1,h2,ih]
 | [],_::_,_,_,_,_,h,_=>by simp at h
 | _::_,[],_,_,_,_,h,_=>by simp at h
theorem a6D (l:List (K×Value)) (k:K):∀i,fi l k i=none->a4H l k=l:=by
 induction l with
 | nil=>intro i _;rfl
 | cons x l ih=>
  intro i h;unfold fi at h;split at h
  ·cases h
  ·rename_i hh;simp[a4H,hh,ih _ h]
theorem b0q {MT T E ty:TypeId} {ats:Array TypeId} (hk:KeyOk P T kv) (hm:P.underlying MT=some (.map T E)) (hat:ats[0]? =some MT) {w:World} {r:Nat} {l:List (K×Value)} (h:a6L w r kv l) (k:K):
  ∃w',(Builtin.delete_ ats ty #[.map (some r),kv k]).run P w= .ok (.tuple #[]) w'/\a6L w' r kv (a4H l k)/\w.grownBy w' (some r)/\w'.heap.size=w.heap.size:=by
 obtain⟨es,clock,h1,h2,h3,h4⟩:=h;have hf:=a1B hk k w es.toList l h2;have hr:r<w.heap.size:=(Array.getElem?_eq_some_iff.1 h1).1;unfold Builtin.delete_;have e0:(#[Value.map (some r),kv k]:Array Value)[0]? =some (.map (some r)):=rfl;have e1:(#[Value.map (some r),kv k]:Array Value)[1]? =some (kv k):=rfl;simp only[hat,e0,e1,Sem.run_bind,run_underlying hm,Result.andThen_ok,rgo h1,hk.check,hf];cases hfi:fi l k 0 with
 | none=>
  have hp:=a6D l k 0 hfi;refine⟨World.putObj' w r (.map es clock),?_,⟨es,clock,by simp[World.putObj',hr],by rw[hp];exact h2,h3,h4⟩,W6 _ _ _,by simp[World.putObj']⟩;simp only[Sem.run_bind,rso _ h1,Result.andThen_ok,Sem.run_pure];rfl
 | some x=>
  obtain⟨j,u⟩:=x;have hl:=a8n _ _ _ _ _ hfi;have hmp:=a9Q es.toList l k 0 j u h2 hfi;rw[a2P]at hmp;have hlen:es.toList.length=l.length:=by have:=congrArg List.length h2;simpa using this
  have hj:j<es.size:=by simp at hlen;omega
  have hto:(es.eraseIdxIfInBounds j).toList=es.toList.eraseIdx j:=by simp
  refine⟨World.putObj' w r (.map (es.eraseIdxIfInBounds j) clock),?_,⟨es.eraseIdxIfInBounds j,clock,by simp[World.putObj',hr],by rw[hto];exact hmp,?_,?_⟩,W6 _ _ _,by simp[World.putObj']⟩
  ·simp only[Sem.run_bind,rso _ h1,Result.andThen_ok,Sem.run_pure];rfl
  ·rw[hto];exact List.Nodup.sublist ((List.eraseIdx_sublist _ _).map _) h3
  ·intro e he;rw[hto]at he;exact h4 e (R2 he)
end

section
variable {P : Program} {K : Type} [DecidableEq K] {kv : K → Value} {ops : Array Oper} {rest : List Oper} {dst : Option Tmp} {ty : TypeId} {pos : String} {after : Array Edge} {a : Act} {w : World} {Q : Exit → Act → World → Prop}
end

def slv (a:Option Nat) (n cap:Nat):Value:= .slice (match a with | some g=>some ⟨g,0,none⟩ | none=>none) n cap
def a0V (e size:Nat) (a:Option Nat) (n cap:Nat) (xs:List Value) (h:Hl):Prop:=
 xs.length=n*size/\match a with
  | none=>n=0/\cap=0
  | some g=>∃cur:Array Value,h g=some (.cells cur e (0,0))/\n<=cap/\cap<=maxLen/\cur.size=cap*size/\cur.toList.take (n*size)=xs
def m9 (e size:Nat) (a:Option Nat) (n cap:Nat) (xs:List Value):Atom:= .hp ⟨a0V e size a n cap xs,λh h' l s=>by
 refine⟨s.1,?_⟩;have:=s.2;cases a with
 | none=>exact this
 | some g=>obtain⟨cur,h1,h2⟩:=this;exact⟨cur,l _ _ h1,h2⟩⟩
def b2Q {K:Type} (r:Nat) (kv:K->Value) (l:List (K×Value)) (h:Hl):Prop:=
 ∃es clock,h r=some (.map es clock)/\es.toList.map (λe=>(e.key,e.val))=l.map (λx=>(kv x.1,x.2))/\(es.toList.map (·.born)).Nodup/\∀e∈es.toList,e.born<clock
def U8 {K:Type} (r:Nat) (kv:K->Value) (l:List (K×Value)):Atom:= .hp ⟨b2Q r kv l,λ_ _ l ⟨es,c,h1,h2⟩=>⟨es,c,l _ _ h1,h2⟩⟩
section
variable {L : List Atom} {w w' : World}
theorem a7M {e size:Nat} {a:Option Nat} {n cap:Nat} {xs:List Value} (h:a0V e size a n cap xs (hl w)):w.ownsRow 0 e size (slv a n cap) n xs:=by
 refine⟨h.1,?_⟩;cases a with
 | none=>obtain⟨rfl,rfl⟩:=h.2;exact .inl ⟨rfl,rfl⟩
 | some g=>obtain⟨cur,h1,h2,h3,h4,h5⟩:=h.2;exact .inr ⟨g,cap,cur,rfl,j7 _,h1,h2,h3,h4,h5⟩
theorem b1r {e size:Nat} {v:Value} {n:Nat} {xs:List Value} (h:w.ownsRow 0 e size v n xs):∃a cap,v=slv a n cap/\a0V e size a n cap xs (hl w)/\v.ownBlock=a:=by
 rcases h.2 with⟨rfl,rfl⟩ | ⟨g,cap,cur,rfl,_,h1,h2,h3,h4,h5⟩
 ·exact⟨none,0,rfl,⟨h.1,rfl,rfl⟩,rfl⟩
 ·exact⟨some g,cap,rfl,⟨h.1,cur,h1,h2,h3,h4,h5⟩,rfl⟩
theorem Sep.step {i:Nat} {A A':Atom} {x x':Option Nat} (s:Sep L (hl w)) (hA:L[i]? =some A) (hx:∀h g,A.sat h->x=some g->∃o,h g=some o) (hg:w.grownBy w' x) (hx':x'=x\/x'=some w.heap.size) (hA':∀h,(∀g,x'=some g->h g=hl w' g)->A'.sat h):Sep (L.set i A') (hl w'):=by
 obtain⟨own,hw⟩:=s;have hi:i<L.length:=(List.getElem?_eq_some_iff.1 hA).1;have hown:∀g,x=some g->own g=i:=λg e=>by
  obtain⟨o,ho⟩:=hx _ g (hw i A hA) e;exact(res_some.1 ho).1
 refine⟨λb=>if x'=some b then i else own b,λj B hB=>?_⟩;rw[z8]at hB;split at hB
 ·rename_i e;injection hB with hB;subst hB;subst e;refine hA' _ λg hg'=>?_;unfold res;rw[d8 (by simp[hg'])]
 ·rename_i e;refine Atom.up (λb o hb=>?_) (hw j B hB);rw[res_some]at hb ⊢;have hlt:b<w.heap.size:=by
   rcases O7 b w.heap.size with h | h
   ·exact h
   ·have:=hb.2;simp only[hl]at this;rw[Q1 h]at this;cases this
  have hnx:x≠some b:=λe'=>e ((hown b e').symm.trans hb.1);have hnx':x'≠some b:=by
   rcases hx' with e' | e'
   ·rw[e'];exact hnx
   ·rw[e'];intro e2;injection e2 with e2;omega
  refine⟨by rw[d6 hnx'];exact hb.1,?_⟩;have:=hg.block b hlt (λe'=>hnx e'.symm);simp only[hl]at hb ⊢;rw[this];exact hb.2
theorem Ext.grown {x:Option Nat} (h:w.grownBy w' x):Ext w w':=⟨h.os,h.tape,h.output,h.size⟩
end
section
variable {X : Cx} {P : Program} {T : Tab} {K : List KI} {E : Env} {L : List Atom} {N : Nat} {F : HP} {Post : Value → List Atom → Prop} {rs : List ResultVar}
theorem J.append (hX:IsCx X P rs N F Post) (hT:TabOK P T) {ops:Array Oper} {C:Cl} {lt:Bool} {i:Nat} {t:PT} {o:Oper} {g:G} {x y:Operand} {st e size by_:Nat} {ks tgs:Nat} {gs:G} {a:Option Nat} {n cap:Nat} {xs:List Value} {ky tgy:Nat} {gy:G} {b m c ty:Nat} {cs:List Value} {s1 b1:Nat} {z1:List Value} {E':Value->Env} (is iy tag:Nat)
  (ho:J3 ops.toList i=some o) (hg:gd ops.toList E o=some g) (hgo:g.on=true) (hop:o.op= .call ⟨.builtin .append,#[x,y],#[st,st]⟩)
  (hx:ev E x=some ⟨ks,slv a n cap,tgs,gs⟩) (hvx:gs.on=true) (hy:ev E y=some ⟨ky, .slice (some ⟨b,0,none⟩) m c,tgy,gy⟩) (hvy:gy.on=true)
  (hLs:J3 L is=some (m9 e size a n cap xs)) (hLy:J3 L iy=some (.pt b ty cs)) (hst:T.get st=some ⟨.slice e size,s1,z1,b1⟩) {td:TD} {z:List Value} (he:T.get e=some ⟨td,size,z,by_⟩) (hz:Nat.beq z.length size=true)
  (hsz:Nat.blt 0 size=true) (hcs:cs.length=m*size) (h1:cs.all (·.oneCell')=true) (h63:n+m<=maxLen) (hbytes:(n+m)*by_<=140737488355328)
  (hd:∀v,W5 N o.dst v tag .tt E=some (E' v))
  (hJ:∀a' cap',∃L',U3 L is (m9 e size a' (n+m) cap' (xs++cs))=some L'/\Conj (M3 lt C L')/\J X (.reg ops C t::K) (E' (slv a' (n+m) cap')) L'):J X (.reg ops C (.alt lt i t .non)::K) E L:=by
 refine J.op hX (S:=λv L'=>∃a' cap',v=slv a' (n+m) cap'/\L'=L.set is (m9 e size a' (n+m) cap' (xs++cs))) tag ho hg hgo (λa0 w hen hs=>?_) hd (λv L' ⟨a',cap',e1,e2⟩=>by subst e1;subst e2;obtain⟨L2,q1,q2⟩:=hJ a' cap';rw[<- T8 q1];exact q2);obtain⟨d,f,zv,ok⟩:=B4 (hT.get hst);obtain⟨fe,rfl,g1,g2⟩:=ok.slice rfl;obtain⟨d',f',zv',ok'⟩:=B4 (hT.get he);have hf:fe=f':=by have:=g1.symm.trans ok'.hf;injection this
 subst hf;have hzz:z=zv'.cells.toList:=ok'.hzero;subst hzz;rw[J2]at hLs hLy;have hrow:=a7M (hs.get hLs);have hblk:Blk w b ty cs.toArray:=hs.pt hLy;have hnews:∀j u,cs[j]? =some u->w.cell? ((⟨b,0,none⟩:Addr).add j)=some u:=λj u hu=>by
  rw[Addr.add_none,hblk.cell,J6];simpa using hu
 have h1':∀u∈cs,u.oneCell'=true:=by simpa using h1
 obtain⟨v',w',r1,r2,r3,_,r5⟩:=run_append_own_at (P:=P) w 0 st o.type e fe zv' size by_ ok.hd ok'.hf ok'.hz g2 ok'.hbytes.symm (by have:=C8 hz;simpa using this) (L5 hsz) _ n xs hrow ⟨b,0,none⟩ m c cs hcs hnews h1' h63 hbytes (j7 _);obtain⟨a',cap',e1,e2,e3⟩:=b1r r2;subst e1;have ex:=C5 hen hx;have ey:=C5 hen hy;simp only[Slot.val,hvx,hvy]at ex ey;refine⟨_,_, .value (slv a' (n+m) cap'),w',⟨a',cap',rfl,rfl⟩,?_, .inl rfl,?_,Ext.grown r3⟩
 ·simp only[execOp,hop,resolve,Sem.run_bind,Sem.run_pure,Result.andThen_ok,invoke,builtin,a3w,n4,R5,ex,ey,r1]
 ·refine Sep.step hs hLs (x:=(slv a n cap).ownBlock) (x':=a') (λh g0 hh he0=>?_) r3 (by rw[<- e3];exact r5) (λh hh=>⟨e2.1,?_⟩)
  ·cases a with
   | none=>simp[slv,Value.ownBlock]at he0
   | some ga=>
    simp only[slv,Value.ownBlock,l6]at he0;subst he0;obtain⟨cur,h1,_⟩:=hh.2;exact⟨_,h1⟩
  ·have e22:=e2.2;cases a' with
   | none=>exact e22
   | some ga=>
    obtain⟨cur,q1,q2⟩:=e22;exact⟨cur,(hh ga rfl).trans q1,q2⟩
def TD.one:TD->Bool
 | .row _ | .arr _ _=>false
 | _=>true
section
variable {P : Program} {T : Tab} {E : Env} {n : Nat} {a : Act} {w : World}
theorem TIOK.one {t:TypeId} {i:TI} {d:TypeDesc} {f:TypeInfo} {z:Value} (ok:TIOK P t i d f z) (h:i.d.one=true):a0i d=false:=by
 have htd:=ok.htd;cases d<;>simp[a0i]<;>simp[a6O]at htd
 ·obtain⟨g,h1,h2⟩:=htd;rw[<- h2]at h;cases h
 ·obtain⟨g,h1,h2⟩:=htd;rw[<- h2]at h;cases h
theorem TIOK.many {t:TypeId} {i:TI} {d:TypeDesc} {f:TypeInfo} {z:Value} (ok:TIOK P t i d f z) (h:i.d.one=false):a0i d=true:=by
 have htd:=ok.htd;cases d<;>first | rfl | (simp[a6O]at htd;(try obtain⟨g,h1,h2⟩:=htd);first | (rw[<- htd]at h;cases h) | (rw[<- h2]at h;cases h))
theorem D4 (hT:TabOK P T) {o:Oper} {t:TypeId} {x:Operand} {k tg b off ty:Nat} {g:G} {ti:TI} {cs:List Value} {v:Value} (hop:o.op= .load t x) (hx:ev E x=some ⟨k, .pointer (some ⟨b,off,none⟩),tg,g⟩) (he:EnvOK n E a) (hg:g.on=true) (hti:T.get t=some ti) (h1:ti.d.one=true)
  (hb:hl w b=some (.cells cs.toArray ty (0,0))) (hv:cs[off]? =some v):(execOp a.eval o).run P w= .ok (.value v) w:=by
 have ex:=C5 he hx;simp only[Slot.val,hg]at ex;obtain⟨d,f,z,ok⟩:=B4 (hT.get hti);have hblk:Blk w b ty cs.toArray:=hb;have hc:w.cell? ⟨b,off,none⟩=some v:=by rw[hblk.cell];simpa using hv
 simp only[execOp,hop,ex,Instr.loadAt,Instr.sureAddr,Sem.run_bind,Sem.run_pure,Result.andThen_ok,a1O ok.hd (ok.one h1) hc]
theorem H9 (hT:TabOK P T) {o:Oper} {t:TypeId} {x:Operand} {k tg b off ty:Nat} {g:G} {ti:TI} {cs l:List Value} (hop:o.op= .load t x) (hx:ev E x=some ⟨k, .pointer (some ⟨b,off,none⟩),tg,g⟩) (he:EnvOK n E a) (hg:g.on=true) (hti:T.get t=some ti) (h1:ti.d.one=false)
  (hb:hl w b=some (.cells cs.toArray ty (0,0))) (hv:(cs.drop off).take ti.size=l) (hl:l.length=ti.size):(execOp a.eval o).run P w= .ok (.value (.agg l.toArray)) w:=by
 have ex:=C5 he hx;simp only[Slot.val,hg]at ex;obtain⟨d,f,z,ok⟩:=B4 (hT.get hti);have hblk:Blk w b ty cs.toArray:=hb;have hm:=ok.many h1;have hr:=run_loadVar_mid (P:=P) w b off t l d (a6p hblk off l (by rw[hl];exact hv)) ok.hd (by cases d<;>simp_all [a0i,TypeDesc.isRow]) (by rw[ok.hf];simp[hl,ok.hsize]);simp only[execOp,hop,ex,Instr.loadAt,Instr.sureAddr,Sem.run_bind,Sem.run_pure,Result.andThen_ok,hr]
end
section
variable {P : Program} {T : Tab} {E : Env} {n : Nat} {a : Act} {w : World}
theorem I2 (hT:TabOK P T) {o:Oper} {t:TypeId} {x:Operand} {k tg b off e size m cap:Nat} {g:G} {ti:TI} {xs:List Value} {v:Value} (hop:o.op= .load t x) (hx:ev E x=some ⟨k, .pointer (some ⟨b,off,none⟩),tg,g⟩) (he:EnvOK n E a) (hg:g.on=true) (hti:T.get t=some ti) (h1:ti.d.one=true)
  (hb:a0V e size (some b) m cap xs (hl w)) (hv:xs[off]? =some v):(execOp a.eval o).run P w= .ok (.value v) w:=by
 obtain⟨_,cur,h2,h3,h4,h5,h6⟩:=hb;refine D4 hT hop hx he hg hti h1 (cs:=cur.toList) (ty:=e) (by rw[h2]) ?_;rw[<- h6,C2]at hv;split at hv
 ·exact hv
 ·cases hv
theorem J8 (hT:TabOK P T) {o:Oper} {t:TypeId} {x:Operand} {k tg b off e size m cap:Nat} {g:G} {ti:TI} {xs l:List Value} (hop:o.op= .load t x) (hx:ev E x=some ⟨k, .pointer (some ⟨b,off,none⟩),tg,g⟩) (he:EnvOK n E a) (hg:g.on=true) (hti:T.get t=some ti) (h1:ti.d.one=false)
  (hb:a0V e size (some b) m cap xs (hl w)) (hv:(xs.drop off).take ti.size=l) (hl:l.length=ti.size):(execOp a.eval o).run P w= .ok (.value (.agg l.toArray)) w:=by
 obtain⟨h0,cur,h2,h3,h4,h5,h6⟩:=hb;refine H9 hT hop hx he hg hti h1 (cs:=cur.toList) (ty:=e) (by rw[h2]) ?_ hl;have:off+ti.size<=xs.length\/ti.size=0:=by
  have:=congrArg List.length hv;simp at this;omega
 rcases this with h | h
 ·rw[<- hv,<- h6];apply x9;intro j;simp only[C2,K8];split
  ·rw[d8 (by omega)]
  ·rfl
 ·rw[<- hv,h];simp
end
section
variable {P : Program} {KK : Type} [DecidableEq KK] {kv : KK → Value} {E : Env} {L : List Atom} {n : Nat} {a : Act} {w : World}
theorem I5 {KT MT ET:TypeId} (hk:KeyOk P KT kv) (hm:P.underlying MT=some (.map KT ET)) {z:Value} (hz:∀w,(zeroValue ET).run P w= .ok z w) {o:Oper} {x y:Operand} {c:Bool} {r:Nat} {l:List (KK×Value)} {key:KK} {k1 k2 t1 t2:Nat} {g1 g2:G} {u:Value}
  (hop:o.op= .lookup MT x y c) (hx:ev E x=some ⟨k1, .map (some r),t1,g1⟩) (hy:ev E y=some ⟨k2,u,t2,g2⟩) (hu:u=kv key) (he:EnvOK n E a) (v1:g1.on=true) (v2:g2.on=true) (hmap:b2Q r kv l (hl w)):
  (execOp a.eval o).run P w= .ok (.value (match c with | true=> .tuple #[(Q6 l key).getD z, .bool (Q6 l key).isSome] | false=>(Q6 l key).getD z)) w:=by
 have ex:=C5 he hx;have ey:=C5 he hy;simp only[Slot.val,v1,v2]at ex ey;have hr:=b0p (P:=P) hk hm hz (w:=w) hmap key c;rw[hu]at ey;simp only[execOp,hop,ex,ey,Sem.run_bind,hr,Result.andThen_ok,Sem.run_pure];cases c<;>rfl
theorem a6w {KT MT ET:TypeId} (hm:P.underlying MT=some (.map KT ET)) {o:Oper} {x:Operand} {r:Nat} {l:List (KK×Value)} {k1 t1:Nat} {g1:G} (hop:o.op= .call ⟨.builtin .len,#[x],#[MT]⟩) (hx:ev E x=some ⟨k1, .map (some r),t1,g1⟩) (he:EnvOK n E a) (v1:g1.on=true) (hmap:b2Q r kv l (hl w)):
  (execOp a.eval o).run P w= .ok (.value (.int .i64 (l.length:Int))) w:=by
 have ex:=C5 he hx;simp only[Slot.val,v1]at ex;obtain⟨es,cl,h1,h2,_⟩:=hmap;have hl:es.size=l.length:=by have:=congrArg List.length h2;simpa using this
 have hgo:(getObj r).run P w= .ok (.map es cl) w:=rgo h1;simp[execOp,hop,resolve,invoke,builtin,Builtin.len_,ex,s8 hm,hgo,goInt,hl]
end
section
variable {X : Cx} {P : Program} {K : List KI} {E : Env} {L : List Atom} {N : Nat} {F : HP} {Post : Value → List Atom → Prop} {rs : List ResultVar} {KK : Type} [DecidableEq KK] {kv : KK → Value}
theorem Sep.mapStep {w w':World} {i r:Nat} {l l':List (KK×Value)} (s:Sep L (hl w)) (hA:L[i]? =some (U8 r kv l)) (hg:w.grownBy w' (some r)) (hm:a6L w' r kv l'):Sep (L.set i (U8 r kv l')) (hl w'):=
 Sep.step s hA (x:=some r) (x':=some r) (λh g ⟨es,c,h1,_⟩ e=>by injection e with e;subst e;exact⟨_,h1⟩) hg (.inl rfl) (λh hh=>by
  obtain⟨es,c,h1,h2⟩:=hm;exact⟨es,c,(hh r rfl).trans h1,h2⟩)
theorem J.mapUpdate (hX:IsCx X P rs N F Post) {KT MT ET:TypeId} (hk:KeyOk P KT kv) (hm:P.underlying MT=some (.map KT ET)) {ops:Array Oper} {C:Cl} {lt:Bool} {i:Nat} {t:PT} {o:Oper} {g:G} {x y u:Operand} {r:Nat} {l:List (KK×Value)} (key:KK) {k1 k2 k3 t1 t2 t3:Nat} {g1 g2 g3:G} {kvv v:Value} {E':Value->Env} (im:Nat)
  (ho:J3 ops.toList i=some o) (hg:gd ops.toList E o=some g) (hgo:g.on=true) (hop:o.op= .mapUpdate MT x y u) (hx:ev E x=some ⟨k1, .map (some r),t1,g1⟩) (v1:g1.on=true) (hy:ev E y=some ⟨k2,kvv,t2,g2⟩) (v2:g2.on=true) (hkv:kvv=kv key) (hu:ev E u=some ⟨k3,v,t3,g3⟩) (v3:g3.on=true)
  (hL:J3 L im=some (U8 r kv l)) (hd:∀v,W5 N o.dst v 0 .tt E=some (E' v)) {L2:List Atom} (hL2:U3 L im (U8 r kv (a1u l key v))=some L2) (hJ:Conj (M3 lt C L2)/\J X (.reg ops C t::K) (E' undef) L2):J X (.reg ops C (.alt lt i t .non)::K) E L:=by
 refine J.op hX (S:=λv' L'=>v'=undef/\L'=L.set im (U8 r kv (a1u l key v))) 0 ho hg hgo (λa0 w hen hs=>?_) hd (λv L' ⟨e1,e2⟩=>by subst e1;subst e2;rw[<- T8 hL2];exact hJ);rw[J2]at hL;have ex:=C5 hen hx;have ey:=C5 hen hy;have eu:=C5 hen hu;simp only[Slot.val,v1,v2,v3]at ex ey eu;rw[hkv]at ey;have hmap:a6L w r kv l:=hs.get hL;obtain⟨w',r1,r2,r3,r4⟩:=a6P (P:=P) hk hm hmap key v;exact⟨undef,_, .skip,w',⟨rfl,rfl⟩,by simp only[execOp,hop,ex,ey,eu,Sem.run_bind,r1,Result.andThen_ok,Sem.run_pure], .inr ⟨rfl,rfl⟩,Sep.mapStep hs hL r3 r2,Ext.grown r3⟩
theorem J.delete (hX:IsCx X P rs N F Post) {KT MT ET:TypeId} (hk:KeyOk P KT kv) (hm:P.underlying MT=some (.map KT ET)) {ops:Array Oper} {C:Cl} {lt:Bool} {i:Nat} {t:PT} {o:Oper} {g:G} {x y:Operand} {r:Nat} {l:List (KK×Value)} (key:KK) {k1 k2 t1 t2 t3:Nat} {g1 g2:G} {kvv:Value} {E':Value->Env} (im:Nat)
  (ho:J3 ops.toList i=some o) (hg:gd ops.toList E o=some g) (hgo:g.on=true) (hop:o.op= .call ⟨.builtin .delete,#[x,y],#[MT,t3]⟩) (hx:ev E x=some ⟨k1, .map (some r),t1,g1⟩) (v1:g1.on=true) (hy:ev E y=some ⟨k2,kvv,t2,g2⟩) (v2:g2.on=true) (hkv:kvv=kv key)
  (hL:J3 L im=some (U8 r kv l)) (hd:∀v,W5 N o.dst v 0 .tt E=some (E' v)) {L2:List Atom} (hL2:U3 L im (U8 r kv (a4H l key))=some L2) (hJ:Conj (M3 lt C L2)/\J X (.reg ops C t::K) (E' (.tuple #[])) L2):J X (.reg ops C (.alt lt i t .non)::K) E L:=by
 refine J.op hX (S:=λv' L'=>v'= .tuple #[]/\L'=L.set im (U8 r kv (a4H l key))) 0 ho hg hgo (λa0 w hen hs=>?_) hd (λv L' ⟨e1,e2⟩=>by subst e1;subst e2;rw[<- T8 hL2];exact hJ);rw[J2]at hL;have ex:=C5 hen hx;have ey:=C5 hen hy;simp only[Slot.val,v1,v2]at ex ey;rw[hkv]at ey;have hmap:a6L w r kv l:=hs.get hL;obtain⟨w',r1,r2,r3,r4⟩:=b0q (P:=P) (ty:=o.type) (ats:= #[MT,t3]) hk hm rfl hmap key;exact⟨_,_, .value (.tuple #[]),w',⟨rfl,rfl⟩,by simp only[execOp,hop,resolve,Sem.run_bind,Sem.run_pure,Result.andThen_ok,invoke,builtin,a3w,n4,R5,ex,ey,r1], .inl rfl,Sep.mapStep hs hL r3 r2,Ext.grown r3⟩
theorem b1J {α:Type} {v:α}:∀{cs:List α} {off:Nat},off<cs.length->a1L cs off [v]=some (cs.set off v)
 | [],_,h=>by simp at h
 | c::cs,0,_=>by cases cs<;>rfl
 | c::cs,k+1,h=>by simp only[a1L,R6,b1J (cs:=cs) (off:=k) (by simpa using h)]
theorem J.store1 {T:Tab} (hX:IsCx X P rs N F Post) (hT:TabOK P T) {ops:Array Oper} {C:Cl} {lt:Bool} {i:Nat} {t:PT} {o:Oper} {g:G} {ty0:TypeId} {x y:Operand} {k1 k2 t1 t2 b off ty:Nat} {g1 g2:G} {v:Value} {cs:List Value} {ti:TI} {E':Value->Env} (is:Nat)
  (ho:J3 ops.toList i=some o) (hg:gd ops.toList E o=some g) (hgo:g.on=true) (hop:o.op= .store ty0 x y) (hx:ev E x=some ⟨k1, .pointer (some ⟨b,off,none⟩),t1,g1⟩) (v1:g1.on=true) (hy:ev E y=some ⟨k2,v,t2,g2⟩) (v2:g2.on=true)
  (hti:T.get ty0=some ti) (hsz:Nat.beq ti.size 1=true) (hc:v.cells.toList=[v]) (h1:v.oneCell'=true) (hL:J3 L is=some (.pt b ty cs)) (hlt:off<cs.length) (cs':List Value) (hcs:cs.set off v=cs') {L2:List Atom} (hL2:U3 L is (.pt b ty cs')=some L2)
  (hd:∀v,W5 N o.dst v 0 .tt E=some (E' v)) (hJ:Conj (M3 lt C L2)/\J X (.reg ops C t::K) (E' undef) L2):J X (.reg ops C (.alt lt i t .non)::K) E L:=by
 refine J.op hX (S:=λv' L'=>v'=undef/\L'=L.set is (.pt b ty cs')) 0 ho hg hgo (λa0 w hen hs=>?_) hd (λv L' ⟨e1,e2⟩=>by subst e1;subst e2;rw[<- T8 hL2];exact hJ);rw[J2]at hL;have ex:=C5 hen hx;have ey:=C5 hen hy;simp only[Slot.val,v1,v2]at ex ey;obtain⟨d,f,z,ok⟩:=B4 (hT.get hti);have hblk:Blk w b ty cs.toArray:=hs.pt hL;have hput:a1L cs (off+0) [v]=some cs':=by rw[R3,<- hcs];exact b1J hlt
 obtain⟨w',r1,r2,r3⟩:=Y3 (P:=P) [v] 0 w cs cs' hblk hput (by simp[h1]);have hsize:v.cells.size=f.size:=by
  have:=C8 hsz;rw[<- ok.hsize,this,<- Q8,hc];rfl
 refine⟨undef,_, .skip,w',⟨rfl,rfl⟩,?_, .inr ⟨rfl,rfl⟩,?_,r3⟩
 ·simp only[execOp,hop,ex,ey,Instr.storeAt,Instr.sureAddr,Sem.run_bind,Sem.run_pure,Result.andThen_ok,storeVar,J0 ok.hf];simp[hsize,hc,r1]
 ·rw[r2];exact hs.setPt cs' hL
end
end
theorem Sep.one {A:Atom} {h:Hl} (hA:A.sat h):Sep [A] h:=⟨λ_=>0,λi B hB=>by
 cases i with
 | zero=>simp at hB;subst hB;exact A.up (λb o hb=>res_some.2 ⟨rfl,hb⟩) hA
 | succ k=>simp at hB⟩
theorem a8a {α:Type}:∀(cs:List α) (off:Nat) (xs:List α),off+xs.length<=cs.length->a1L cs off xs=some (cs.take off++xs++cs.drop (off+xs.length))
 | cs,0,xs,h=>by
  simp only[List.take_zero,R4,J6];have e:a1L cs 0 xs=a3o cs xs:=by cases cs<;>rfl
  rw[e];clear e
  induction xs generalizing cs with
  | nil=>cases cs<;>rfl
  | cons x xs ih=>
   cases cs with
   | nil=>simp at h
   | cons c cs=>
    simp only[a3o,ih cs (by simp at h ⊢;omega),U6,l5,a1F]
 | [],k+1,xs,h=>by simp at h
 | c::cs,k+1,xs,h=>by
  simp only[a1L,a8a cs k xs (by simp at h;omega),a4I,U6];rw[show k+1+xs.length=(k+xs.length)+1 from by omega,a1F]
def subV (E:Env):Env->List Prop
 | []=>[]
 | s::r=>((E.get s.k).map Slot.val=some s.val)::subV E r
theorem EnvOK.subV {n:Nat} {E E':Env} {a:Act} (h:EnvOK n E a) (hs:Conj (subV E E')):EnvOK n E' a:=by
 refine⟨h.size,h.defers,?_⟩
 induction E' with
 | nil=>intro k s hk;cases hk
 | cons s' r ih=>
  intro k s hk;simp only[Env.get]at hk;split at hk
  ·rename_i e;have:=C8 e;injection hk with hk;subst hk;subst this;have h1:=hs.1;cases h2:E.get s'.k with
   | none=>rw[h2]at h1;cases h1
   | some u=>
    rw[h2]at h1;have h3:u.val=s'.val:=by simpa using h1
    have:=h.slot _ _ h2;rw[h3]at this;exact this
  ·exact ih hs.2 k s hk
section
variable {X : Cx} {P : Program} {T : Tab} {K : List KI} {E : Env} {L : List Atom} {N : Nat} {F : HP} {Post : Value → List Atom → Prop} {rs : List ResultVar}
theorem J.openOwn {e size g n cap:Nat} {xs:List Value} {L':List Value->List Atom} (i:Nat) (ok:P4 L [i]=true) (hp:N9 L [i]=[m9 e size (some g) n cap xs]) (hL:∀r,a0W L [i] [.pt g e (xs++r)]=some (L' r))
  (h:∀r:List Value,xs.length=n*size->n<=cap->cap<=maxLen->xs.length+r.length=cap*size->J X K E (L' r)):J X K E L:=by
 refine J.turn [i] ok (α:={r:List Value//xs.length=n*size/\n<=cap/\cap<=maxLen/\xs.length+r.length=cap*size}) (As:=λr=>[.pt g e (xs++r.1)]) (L':=λr=>L' r.1) (λh' s=>?_) (λr=>hL r.1) (λr=>h r.1 r.2.1 r.2.2.1 r.2.2.2.1 r.2.2.2.2);rw[hp]at s;obtain⟨h0,cur,h1,h2,h3,h4,h5⟩:=s.get (i:=0) rfl;refine⟨⟨cur.toList.drop (n*size),h0,h2,h3,?_⟩,Sep.one ?_⟩
 ·have hle:n*size<=cap*size:=B5 _ h2;have h4':cur.toList.length=cap*size:=h4;rw[C1,h4',h0];omega
 ·show h' g=_;rw[h1];show some (Obj.cells cur e (0,0))=some (Obj.cells (xs++cur.toList.drop (n*size)).toArray e (0,0));rw[<- h5,C9]
theorem J.closeOwn {e size g n cap:Nat} {xs ys:List Value} {L':List Atom} (i:Nat) (ok:P4 L [i]=true) (hp:N9 L [i]=[.pt g e ys]) (h0:xs.length=n*size) (h2:n<=cap) (h3:cap<=maxLen) (h4:ys.length=cap*size) (h5:ys.take (n*size)=xs)
  (hL:a0W L [i] [m9 e size (some g) n cap xs]=some L') (h:J X K E L'):J X K E L:=by
 refine J.turn1 [i] ok (λh' s=>?_) hL h;rw[hp]at s;exact Sep.one (show a0V e size (some g) n cap xs h' from⟨h0,ys.toArray,s.get (i:=0) rfl,h2,h3,by simpa using h4,by simpa using h5⟩)
theorem J.storeN {T:Tab} (hX:IsCx X P rs N F Post) (hT:TabOK P T) {ops:Array Oper} {C:Cl} {lt:Bool} {i:Nat} {t:PT} {o:Oper} {g:G} {ty0:TypeId} {x y:Operand} {k1 k2 t1 t2 b off ty:Nat} {g1 g2:G} {v:Value} {cs vs:List Value} {ti:TI} {E':Value->Env} (is:Nat)
  (ho:J3 ops.toList i=some o) (hg:gd ops.toList E o=some g) (hgo:g.on=true) (hop:o.op= .store ty0 x y) (hx:ev E x=some ⟨k1, .pointer (some ⟨b,off,none⟩),t1,g1⟩) (v1:g1.on=true) (hy:ev E y=some ⟨k2,v,t2,g2⟩) (v2:g2.on=true)
  (hti:T.get ty0=some ti) (hc:v.cells.toList=vs) (hsz:ti.size=vs.length) (h1:vs.all (·.oneCell')=true) (hL:J3 L is=some (.pt b ty cs)) (hlt:off+vs.length<=cs.length) (cs':List Value) (hcs:cs.take off++vs++cs.drop (off+vs.length)=cs') {L2:List Atom} (hL2:U3 L is (.pt b ty cs')=some L2)
  (hd:∀v,W5 N o.dst v 0 .tt E=some (E' v)) (hJ:Conj (M3 lt C L2)/\J X (.reg ops C t::K) (E' undef) L2):J X (.reg ops C (.alt lt i t .non)::K) E L:=by
 refine J.op hX (S:=λv' L'=>v'=undef/\L'=L.set is (.pt b ty cs')) 0 ho hg hgo (λa0 w hen hs=>?_) hd (λv L' ⟨e1,e2⟩=>by subst e1;subst e2;rw[<- T8 hL2];exact hJ);rw[J2]at hL;have ex:=C5 hen hx;have ey:=C5 hen hy;simp only[Slot.val,v1,v2]at ex ey;obtain⟨d,f,z,ok⟩:=B4 (hT.get hti);have hblk:Blk w b ty cs.toArray:=hs.pt hL;have hput:a1L cs (off+0) vs=some cs':=by rw[R3,<- hcs];exact a8a _ _ _ hlt
 obtain⟨w',r1,r2,r3⟩:=Y3 (P:=P) vs 0 w cs cs' hblk hput h1;have hsize:v.cells.size=f.size:=by
  rw[<- ok.hsize,hsz,<- Q8,hc]
 refine⟨undef,_, .skip,w',⟨rfl,rfl⟩,?_, .inr ⟨rfl,rfl⟩,?_,r3⟩
 ·simp only[execOp,hop,ex,ey,Instr.storeAt,Instr.sureAddr,Sem.run_bind,Sem.run_pure,Result.andThen_ok,storeVar,J0 ok.hf];simp[hsize,hc,r1]
 ·rw[r2];exact hs.setPt cs' hL
theorem J.makeSlice {T:Tab} (hX:IsCx X P rs N F Post) (hT:TabOK P T) {ops:Array Oper} {C:Cl} {lt:Bool} {i:Nat} {t:PT} {o:Oper} {g:G} {st e by_:Nat} {x y:Operand} {k1 k2 t1 t2 n s1 b1:Nat} {kl kc:IntKind} {g1 g2:G} {z1:List Value} {z:Value} {td:TD} {E':Value->Env} {L2:Nat->List Atom} (tag:Nat)
  (ho:J3 ops.toList i=some o) (hg:gd ops.toList E o=some g) (hgo:g.on=true) (hop:o.op= .makeSlice st x y) (hx:ev E x=some ⟨k1, .int kl n,t1,g1⟩) (v1:g1.on=true) (hy:ev E y=some ⟨k2, .int kc n,t2,g2⟩) (v2:g2.on=true)
  (hst:T.get st=some ⟨.slice e 1,s1,z1,b1⟩) (he:T.get e=some ⟨td,1,[z],by_⟩) (h63:n<=maxLen) (hbytes:by_*n<=281474976710656)
  (hL2:∀b,a3n b2M L (.pt b e (List.replicate n z))=some (L2 b,tag)) (hd:∀v,W5 N o.dst v tag .tt E=some (E' v)) (hJ:∀b,Conj (M3 lt C (L2 b))/\J X (.reg ops C t::K) (E' (.slice (some ⟨b,0,none⟩) n n)) (L2 b)):J X (.reg ops C (.alt lt i t .non)::K) E L:=by
 refine J.op hX (S:=λv' L'=>∃b,v'= .slice (some ⟨b,0,none⟩) n n/\L'=L++[.pt b e (List.replicate n z)]) tag ho hg hgo (λa0 w hen hs=>?_) hd (λv L' ⟨b,e1,e2⟩=>by subst e1;subst e2;rw[<- a1K (hL2 b)];exact hJ b);have ex:=C5 hen hx;have ey:=C5 hen hy;simp only[Slot.val,v1,v2]at ex ey;obtain⟨d,f,zv,ok⟩:=B4 (hT.get hst);obtain⟨fe,rfl,g1',g2'⟩:=ok.slice rfl;obtain⟨d',f',zv',ok'⟩:=B4 (hT.get he);have hf:fe=f':=by have:=g1'.symm.trans ok'.hf;injection this
 subst hf;have hb2:(fe.bytes:Int)*(n:Int)<=281474976710656:=by
  rw[<- ok'.hbytes];have h:((by_*n:Nat):Int)<=281474976710656:=by omega
  rwa [a2a]at h
 have hr:=run_make (P:=P) w st e fe zv' ok.hd ok'.hf ok'.hz kl kc n n (by omega) (J7 _) hb2 (by simp[maxLen]at h63;omega);have hz:zv'.cells= #[z]:=by apply Array.toList_inj.1;exact ok'.hzero.symm
 have hs1:fe.size=1:=ok'.hsize.symm;simp only[j4,hs1,V0,hz]at hr;refine⟨_,_, .value (.slice (some ⟨w.heap.size,0,none⟩) n n),w.alloc (.cells (madeCells #[z] n) e),⟨w.heap.size,rfl,rfl⟩,?_, .inl rfl,?_,⟨rfl,rfl,rfl,by show w.heap.size<=(w.heap.push _).size;simp⟩⟩
 ·simp only[execOp,hop,ex,ey,hr,Sem.run_bind,Result.andThen_ok,Sem.run_pure]
 ·have e1:Obj.cells (madeCells #[z] n) e (0,0)=Obj.cells (List.replicate n z).toArray e (0,0):=by
   congr 1;apply Array.toList_inj.1;rw[toList_madeCells_one]
  show Sep _ (hl {w with heap:=w.heap.push (Obj.cells (madeCells #[z] n) e (0,0))});rw[e1,a5i];exact hs.snoc (a5j w) (λh' hh=>hh)
theorem J.nextS {α:Type} {I:α->Prop} {Ei:α->Env} {Li:α->List Atom} {μ:α->Nat} {m:Nat} (x:α) (h1:I x) (h2:μ x<m) (is:List Nat) (h3:Conj (a8M E (Ei x))) (ok:P4 L is=true) (hL:N9 L is=Li x):
  J X (.stop (λa w=>Ext X.w0 w/\∃x',I x'/\μ x'<m/\EnvOK X.n (Ei x') a/\Sep (Li x') (hl w))::K) E L:=J.next x h1 h2 h3 (λh' s=>by have:=s.sub is ok;rwa [hL]at this)
theorem J.nS {α:Type} {I:α->Prop} {Ei:α->Env} {Li:α->List Atom} {μ:α->Nat} {m:Nat} (x:α) (h1:I x) (h2:μ x<m) (is:List Nat) (ok:P4 L is=true) (hL:N9 L is=Li x) (h3:Conj (a8M E (Ei x)):=by(repeat' (first | exact Conj.nil | refine Conj.cons ?_ ?_ | omega | exact hq0 | (simpa using hq0) | (exactλh=>h) | exact rfl | (intro hq;have hq0:=hq;try simp only[f7,j6,d5,i4,c8]at hq) | (simp;done) | (simp;omega) | decide))):
  J X (.stop (λa w=>Ext X.w0 w/\∃x',I x'/\μ x'<m/\EnvOK X.n (Ei x') a/\Sep (Li x') (hl w))::K) E L:=J.nextS x h1 h2 is h3 ok hL
theorem Y9 {w:World} {n0:Nat} {a:Act} (hT:TabOK P T) {o:Oper} {src dst:TypeId} {x:Operand} {k tg sz b1:Nat} {z1:List Value} {g:G} {k0 k':IntKind} {n:Int} {ti:TI} (hop:o.op= .convert src dst x) (hx:ev E x=some ⟨k, .int k0 n,tg,g⟩) (he:EnvOK n0 E a) (hg:g.on=true) (hd:T.get dst=some ⟨.int k',sz,z1,b1⟩) (hs:T.get src=some ti):
  (execOp a.eval o).run P w= .ok (.value (.int k' (k'.wrap n))) w:=by
 have ex:=C5 he hx;simp only[Slot.val,hg]at ex;obtain⟨d,fi,zv,ok⟩:=B4 (hT.get hd);obtain⟨d',fi',zv',ok'⟩:=B4 (hT.get hs);have:=ok.int rfl;subst this;simp[execOp,hop,ex,convert,s8 ok.hd,s8 ok'.hd,Conv.intToInt]
theorem J.join {α:Type} {k:KI} (E0:α->Env) (L0:α->List Atom) (h1:(∀x,J X K (E0 x) (L0 x))->J X (k::K) E L) (h2:∀x,J X K (E0 x) (L0 x)):J X (k::K) E L:=h1 h2
theorem J.goto {E0:Env} {L0:List Atom} (is:List Nat) (h:J X K E0 L0) (h3:Conj (subV E E0)) (ok:P4 L is=true) (hL:N9 L is=L0):J X K E L:=
 λa w hx he s=>h a w hx (he.subV h3) (by have:=s.sub is ok;rwa [hL]at this)
end
def itP {K:Type} (bm r:Nat) (kv:K->Value) (l:List (K×Value)) (is:List Nat) (h:Hl):Prop:=
 ∃es clock seen,h bm=some (.map es clock)/\h r=some (.mapIter (some bm) clock seen clock)/\es.toList.map (λe=>(e.key,e.val))=l.map (λx=>(kv x.1,x.2))/\(es.toList.map (·.born)).Nodup/\(∀e∈es.toList,e.born<clock)/\
  is.Nodup/\(∀i∈is,i<l.length)/\seen.toList=is.map (λi=>(es.toList.map (·.born)).getD i 0)
def itA {K:Type} (bm r:Nat) (kv:K->Value) (l:List (K×Value)) (is:List Nat):Atom:= .hp ⟨itP bm r kv l is,λ_ _ u ⟨es,c,s,h1,h2,h3⟩=>⟨es,c,s,u _ _ h1,u _ _ h2,h3⟩⟩
theorem b7x {K:Type} {bm r:Nat} {kv:K->Value} {l:List (K×Value)} {is:List Nat} {h:Hl} (s:Sep [itA bm r kv l is] h):Sep [U8 bm kv l] h:=by
 obtain⟨es,c,sn,h1,h2,h3,h4,h5,_⟩:=s.get (i:=0) rfl;exact Sep.one ⟨es,c,h1,h3,h4,h5⟩
theorem b4N {α:Type} {l:List α} (h:l.Nodup) {i j:Nat} (hi:i<l.length) (hj:j<l.length) (e:l[i]=l[j]):i=j:=by
 have h':=List.pairwise_iff_getElem.1 h;rcases Nat.lt_trichotomy i j with h1 | h1 | h1
 ·exact absurd e (h' i j hi hj h1)
 ·exact h1
 ·exact absurd e.symm (h' j i hj hi h1)
theorem b8q {n:Nat} {is:List Nat} (hn:is.Nodup) (hl:∀i∈is,i<n) (hall:∀i,i<n->i∈is):is.Perm (List.range n):=by
 rw[List.perm_iff_count];intro a;rw[List.Nodup.count hn,List.Nodup.count a3u]
 by_cases h:a∈is
 ·rw[d8 h,d8 (List.mem_range.2 (hl a h))]
 ·rw[d6 h,d6 (λh2=>h (hall a (List.mem_range.1 h2)))]
theorem Sep.part {L:List Atom} {h:Hl} (s:Sep L h) {i b:Nat} {o':Obj} {A A':Atom} (hA:L[i]? =some A) (hs:∀h',A.sat h'->∃o,h' b=some o) (hs':∀h',Hle h' h->A.sat h'->A'.sat (U4 h' b o')):Sep (L.set i A') (U4 h b o'):=by
 obtain⟨own,hw⟩:=s;obtain⟨o,ho⟩:=hs _ (hw i A hA);have hb:=res_some.1 ho;have hi:i<L.length:=(List.getElem?_eq_some_iff.1 hA).1;refine⟨own,λj B hB=>?_⟩;rw[z8]at hB;split at hB
 ·rename_i e;injection hB with hB;subst hB;subst e;refine Atom.up (λx u hx=>?_) (hs' _ (λb o hb=>(res_some.1 hb).2) (hw _ A hA));rw[res_some];unfold U4 at hx ⊢;split at hx
  ·rename_i e;subst e;exact⟨hb.1,by simpa using hx⟩
  ·rename_i e;rw[res_some]at hx;exact⟨hx.1,by rw[d6 e];exact hx.2⟩
 ·rename_i e;refine Atom.up (λx u hx=>?_) (hw j B hB);rw[res_some]at hx ⊢;refine⟨hx.1,?_⟩;unfold U4;rw[d6]
  ·exact hx.2
  ·rintro rfl;exact e (hb.1.symm.trans hx.1)
theorem Sep.grow {L:List Atom} {h:Hl} (s:Sep L h) {i b:Nat} {o':Obj} {A A':Atom} (hA:L[i]? =some A) (hn:h b=none) (hs':∀h',Hle h' h->h' b=none->A.sat h'->A'.sat (U4 h' b o')):Sep (L.set i A') (U4 h b o'):=by
 obtain⟨own,hw⟩:=s;have hi:i<L.length:=(List.getElem?_eq_some_iff.1 hA).1;have hres:∀k,res h own k b=none:=λk=>by unfold res;split<;>first | exact hn | rfl
 refine⟨λx=>if x=b then i else own x,λj B hB=>?_⟩;rw[z8]at hB;split at hB
 ·rename_i e;injection hB with hB;subst hB;subst e;refine Atom.up (λx u hx=>?_) (hs' _ (λb o hb=>(res_some.1 hb).2) (hres _) (hw _ A hA));rw[res_some];unfold U4 at hx ⊢;split at hx
  ·rename_i e;subst e;exact⟨by simp,by simpa using hx⟩
  ·rename_i e;rw[res_some]at hx;exact⟨by rw[d6 e];exact hx.1,by rw[d6 e];exact hx.2⟩
 ·rename_i e;refine Atom.up (λx u hx=>?_) (hw j B hB);rw[res_some]at hx ⊢;have hxb:x≠b:=by rintro rfl;rw[hn]at hx;cases hx.2
  refine⟨by rw[d6 hxb];exact hx.1,?_⟩;unfold U4;rw[d6 hxb];exact hx.2
theorem b1W {w:World} {r:Nat} {o o':Obj} (h:hl w r=some o):hl (Go.ChangeMaps.setBlock w r o')=U4 (hl w) r o':=by
 funext x;unfold hl U4 Go.ChangeMaps.setBlock;simp only[Array.getElem?_setIfInBounds]
 by_cases e:x=r
 ·subst e;have hlt:x<w.heap.size:=by
   rcases O7 x w.heap.size with h1 | h1
   ·exact h1
   ·simp only[hl]at h;rw[Q1 h1]at h;cases h
  simp[hlt]
 ·rw[d6 (Ne.symm e),d6 e]
section
variable {X : Cx} {P : Program} {T : Tab} {K : List KI} {E : Env} {L : List Atom} {N : Nat} {F : HP} {Post : Value → List Atom → Prop} {rs : List ResultVar} {KK : Type} {kv : KK → Value}
theorem J.rangeMap (hX:IsCx X P rs N F Post) {ops:Array Oper} {C:Cl} {lt:Bool} {i:Nat} {t:PT} {o:Oper} {g:G} {MT KT ET:TypeId} {x:Operand} {k1 t1 bm:Nat} {g1:G} {l:List (KK×Value)} {E':Value->Env} {L2:Nat->List Atom} (im:Nat)
  (hm:P.underlying MT=some (.map KT ET)) (ho:J3 ops.toList i=some o) (hg:gd ops.toList E o=some g) (hgo:g.on=true) (hop:o.op= .range MT x) (hx:ev E x=some ⟨k1, .map (some bm),t1,g1⟩) (v1:g1.on=true)
  (hL:J3 L im=some (U8 bm kv l)) (hL2:∀r,U3 L im (itA bm r kv l [])=some (L2 r)) (hd:∀v,W5 N o.dst v 0 .tt E=some (E' v))
  (hJ:∀r,Conj (M3 lt C (L2 r))/\J X (.reg ops C t::K) (E' (.pointer (some ⟨r,0,none⟩))) (L2 r)):J X (.reg ops C (.alt lt i t .non)::K) E L:=by
 refine J.op hX (S:=λv' L'=>∃r,v'= .pointer (some ⟨r,0,none⟩)/\L'=L.set im (itA bm r kv l [])) 0 ho hg hgo (λa0 w hen hs=>?_) hd (λv L' ⟨r,e1,e2⟩=>by subst e1;subst e2;rw[<- T8 (hL2 r)];exact hJ r);rw[J2]at hL;have ex:=C5 hen hx;simp only[Slot.val,v1]at ex;obtain⟨es,clock,h1,h2,h3,h4⟩:b2Q bm kv l (hl w):=hs.get hL;have hr:=run_range_map (P:=P) w MT KT ET bm es clock hm h1;have hbm:bm≠w.heap.size:=λe=>by
  have:=h1;simp only[hl]at this;rw[e,Q1 (i7 _)]at this;cases this
 refine⟨_,_, .value (.pointer (some ⟨w.heap.size,0,none⟩)),w.alloc (.mapIter (some bm) clock #[] clock),⟨w.heap.size,rfl,rfl⟩,?_, .inl rfl,?_,⟨rfl,rfl,rfl,by show w.heap.size<=(w.heap.push _).size;simp⟩⟩
 ·simp only[execOp,hop,ex,hr,Sem.run_bind,Result.andThen_ok,Sem.run_pure]
 ·show Sep _ (hl {w with heap:=w.heap.push (Obj.mapIter (some bm) clock #[] clock)});rw[a5i];refine Sep.grow hs hL (a5j w) (λh' hle hn ⟨es',c',q1,q2,q3,q4⟩=>?_);have e1:=(hle _ _ q1).symm.trans h1;simp only[l6,Obj.map.injEq]at e1;obtain⟨rfl,rfl⟩:=e1;exact⟨es',c',#[],by unfold U4;rw[d6 hbm];exact q1,by unfold U4;rw[d8 rfl],q2,q3,q4,a5E,by simp,rfl⟩
theorem J.rangeNext (hX:IsCx X P rs N F Post) {ops:Array Oper} {C:Cl} {lt:Bool} {i:Nat} {t:PT} {o:Oper} {g:G} {x:Operand} {k1 t1 bm r:Nat} {g1:G} {l:List (KK×Value)} {is:List Nat} {E':Value->Env} {L2:Nat->List Atom} (im:Nat)
  (ho:J3 ops.toList i=some o) (hg:gd ops.toList E o=some g) (hgo:g.on=true) (hop:o.op= .next x false) (hx:ev E x=some ⟨k1, .pointer (some ⟨r,0,none⟩),t1,g1⟩) (v1:g1.on=true)
  (hL:J3 L im=some (itA bm r kv l is)) (hL2:∀j,U3 L im (itA bm r kv l (is++[j]))=some (L2 j)) (hd:∀v,W5 N o.dst v 0 .tt E=some (E' v))
  (h0:is.Perm (List.range l.length)->Conj (M3 lt C L)/\J X (.reg ops C t::K) (E' (.tuple #[.bool false])) L)
  (h1:∀j y,j∉is->l[j]? =some y->Conj (M3 lt C (L2 j))/\J X (.reg ops C t::K) (E' (.tuple #[.bool true,kv y.1,y.2])) (L2 j)):J X (.reg ops C (.alt lt i t .non)::K) E L:=by
 refine J.op hX (S:=λv' L'=>(is.Perm (List.range l.length)/\v'= .tuple #[.bool false]/\L'=L)\/∃j y,j∉is/\l[j]? =some y/\v'= .tuple #[.bool true,kv y.1,y.2]/\L'=L.set im (itA bm r kv l (is++[j]))) 0 ho hg hgo (λa0 w hen hs=>?_) hd (λv L' hS=>by
  rcases hS with⟨e0,e1,e2⟩ | ⟨j,y,e0,e1,e2,e3⟩
  ·subst e1;subst e2;exact h0 e0
  ·subst e2;subst e3;rw[<- T8 (hL2 j)];exact h1 j y e0 e1)
 rw[J2]at hL;have ex:=C5 hen hx;simp only[Slot.val,v1]at ex;obtain⟨es,clock,seen,q1,q2,q3,q4,q5,q6,q7,q8⟩:itP bm r kv l is (hl w):=hs.get hL;have hlen:es.toList.length=l.length:=by have:=congrArg List.length q3;simpa using this
 rcases run_next_at (P:=P) w o.type r bm clock clock seen es clock q2 q1 q5 (i7 _)with⟨z1,z2⟩ | ⟨e,z1,w1,z2,z3⟩
 ·refine⟨.tuple #[.bool false],L, .value (.tuple #[.bool false]),w, .inl ⟨?_,rfl,rfl⟩,?_, .inl rfl,hs,Ext.refl _⟩
  ·refine b8q q6 q7 (λj hj=>?_);have hj':j<es.toList.length:=by omega
   have h0:leftOf es seen= #[]:=Array.eq_empty_of_size_eq_zero z1;have hm:es.toList[j]∈es.toList:=H6 hj';have hs1:seen.contains (es.toList[j]).born=true:=by
    cases hc:seen.contains (es.toList[j]).born with
    | true=>rfl
    | false=>
     exfalso
     have:es.toList[j]∈leftOf es seen:=by
      unfold leftOf;rw[Array.mem_filter];exact⟨by simpa using hm,by rw[hc];rfl⟩
     rw[h0]at this;simp at this
   have hs2:(es.toList[j]).born∈seen.toList:=by simpa using hs1
   rw[q8,P9]at hs2;obtain⟨i',hi',e⟩:=hs2;have hi2:i'<es.toList.length:=by have:=q7 i' hi';omega
   have e2:(es.toList.map (·.born))[i']'(by simpa using hi2)=(es.toList.map (·.born))[j]'(by simpa using hj'):=by
    rw[d7,c9 (by simpa using hi2),j3]at e;rw[e,W8]
   have:=b4N q4 _ _ e2;subst this;exact hi'
  ·simp only[execOp,hop,ex,z2,Sem.run_bind,Result.andThen_ok,Sem.run_pure]
 ·have hle:e∈es.toList/\seen.contains e.born=false:=by
   have:e∈leftOf es seen:=by simpa using z1
   unfold leftOf at this;rw[Array.mem_filter]at this;exact⟨by simpa using this.1,by simpa using this.2⟩
  obtain⟨j,hj,hje⟩:=List.mem_iff_getElem.1 hle.1;have hjl:j<l.length:=by omega
  have hkv:(e.key,e.val)=(kv l[j].1,l[j].2):=by
   have h2:(es.toList.map λe=>(e.key,e.val))[j]'(by simpa using hj)=(l.map λx=>(kv x.1,x.2))[j]'(by simpa using hjl):=by simp only[q3]
   rw[W8,W8,hje]at h2;exact h2
  simp only[C4]at hkv;have hbj:(es.toList.map (·.born)).getD j 0=e.born:=by
   rw[d7,c9 (by simpa using hj),j3,W8,hje]
  have hnj:j∉is:=λhm=>by
   have:e.born∈seen.toList:=by rw[q8,P9];exact⟨j,hm,hbj⟩
   have h2:seen.contains e.born=true:=by simpa using this
   rw[hle.2]at h2;cases h2
  have hw1:hl w1=hl w:=by rcases z2 with rfl | rfl<;>rfl
  have hx1:Ext w w1:=by rcases z2 with rfl | rfl<;>exact⟨rfl,rfl,rfl,i7 _⟩
  refine⟨.tuple #[.bool true,kv l[j].1,l[j].2],L.set im (itA bm r kv l (is++[j])), .value (.tuple #[.bool true,e.key,e.val]),Go.ChangeMaps.setBlock w1 r (.mapIter (some bm) clock (seen.push e.born) clock), .inr ⟨j,l[j],hnj,c9 hjl,rfl,rfl⟩,?_, .inl (by rw[hkv.1,hkv.2]),?_,?_⟩
  ·simp only[execOp,hop,ex,z3,Sem.run_bind,Result.andThen_ok,Sem.run_pure]
  ·rw[b1W (by rw[hw1];exact q2),hw1];refine Sep.part hs hL (λh' ⟨_,_,_,_,u,_⟩=>⟨_,u⟩) (λh' hh ⟨es',c',sn',u1,u2,u3⟩=>?_);have e1:=(hh _ _ u1).symm.trans q1;have e2:=(hh _ _ u2).symm.trans q2;simp only[l6,Obj.map.injEq]at e1;simp only[l6,Obj.mapIter.injEq]at e2;obtain⟨rfl,rfl⟩:=e1;obtain⟨-,-,rfl,-⟩:=e2;have hne:bm≠r:=by rintro rfl;rw[q1]at q2;cases q2
   refine⟨es',c',sn'.push e.born,by unfold U4;rw[d6 hne];exact u1,by unfold U4;rw[d8 rfl],q3,q4,q5,?_,?_,?_⟩
   ·rw[M4];exact⟨q6,by simp,λa ha b hb=>by simp at hb;subst hb;rintro rfl;exact hnj ha⟩
   ·intro a ha;rw[L9]at ha;rcases ha with ha | ha
    ·exact q7 a ha
    ·simp at ha;subst ha;exact hjl
   ·rw[Array.toList_push,q8,t7,n4,R5,hbj]
  ·exact⟨hx1.os,hx1.tape,hx1.output,I7 hx1.size (by simp[Go.ChangeMaps.setBlock])⟩
theorem J.rangeEntry (hX:IsCx X P rs N F Post) {ops:Array Oper} {C:Cl} {lt:Bool} {i:Nat} {t:PT} {o:Oper} {g:G} {x:Operand} {k1 t1 bm r:Nat} {g1:G} {l:List (KK×Value)} {is:List Nat} {j:Nat} {y:KK×Value} {E':Env} (im:Nat)
  (ho:J3 ops.toList i=some o) (hg:gd ops.toList E o=some g) (hgo:g.on=true) (hop:o.op= .entry x) (hx:ev E x=some ⟨k1, .pointer (some ⟨r,0,none⟩),t1,g1⟩) (v1:g1.on=true)
  (hL:J3 L im=some (itA bm r kv l (is++[j]))) (hy:l[j]? =some y) (hd:W5 N o.dst (.tuple #[kv y.1,y.2]) 0 g E=some E')
  (hJ:Conj (M3 lt C L)/\J X (.reg ops C t::K) E' L):J X (.reg ops C (.alt lt i t .non)::K) E L:=by
 refine J.val hX _ 0 ho hg (λ_ a w hen hs=>?_) hd hJ.1 hJ.2;rw[J2]at hL;have ex:=C5 hen hx;simp only[Slot.val,v1]at ex;obtain⟨es,clock,seen,q1,q2,q3,q4,q5,q6,q7,q8⟩:itP bm r kv l (is++[j]) (hl w):=hs.get hL;have hjl:j<l.length:=(List.getElem?_eq_some_iff.1 hy).1;have hlen:es.toList.length=l.length:=by have:=congrArg List.length q3;simpa using this
 have hj:j<es.toList.length:=by omega
 have hkv:((es.toList[j]).key,(es.toList[j]).val)=(kv y.1,y.2):=by
  have h2:(es.toList.map λe=>(e.key,e.val))[j]'(by simpa using hj)=(l.map λx=>(kv x.1,x.2))[j]'(by simpa using hjl):=by simp only[q3]
  rw[W8,W8,(List.getElem?_eq_some_iff.1 hy).2]at h2;exact h2
 simp only[C4]at hkv;have hs:seen=(is.map (λi=>(es.toList.map (·.born)).getD i 0)).toArray.push (es.toList[j]).born:=by
  apply Array.toList_inj.1;rw[q8,Array.toList_push,t7,n4,R5,d7,c9 (by simpa using hj),j3,W8]
 have hr:=run_entry_at (P:=P) w r bm clock (is.map (λi=>(es.toList.map (·.born)).getD i 0)).toArray es clock (es.toList[j]) (by rw[<- hs];exact q2) q1 (H6 hj) q4;simp only[execOp,hop,ex,hr,Sem.run_bind,Result.andThen_ok,Sem.run_pure,hkv.1,hkv.2]
end
def tab:Tab:=[
 (3,⟨(.int .i64),1,[.int .i64 0],8⟩),
 (1,⟨.other,1,[.nilFunc],8⟩),
 (39,⟨(.row [(0,1,false),(1,1,false),(2,1,false)]),3,[.int .i64 0, .int .i64 0, .int .i64 0],24⟩),
 (2,⟨(.int .i64),1,[.int .i64 0],8⟩),
 (33,⟨(.int .i64),1,[.int .i64 0],8⟩),
 (24,⟨(.slice 3 1),1,[.slice none 0 0],24⟩),
 (27,⟨.ptr,1,[.pointer none],8⟩),
 (101,⟨(.row [(0,1,false),(1,1,false),(2,1,false),(3,16,true)]),19,[.int .i64 0, .int .i64 0, .int .i64 0, .int .u8 0, .int .u8 0, .int .u8 0, .int .u8 0, .int .u8 0, .int .u8 0, .int .u8 0, .int .u8 0, .int .u8 0, .int .u8 0, .int .u8 0, .int .u8 0, .int .u8 0, .int .u8 0, .int .u8 0, .int .u8 0],40⟩),
 (4,⟨.bool,1,[.bool false],1⟩),
 (212,⟨(.row [(0,16,true),(16,1,false),(17,1,false),(18,1,false),(19,1,false),(20,1,false),(21,1,false),(22,1,false)]),23,[.int .u8 0, .int .u8 0, .int .u8 0, .int .u8 0, .int .u8 0, .int .u8 0, .int .u8 0, .int .u8 0, .int .u8 0, .int .u8 0, .int .u8 0, .int .u8 0, .int .u8 0, .int .u8 0, .int .u8 0, .int .u8 0, .int .i64 0, .int .i64 0, .int .i64 0, .int .i64 0, .int .i64 0, .int .i64 0, .int .i64 0],72⟩),
 (23,⟨(.row [(0,1,false),(1,1,false),(2,1,false)]),3,[.int .i64 0, .int .i64 0, .int .i64 0],24⟩),
 (36,⟨(.arr 16 1),16,[.int .u8 0, .int .u8 0, .int .u8 0, .int .u8 0, .int .u8 0, .int .u8 0, .int .u8 0, .int .u8 0, .int .u8 0, .int .u8 0, .int .u8 0, .int .u8 0, .int .u8 0, .int .u8 0, .int .u8 0, .int .u8 0],16⟩),
 (93,⟨.ptr,1,[.pointer none],8⟩),
 (278,⟨(.slice 39 3),1,[.slice none 0 0],24⟩),
 (116,⟨(.slice 101 19),1,[.slice none 0 0],24⟩),
 (94,⟨.ptr,1,[.pointer none],8⟩),
 (41,⟨(.row [(0,1,false),(1,1,false),(2,3,true),(5,1,false),(6,1,false)]),7,[.int .i64 0, .int .i64 0, .int .i64 0, .int .i64 0, .int .i64 0, .int .i64 0, .int .i64 0],56⟩),
 (276,⟨(.int .u64),1,[.int .u64 0],8⟩),
 (28,⟨.ptr,1,[.pointer none],8⟩),
 (5,⟨(.int .u8),1,[.int .u8 0],1⟩),
 (25,⟨(.slice 41 7),1,[.slice none 0 0],24⟩),
 (110,⟨(.arr 32 1),32,[.int .u8 0, .int .u8 0, .int .u8 0, .int .u8 0, .int .u8 0, .int .u8 0, .int .u8 0, .int .u8 0, .int .u8 0, .int .u8 0, .int .u8 0, .int .u8 0, .int .u8 0, .int .u8 0, .int .u8 0, .int .u8 0, .int .u8 0, .int .u8 0, .int .u8 0, .int .u8 0, .int .u8 0, .int .u8 0, .int .u8 0, .int .u8 0, .int .u8 0, .int .u8 0, .int .u8 0, .int .u8 0, .int .u8 0, .int .u8 0, .int .u8 0, .int .u8 0],32⟩),
 (60,⟨(.slice 36 16),1,[.slice none 0 0],24⟩),
 (180,⟨(.row [(0,19,true),(19,3,true),(22,1,false),(23,1,false),(24,1,false)]),25,[.int .i64 0, .int .i64 0, .int .i64 0, .int .u8 0, .int .u8 0, .int .u8 0, .int .u8 0, .int .u8 0, .int .u8 0, .int .u8 0, .int .u8 0, .int .u8 0, .int .u8 0, .int .u8 0, .int .u8 0, .int .u8 0, .int .u8 0, .int .u8 0, .int .u8 0, .int .i64 0, .int .i64 0, .int .i64 0, .int .i64 0, .bool false, .bool false],80⟩),
 (146,⟨(.int .u64),1,[.int .u64 0],8⟩),
 (98,⟨(.row [(0,1,false),(1,1,false),(2,1,false),(3,1,false),(4,1,false),(5,1,false),(6,1,false)]),7,[.pointer none, .pointer none, .pointer none, .pointer none, .pointer none, .int .i64 0, .bool false],56⟩),
 (95,⟨.ptr,1,[.pointer none],8⟩),
 (83,⟨(.row [(0,1,false),(1,16,true)]),17,[.int .i64 0, .int .u8 0, .int .u8 0, .int .u8 0, .int .u8 0, .int .u8 0, .int .u8 0, .int .u8 0, .int .u8 0, .int .u8 0, .int .u8 0, .int .u8 0, .int .u8 0, .int .u8 0, .int .u8 0, .int .u8 0, .int .u8 0],24⟩),
 (177,⟨(.slice 180 25),1,[.slice none 0 0],24⟩),
 (92,⟨(.row [(0,3,true),(3,1,false),(4,1,false),(5,1,false),(6,1,false),(7,1,false),(8,1,false),(9,1,false),(10,1,false),(11,1,false)]),12,[.int .i64 0, .int .i64 0, .int .i64 0, .map none, .pointer none, .slice none 0 0, .bool false, .int .i64 0, .int .i64 0, .bool false, .int .i64 0, .int .i64 0],112⟩),
 (105,⟨(.slice 112 34),1,[.slice none 0 0],24⟩),
 (118,⟨(.row [(0,1,false),(1,1,false),(2,1,false),(3,1,false),(4,1,false),(5,1,false)]),6,[.pointer none, .slice none 0 0, .int .i64 0, .slice none 0 0, .int .i64 0, .int .i64 0],80⟩),
 (210,⟨(.slice 212 23),1,[.slice none 0 0],24⟩),
 (274,⟨(.int .u32),1,[.int .u32 0],4⟩),
 (195,⟨(.row [(0,1,false),(1,1,false),(2,1,false),(3,1,false),(4,1,false),(5,1,false),(6,1,false)]),7,[.pointer none, .pointer none, .pointer none, .int .i64 0, .int .i64 0, .int .i64 0, .int .i64 0],56⟩),
 (131,⟨(.row [(0,1,false),(1,1,false),(2,1,false)]),3,[.int .i64 0, .int .i64 0, .int .i64 0],24⟩),
 (56,⟨.ptr,1,[.pointer none],8⟩),
 (53,⟨(.row [(0,1,false),(1,1,false),(2,16,true),(18,1,false),(19,1,false),(20,7,true)]),27,[.int .i64 0, .int .i64 0, .int .u8 0, .int .u8 0, .int .u8 0, .int .u8 0, .int .u8 0, .int .u8 0, .int .u8 0, .int .u8 0, .int .u8 0, .int .u8 0, .int .u8 0, .int .u8 0, .int .u8 0, .int .u8 0, .int .u8 0, .int .u8 0, .int .i64 0, .int .i64 0, .int .i64 0, .int .i64 0, .int .i64 0, .int .i64 0, .int .i64 0, .int .i64 0, .int .i64 0],104⟩),
 (133,⟨(.row [(0,3,true),(3,1,false),(4,1,false),(5,1,false)]),6,[.int .i64 0, .int .i64 0, .int .i64 0, .int .i64 0, .int .i64 0, .int .i64 0],48⟩),
 (291,⟨(.slice 5 1),1,[.slice none 0 0],24⟩),
 (59,⟨(.row [(0,1,false),(1,1,false),(2,1,false),(3,1,false),(4,1,false),(5,1,false),(6,1,false),(7,1,false),(8,1,false)]),9,[.pointer none, .pointer none, .int .i64 0, .bool false, .bool false, .bool false, .slice none 0 0, .int .i64 0, .int .i64 0],72⟩),
 (65,⟨(.slice 4 1),1,[.slice none 0 0],24⟩),
 (96,⟨.ptr,1,[.pointer none],8⟩),
 (107,⟨(.row [(0,1,false),(1,1,false),(2,1,false),(3,1,false)]),4,[.slice none 0 0, .int .i64 0, .bool false, .bool false],40⟩),
 (214,⟨(.row [(0,1,false),(1,1,false),(2,23,true),(25,1,false)]),26,[.slice none 0 0, .slice none 0 0, .int .u8 0, .int .u8 0, .int .u8 0, .int .u8 0, .int .u8 0, .int .u8 0, .int .u8 0, .int .u8 0, .int .u8 0, .int .u8 0, .int .u8 0, .int .u8 0, .int .u8 0, .int .u8 0, .int .u8 0, .int .u8 0, .int .i64 0, .int .i64 0, .int .i64 0, .int .i64 0, .int .i64 0, .int .i64 0, .int .i64 0, .bool false],128⟩),
 (68,⟨(.row [(0,1,false),(1,1,false),(2,1,false),(3,1,false)]),4,[.slice none 0 0, .slice none 0 0, .slice none 0 0, .slice none 0 0],96⟩),
 (307,⟨(.int .u64),1,[.int .u64 0],8⟩),
 (6,⟨(.int .u8),1,[.int .u8 0],1⟩),
 (325,⟨.other,1,[.nilFunc],8⟩),
 (142,⟨(.row [(0,1,false),(1,1,false),(2,1,false),(3,1,false)]),4,[.pointer none, .pointer none, .pointer none, .slice none 0 0],48⟩),
 (66,⟨(.slice 60 1),1,[.slice none 0 0],24⟩),
 (340,⟨.ptr,1,[.pointer none],8⟩),
 (89,⟨.map,1,[.map none],8⟩),
 (90,⟨.ptr,1,[.pointer none],8⟩),
 (7,⟨(.row [(0,1,false),(1,1,false),(2,1,false),(3,1,false)]),4,[.int .i64 0, .int .i64 0, .bool false, .int .u8 0],24⟩),
 (196,⟨.ptr,1,[.pointer none],8⟩),
 (305,⟨.ptr,1,[.pointer none],8⟩),
 (149,⟨(.slice 153 19),1,[.slice none 0 0],24⟩),
 (162,⟨(.row [(0,1,false)]),1,[.slice none 0 0],24⟩),
 (208,⟨(.row [(0,1,false),(1,1,false),(2,1,false),(3,1,false)]),4,[.int .i64 0, .map none, .map none, .int .i64 0],32⟩),
 (293,⟨(.row [(0,1,false),(1,1,false)]),2,[.slice none 0 0, .int .i64 0],32⟩),
 (290,⟨.ptr,1,[.pointer none],8⟩),
 (85,⟨(.slice 83 17),1,[.slice none 0 0],24⟩),
 (9,⟨.other,1,[.string ⟨#[]⟩],16⟩),
 (174,⟨(.slice 177 1),1,[.slice none 0 0],24⟩),
 (191,⟨(.row [(0,3,true),(3,1,false),(4,1,false)]),5,[.int .i64 0, .int .i64 0, .int .i64 0, .slice none 0 0, .int .i64 0],56⟩),
 (112,⟨(.row [(0,32,true),(32,1,false),(33,1,false)]),34,[.int .u8 0, .int .u8 0, .int .u8 0, .int .u8 0, .int .u8 0, .int .u8 0, .int .u8 0, .int .u8 0, .int .u8 0, .int .u8 0, .int .u8 0, .int .u8 0, .int .u8 0, .int .u8 0, .int .u8 0, .int .u8 0, .int .u8 0, .int .u8 0, .int .u8 0, .int .u8 0, .int .u8 0, .int .u8 0, .int .u8 0, .int .u8 0, .int .u8 0, .int .u8 0, .int .u8 0, .int .u8 0, .int .u8 0, .int .u8 0, .int .u8 0, .int .u8 0, .bool false, .bool false],34⟩),
 (153,⟨(.row [(0,16,true),(16,1,false),(17,1,false),(18,1,false)]),19,[.int .u8 0, .int .u8 0, .int .u8 0, .int .u8 0, .int .u8 0, .int .u8 0, .int .u8 0, .int .u8 0, .int .u8 0, .int .u8 0, .int .u8 0, .int .u8 0, .int .u8 0, .int .u8 0, .int .u8 0, .int .u8 0, .bool false, .slice none 0 0, .slice none 0 0],72⟩),
 (221,⟨.other,1,[.nilFunc],8⟩),
 (57,⟨.ptr,1,[.pointer none],8⟩),
 (78,⟨.ptr,1,[.pointer none],8⟩),
 (176,⟨(.row [(0,1,false),(1,1,false)]),2,[.pointer none, .slice none 0 0],32⟩),
 (205,⟨.map,1,[.map none],8⟩),
 (218,⟨(.row [(0,1,false)]),1,[.slice none 0 0],24⟩),
 (319,⟨(.row [(0,1,false),(1,1,false)]),2,[.slice none 0 0, .int .i64 0],32⟩),
 (349,⟨.map,1,[.map none],8⟩),
 (199,⟨(.row [(0,1,false),(1,1,false),(2,1,false),(3,1,false)]),4,[.int .i64 0, .int .i64 0, .bool false, .bool false],24⟩),
 (151,⟨(.row [(0,1,false)]),1,[.slice none 0 0],24⟩),
 (140,⟨.ptr,1,[.pointer none],8⟩),
 (167,⟨.map,1,[.map none],8⟩),
 (206,⟨.map,1,[.map none],8⟩),
 (8,⟨(.row [(0,1,false),(1,1,false),(2,1,false),(3,1,false)]),4,[.int .i64 0, .int .i64 0, .bool false, .int .u8 0],24⟩),
 (266,⟨(.int .i64),1,[.int .i64 0],8⟩),
 (301,⟨.ptr,1,[.pointer none],8⟩),
 (189,⟨(.slice 199 4),1,[.slice none 0 0],24⟩),
 (143,⟨.other,1,[.nilFunc],8⟩),
 (351,⟨(.row [(0,1,false)]),1,[.map none],8⟩),
 (169,⟨(.row [(0,1,false)]),1,[.map none],8⟩),
 (204,⟨.other,1,[.nilFunc],8⟩),
 (347,⟨(.slice 110 32),1,[.slice none 0 0],24⟩),
 (345,⟨(.slice 24 1),1,[.slice none 0 0],24⟩),
 (154,⟨.ptr,1,[.pointer none],8⟩),
 (103,⟨.ptr,1,[.pointer none],8⟩),
 (352,⟨.map,1,[.map none],8⟩),
 (49,⟨(.slice 53 27),1,[.slice none 0 0],24⟩),
 (50,⟨.ptr,1,[.pointer none],8⟩),
 (173,⟨.ptr,1,[.pointer none],8⟩),
 (71,⟨.other,1,[.nilFunc],8⟩),
 (280,⟨.other,1,[.nilFunc],8⟩),
 (184,⟨.other,1,[.nilFunc],8⟩),
 (282,⟨.other,1,[.nilFunc],8⟩),
 (296,⟨(.arr 4 1),4,[.int .i64 0, .int .i64 0, .int .i64 0, .int .i64 0],32⟩),
 (306,⟨(.arr 4 1),4,[.pointer none, .pointer none, .pointer none, .pointer none],32⟩),
 (338,⟨.other,1,[.nilFunc],8⟩)]
theorem tk:TabOK Tryz.prog tab:=TabOK.mk (by kernel_rfl)
end
section
open Go.RowKit

abbrev A3:=Int×Int×Int
def a3c (a:A3):List Value:=[.int .i64 a.1, .int .i64 a.2.1, .int .i64 a.2.2]
def a3v (a:A3):Value:= .agg #[.int .i64 a.1, .int .i64 a.2.1, .int .i64 a.2.2]
theorem b7k:V7 Tryz.prog 100 39=some [.int .i64, .int .i64, .int .i64]:=by kernel_rfl
theorem c1l (a b:A3):H4 (a3c a) (a3c b)=decide (a=b):=by
 obtain⟨a1,a2,a3⟩:=a;obtain⟨b1,b2,b3⟩:=b;rw[a2d];simp[a3c,H4,a4G]
theorem a0T:KeyOk Tryz.prog 39 a3v where
 now:=⟨_,Tryz.underlying39,λ_ _=> .inl rfl⟩
 eq:=λa b w=>by
  have hm:∀xs,mkV Tryz.prog 39 xs= .agg xs.toArray:=λxs=>by simp[mkV,Tryz.underlying39]
  have:=Y7 100 39 _ b7k 10000 (by omega) (a3c a) (a3c b) ⟨rfl,rfl,rfl,trivial⟩ ⟨rfl,rfl,rfl,trivial⟩ w;rw[c1l,hm,hm]at this;exact this
 check:=λe a w=>by kernel_rfl
 bits:=λa=>by
  obtain⟨a1,a2,a3⟩:=a;simp[a3v,Instr.sameBits]

def Y0 (l:List A3):List (A3×Value):=l.map λa=>(a, .bool true)
theorem a6K (l:List A3) (a:A3):((Q6 (Y0 l) a).getD (.bool false)= .bool (decide (a∈l)))/\(Q6 (Y0 l) a).isSome=decide (a∈l):=by
 induction l with
 | nil=>exact⟨rfl,rfl⟩
 | cons x l ih=>
  simp only[Y0,n4,Q6]
  by_cases h:a=x
  ·simp[h]
  ·have:¬(a=(x,Value.bool true).1):=h;simp only[d6 this,H7,h,false_or];exact ih


def b5F (l:List A3) (a:A3):List A3:=if a∈l then l else l++[a]
theorem b3q (l:List A3) (a:A3):a4H (Y0 l) a=Y0 (l.erase a):=by
 induction l with
 | nil=>rfl
 | cons x l ih=>
  rw[List.erase_cons];simp only[Y0,n4,a4H]
  by_cases h:a=x
  ·subst h;simp
  ·have h2:¬(x==a)=true:=by simpa using Ne.symm h
   rw[d6 h,d6 h2,n4];exact congrArg _ ih
theorem b3n (l:List A3) (a:A3):a1u (Y0 l) a (.bool true)=Y0 (b5F l a):=by
 unfold b5F
 induction l with
 | nil=>rfl
 | cons x l ih=>
  simp only[Y0,n4,a1u]
  by_cases h:a=x
  ·subst h;simp
  ·rw[d6 h];have:(a∈x::l)↔a∈l:=by simp[h]
   simp only[this];split
   ·rename_i h3;rw[d8 h3]at ih;simp only[n4];exact congrArg _ ih
   ·rename_i h3;rw[d6 h3]at ih;simp only[U6,n4];exact congrArg _ ih

end
section
open Go Go.RowKit
theorem a7W (z:Array Value) (n:Nat):(madeCells z (n*z.size)).toList=(List.replicate n z.toList).flatten:=by
 have e0:∀k,(madeCells z k).toList=(List.range k).map λi=>z[i % z.size]!:=λk=>by simp[madeCells]
 induction n with
 | zero=>rw[e0];simp
 | succ n ih=>
  rw[e0]at ih ⊢;rw[K6,List.range_add,t7,ih,List.replicate_succ',List.flatten_append,List.flatten_singleton];congr 1;apply x9;intro i;rw[b0d,i9]
  by_cases h:i<z.size
  ·rw[I4 h,C6];simp only[Function.comp,O0 n,Nat.mul_add_mod,K4 h];rw[D5,M9 h,a4L z i h]
  ·rw[j5 (by rw[M5];omega),O3,j5 (by rw[Q8];omega)]
section
variable {X : Cx} {P : Program} {K : List KI} {E : Env} {L : List Atom} {N : Nat} {F : HP} {Post : Value → List Atom → Prop} {rs : List ResultVar}
theorem J.makeMany {T:Tab} (hX:IsCx X P rs N F Post) (hT:TabOK P T) {ops:Array Oper} {C:Cl} {lt:Bool} {i:Nat} {t:PT} {o:Oper} {g:G} {st e by_ size:Nat} {x y:Operand} {k1 k2 t1 t2 n s1 b1:Nat} {kl kc:IntKind} {g1 g2:G} {z1 z:List Value} {td:TD} {E':Value->Env} {L2:Nat->List Atom} (tag:Nat)
  (ho:J3 ops.toList i=some o) (hg:gd ops.toList E o=some g) (hgo:g.on=true) (hop:o.op= .makeSlice st x y) (hx:ev E x=some ⟨k1, .int kl n,t1,g1⟩) (v1:g1.on=true) (hy:ev E y=some ⟨k2, .int kc n,t2,g2⟩) (v2:g2.on=true)
  (hst:T.get st=some ⟨.slice e size,s1,z1,b1⟩) (he:T.get e=some ⟨td,size,z,by_⟩) (hzs:Nat.beq z.length size=true) (h63:n<=maxLen) (hbytes:by_*n<=281474976710656)
  (hL2:∀b,a3n b2M L (.pt b e (List.replicate n z).flatten)=some (L2 b,tag)) (hd:∀v,W5 N o.dst v tag .tt E=some (E' v)) (hJ:∀b,Conj (M3 lt C (L2 b))/\J X (.reg ops C t::K) (E' (.slice (some ⟨b,0,none⟩) n n)) (L2 b)):J X (.reg ops C (.alt lt i t .non)::K) E L:=by
 refine J.op hX (S:=λv' L'=>∃b,v'= .slice (some ⟨b,0,none⟩) n n/\L'=L++[.pt b e (List.replicate n z).flatten]) tag ho hg hgo (λa0 w hen hs=>?_) hd (λv L' ⟨b,e1,e2⟩=>by subst e1;subst e2;rw[<- a1K (hL2 b)];exact hJ b);have ex:=C5 hen hx;have ey:=C5 hen hy;simp only[Slot.val,v1,v2]at ex ey;obtain⟨d,f,zv,ok⟩:=B4 (hT.get hst);obtain⟨fe,rfl,g1',g2'⟩:=ok.slice rfl;obtain⟨d',f',zv',ok'⟩:=B4 (hT.get he);have hf:fe=f':=by have:=g1'.symm.trans ok'.hf;injection this
 subst hf;have hb2:(fe.bytes:Int)*(n:Int)<=281474976710656:=by
  rw[<- ok'.hbytes];have h:((by_*n:Nat):Int)<=281474976710656:=by omega
  rwa [a2a]at h
 have hr:=run_make (P:=P) w st e fe zv' ok.hd ok'.hf ok'.hz kl kc n n (by omega) (J7 _) hb2 (by simp[maxLen]at h63;omega);have hz:zv'.cells.toList=z:=ok'.hzero.symm;have hs1:fe.size=size:=ok'.hsize.symm;have hzl:zv'.cells.size=size:=by rw[<- Q8,hz];exact C8 hzs
 simp only[j4,hs1]at hr;rw[<- hzl]at hr;refine⟨_,_, .value (.slice (some ⟨w.heap.size,0,none⟩) n n),w.alloc (.cells (madeCells zv'.cells (n*zv'.cells.size)) e),⟨w.heap.size,rfl,rfl⟩,?_, .inl rfl,?_,⟨rfl,rfl,rfl,by show w.heap.size<=(w.heap.push _).size;simp⟩⟩
 ·simp only[execOp,hop,ex,ey,hr,Sem.run_bind,Result.andThen_ok,Sem.run_pure]
 ·have e1:Obj.cells (madeCells zv'.cells (n*zv'.cells.size)) e (0,0)=Obj.cells (List.replicate n z).flatten.toArray e (0,0):=by
   congr 1;apply Array.toList_inj.1;rw[a7W,hz]
  show Sep _ (hl {w with heap:=w.heap.push (Obj.cells (madeCells zv'.cells (n*zv'.cells.size)) e (0,0))});rw[e1,a5i];exact hs.snoc (a5j w) (λh' hh=>hh)
end
end
end Go.Proofs.YtmafiplddapokaaGreat
