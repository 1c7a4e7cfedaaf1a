/- Helpers, proved here. No condition. -/
import Derived.Test.YtdocmcapegcoeaaGreatC01
import Derived.Test.YtdocmcapegcoeaaGreatC02
import Derived.Test.YtdocmcapegcoeaaGreatC04
set_option maxRecDepth 20000
set_option linter.all false
namespace Go.Proofs.YtdocmcapegcoeaaGreat
open Go Go.RowKit

theorem rgo {P:Program} {w:World} {r:Nat} {es:Array MapEntry} {clock:Nat} (h:w.heap[r]? =some (.map es clock)):(getObj r).run P w= .ok (.map es clock) w:=by simp[getObj,Sem.run,h]
theorem rso {P:Program} {w:World} {r:Nat} {es:Array MapEntry} {clock:Nat} (o:Obj) (h:w.heap[r]? =some (.map es clock)):(setObj r o).run P w= .ok () {w with heap:=w.heap.setIfInBounds r o}:=by simp[setObj,Sem.run,h]
structure KeyOk (P:Program) (T:TypeId) {K:Type} [DecidableEq K] (kv:K->Value):Prop where
 now:∃d,P.underlying T=some d/\∀a b,Instr.sameNow d (kv a) (kv b)=none\/Instr.sameNow d (kv a) (kv b)=some (decide (a=b))
 eq:∀a b w,(Op.equal T (kv a) (kv b)).run P w= .ok (decide (a=b)) w
 check:∀e a w,(Instr.checkKey e 10000 T (kv a)).run P w= .ok () w
 bits:∀a,Instr.sameBits 10000 (kv a) (kv a)=true

section
variable {P : Program} {K : Type} [DecidableEq K] {kv : K → Value}

def fi:List (K×Value)->K->Nat->Option (Nat×Value)
 | [],_,_=>none
 | x::l,k,i=>if k=x.1 then some (i,x.2)else fi l k (i+1)
def alook:List (K×Value)->K->Option Value
 | [],_=>none
 | x::l,k=>if k=x.1 then some x.2 else alook l k
def aput:List (K×Value)->K->Value->List (K×Value)
 | [],k,v=>[(k,v)]
 | x::l,k,v=>if k=x.1 then(k,v)::l else x::aput l k v
def adel:List (K×Value)->K->List (K×Value)
 | [],_=>[]
 | x::l,k=>if k=x.1 then l else x::adel l k

def MapAt (w:World) (r:Nat) (kv:K->Value) (l:List (K×Value)):Prop:=
 ∃es clock,w.heap[r]? =some (.map es clock)/\es.toList.map (λe=>(e.key,e.val))=l.map (λx=>(kv x.1,x.2))/\(es.toList.map (·.born)).Nodup/\∀e∈es.toList,e.born<clock

theorem alook_fi (l:List (K×Value)) (k:K):∀i,(fi l k i).map (·.2)=alook l k:=by
 induction l with
 | nil=>intro i;rfl
 | cons x l ih=>
  intro i;unfold fi alook;split
  ·rfl
  ·exact ih _

theorem run_findAsking {T:TypeId} (hk:KeyOk P T kv) (k:K) (w:World):∀(es:List MapEntry) (l:List (K×Value)) (i:Nat),es.map (λe=>(e.key,e.val))=l.map (λx=>(kv x.1,x.2))->
  (Instr.findAsking T (kv k) es i).run P w= .ok (fi l k i) w
 | [],[],i,_=>by simp[Instr.findAsking,fi]
 | e::es,x::l,i,h=>by
  simp only[List.map_cons,List.cons.injEq,Prod.mk.injEq]at h;obtain⟨⟨h1,h2⟩,h3⟩:=h;have ih:=run_findAsking hk k w es l (i+1) h3;unfold Instr.findAsking fi;rw[h1,h2]
  by_cases hh:k=x.1
  ·simp[Sem.run_bind,hk.eq,hh]
  ·simp[Sem.run_bind,hk.eq,hh,ih]
 | [],_::_,_,h=>by simp at h
 | _::_,[],_,h=>by simp at h

theorem findNow_or {d:TypeDesc} (hd:∀a b,Instr.sameNow d (kv a) (kv b)=none\/Instr.sameNow d (kv a) (kv b)=some (decide (a=b))) (k:K):∀(es:List MapEntry) (l:List (K×Value)) (i:Nat),
  es.map (λe=>(e.key,e.val))=l.map (λx=>(kv x.1,x.2))->Instr.findNow d (kv k) es i=none\/Instr.findNow d (kv k) es i=some (fi l k i)
 | [],[],i,_=> .inr rfl
 | e::es,x::l,i,h=>by
  simp only[List.map_cons,List.cons.injEq,Prod.mk.injEq]at h;obtain⟨⟨h1,h2⟩,h3⟩:=h;have ih:=findNow_or hd k es l (i+1) h3;unfold Instr.findNow fi;rw[h1,h2];rcases hd k x.1 with hs | hs
  ·rw[hs];exact .inl rfl
  ·rw[hs]
   by_cases hh:k=x.1
   ·simp[hh]
   ·simp[hh];exact ih
 | [],_::_,_,h=>by simp at h
 | _::_,[],_,h=>by simp at h

theorem run_findKey' {T:TypeId} (hk:KeyOk P T kv) (k:K) (w:World) (es:List MapEntry) (l:List (K×Value)) (h:es.map (λe=>(e.key,e.val))=l.map (λx=>(kv x.1,x.2))):
  (Instr.findKey T (kv k) es).run P w= .ok (fi l k 0) w:=by
 obtain⟨d,hd,hn⟩:=hk.now;unfold Instr.findKey;rw[Sem.run_bind,run_underlying hd];rcases findNow_or hn k es l 0 h with h1 | h1
 ·simp only[Result.andThen_ok,h1];exact run_findAsking hk k w es l 0 h
 ·simp only[Result.andThen_ok,h1];rfl

theorem run_lookupAt {MT T E:TypeId} (hk:KeyOk P T kv) (hm:P.underlying MT=some (.map T E)) {z:Value} (hz:∀w,(zeroValue E).run P w= .ok z w) {w:World} {r:Nat} {l:List (K×Value)} (h:MapAt w r kv l) (k:K) (c:Bool):
  (Instr.lookup MT (.map (some r)) (kv k) c).run P w= .ok (if c then .tuple #[(alook l k).getD z, .bool (alook l k).isSome]else(alook l k).getD z) w:=by
 obtain⟨es,clock,h1,h2,_,_⟩:=h;have hf:=run_findKey' hk k w es.toList l h2;have ha:=alook_fi l k 0;unfold Instr.lookup;simp only[Sem.run_bind,run_underlying hm,Result.andThen_ok,rgo h1,Sem.run_pure,hk.check,hf];rw[<- ha];cases fi l k 0 with
 | none=>simp only[Sem.run_bind,hz,Result.andThen_ok,Sem.run_pure,Option.map_none,Option.getD_none,Option.isSome_none]
 | some x=>simp only[Sem.run_bind,Result.andThen_ok,Sem.run_pure,Option.map_some,Option.getD_some,Option.isSome_some]

theorem fi_lt (l:List (K×Value)) (k:K):∀i j v,fi l k i=some (j,v)->i<=j/\j<i+l.length:=by
 induction l with
 | nil=>intro i j v h;cases h
 | cons x l ih=>
  intro i j v h;unfold fi at h;split at h
  ·injection h with h;injection h with h1 h2;subst h1;simp
  ·have:=ih _ _ _ h;simp;omega

theorem modify_put:∀(es:List MapEntry) (l:List (K×Value)) (k:K) (v:Value) (i j:Nat) (u:Value),es.map (λe=>(e.key,e.val))=l.map (λx=>(kv x.1,x.2))->fi l k i=some (j,u)->
  (es.modify (j-i) λe=>{e with key:=kv k,val:=v}).map (λe=>(e.key,e.val))=(aput l k v).map (λx=>(kv x.1,x.2))/\(es.modify (j-i) λe=>{e with key:=kv k,val:=v}).map (·.born)=es.map (·.born)
 | [],[],k,v,i,j,u,_,h=>by cases h
 | e::es,x::l,k,v,i,j,u,h,hf=>by
  simp only[List.map_cons,List.cons.injEq,Prod.mk.injEq]at h;obtain⟨⟨h1,h2⟩,h3⟩:=h;unfold fi at hf;split at hf
  ·rename_i hh;injection hf with hf;injection hf with e1 e2;subst e1;simp[aput,hh,h3]
  ·rename_i hh;have hl:=fi_lt _ _ _ _ _ hf;have ih:=modify_put es l k v (i+1) j u h3 hf;obtain⟨m,hm⟩:∃m,j-i=m+1:=⟨j-(i+1),by omega⟩;have hm2:j-(i+1)=m:=by omega
   rw[hm2]at ih;simp[hm,aput,hh,h1,h2,ih.1,ih.2]
 | [],_::_,_,_,_,_,_,h,_=>by simp at h
 | _::_,[],_,_,_,_,_,h,_=>by simp at h
theorem fi_none (l:List (K×Value)) (k:K) (v:Value):∀i,fi l k i=none->aput l k v=l++[(k,v)]:=by
 induction l with
 | nil=>intro i _;rfl
 | cons x l ih=>
  intro i h;unfold fi at h;split at h
  ·cases h
  ·rename_i hh;simp[aput,hh,ih _ h]

def World.putObj' (w:World) (r:Nat) (o:Obj):World:={w with heap:=w.heap.setIfInBounds r o}
theorem grown_putObj (w:World) (r:Nat) (o:Obj):w.grownBy (World.putObj' w r o) (some r):=
 ⟨rfl,rfl,rfl,by simp[World.putObj'],λk _ hk=>by simp only[World.putObj'];rw[Array.getElem?_setIfInBounds];rw[if_neg (λe=>hk (by rw[e]))]⟩

theorem run_mapUpdateAt {MT T E:TypeId} (hk:KeyOk P T kv) (hm:P.underlying MT=some (.map T E)) {w:World} {r:Nat} {l:List (K×Value)} (h:MapAt w r kv l) (k:K) (v:Value):
  ∃w',(Instr.mapUpdate MT (.map (some r)) (kv k) v).run P w= .ok () w'/\MapAt w' r kv (aput l k v)/\w.grownBy w' (some r)/\w'.heap.size=w.heap.size:=by
 obtain⟨es,clock,h1,h2,h3,h4⟩:=h;have hf:=run_findKey' hk k w es.toList l h2;have hr:r<w.heap.size:=(Array.getElem?_eq_some_iff.1 h1).1;unfold Instr.mapUpdate;simp only[Sem.run_bind,run_underlying hm,Result.andThen_ok,rgo h1,hk.check,hf];cases hfi:fi l k 0 with
 | none=>
  have hp:=fi_none l k v 0 hfi;refine⟨World.putObj' w r (.map (es.push {key:=kv k,val:=v,born:=clock}) (clock+1)),?_,⟨es.push {key:=kv k,val:=v,born:=clock},clock+1,?_,?_,?_,?_⟩,grown_putObj _ _ _,by simp[World.putObj']⟩
  ·simp only[rso _ h1];rfl
  ·simp[World.putObj',hr]
  ·rw[hp];simp[h2]
  ·simp only[Array.toList_push,List.map_append,List.map_cons,List.map_nil];rw[List.nodup_append];refine⟨h3,by simp,?_⟩;intro a ha b hb;simp at hb;obtain⟨e,he,rfl⟩:=List.mem_map.1 ha;have:=h4 e he;omega
  ·intro e he;simp at he;rcases he with he | rfl
   ·have:=h4 e (by simpa using he);omega
   ·simp
 | some x=>
  obtain⟨j,u⟩:=x;have hl:=fi_lt _ _ _ _ _ hfi;have hmp:=modify_put es.toList l k v 0 j u h2 hfi;rw[Nat.sub_zero]at hmp;have hlen:es.toList.length=l.length:=by have:=congrArg List.length h2;simpa using this
  have hj:j<es.size:=by simp at hlen;omega
  have hkey:((es[j]?).map (·.key)).getD (kv k)=kv k:=by
   have hx:(es.toList.map (λe=>(e.key,e.val)))[j]? =(l.map (λx=>(kv x.1,x.2)))[j]?:=by rw[h2]
   have hfk:∀(l:List (K×Value)) i j u,fi l k i=some (j,u)->(l[j-i]?).map (·.1)=some k:=by
    intro l
    induction l with
    | nil=>intro i j u h;cases h
    | cons x l ih=>
     intro i j u h;unfold fi at h;split at h
     ·rename_i hh;injection h with h;injection h with e1 _;subst e1;simp[hh]
     ·have hl2:=fi_lt _ _ _ _ _ h;have:=ih _ _ _ h;rw[show j-i=(j-(i+1))+1 from by omega,List.getElem?_cons_succ];exact this
   have h5:=hfk l 0 j u hfi;rw[Nat.sub_zero]at h5;rw[List.getElem?_map,List.getElem?_map]at hx;simp only[Array.getElem?_toList]at hx;cases he:es[j]? with
   | none=>rfl
   | some e=>
    rw[he]at hx;cases hlj:l[j]? with
    | none=>rw[hlj]at hx;simp at hx
    | some y=>
     rw[hlj]at hx h5;simp only[Option.map_some,Option.some.injEq,Prod.mk.injEq]at hx h5;simp[hx.1,h5]
  refine⟨World.putObj' w r (.map (es.modify j λe=>{e with key:=kv k,val:=v}) clock),?_,⟨es.modify j λe=>{e with key:=kv k,val:=v},clock,?_,?_,?_,?_⟩,grown_putObj _ _ _,by simp[World.putObj']⟩
  ·simp only[hkey,Instr.keyThatStays,hk.bits,if_true,Sem.run_bind,Sem.run_pure,Result.andThen_ok,rso _ h1];rfl
  ·simp[World.putObj',hr]
  ·rw[Array.toList_modify];exact hmp.1
  ·rw[Array.toList_modify,hmp.2];exact h3
  ·intro e he;have:e.born∈(es.modify j λe=>{e with key:=kv k,val:=v}).toList.map (·.born):=List.mem_map_of_mem he;rw[Array.toList_modify,hmp.2]at this;obtain⟨e',he',hb⟩:=List.mem_map.1 this;have:=h4 e' he';omega

theorem erase_del:∀(es:List MapEntry) (l:List (K×Value)) (k:K) (i j:Nat) (u:Value),es.map (λe=>(e.key,e.val))=l.map (λx=>(kv x.1,x.2))->fi l k i=some (j,u)->
  (es.eraseIdx (j-i)).map (λe=>(e.key,e.val))=(adel l k).map (λx=>(kv x.1,x.2))
 | [],[],k,i,j,u,_,h=>by cases h
 | e::es,x::l,k,i,j,u,h,hf=>by
  simp only[List.map_cons,List.cons.injEq,Prod.mk.injEq]at h;obtain⟨⟨h1,h2⟩,h3⟩:=h;unfold fi at hf;split at hf
  ·rename_i hh;injection hf with hf;injection hf with e1 e2;subst e1;simp[adel,hh,h3]
  ·rename_i hh;have hl:=fi_lt _ _ _ _ _ hf;have ih:=erase_del es l k (i+1) j u h3 hf;obtain⟨m,hm⟩:∃m,j-i=m+1:=⟨j-(i+1),by omega⟩;have hm2:j-(i+1)=m:=by omega
   rw[hm2]at ih;simp[hm,adel,hh,h1,h2,ih]
 | [],_::_,_,_,_,_,h,_=>by simp at h
 | _::_,[],_,_,_,_,h,_=>by simp at h
theorem fi_none_del (l:List (K×Value)) (k:K):∀i,fi l k i=none->adel l k=l:=by
 induction l with
 | nil=>intro i _;rfl
 | cons x l ih=>
  intro i h;unfold fi at h;split at h
  ·cases h
  ·rename_i hh;simp[adel,hh,ih _ h]
theorem run_deleteAt {MT T E ty:TypeId} {ats:Array TypeId} (hk:KeyOk P T kv) (hm:P.underlying MT=some (.map T E)) (hat:ats[0]? =some MT) {w:World} {r:Nat} {l:List (K×Value)} (h:MapAt w r kv l) (k:K):
  ∃w',(Builtin.delete_ ats ty #[.map (some r),kv k]).run P w= .ok (.tuple #[]) w'/\MapAt w' r kv (adel l k)/\w.grownBy w' (some r)/\w'.heap.size=w.heap.size:=by
 obtain⟨es,clock,h1,h2,h3,h4⟩:=h;have hf:=run_findKey' hk k w es.toList l h2;have hr:r<w.heap.size:=(Array.getElem?_eq_some_iff.1 h1).1;unfold Builtin.delete_;have e0:(#[Value.map (some r),kv k]:Array Value)[0]? =some (.map (some r)):=rfl;have e1:(#[Value.map (some r),kv k]:Array Value)[1]? =some (kv k):=rfl;simp only[hat,e0,e1,Sem.run_bind,run_underlying hm,Result.andThen_ok,rgo h1,hk.check,hf];cases hfi:fi l k 0 with
 | none=>
  have hp:=fi_none_del l k 0 hfi;refine⟨World.putObj' w r (.map es clock),?_,⟨es,clock,by simp[World.putObj',hr],by rw[hp];exact h2,h3,h4⟩,grown_putObj _ _ _,by simp[World.putObj']⟩;simp only[Sem.run_bind,rso _ h1,Result.andThen_ok,Sem.run_pure];rfl
 | some x=>
  obtain⟨j,u⟩:=x;have hl:=fi_lt _ _ _ _ _ hfi;have hmp:=erase_del es.toList l k 0 j u h2 hfi;rw[Nat.sub_zero]at hmp;have hlen:es.toList.length=l.length:=by have:=congrArg List.length h2;simpa using this
  have hj:j<es.size:=by simp at hlen;omega
  have hto:(es.eraseIdxIfInBounds j).toList=es.toList.eraseIdx j:=by simp
  refine⟨World.putObj' w r (.map (es.eraseIdxIfInBounds j) clock),?_,⟨es.eraseIdxIfInBounds j,clock,by simp[World.putObj',hr],by rw[hto];exact hmp,?_,?_⟩,grown_putObj _ _ _,by simp[World.putObj']⟩
  ·simp only[Sem.run_bind,rso _ h1,Result.andThen_ok,Sem.run_pure];rfl
  ·rw[hto];exact List.Nodup.sublist ((List.eraseIdx_sublist _ _).map _) h3
  ·intro e he;rw[hto]at he;exact h4 e (List.mem_of_mem_eraseIdx he)
end

section
variable {P : Program} {K : Type} [DecidableEq K] {kv : K → Value} {ops : Array Oper} {rest : List Oper} {dst : Option Tmp} {ty : TypeId} {pos : String} {after : Array Edge} {a : Act} {w : World} {Q : Exit → Act → World → Prop}
end

def slv (a:Option Nat) (n cap:Nat):Value:= .slice (match a with | some g=>some ⟨g,0,none⟩ | none=>none) n cap
def ownP (e size:Nat) (a:Option Nat) (n cap:Nat) (xs:List Value) (h:Hl):Prop:=
 xs.length=n*size/\match a with
  | none=>n=0/\cap=0
  | some g=>∃cur:Array Value,h g=some (.cells cur e (0,0))/\n<=cap/\cap<=maxLen/\cur.size=cap*size/\cur.toList.take (n*size)=xs
def ownA (e size:Nat) (a:Option Nat) (n cap:Nat) (xs:List Value):Atom:= .hp ⟨ownP e size a n cap xs,λh h' l s=>by
 refine⟨s.1,?_⟩;have:=s.2;cases a with
 | none=>exact this
 | some g=>obtain⟨cur,h1,h2⟩:=this;exact⟨cur,l _ _ h1,h2⟩⟩
def mapP {K:Type} (r:Nat) (kv:K->Value) (l:List (K×Value)) (h:Hl):Prop:=
 ∃es clock,h r=some (.map es clock)/\es.toList.map (λe=>(e.key,e.val))=l.map (λx=>(kv x.1,x.2))/\(es.toList.map (·.born)).Nodup/\∀e∈es.toList,e.born<clock
def mapA {K:Type} (r:Nat) (kv:K->Value) (l:List (K×Value)):Atom:= .hp ⟨mapP r kv l,λ_ _ l ⟨es,c,h1,h2⟩=>⟨es,c,l _ _ h1,h2⟩⟩
section
variable {L : List Atom} {w w' : World}
theorem ownP_row {e size:Nat} {a:Option Nat} {n cap:Nat} {xs:List Value} (h:ownP e size a n cap xs (hl w)):w.ownsRow 0 e size (slv a n cap) n xs:=by
 refine⟨h.1,?_⟩;cases a with
 | none=>obtain⟨rfl,rfl⟩:=h.2;exact .inl ⟨rfl,rfl⟩
 | some g=>obtain⟨cur,h1,h2,h3,h4,h5⟩:=h.2;exact .inr ⟨g,cap,cur,rfl,Nat.zero_le _,h1,h2,h3,h4,h5⟩
theorem row_ownP {e size:Nat} {v:Value} {n:Nat} {xs:List Value} (h:w.ownsRow 0 e size v n xs):∃a cap,v=slv a n cap/\ownP e size a n cap xs (hl w)/\v.ownBlock=a:=by
 rcases h.2 with⟨rfl,rfl⟩ | ⟨g,cap,cur,rfl,_,h1,h2,h3,h4,h5⟩
 ·exact⟨none,0,rfl,⟨h.1,rfl,rfl⟩,rfl⟩
 ·exact⟨some g,cap,rfl,⟨h.1,cur,h1,h2,h3,h4,h5⟩,rfl⟩
theorem Sep.step {i:Nat} {A A':Atom} {x x':Option Nat} (s:Sep L (hl w)) (hA:L[i]? =some A) (hx:∀h g,A.sat h->x=some g->∃o,h g=some o) (hg:w.grownBy w' x) (hx':x'=x\/x'=some w.heap.size) (hA':∀h,(∀g,x'=some g->h g=hl w' g)->A'.sat h):Sep (L.set i A') (hl w'):=by
 obtain⟨own,hw⟩:=s;have hi:i<L.length:=(List.getElem?_eq_some_iff.1 hA).1;have hown:∀g,x=some g->own g=i:=λg e=>by
  obtain⟨o,ho⟩:=hx _ g (hw i A hA) e;exact(res_some.1 ho).1
 refine⟨λb=>if x'=some b then i else own b,λj B hB=>?_⟩;rw[List.getElem?_set]at hB;split at hB
 ·rename_i e;injection hB with hB;subst hB;subst e;refine hA' _ λg hg'=>?_;unfold res;rw[if_pos (by simp[hg'])]
 ·rename_i e;refine Atom.up (λb o hb=>?_) (hw j B hB);rw[res_some]at hb ⊢;have hlt:b<w.heap.size:=by
   rcases Nat.lt_or_ge b w.heap.size with h | h
   ·exact h
   ·have:=hb.2;simp only[hl]at this;rw[Array.getElem?_eq_none h]at this;cases this
  have hnx:x≠some b:=λe'=>e ((hown b e').symm.trans hb.1);have hnx':x'≠some b:=by
   rcases hx' with e' | e'
   ·rw[e'];exact hnx
   ·rw[e'];intro e2;injection e2 with e2;omega
  refine⟨by rw[if_neg hnx'];exact hb.1,?_⟩;have:=hg.block b hlt (λe'=>hnx e'.symm);simp only[hl]at hb ⊢;rw[this];exact hb.2
theorem Ext.grown {x:Option Nat} (h:w.grownBy w' x):Ext w w':=⟨h.os,h.tape,h.output,h.size⟩
end
section
variable {X : Cx} {P : Program} {T : Tab} {K : List KI} {E : Env} {L : List Atom} {N : Nat} {F : HP} {Post : Value → List Atom → Prop} {rs : List ResultVar}
theorem J.append (hX:IsCx X P rs N F Post) (hT:TabOK P T) {ops:Array Oper} {C:Cl} {lt:Bool} {i:Nat} {t:PT} {o:Oper} {g:G} {x y:Operand} {st e size by_:Nat} {ks tgs:Nat} {gs:G} {a:Option Nat} {n cap:Nat} {xs:List Value} {ky tgy:Nat} {gy:G} {b m c ty:Nat} {cs:List Value} {s1 b1:Nat} {z1:List Value} {E':Value->Env} (is iy tag:Nat)
  (ho:lget ops.toList i=some o) (hg:gd ops.toList E o=some g) (hgo:g.on=true) (hop:o.op= .call ⟨.builtin .append,#[x,y],#[st,st]⟩)
  (hx:ev E x=some ⟨ks,slv a n cap,tgs,gs⟩) (hvx:gs.on=true) (hy:ev E y=some ⟨ky, .slice (some ⟨b,0,none⟩) m c,tgy,gy⟩) (hvy:gy.on=true)
  (hLs:lget L is=some (ownA e size a n cap xs)) (hLy:lget L iy=some (.pt b ty cs)) (hst:T.get st=some ⟨.slice e size,s1,z1,b1⟩) {td:TD} {z:List Value} (he:T.get e=some ⟨td,size,z,by_⟩) (hz:Nat.beq z.length size=true)
  (hsz:Nat.blt 0 size=true) (hcs:cs.length=m*size) (h1:cs.all (·.oneCell')=true) (h63:n+m<=maxLen) (hbytes:(n+m)*by_<=140737488355328)
  (hd:∀v,putE N o.dst v tag .tt E=some (E' v))
  (hJ:∀a' cap',∃L',lset L is (ownA e size a' (n+m) cap' (xs++cs))=some L'/\Conj (staysL lt C L')/\J X (.reg ops C t::K) (E' (slv a' (n+m) cap')) L'):J X (.reg ops C (.alt lt i t .non)::K) E L:=by
 refine J.op hX (S:=λv L'=>∃a' cap',v=slv a' (n+m) cap'/\L'=L.set is (ownA e size a' (n+m) cap' (xs++cs))) tag ho hg hgo (λa0 w hen hs=>?_) hd (λv L' ⟨a',cap',e1,e2⟩=>by subst e1;subst e2;obtain⟨L2,q1,q2⟩:=hJ a' cap';rw[<- lset_eq q1];exact q2);obtain⟨d,f,zv,ok⟩:=tiOf_spec (hT.get hst);obtain⟨fe,rfl,g1,g2⟩:=ok.slice rfl;obtain⟨d',f',zv',ok'⟩:=tiOf_spec (hT.get he);have hf:fe=f':=by have:=g1.symm.trans ok'.hf;injection this
 subst hf;have hzz:z=zv'.cells.toList:=ok'.hzero;subst hzz;rw[lget_eq]at hLs hLy;have hrow:=ownP_row (hs.get hLs);have hblk:Blk w b ty cs.toArray:=hs.pt hLy;have hnews:∀j u,cs[j]? =some u->w.cell? ((⟨b,0,none⟩:Addr).add j)=some u:=λj u hu=>by
  rw[Addr.add_none,hblk.cell,Nat.zero_add];simpa using hu
 have h1':∀u∈cs,u.oneCell'=true:=by simpa using h1
 obtain⟨v',w',r1,r2,r3,_,r5⟩:=run_append_own_at (P:=P) w 0 st o.type e fe zv' size by_ ok.hd ok'.hf ok'.hz g2 ok'.hbytes.symm (by have:=Nat.eq_of_beq_eq_true hz;simpa using this) (Nat.le_of_ble_eq_true hsz) _ n xs hrow ⟨b,0,none⟩ m c cs hcs hnews h1' h63 hbytes (Nat.zero_le _);obtain⟨a',cap',e1,e2,e3⟩:=row_ownP r2;subst e1;have ex:=ev_spec hen hx;have ey:=ev_spec hen hy;simp only[Slot.val,hvx,hvy]at ex ey;refine⟨_,_, .value (slv a' (n+m) cap'),w',⟨a',cap',rfl,rfl⟩,?_, .inl rfl,?_,Ext.grown r3⟩
 ·simp only[execOp,hop,resolve,Sem.run_bind,Sem.run_pure,Result.andThen_ok,invoke,builtin,List.map_toArray,List.map_cons,List.map_nil,ex,ey,r1]
 ·refine Sep.step hs hLs (x:=(slv a n cap).ownBlock) (x':=a') (λh g0 hh he0=>?_) r3 (by rw[<- e3];exact r5) (λh hh=>⟨e2.1,?_⟩)
  ·cases a with
   | none=>simp[slv,Value.ownBlock]at he0
   | some ga=>
    simp only[slv,Value.ownBlock,Option.some.injEq]at he0;subst he0;obtain⟨cur,h1,_⟩:=hh.2;exact⟨_,h1⟩
  ·have e22:=e2.2;cases a' with
   | none=>exact e22
   | some ga=>
    obtain⟨cur,q1,q2⟩:=e22;exact⟨cur,(hh ga rfl).trans q1,q2⟩
def TD.one:TD->Bool
 | .row _ | .arr _ _=>false
 | _=>true
section
variable {P : Program} {T : Tab} {E : Env} {n : Nat} {a : Act} {w : World}
theorem TIOK.one {t:TypeId} {i:TI} {d:TypeDesc} {f:TypeInfo} {z:Value} (ok:TIOK P t i d f z) (h:i.d.one=true):isAggD d=false:=by
 have htd:=ok.htd;cases d<;>simp[isAggD]<;>simp[tdOf]at htd
 ·obtain⟨g,h1,h2⟩:=htd;rw[<- h2]at h;cases h
 ·obtain⟨g,h1,h2⟩:=htd;rw[<- h2]at h;cases h
theorem TIOK.many {t:TypeId} {i:TI} {d:TypeDesc} {f:TypeInfo} {z:Value} (ok:TIOK P t i d f z) (h:i.d.one=false):isAggD d=true:=by
 have htd:=ok.htd;cases d<;>first | rfl | (simp[tdOf]at htd;(try obtain⟨g,h1,h2⟩:=htd);first | (rw[<- htd]at h;cases h) | (rw[<- h2]at h;cases h))
theorem load1_run (hT:TabOK P T) {o:Oper} {t:TypeId} {x:Operand} {k tg b off ty:Nat} {g:G} {ti:TI} {cs:List Value} {v:Value} (hop:o.op= .load t x) (hx:ev E x=some ⟨k, .pointer (some ⟨b,off,none⟩),tg,g⟩) (he:EnvOK n E a) (hg:g.on=true) (hti:T.get t=some ti) (h1:ti.d.one=true)
  (hb:hl w b=some (.cells cs.toArray ty (0,0))) (hv:cs[off]? =some v):(execOp a.eval o).run P w= .ok (.value v) w:=by
 have ex:=ev_spec he hx;simp only[Slot.val,hg]at ex;obtain⟨d,f,z,ok⟩:=tiOf_spec (hT.get hti);have hblk:Blk w b ty cs.toArray:=hb;have hc:w.cell? ⟨b,off,none⟩=some v:=by rw[hblk.cell];simpa using hv
 simp only[execOp,hop,ex,Instr.loadAt,Instr.sureAddr,Sem.run_bind,Sem.run_pure,Result.andThen_ok,loadScalar_run ok.hd (ok.one h1) hc]
theorem loadN_run (hT:TabOK P T) {o:Oper} {t:TypeId} {x:Operand} {k tg b off ty:Nat} {g:G} {ti:TI} {cs l:List Value} (hop:o.op= .load t x) (hx:ev E x=some ⟨k, .pointer (some ⟨b,off,none⟩),tg,g⟩) (he:EnvOK n E a) (hg:g.on=true) (hti:T.get t=some ti) (h1:ti.d.one=false)
  (hb:hl w b=some (.cells cs.toArray ty (0,0))) (hv:(cs.drop off).take ti.size=l) (hl:l.length=ti.size):(execOp a.eval o).run P w= .ok (.value (.agg l.toArray)) w:=by
 have ex:=ev_spec he hx;simp only[Slot.val,hg]at ex;obtain⟨d,f,z,ok⟩:=tiOf_spec (hT.get hti);have hblk:Blk w b ty cs.toArray:=hb;have hm:=ok.many h1;have hr:=run_loadVar_mid (P:=P) w b off t l d (rangeAt_blk hblk off l (by rw[hl];exact hv)) ok.hd (by cases d<;>simp_all [isAggD,TypeDesc.isRow]) (by rw[ok.hf];simp[hl,ok.hsize]);simp only[execOp,hop,ex,Instr.loadAt,Instr.sureAddr,Sem.run_bind,Sem.run_pure,Result.andThen_ok,hr]
end
section
variable {P : Program} {T : Tab} {E : Env} {n : Nat} {a : Act} {w : World}
theorem own1_run (hT:TabOK P T) {o:Oper} {t:TypeId} {x:Operand} {k tg b off e size m cap:Nat} {g:G} {ti:TI} {xs:List Value} {v:Value} (hop:o.op= .load t x) (hx:ev E x=some ⟨k, .pointer (some ⟨b,off,none⟩),tg,g⟩) (he:EnvOK n E a) (hg:g.on=true) (hti:T.get t=some ti) (h1:ti.d.one=true)
  (hb:ownP e size (some b) m cap xs (hl w)) (hv:xs[off]? =some v):(execOp a.eval o).run P w= .ok (.value v) w:=by
 obtain⟨_,cur,h2,h3,h4,h5,h6⟩:=hb;refine load1_run hT hop hx he hg hti h1 (cs:=cur.toList) (ty:=e) (by rw[h2]) ?_;rw[<- h6,List.getElem?_take]at hv;split at hv
 ·exact hv
 ·cases hv
theorem ownN_run (hT:TabOK P T) {o:Oper} {t:TypeId} {x:Operand} {k tg b off e size m cap:Nat} {g:G} {ti:TI} {xs l:List Value} (hop:o.op= .load t x) (hx:ev E x=some ⟨k, .pointer (some ⟨b,off,none⟩),tg,g⟩) (he:EnvOK n E a) (hg:g.on=true) (hti:T.get t=some ti) (h1:ti.d.one=false)
  (hb:ownP e size (some b) m cap xs (hl w)) (hv:(xs.drop off).take ti.size=l) (hl:l.length=ti.size):(execOp a.eval o).run P w= .ok (.value (.agg l.toArray)) w:=by
 obtain⟨h0,cur,h2,h3,h4,h5,h6⟩:=hb;refine loadN_run hT hop hx he hg hti h1 (cs:=cur.toList) (ty:=e) (by rw[h2]) ?_ hl;have:off+ti.size<=xs.length\/ti.size=0:=by
  have:=congrArg List.length hv;simp at this;omega
 rcases this with h | h
 ·rw[<- hv,<- h6];apply List.ext_getElem?;intro j;simp only[List.getElem?_take,List.getElem?_drop];split
  ·rw[if_pos (by omega)]
  ·rfl
 ·rw[<- hv,h];simp
end
section
variable {P : Program} {KK : Type} [DecidableEq KK] {kv : KK → Value} {E : Env} {L : List Atom} {n : Nat} {a : Act} {w : World}
theorem lookup_run {KT MT ET:TypeId} (hk:KeyOk P KT kv) (hm:P.underlying MT=some (.map KT ET)) {z:Value} (hz:∀w,(zeroValue ET).run P w= .ok z w) {o:Oper} {x y:Operand} {c:Bool} {r:Nat} {l:List (KK×Value)} {key:KK} {k1 k2 t1 t2:Nat} {g1 g2:G} {u:Value}
  (hop:o.op= .lookup MT x y c) (hx:ev E x=some ⟨k1, .map (some r),t1,g1⟩) (hy:ev E y=some ⟨k2,u,t2,g2⟩) (hu:u=kv key) (he:EnvOK n E a) (v1:g1.on=true) (v2:g2.on=true) (hmap:mapP r kv l (hl w)):
  (execOp a.eval o).run P w= .ok (.value (match c with | true=> .tuple #[(alook l key).getD z, .bool (alook l key).isSome] | false=>(alook l key).getD z)) w:=by
 have ex:=ev_spec he hx;have ey:=ev_spec he hy;simp only[Slot.val,v1,v2]at ex ey;have hr:=run_lookupAt (P:=P) hk hm hz (w:=w) hmap key c;rw[hu]at ey;simp only[execOp,hop,ex,ey,Sem.run_bind,hr,Result.andThen_ok,Sem.run_pure];cases c<;>rfl
theorem len_map_run {KT MT ET:TypeId} (hm:P.underlying MT=some (.map KT ET)) {o:Oper} {x:Operand} {r:Nat} {l:List (KK×Value)} {k1 t1:Nat} {g1:G} (hop:o.op= .call ⟨.builtin .len,#[x],#[MT]⟩) (hx:ev E x=some ⟨k1, .map (some r),t1,g1⟩) (he:EnvOK n E a) (v1:g1.on=true) (hmap:mapP r kv l (hl w)):
  (execOp a.eval o).run P w= .ok (.value (.int .i64 (l.length:Int))) w:=by
 have ex:=ev_spec he hx;simp only[Slot.val,v1]at ex;obtain⟨es,cl,h1,h2,_⟩:=hmap;have hl:es.size=l.length:=by have:=congrArg List.length h2;simpa using this
 have hgo:(getObj r).run P w= .ok (.map es cl) w:=rgo h1;simp[execOp,hop,resolve,invoke,builtin,Builtin.len_,ex,underlying_run hm,hgo,goInt,hl]
end
section
variable {X : Cx} {P : Program} {K : List KI} {E : Env} {L : List Atom} {N : Nat} {F : HP} {Post : Value → List Atom → Prop} {rs : List ResultVar} {KK : Type} [DecidableEq KK] {kv : KK → Value}
theorem Sep.mapStep {w w':World} {i r:Nat} {l l':List (KK×Value)} (s:Sep L (hl w)) (hA:L[i]? =some (mapA r kv l)) (hg:w.grownBy w' (some r)) (hm:MapAt w' r kv l'):Sep (L.set i (mapA r kv l')) (hl w'):=
 Sep.step s hA (x:=some r) (x':=some r) (λh g ⟨es,c,h1,_⟩ e=>by injection e with e;subst e;exact⟨_,h1⟩) hg (.inl rfl) (λh hh=>by
  obtain⟨es,c,h1,h2⟩:=hm;exact⟨es,c,(hh r rfl).trans h1,h2⟩)
theorem J.mapUpdate (hX:IsCx X P rs N F Post) {KT MT ET:TypeId} (hk:KeyOk P KT kv) (hm:P.underlying MT=some (.map KT ET)) {ops:Array Oper} {C:Cl} {lt:Bool} {i:Nat} {t:PT} {o:Oper} {g:G} {x y u:Operand} {r:Nat} {l:List (KK×Value)} (key:KK) {k1 k2 k3 t1 t2 t3:Nat} {g1 g2 g3:G} {kvv v:Value} {E':Value->Env} (im:Nat)
  (ho:lget ops.toList i=some o) (hg:gd ops.toList E o=some g) (hgo:g.on=true) (hop:o.op= .mapUpdate MT x y u) (hx:ev E x=some ⟨k1, .map (some r),t1,g1⟩) (v1:g1.on=true) (hy:ev E y=some ⟨k2,kvv,t2,g2⟩) (v2:g2.on=true) (hkv:kvv=kv key) (hu:ev E u=some ⟨k3,v,t3,g3⟩) (v3:g3.on=true)
  (hL:lget L im=some (mapA r kv l)) (hd:∀v,putE N o.dst v 0 .tt E=some (E' v)) {L2:List Atom} (hL2:lset L im (mapA r kv (aput l key v))=some L2) (hJ:Conj (staysL lt C L2)/\J X (.reg ops C t::K) (E' undef) L2):J X (.reg ops C (.alt lt i t .non)::K) E L:=by
 refine J.op hX (S:=λv' L'=>v'=undef/\L'=L.set im (mapA r kv (aput l key v))) 0 ho hg hgo (λa0 w hen hs=>?_) hd (λv L' ⟨e1,e2⟩=>by subst e1;subst e2;rw[<- lset_eq hL2];exact hJ);rw[lget_eq]at hL;have ex:=ev_spec hen hx;have ey:=ev_spec hen hy;have eu:=ev_spec hen hu;simp only[Slot.val,v1,v2,v3]at ex ey eu;rw[hkv]at ey;have hmap:MapAt w r kv l:=hs.get hL;obtain⟨w',r1,r2,r3,r4⟩:=run_mapUpdateAt (P:=P) hk hm hmap key v;exact⟨undef,_, .skip,w',⟨rfl,rfl⟩,by simp only[execOp,hop,ex,ey,eu,Sem.run_bind,r1,Result.andThen_ok,Sem.run_pure], .inr ⟨rfl,rfl⟩,Sep.mapStep hs hL r3 r2,Ext.grown r3⟩
theorem J.delete (hX:IsCx X P rs N F Post) {KT MT ET:TypeId} (hk:KeyOk P KT kv) (hm:P.underlying MT=some (.map KT ET)) {ops:Array Oper} {C:Cl} {lt:Bool} {i:Nat} {t:PT} {o:Oper} {g:G} {x y:Operand} {r:Nat} {l:List (KK×Value)} (key:KK) {k1 k2 t1 t2 t3:Nat} {g1 g2:G} {kvv:Value} {E':Value->Env} (im:Nat)
  (ho:lget ops.toList i=some o) (hg:gd ops.toList E o=some g) (hgo:g.on=true) (hop:o.op= .call ⟨.builtin .delete,#[x,y],#[MT,t3]⟩) (hx:ev E x=some ⟨k1, .map (some r),t1,g1⟩) (v1:g1.on=true) (hy:ev E y=some ⟨k2,kvv,t2,g2⟩) (v2:g2.on=true) (hkv:kvv=kv key)
  (hL:lget L im=some (mapA r kv l)) (hd:∀v,putE N o.dst v 0 .tt E=some (E' v)) {L2:List Atom} (hL2:lset L im (mapA r kv (adel l key))=some L2) (hJ:Conj (staysL lt C L2)/\J X (.reg ops C t::K) (E' (.tuple #[])) L2):J X (.reg ops C (.alt lt i t .non)::K) E L:=by
 refine J.op hX (S:=λv' L'=>v'= .tuple #[]/\L'=L.set im (mapA r kv (adel l key))) 0 ho hg hgo (λa0 w hen hs=>?_) hd (λv L' ⟨e1,e2⟩=>by subst e1;subst e2;rw[<- lset_eq hL2];exact hJ);rw[lget_eq]at hL;have ex:=ev_spec hen hx;have ey:=ev_spec hen hy;simp only[Slot.val,v1,v2]at ex ey;rw[hkv]at ey;have hmap:MapAt w r kv l:=hs.get hL;obtain⟨w',r1,r2,r3,r4⟩:=run_deleteAt (P:=P) (ty:=o.type) (ats:= #[MT,t3]) hk hm rfl hmap key;exact⟨_,_, .value (.tuple #[]),w',⟨rfl,rfl⟩,by simp only[execOp,hop,resolve,Sem.run_bind,Sem.run_pure,Result.andThen_ok,invoke,builtin,List.map_toArray,List.map_cons,List.map_nil,ex,ey,r1], .inl rfl,Sep.mapStep hs hL r3 r2,Ext.grown r3⟩
theorem lput_one {α:Type} {v:α}:∀{cs:List α} {off:Nat},off<cs.length->lput cs off [v]=some (cs.set off v)
 | [],_,h=>by simp at h
 | c::cs,0,_=>by cases cs<;>rfl
 | c::cs,k+1,h=>by simp only[lput,List.set_cons_succ,lput_one (cs:=cs) (off:=k) (by simpa using h)]
theorem J.store1 {T:Tab} (hX:IsCx X P rs N F Post) (hT:TabOK P T) {ops:Array Oper} {C:Cl} {lt:Bool} {i:Nat} {t:PT} {o:Oper} {g:G} {ty0:TypeId} {x y:Operand} {k1 k2 t1 t2 b off ty:Nat} {g1 g2:G} {v:Value} {cs:List Value} {ti:TI} {E':Value->Env} (is:Nat)
  (ho:lget ops.toList i=some o) (hg:gd ops.toList E o=some g) (hgo:g.on=true) (hop:o.op= .store ty0 x y) (hx:ev E x=some ⟨k1, .pointer (some ⟨b,off,none⟩),t1,g1⟩) (v1:g1.on=true) (hy:ev E y=some ⟨k2,v,t2,g2⟩) (v2:g2.on=true)
  (hti:T.get ty0=some ti) (hsz:Nat.beq ti.size 1=true) (hc:v.cells.toList=[v]) (h1:v.oneCell'=true) (hL:lget L is=some (.pt b ty cs)) (hlt:off<cs.length) (cs':List Value) (hcs:cs.set off v=cs') {L2:List Atom} (hL2:lset L is (.pt b ty cs')=some L2)
  (hd:∀v,putE N o.dst v 0 .tt E=some (E' v)) (hJ:Conj (staysL lt C L2)/\J X (.reg ops C t::K) (E' undef) L2):J X (.reg ops C (.alt lt i t .non)::K) E L:=by
 refine J.op hX (S:=λv' L'=>v'=undef/\L'=L.set is (.pt b ty cs')) 0 ho hg hgo (λa0 w hen hs=>?_) hd (λv L' ⟨e1,e2⟩=>by subst e1;subst e2;rw[<- lset_eq hL2];exact hJ);rw[lget_eq]at hL;have ex:=ev_spec hen hx;have ey:=ev_spec hen hy;simp only[Slot.val,v1,v2]at ex ey;obtain⟨d,f,z,ok⟩:=tiOf_spec (hT.get hti);have hblk:Blk w b ty cs.toArray:=hs.pt hL;have hput:lput cs (off+0) [v]=some cs':=by rw[Nat.add_zero,<- hcs];exact lput_one hlt
 obtain⟨w',r1,r2,r3⟩:=storeCells_run (P:=P) [v] 0 w cs cs' hblk hput (by simp[h1]);have hsize:v.cells.size=f.size:=by
  have:=Nat.eq_of_beq_eq_true hsz;rw[<- ok.hsize,this,<- Array.length_toList,hc];rfl
 refine⟨undef,_, .skip,w',⟨rfl,rfl⟩,?_, .inr ⟨rfl,rfl⟩,?_,r3⟩
 ·simp only[execOp,hop,ex,ey,Instr.storeAt,Instr.sureAddr,Sem.run_bind,Sem.run_pure,Result.andThen_ok,storeVar,sizeOf_run ok.hf];simp[hsize,hc,r1]
 ·rw[r2];exact hs.setPt cs' hL
end
end
end Go.Proofs.YtdocmcapegcoeaaGreat
namespace Go.Proofs.YtdocmcapegcoeaaGreat
open Go.RowKit

theorem has_bits (m d:Int) (h0:0<=m) (h1:m<256):(!(bits .and .i64 m (L.one d)==0))=L.has m d:=by
 obtain⟨m,rfl⟩:=Int.eq_ofNat_of_zero_le h0
 by_cases hd:0<=d/\d<8
 ·obtain⟨d,rfl⟩:=Int.eq_ofNat_of_zero_le hd.1;have h2:d<8:=by omega
  simp only[L.one,hd,and_self,if_true,Int.toNat_natCast];have h3:(2:Nat)^d<9223372036854775808:=Nat.lt_of_le_of_lt (Nat.pow_le_pow_right (by omega) (by omega:d<=8)) (by decide);rw[i64_and_nat _ _ (by omega) h3,nat_bit];have h4:L.has (m:Int) (d:Int)=m.testBit d:=by simp[L.has,L.set,h1];omega
  have h5:0<2^d:=Nat.pow_pos (by omega);have h6:¬(((2^d:Nat):Int)=0):=by omega
  rw[h4,Nat.testBit_eq_decide_div_mod_eq];rcases Nat.mod_two_eq_zero_or_one (m/2^d)with h | h
  ·simp[h]
  ·rw[h,Nat.one_mul,beq_eq_false_iff_ne.2 h6];rfl
 ·have:L.one d=0:=by simp[L.one,hd]
  rw[this];have h4:L.has (m:Int) d=false:=by
   simp only[L.has,Bool.and_eq_false_iff,decide_eq_false_iff_not];omega
  rw[h4,show(0:Int)=((0:Nat):Int)from rfl,i64_and_nat _ _ (by omega) (by omega)];simp

theorem one_cases (d:Int):L.one d=0\/∃k:Nat,k<8/\d=k/\L.one d=((2^k:Nat):Int):=by
 by_cases hd:0<=d/\d<8
 ·obtain⟨d,rfl⟩:=Int.eq_ofNat_of_zero_le hd.1;exact .inr ⟨d,by omega,rfl,by simp only[L.one,hd,and_self,if_true,Int.toNat_natCast]⟩
 ·exact .inl (by simp[L.one,hd])
theorem one_bd (d:Int):0<=L.one d/\L.one d<256:=by
 rcases one_cases d with h | ⟨k,hk,_,h⟩
 ·omega
 ·have:=Nat.pow_le_pow_right (n:=2) (by omega) (by omega:k<=7);rw[h];generalize 2^k=q at*;omega
theorem with_bits (m d:Int) (h0:0<=m) (h1:m<256):bits .or .i64 m (L.one d)=L.with_ m d:=by
 obtain⟨m,rfl⟩:=Int.eq_ofNat_of_zero_le h0;obtain⟨k,hk⟩:=Int.eq_ofNat_of_zero_le (one_bd d).1;have:=(one_bd d).2;rw[hk]at this ⊢;rw[i64_or_nat _ _ (by omega) (by omega)];simp[L.with_,L.set,hk,h1]
theorem without_dec:∀m,m<256->∀k,k<8->bits .andNot .i64 ((m:Nat):Int) ((2^k:Nat):Int)=((m&&& (255-2^k):Nat):Int):=by decide+kernel
theorem without_dec0:∀m,m<256->bits .andNot .i64 ((m:Nat):Int) 0=((m&&& 255:Nat):Int):=by decide+kernel
theorem without_bits (m d:Int) (h0:0<=m) (h1:m<256):bits .andNot .i64 m (L.one d)=L.without m d:=by
 obtain⟨m,rfl⟩:=Int.eq_ofNat_of_zero_le h0;have hs:L.set (m:Int)=true:=by simp[L.set];omega
 rcases one_cases d with h | ⟨k,hk,_,h⟩
 ·rw[h,without_dec0 _ (by omega)];simp only[L.without,hs,h,if_true,Int.toNat_natCast];rfl
 ·rw[h,without_dec _ (by omega) _ hk];simp only[L.without,hs,h,if_true,Int.toNat_natCast]

set_option maxHeartbeats 400000 in
theorem lane_set (m:Int) (w:World):
  Calls Tryz.prog 131 #[.int .i64 m] w λe w'=>e= .returned (.bool (L.set m))/\w=w':=by
 by_cases h0:0<=m
 ·go_enter Tryz.func131,Tryz.ntmps131
  go_wp2
  go_ret
  exact⟨retB (by simp[L.set,h0]),rfl⟩
 ·go_enter Tryz.func131,Tryz.ntmps131
  go_wp2
  go_ret
  exact⟨retB (by simp[L.set];omega),rfl⟩

set_option maxHeartbeats 400000 in
theorem lane_one (d:Int) (w:World):
  Calls Tryz.prog 132 #[.int .i64 d] w λe w'=>e= .returned (.int .i64 (L.one d))/\w=w':=by
 by_cases h0:d<0
 ·go_enter Tryz.func132,Tryz.ntmps132
  go_wp2
  go_ret
  exact⟨retI (by simp[L.one];omega),rfl⟩
 ·by_cases h8:8<=d
  ·go_enter Tryz.func132,Tryz.ntmps132
   go_wp2
   go_ret
   exact⟨retI (by simp[L.one];omega),rfl⟩
  ·obtain⟨d,rfl⟩:=Int.eq_ofNat_of_zero_le (by omega:0<=d);have:d<8:=by omega
   match d,this with
   | 0,_ | 1,_ | 2,_ | 3,_ | 4,_ | 5,_ | 6,_ | 7,_=>
    go_enter Tryz.func132,Tryz.ntmps132
    go_wp2
    go_ret
    exact⟨rfl,rfl⟩

set_option maxHeartbeats 400000 in
theorem lane_All (n:Int) (w:World):
  Calls Tryz.prog 98 #[.int .i64 n] w λe w'=>e= .returned (.int .i64 (L.all n))/\w=w':=by
 by_cases h0:n<0
 ·go_enter Tryz.func98,Tryz.ntmps98
  go_wp2
  go_ret
  exact⟨retI (by simp[L.all];omega),rfl⟩
 ·by_cases h8:8<n
  ·go_enter Tryz.func98,Tryz.ntmps98
   go_wp2
   go_ret
   exact⟨retI (by simp[L.all];omega),rfl⟩
  ·obtain⟨d,rfl⟩:=Int.eq_ofNat_of_zero_le (by omega:0<=n);have:d<9:=by omega
   match d,this with
   | 0,_ | 1,_ | 2,_ | 3,_ | 4,_ | 5,_ | 6,_ | 7,_ | 8,_=>
    go_enter Tryz.func98,Tryz.ntmps98
    go_wp2
    go_ret
    exact⟨rfl,rfl⟩

set_option maxHeartbeats 400000 in
theorem lane_Has (m d:Int) (w:World):
  Calls Tryz.prog 111 #[.int .i64 m, .int .i64 d] w λe w'=>e= .returned (.bool (L.has m d))/\w=w':=by
 by_cases h:0<=m/\m<256
 ·have hs:L.set m=true:=by simp[L.set,h]
  have hb:=Lib.hid (has_bits m d h.1 h.2)
  go_enter Tryz.func111,Tryz.ntmps111
  go_wp2_with (first | (go_at_call 131;refine(lane_set _ _).mono ?_;rintro e w' ⟨rfl,rfl⟩) | (go_at_call 132;refine(lane_one _ _).mono ?_;rintro e w' ⟨rfl,rfl⟩))
  go_ret
  exact⟨retB hb.out,rfl⟩
 ·have hs:L.set m=false:=by simp[L.set];omega
  have hb:=Lib.hid (show L.has m d=false by simp[L.has,hs])
  go_enter Tryz.func111,Tryz.ntmps111
  go_wp2_with (first | (go_at_call 131;refine(lane_set _ _).mono ?_;rintro e w' ⟨rfl,rfl⟩) | (go_at_call 132;refine(lane_one _ _).mono ?_;rintro e w' ⟨rfl,rfl⟩))
  go_ret
  exact⟨retB hb.out.symm,rfl⟩

set_option maxHeartbeats 400000 in
theorem lane_With (m d:Int) (w:World):
  Calls Tryz.prog 94 #[.int .i64 m, .int .i64 d] w λe w'=>e= .returned (.int .i64 (L.with_ m d))/\w=w':=by
 by_cases h:0<=m/\m<256
 ·have hs:L.set m=true:=by simp[L.set,h]
  have hb:=Lib.hid (with_bits m d h.1 h.2)
  go_enter Tryz.func94,Tryz.ntmps94
  go_wp2_with (first | (go_at_call 131;refine(lane_set _ _).mono ?_;rintro e w' ⟨rfl,rfl⟩) | (go_at_call 132;refine(lane_one _ _).mono ?_;rintro e w' ⟨rfl,rfl⟩))
  go_ret
  exact⟨retI hb.out,rfl⟩
 ·have hs:L.set m=false:=by simp[L.set];omega
  have hb:=Lib.hid (show L.with_ m d=0 by simp[L.with_,hs])
  go_enter Tryz.func94,Tryz.ntmps94
  go_wp2_with (first | (go_at_call 131;refine(lane_set _ _).mono ?_;rintro e w' ⟨rfl,rfl⟩) | (go_at_call 132;refine(lane_one _ _).mono ?_;rintro e w' ⟨rfl,rfl⟩))
  go_ret
  exact⟨retI hb.out.symm,rfl⟩

set_option maxHeartbeats 400000 in
theorem lane_Without (m d:Int) (w:World):
  Calls Tryz.prog 113 #[.int .i64 m, .int .i64 d] w λe w'=>e= .returned (.int .i64 (L.without m d))/\w=w':=by
 by_cases h:0<=m/\m<256
 ·have hs:L.set m=true:=by simp[L.set,h]
  have hb:=Lib.hid (without_bits m d h.1 h.2)
  go_enter Tryz.func113,Tryz.ntmps113
  go_wp2_with (first | (go_at_call 131;refine(lane_set _ _).mono ?_;rintro e w' ⟨rfl,rfl⟩) | (go_at_call 132;refine(lane_one _ _).mono ?_;rintro e w' ⟨rfl,rfl⟩))
  go_ret
  exact⟨retI hb.out,rfl⟩
 ·have hs:L.set m=false:=by simp[L.set];omega
  have hb:=Lib.hid (show L.without m d=0 by simp[L.without,hs])
  go_enter Tryz.func113,Tryz.ntmps113
  go_wp2_with (first | (go_at_call 131;refine(lane_set _ _).mono ?_;rintro e w' ⟨rfl,rfl⟩) | (go_at_call 132;refine(lane_one _ _).mono ?_;rintro e w' ⟨rfl,rfl⟩))
  go_ret
  exact⟨retI hb.out.symm,rfl⟩

def oc1 (m:Int):Int:=IntKind.u64.wrap (bits BinOp.and IntKind.u64 (m/2) 6148914691236517205+bits BinOp.and IntKind.u64 m 6148914691236517205)
def oc2 (x:Int):Int:=IntKind.u64.wrap (bits BinOp.and IntKind.u64 (x/4) 3689348814741910323+bits BinOp.and IntKind.u64 x 3689348814741910323)
def oc3 (x:Int):Int:=bits BinOp.and IntKind.u64 (IntKind.u64.wrap (x/16+x)) 1085102592571150095
def oc4 (x:Int):Int:=IntKind.u64.wrap (x+x/256)
def oc5 (x:Int):Int:=IntKind.u64.wrap (x+x/65536)
def oc6 (x:Int):Int:=IntKind.u64.wrap (x+x/4294967296)
def oc (m:Int):Int:=bits BinOp.and IntKind.i64 (wrap64 (oc6 (oc5 (oc4 (oc3 (oc2 (oc1 m))))))) 127
theorem oc_dec:∀m,m<256->oc ((m:Nat):Int)=(L.count (m:Int):Int):=by decide+kernel
theorem oc_eq (m:Int) (h0:0<=m) (h1:m<256):oc m=(L.count m:Int):=by
 obtain⟨m,rfl⟩:=Int.eq_ofNat_of_zero_le h0;exact oc_dec m (by omega)
set_option maxHeartbeats 400000 in
theorem ones64 (m:Int) (h0:0<=m) (h1:m<256) (w:World):
  Calls Tryz.prog 187 #[.int .u64 m] w λe w'=>e= .returned (.int .i64 (L.count m))/\w=w':=by
 have hoc:=Lib.hid (oc_eq m h0 h1)
 go_enter Tryz.func187,Tryz.ntmps187
 go_wp2
 go_ret
 exact⟨retI hoc.out,rfl⟩
set_option maxHeartbeats 400000 in
theorem ones (m:Int) (h0:0<=m) (h1:m<256) (w:World):
  Calls Tryz.prog 143 #[.int .u64 m] w λe w'=>e= .returned (.int .i64 (L.count m))/\w=w':=by
 go_enter Tryz.func143,Tryz.ntmps143
 go_wp2_with (go_at_call 187;refine(ones64 _ h0 h1 _).mono ?_;rintro e w' ⟨rfl,rfl⟩)
 go_ret
 exact⟨rfl,rfl⟩
set_option maxHeartbeats 400000 in
theorem lane_Count (m:Int) (w:World):
  Calls Tryz.prog 100 #[.int .i64 m] w λe w'=>e= .returned (.int .i64 (L.count m))/\w=w':=by
 by_cases h:0<=m/\m<256
 ·have hs:L.set m=true:=by simp[L.set,h]
  obtain⟨h0,h1⟩:=h
  go_enter Tryz.func100,Tryz.ntmps100
  go_wp2_with (first | (go_at_call 131;refine(lane_set _ _).mono ?_;rintro e w' ⟨rfl,rfl⟩) | (go_at_call 143;refine(ones _ h0 h1 _).mono ?_;rintro e w' ⟨rfl,rfl⟩))
  go_ret
  exact⟨rfl,rfl⟩
 ·have hs:L.set m=false:=by simp[L.set];omega
  have hb:=Lib.hid (show(L.count m:Int)=0 by simp[L.count,L.dies,hs])
  go_enter Tryz.func100,Tryz.ntmps100
  go_wp2_with (first | (go_at_call 131;refine(lane_set _ _).mono ?_;rintro e w' ⟨rfl,rfl⟩))
  go_ret
  exact⟨retI hb.out.symm,rfl⟩

set_option maxHeartbeats 400000 in
theorem lane_At (m i:Int) (hi0: -1000000<=i) (hi1:i<=1000000) (w:World):
  Calls Tryz.prog 148 #[.int .i64 m, .int .i64 i] w λe w'=>e= .returned (.int .i64 (L.at_ m i))/\w=w':=by
 go_enter Tryz.func148,Tryz.ntmps148
 go_wp2
 go_loop [1,6] (λj c=>∃k:Nat,k<=8/\c= .int .i64 k/\j= .int .i64 (i-L.below m k)/\(0<=i->(L.below m k:Int)<=i)) (λ_ c=>8-(intOf c).toNat)
 case atStart=>exact⟨0,by omega,rfl,by rw[L.below_zero];simp,λh=>by rw[L.below_zero];exact h⟩
 case round=>
  obtain⟨k,hk,rfl,rfl,hlow⟩:=hrel;have hbl:L.below m k<=8:=Nat.le_trans (List.length_filter_le _ _) (by simp)
  by_cases hlt:k<8
  ·have hs:=L.below_succ m k hlt;have ha:=L.at_below m k hlt;cases hh:L.has m k
   ·rw[hh]at hs;have hs:=Lib.hid hs;clear ha
    go_wp2_with (go_at_call 111;refine(lane_Has _ _ _).mono ?_;rintro e w' ⟨rfl,rfl⟩)
    go_round
    case rel=>exact⟨k+1,by omega,by go_num,by rw[hs.out];rfl,by rw[hs.out];exact hlow⟩
    case measure=>simp[intOf];omega
   ·have ha:=Lib.hid (ha hh);rw[hh]at hs;have hs:=Lib.hid hs
    by_cases he:i=L.below m k
    ·have he':(i-(L.below m k:Int)==0)=true:=by simp;omega
     have ha:Hid (L.at_ m i=k):=by rw[he];exact ha
     clear he
     go_wp2_with (go_at_call 111;refine(lane_Has _ _ _).mono ?_;rintro e w' ⟨rfl,rfl⟩)
     go_ret
     exact⟨retI ha.out.symm,rfl⟩
    ·have he':(i-(L.below m k:Int)==0)=false:=by simp;omega
     have hlow':0<=i->(L.below m k:Int)+1<=i:=λh=>by have:=hlow h;omega
     clear he hlow
     go_wp2_with (go_at_call 111;refine(lane_Has _ _ _).mono ?_;rintro e w' ⟨rfl,rfl⟩)
     go_round
     case rel=>exact⟨k+1,by omega,by go_num,by rw[hs.out];simp;omega,by rw[hs.out];simpa using hlow'⟩
     case measure=>simp[intOf];omega
  ·have:k=8:=by omega
   subst this;rw[L.below_eight]at hlow;have ha:=Lib.hid (L.at_ge m i (by omega));clear hlow
   go_wp2
   go_ret
   exact⟨retI ha.out.symm,rfl⟩

theorem all_and (m:Int) (d:Int) (hh:L.has m d=true):(L.count (bits .and .i64 m (L.all d)):Int)=L.spot m d:=by
 obtain⟨h1,h2,h3,h4⟩:=L.has_lt m d hh;rw[<- L.spot_eq m d hh];obtain⟨m,rfl⟩:=Int.eq_ofNat_of_zero_le h3;obtain⟨d,rfl⟩:=Int.eq_ofNat_of_zero_le h1;have h5:(2:Nat)^d-1<9223372036854775808:=Nat.lt_of_le_of_lt (Nat.le_trans (Nat.sub_le _ _) (Nat.pow_le_pow_right (by omega) (by omega:d<=8))) (by decide);rw[L.all,if_pos (by omega),i64_and_nat _ _ (by omega) (by simpa using h5)];simp only[Int.toNat_natCast]

set_option maxHeartbeats 400000 in
theorem lane_Spot (m d:Int) (w:World):
  Calls Tryz.prog 297 #[.int .i64 m, .int .i64 d] w λe w'=>e= .returned (.int .i64 (L.spot m d))/\w=w':=by
 cases hh:L.has m d
 ·have hb:=Lib.hid (show L.spot m d= -1 by simp[L.spot,hh])
  go_enter Tryz.func297,Tryz.ntmps297
  go_wp2_with (first | (go_at_call 111;refine(lane_Has _ _ _).mono ?_;rintro e w' ⟨rfl,rfl⟩))
  go_ret
  exact⟨retI hb.out.symm,rfl⟩
 ·have hb:=Lib.hid (all_and m d hh)
  go_enter Tryz.func297,Tryz.ntmps297
  go_wp2_with (first | (go_at_call 111;refine(lane_Has _ _ _).mono ?_;rintro e w' ⟨rfl,rfl⟩) | (go_at_call 98;refine(lane_All _ _).mono ?_;rintro e w' ⟨rfl,rfl⟩) | (go_at_call 100;refine(lane_Count _ _).mono ?_;rintro e w' ⟨rfl,rfl⟩))
  go_ret
  exact⟨retI hb.out,rfl⟩

set_option maxHeartbeats 400000 in
theorem geo_within (n a b:Int) (w:World):
  Calls Tryz.prog 114 #[.int .i64 n, .int .i64 a, .int .i64 b] w λe w'=>e= .returned (.bool (decide (a<=n)&&decide (n<=b)))/\w=w':=by
 by_cases h0:a<=n
 ·go_enter Tryz.func114,Tryz.ntmps114
  go_wp2
  go_ret
  exact⟨retB (by simp[h0]),rfl⟩
 ·go_enter Tryz.func114,Tryz.ntmps114
  go_wp2
  go_ret
  exact⟨retB (by simp;omega),rfl⟩

set_option maxHeartbeats 400000 in
theorem geo_Slots (m:Int) (w:World):
  Calls Tryz.prog 54 #[.int .i64 m] w λe w'=>e= .returned (.int .i64 (G.slots m))/\w=w':=by
 have hc:=L.count_le m
 by_cases h:L.count m<2
 ·have hs:=Lib.hid (show G.slots m=0 by simp[G.slots,h])
  go_enter Tryz.func54,Tryz.ntmps54
  go_wp2_with (go_at_call 100;refine(lane_Count _ _).mono ?_;rintro e w' ⟨rfl,rfl⟩)
  go_ret
  exact⟨retI hs.out.symm,rfl⟩
 ·have hs:=Lib.hid (show G.slots m=(L.count m:Int)-1 by simp[G.slots,h])
  go_enter Tryz.func54,Tryz.ntmps54
  go_wp2_with (go_at_call 100;refine(lane_Count _ _).mono ?_;rintro e w' ⟨rfl,rfl⟩)
  go_ret
  exact⟨retI hs.out.symm,rfl⟩

set_option maxHeartbeats 400000 in
theorem geo_Parity (m b r:Int) (w:World):
  Calls Tryz.prog 106 #[.int .i64 m, .int .i64 b, .int .i64 r] w λe w'=>e= .returned (.int .i64 (G.parity m b r))/\∃n,w'=w.drewN n:=by
 have hc:=L.count_le m
 by_cases h:L.count m<2
 ·have hs:=Lib.hid (show G.parity m b r= -1 by simp[G.parity,h])
  go_enter Tryz.func106,Tryz.ntmps106
  go_wp2_with (go_at_call 100;refine(lane_Count _ _).mono ?_;rintro e w' ⟨rfl,rfl⟩)
  go_ret
  exact⟨retI hs.out.symm,0,rfl⟩
 ·by_cases hb:b<0
  ·have hs:=Lib.hid (show G.parity m b r= -1 by simp[G.parity,hb])
   go_enter Tryz.func106,Tryz.ntmps106
   go_wp2_with (go_at_call 100;refine(lane_Count _ _).mono ?_;rintro e w' ⟨rfl,rfl⟩)
   go_ret
   exact⟨retI hs.out.symm,0,rfl⟩
  ·by_cases hr:r<0
   ·have hs:=Lib.hid (show G.parity m b r= -1 by simp[G.parity,hr])
    go_enter Tryz.func106,Tryz.ntmps106
    go_wp2_with (go_at_call 100;refine(lane_Count _ _).mono ?_;rintro e w' ⟨rfl,rfl⟩)
    go_ret
    exact⟨retI hs.out.symm,0,rfl⟩
   ·have hs:=Lib.hid (show G.parity m b r=L.at_ m ((b+r) % (L.count m:Int))by simp[G.parity,h,hb,hr]);have hn0:(0:Int)<(L.count m:Int):=by omega
    have h1:=Int.emod_nonneg b (by omega:(L.count m:Int)≠0);have h2:=Int.emod_lt_of_pos b hn0;have h3:=Int.emod_nonneg r (by omega:(L.count m:Int)≠0);have h4:=Int.emod_lt_of_pos r hn0;have h5:=Int.emod_nonneg (b+r) (by omega:(L.count m:Int)≠0);have h6:=Int.emod_lt_of_pos (b+r) hn0;have hne:¬L.count m=0:=by omega
    have e1:b.tmod (L.count m:Int)=b % (L.count m:Int):=Int.tmod_eq_emod_of_nonneg (by omega);have e2:r.tmod (L.count m:Int)=r % (L.count m:Int):=Int.tmod_eq_emod_of_nonneg (by omega);have e3:(b % (L.count m:Int)+r % (L.count m:Int)).tmod (L.count m:Int)=(b % (L.count m:Int)+r % (L.count m:Int)) % (L.count m:Int):=Int.tmod_eq_emod_of_nonneg (by omega);have e4:IntKind.i64.wrap (b % (L.count m:Int)+r % (L.count m:Int))=b % (L.count m:Int)+r % (L.count m:Int):=IntWalk.i64_in _ (by omega)
    go_enter Tryz.func106,Tryz.ntmps106
    go_wp2_with (first | (go_at_call 100;refine(lane_Count _ _).mono ?_;rintro e w' ⟨rfl,rfl⟩))
    go_quiet ((go_at_call 148;exact Calls.quiet_of_same ((lane_At _ _ (by omega) (by omega) _).mono λ_ _ h=>⟨h.1,h.2.symm⟩)))
    go_wp2
    go_ret
    exact⟨retI hs.out.symm,_,rfl⟩

set_option maxHeartbeats 400000 in
theorem geo_Die (m b r s:Int) (h0: -1000000<=s) (h1:s<=1000000) (w:World):
  Calls Tryz.prog 107 #[.int .i64 m, .int .i64 b, .int .i64 r, .int .i64 s] w λe w'=>e= .returned (.int .i64 (G.die m b r s))/\∃n,w'=w.drewN n:=by
 by_cases hp:G.parity m b r<0
 ·have hs:=Lib.hid (show G.die m b r s= -1 by simp[G.die,hp])
  go_enter Tryz.func107,Tryz.ntmps107
  go_wp2_with (go_at_call 106;refine(geo_Parity _ _ _ _).mono ?_;rintro e w' ⟨rfl,n,rfl⟩)
  go_ret
  exact⟨retI hs.out.symm,_,rfl⟩
 ·have hs:=Lib.hid (show G.die m b r s=L.at_ (L.without m (G.parity m b r)) s by simp[G.die,hp])
  go_enter Tryz.func107,Tryz.ntmps107
  go_wp2_with (first | (go_at_call 106;refine(geo_Parity _ _ _ _).mono ?_;rintro e w' ⟨rfl,n,rfl⟩) | (go_at_call 113;refine(lane_Without _ _ _).mono ?_;rintro e w' ⟨rfl,rfl⟩) | (go_at_call 148;refine(lane_At _ _ h0 h1 _).mono ?_;rintro e w' ⟨rfl,rfl⟩))
  go_ret
  exact⟨retI hs.out.symm,_,rfl⟩

set_option maxHeartbeats 400000 in
theorem geo_Slot (m b r s:Int) (w:World):
  Calls Tryz.prog 288 #[.int .i64 m, .int .i64 b, .int .i64 r, .int .i64 s] w λe w'=>e= .returned (.int .i64 (G.slot m b r s))/\∃n,w'=w.drewN n:=by
 by_cases hp:G.parity m b r<0
 ·have hs:=Lib.hid (show G.slot m b r s= -1 by simp[G.slot,hp])
  go_enter Tryz.func288,Tryz.ntmps288
  go_wp2_with (go_at_call 106;refine(geo_Parity _ _ _ _).mono ?_;rintro e w' ⟨rfl,n,rfl⟩)
  go_ret
  exact⟨retI hs.out.symm,_,rfl⟩
 ·have hs:=Lib.hid (show G.slot m b r s=L.spot (L.without m (G.parity m b r)) s by simp[G.slot,hp])
  go_enter Tryz.func288,Tryz.ntmps288
  go_wp2_with (first | (go_at_call 106;refine(geo_Parity _ _ _ _).mono ?_;rintro e w' ⟨rfl,n,rfl⟩) | (go_at_call 113;refine(lane_Without _ _ _).mono ?_;rintro e w' ⟨rfl,rfl⟩) | (go_at_call 297;refine(lane_Spot _ _ _).mono ?_;rintro e w' ⟨rfl,rfl⟩))
  go_ret
  exact⟨retI hs.out.symm,_,rfl⟩

def mayGeo (d b p:Int):Bool:=decide (3<=d/\d<=6)&&decide (8<=b/\b<=16)&&decide (2<=p/\p<=8)
set_option maxHeartbeats 400000 in
theorem geo_May (d b p:Int) (w:World):
  Calls Tryz.prog 68 #[.agg #[.int .i64 d, .int .i64 b, .int .i64 p]] w λe w'=>e= .returned (.bool (mayGeo d b p))/\Below w.heap.size w w':=by
 by_cases h1:3<=d/\d<=6
 ·have e1:(decide (3<=d)&&decide (d<=6))=true:=by simp[h1]
  by_cases h2:8<=b/\b<=16
  ·have e2:(decide (8<=b)&&decide (b<=16))=true:=by simp[h2]
   have hs:=Lib.hid (show mayGeo d b p=(decide (2<=p)&&decide (p<=8))by simp[mayGeo,h1,h2])
   go_enter Tryz.func68,Tryz.ntmps68
   go_wp2_with (go_at_call 114;refine(geo_within _ _ _ _).mono ?_;rintro e w' ⟨rfl,rfl⟩)
   go_ret
   exact⟨retB hs.out.symm,(Below.refl _ _).alloc (Nat.le_refl _) _⟩
  ·have e2:(decide (8<=b)&&decide (b<=16))=false:=by simp;omega
   have hs:=Lib.hid (show mayGeo d b p=false by simp[mayGeo,h2])
   go_enter Tryz.func68,Tryz.ntmps68
   go_wp2_with (go_at_call 114;refine(geo_within _ _ _ _).mono ?_;rintro e w' ⟨rfl,rfl⟩)
   go_ret
   exact⟨retB hs.out.symm,(Below.refl _ _).alloc (Nat.le_refl _) _⟩
 ·have e1:(decide (3<=d)&&decide (d<=6))=false:=by simp;omega
  have hs:=Lib.hid (show mayGeo d b p=false by simp[mayGeo,h1])
  go_enter Tryz.func68,Tryz.ntmps68
  go_wp2_with (go_at_call 114;refine(geo_within _ _ _ _).mono ?_;rintro e w' ⟨rfl,rfl⟩)
  go_ret
  exact⟨retB hs.out.symm,(Below.refl _ _).alloc (Nat.le_refl _) _⟩

def inGeo (d b p x y z:Int):Bool:=decide (0<=x/\x<d)&&decide (0<=y/\y<b)&&decide (0<=z/\z<p)
set_option maxRecDepth 100000 in
set_option maxHeartbeats 400000 in
theorem geo_In (d b p x y z:Int) (hd:0<=d/\d<=1000000) (hb:0<=b/\b<=1000000) (hp:0<=p/\p<=1000000) (w:World):
  Calls Tryz.prog 61 #[.agg #[.int .i64 d, .int .i64 b, .int .i64 p], .agg #[.int .i64 x, .int .i64 y, .int .i64 z]] w λe w'=>e= .returned (.bool (inGeo d b p x y z))/\Below w.heap.size w w':=by
 by_cases h1:0<=x/\x<d
 ·have e1:(decide (0<=x)&&decide (x<=d-1))=true:=by simp;omega
  by_cases h2:0<=y/\y<b
  ·have e2:(decide (0<=y)&&decide (y<=b-1))=true:=by simp;omega
   have hs:=Lib.hid (show inGeo d b p x y z=(decide (0<=z)&&decide (z<=p-1))by rw[Bool.eq_iff_iff];simp[inGeo,h1,h2];omega)
   go_enter Tryz.func61,Tryz.ntmps61
   go_wp2_with (go_at_call 114;refine(geo_within _ _ _ _).mono ?_;rintro e w' ⟨rfl,rfl⟩)
   go_ret
   exact⟨retB hs.out.symm,((Below.refl _ _).alloc (Nat.le_refl _) _).alloc (by simp) _⟩
  ·have e2:(decide (0<=y)&&decide (y<=b-1))=false:=by rw[Bool.eq_false_iff];simp;omega
   have hs:=Lib.hid (show inGeo d b p x y z=false by simp only[inGeo,h2,decide_false,Bool.and_false,Bool.false_and])
   go_enter Tryz.func61,Tryz.ntmps61
   go_wp2_with (go_at_call 114;refine(geo_within _ _ _ _).mono ?_;rintro e w' ⟨rfl,rfl⟩)
   go_ret
   exact⟨retB hs.out.symm,((Below.refl _ _).alloc (Nat.le_refl _) _).alloc (by simp) _⟩
 ·have e1:(decide (0<=x)&&decide (x<=d-1))=false:=by rw[Bool.eq_false_iff];simp;omega
  have hs:=Lib.hid (show inGeo d b p x y z=false by simp only[inGeo,h1,decide_false,Bool.false_and])
  go_enter Tryz.func61,Tryz.ntmps61
  go_wp2_with (go_at_call 114;refine(geo_within _ _ _ _).mono ?_;rintro e w' ⟨rfl,rfl⟩)
  go_ret
  exact⟨retB hs.out.symm,((Below.refl _ _).alloc (Nat.le_refl _) _).alloc (by simp) _⟩

abbrev A3:=Int×Int×Int
def a3c (a:A3):List Value:=[.int .i64 a.1, .int .i64 a.2.1, .int .i64 a.2.2]
def a3v (a:A3):Value:= .agg #[.int .i64 a.1, .int .i64 a.2.1, .int .i64 a.2.2]
theorem leaves39:leaves Tryz.prog 100 53=some [.int .i64, .int .i64, .int .i64]:=by kernel_rfl
theorem eqc_a3 (a b:A3):eqCells (a3c a) (a3c b)=decide (a=b):=by
 obtain⟨a1,a2,a3⟩:=a;obtain⟨b1,b2,b3⟩:=b;rw[Bool.eq_iff_iff];simp[a3c,eqCells,cellEq]
theorem key39:KeyOk Tryz.prog 53 a3v where
 now:=⟨_,Tryz.underlying53,λ_ _=> .inl rfl⟩
 eq:=λa b w=>by
  have hm:∀xs,mkV Tryz.prog 53 xs= .agg xs.toArray:=λxs=>by simp[mkV,Tryz.underlying53]
  have:=equalIn_leaves 100 53 _ leaves39 10000 (by omega) (a3c a) (a3c b) ⟨rfl,rfl,rfl,trivial⟩ ⟨rfl,rfl,rfl,trivial⟩ w;rw[eqc_a3,hm,hm]at this;exact this
 check:=λe a w=>by kernel_rfl
 bits:=λa=>by
  obtain⟨a1,a2,a3⟩:=a;simp[a3v,Instr.sameBits]

def trues (l:List A3):List (A3×Value):=l.map λa=>(a, .bool true)
theorem alook_trues (l:List A3) (a:A3):((alook (trues l) a).getD (.bool false)= .bool (decide (a∈l)))/\(alook (trues l) a).isSome=decide (a∈l):=by
 induction l with
 | nil=>exact⟨rfl,rfl⟩
 | cons x l ih=>
  simp only[trues,List.map_cons,alook]
  by_cases h:a=x
  ·simp[h]
  ·have:¬(a=(x,Value.bool true).1):=h;simp only[if_neg this,List.mem_cons,h,false_or];exact ih

end Go.Proofs.YtdocmcapegcoeaaGreat
