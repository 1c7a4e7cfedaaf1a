/- Helpers. No condition. -/
import Derived.Test.YtpohajhbfllbbaaGreatD02
set_option maxRecDepth 20000
set_option linter.all false
namespace Go.Proofs.YtpohajhbfllbbaaGreat
open Go Go.RowKit
structure ER where
 v:Value
 tag:Nat
 L:List Atom
 ob:List Prop
 k:Nat
def W0:Nat->List Value->List Value
 | 0,_=>[]
 | n+1,z=>z++W0 n z
def V4 {α:Type}:List Nat->List α->α->Option (List α×Nat)
 | k::_,[],y=>some ([y],k)
 | _::ks,x::r,y=>match V4 ks r y with
  | some (r',k)=>some (x::r',k)
  | none=>none
 | [],_,_=>none
def a7x:List Nat:=[1,2,3,4,5,6,7,8,9,10,11,12,13,14,15,16,17,18,19,20,21,22,23,24,25,26,27,28,29,30,31,32,33,34,35,36,37,38,39,40]
def a2g (T:Tab) (L:List Atom) (k t:Nat):Slot->Slot->Option ER
 | ⟨_, .pointer (some ⟨b,o,none⟩),i+1,g⟩,⟨_,v,_,g'⟩=>match n4 L i,T.get t with
  | some (.pt b' ty cs),some ⟨_,sz,_,_⟩=>match Nat.beq sz v.cells.toList.length,N9 cs o v.cells.toList with
   | true,some cs'=>match A4 L i (.pt b' ty cs')with
    | some L'=>some ⟨undef,0,L',(b=b')::(v.cells.toList.all (·.oneCell')=true)::(p9 g++p9 g'),k⟩
    | none=>none
   | _,_=>none
  | _,_=>none
 | _,_=>none
def U3 (T:Tab) (bs:Nat->Nat) (E:Env) (L:List Atom) (k t len:Nat) (parts:List (Nat×Operand)):Option ER:=match T.get t,slots E (parts.map (·.2))with
 | some ⟨.slice el esz,_,_,_⟩,some l=>match T.get el with
  | some ⟨_,sz,z,_⟩=>match Nat.beq sz z.length,Nat.ble (len*sz) 16777216,a3l (λi=>some (i*sz,sz)) (W0 len z) (a0b parts l)with
   | true,true,some cs=>match V4 a7x L (.pt (bs k) el cs)with
    | some (L',tg)=>some ⟨.slice (some ⟨bs k,0,none⟩) len len,tg,L',M6 l,k+1⟩
    | none=>none
   | _,_,_=>none
  | none=>none
 | _,_=>none
def eff (T:Tab) (bs:Nat->Nat) (E:Env) (L:List Atom) (k:Nat):Op->Option ER
 | .store t x y=>match ev E x,ev E y with
  | some s,some s'=>a2g T L k t s s'
  | _,_=>none
 | .alloc el=>match T.get el with
  | some ⟨_,_,z,_⟩=>match V4 a7x L (.pt (bs k) el z)with
   | some (L',tg)=>some ⟨.pointer (some ⟨bs k,0,none⟩),tg,L',[],k+1⟩
   | none=>none
  | none=>none
 | .box el x=>match ev E x with
  | some ⟨_,v,_,g⟩=>match V4 a7x L (.pt (bs k) el v.cells.toList)with
   | some (L',tg)=>some ⟨.pointer (some ⟨bs k,0,none⟩),tg,L',p9 g,k+1⟩
   | none=>none
  | none=>none
 | .buildSlice t len parts=>U3 T bs E L k t len parts.toList
 | .makeMap _ none=>match V4 a7x L (.ob (bs k) (.map #[] 0))with
  | some (L',tg)=>some ⟨.map (some (bs k)),tg,L',[],k+1⟩
  | none=>none
 | _=>none
theorem M9 {α:Type}:∀{ks:List Nat} {l m:List α} {y:α} {k:Nat},V4 ks l y=some (m,k)->m=l++[y]
 | k'::ks,[],m,y,k,h=>by simp only[V4,Option.some.injEq,Prod.mk.injEq]at h;rw[<- h.1];rfl
 | k'::ks,x::r,m,y,k,h=>by
  simp only[V4]at h;split at h
  ·rename_i r' k2 hr;simp only[Option.some.injEq,Prod.mk.injEq]at h;rw[<- h.1,M9 hr];rfl
  ·cases h
 | [],l,m,y,k,h=>by simp[V4]at h
section
variable {P : Program} {T : Tab} {E : Env} {L : List Atom} {n : Nat} {a : Act} {w : World}
theorem a9U (h:Hl) (b:Nat) (o o':Obj):A5 (A5 h b o) b o'=A5 h b o':=by
 funext x;unfold A5;split<;>rfl
theorem a7K {b o:Nat} {t:TypeId} {cs:List Value} (hb:Blk w b t cs.toArray) (v:Value):hl (w.setCell ⟨b,o,none⟩ v)=A5 (hl w) b (.cells (cs.set o v).toArray t (0,0)):=by
 funext x;unfold hl A5
 by_cases e:x=b
 ·subst e;have:=hb.set_ o v;rw[if_pos rfl];unfold Blk at this;rw[this];simp
 ·rw[if_neg e];simp[World.setCell,Array.getElem?_modify,Ne.symm e]
theorem a0D (w:World) (o:Obj):hl {w with heap:=w.heap.push o}=A5 (hl w) w.heap.size o:=by
 funext x;unfold hl A5;simp only[Array.getElem?_push]
theorem a0E (w:World):hl w w.heap.size=none:=by simp[hl]
theorem a3N {v:Value} (h:v.oneCell'=true) {p:Addr} {x:Value} (hc:w.cell? p=some x) (hf:w.frozen? p=false):(store p v).run P w= .ok () (w.setCell p v):=by
 cases v<;>first | (simp[Value.oneCell']at h;done) | simp[store,Sem.run,hc,hf]
theorem C4 {b o:Nat} {t:TypeId}:∀(xs:List Value) (j:Nat) (w:World) (cs m:List Value),Blk w b t cs.toArray->N9 cs (o+j) xs=some m->xs.all (·.oneCell')=true->
  ∃w',(storeCells ⟨b,o,none⟩ xs j).run P w= .ok () w'/\hl w'=A5 (hl w) b (.cells m.toArray t (0,0))/\Ext w w'
 | [],j,w,cs,m,hb,hm,_=>by
  obtain⟨h1,_⟩:=R3 hm;simp at h1;subst h1;refine⟨w,rfl,?_,Ext.refl _⟩;funext x;unfold A5;split
  ·rename_i e;subst e;exact hb
  ·rfl
 | x::xs,j,w,cs,m,hb,hm,h1=>by
  simp only[List.all_cons,Bool.and_eq_true]at h1;have hlt:o+j<cs.length:=by have:=(R3 hm).2;simp at this;omega
  have hc:w.cell? ⟨b,o+j,none⟩=some cs[o+j]:=by rw[hb.cell];simp[hlt]
  have hrun:=a3N (P:=P) h1.1 hc (hb.frozen _);have hb':Blk (w.setCell ⟨b,o+j,none⟩ x) b t (cs.set (o+j) x).toArray:=by have:=hb.set_ (o+j) x;simpa using this
  obtain⟨w',r1,r2,r3⟩:=C4 xs (j+1) _ _ m hb' (by rw[<- Nat.add_assoc];exact a1c hm) h1.2;refine⟨w',?_,?_,?_⟩
  ·simp only[storeCells,Addr.add_none,Sem.run_bind,hrun,Result.andThen_ok,r1]
  ·rw[r2,a7K hb,a9U]
  ·exact Ext.trans (b:=w.setCell ⟨b,o+j,none⟩ x) ⟨rfl,rfl,rfl,by simp[World.setCell]⟩ r3
theorem a6W (hT:TabOK P T) {k t:Nat} {s s':Slot} {r:ER} (h:a2g T L k t s s'=some r) (hob:Conj r.ob) (hs:Sep L (hl w)):
  ∃w',(Instr.storeAt t s.v s'.v).run P w= .ok () w'/\r.v=undef/\Sep r.L (hl w')/\Ext w w'/\Conj (J8 s)/\Conj (J8 s'):=by
 unfold a2g at h;split at h
 ·rename_i kk b o i gg kk' v tg' gg';split at h
  ·rename_i b' ty cs td sz z bb hL hg;rw[m9]at hL;split at h
   ·rename_i cs' e1 e2;split at h
    ·rename_i L' hL';injection h with h;subst h;obtain⟨hb,h1,hvv⟩:=hob;subst hb;have hL2:=y8 hL';subst hL2;obtain⟨d,fi,zv,ok⟩:=g7 (hT.get hg);have hsz:sz=fi.size:=ok.hsize;have e3:=Nat.eq_of_beq_eq_true e1;have hblk:Blk w b ty cs.toArray:=hs.pt hL;obtain⟨w',r1,r2,r3⟩:=C4 (P:=P) v.cells.toList 0 w cs cs' hblk e2 h1;obtain⟨v1,v2⟩:=Conj.app hvv;refine⟨w',?_,rfl,?_,r3,v1,v2⟩
     ·have hne:v.cells.size=fi.size:=by rw[<- hsz,e3];simp
      simp only[Instr.storeAt,Instr.sureAddr,Sem.run_bind,Sem.run_pure,Result.andThen_ok,storeVar,m6 ok.hf];simp[hne,r1]
     ·rw[r2];exact hs.setPt cs' hL
    ·cases h
   ·cases h
  ·cases h
 ·cases h
theorem a3G (k:Nat) (z:List Value):(W0 k z).length=k*z.length:=by
 induction k with
 | zero=>simp[W0]
 | succ k ih=>simp[W0,ih,Nat.succ_mul,Nat.add_comm]
theorem a2i (z:List Value):∀(k i:Nat),i<k*z.length->(W0 k z)[i]? =z[i % z.length]?
 | 0,i,h=>by simp at h
 | k+1,i,h=>by
  rw[W0,List.getElem?_append];split
  ·rename_i hi;rw[Nat.mod_eq_of_lt hi]
  ·rename_i hi;have h':i-z.length<k*z.length:=by rw[Nat.succ_mul]at h;omega
   rw[a2i z k _ h'];rw[<- Nat.mod_eq_sub_mod (by omega)]
theorem a8T (k:Nat) (z:Array Value):((Array.range (k*z.size)).map (z[· % z.size]!)).toList=W0 k z.toList:=by
 have hl:=a3G k z.toList;have hzl:z.toList.length=z.size:=by simp
 rw[hzl]at hl;apply List.ext_getElem?;intro i
 by_cases h:i<k*z.size
 ·have hg:=a2i z.toList k i (by simpa using h);have hz:0<z.size:=by
   rcases Nat.eq_zero_or_pos z.size with e | e
   ·rw[e]at h;simp at h
   ·exact e
  have hm:i % z.size<z.size:=Nat.mod_lt _ hz;rw[hg];simp[h,hm]
 ·rw[List.getElem?_eq_none (by simp;omega),List.getElem?_eq_none (by omega)]
theorem a8K (hT:TabOK P T) {bs:Nat->Nat} {k:Nat} {o:Oper} {r:ER} (he:EnvOK n E a) (h:eff T bs E L k o.op=some r) (hob:Conj r.ob) (hs:Sep L (hl w)) (hk:r.k=k\/bs k=w.heap.size):
  ∃nv w',(execOp a.eval o).run P w= .ok nv w'/\(nv= .value r.v\/(nv= .skip/\r.v=undef))/\Sep r.L (hl w')/\Ext w w':=by
 have hx:∀o':Obj,Ext w {w with heap:=w.heap.push o'}:=λo'=>⟨rfl,rfl,rfl,by simp⟩;have hnew:∀(el:TypeId) (cs:List Value),bs k=w.heap.size->Sep (L++[.pt (bs k) el cs]) (hl {w with heap:=w.heap.push (.cells cs.toArray el)}):=λel cs e=>by
  rw[a0D,e];exact hs.snoc (a0E w) (λh' hh=>hh)
 unfold eff at h;unfold execOp;split at h<;>rename_i hop<;>simp only[hop]
 ·split at h
  ·rename_i s s' h1 h2;obtain⟨w',r1,r2,r3,r4,v1,v2⟩:=a6W (P:=P) hT h hob hs;refine⟨.skip,w',?_, .inr ⟨rfl,r2⟩,r3,r4⟩;rw[evs he h1 v1,evs he h2 v2];simp only[Sem.run_bind,r1,Result.andThen_ok,Sem.run_pure]
  ·cases h
 ·split at h
  ·rename_i td sz z bb hg;split at h
   ·rename_i L' tgn hL';injection h with h;subst h;have hL2:=M9 hL';subst hL2;have e:bs k=w.heap.size:=hk.resolve_left (by simp);obtain⟨d,fi,zv,ok⟩:=g7 (hT.get hg);have hz:z=zv.cells.toList:=ok.hzero;subst hz;refine⟨_,_,?_, .inl rfl,hnew _ _ e,hx _⟩;simp only[Instr.alloc,Sem.run_bind,W1 ok.hf ok.hz,Result.andThen_ok,newVar,newRow,newObj,Sem.run,Sem.run_pure,e]
   ·cases h
  ·cases h
 ·split at h
  ·rename_i kk v tg gg h1;split at h
   ·rename_i L' tgn hL';injection h with h;subst h;have hL2:=M9 hL';subst hL2;have e:bs k=w.heap.size:=hk.resolve_left (by simp);refine⟨_,_,?_, .inl rfl,hnew _ _ e,hx _⟩;rw[evs he h1 hob];simp only[Instr.box,Sem.run_bind,Result.andThen_ok,newVar,newRow,newObj,Sem.run,Sem.run_pure,e]
   ·cases h
  ·cases h
 ·rename_i t len parts;unfold U3 at h;split at h
  ·rename_i el esz sz z bb l hg hl1;split at h
   ·rename_i td sz' z' bb' hg';split at h
    ·rename_i cs e1 e2 e3;split at h
     ·rename_i L' tgn hL';injection h with h;subst h;have hL2:=M9 hL';subst hL2;have e:bs k=w.heap.size:=hk.resolve_left (by simp);obtain⟨d,fi,zv,ok⟩:=g7 (hT.get hg);obtain⟨fe,rfl,g1,g2⟩:=ok.slice rfl;obtain⟨d',fi',zv',ok'⟩:=g7 (hT.get hg');have hz:z'=zv'.cells.toList:=ok'.hzero;subst hz;have hsz:sz'=fi'.size:=ok'.hsize;have hbe:=Nat.eq_of_beq_eq_true e1;rw[Array.length_toList]at hbe;have hble:=Nat.le_of_ble_eq_true e2;have hp:=Y4 (C5 he hl1 hob);have hel:zv'.cells.size=fi'.size:=by rw[<- hbe,hsz]
      have g1':fe=fi':=by have:=g1.symm.trans ok'.hf;injection this
      subst g1';rw[hsz]at e3 hble;rw[<- hel,<- a8T]at e3;have hfill:=Y9 (place':=λi=>some (i*zv'.cells.size,zv'.cells.size)) (λ_ _ h=>h) e3;refine⟨_,_,?_, .inl rfl,hnew _ cs e,hx _⟩;have hn:¬len*fe.size>2^24:=by omega
      rw[<- hel]at hn;simp only[Instr.buildSlice,Sem.run_bind,d7 ok.hd,Result.andThen_ok,m6 g1,<- hel];rw[if_neg hn]
      by_cases h0:len*zv'.cells.size=0
      ·have hrg:∀f:Nat->Value,(Array.range (len*zv'.cells.size)).map f= #[]:=λf=>by rw[h0];simp
       rw[hrg]at hfill;rw[if_pos h0];simp only[Sem.run_bind,Sem.run_pure,Result.andThen_ok,hrg,Array.toList_map,hp,hfill,newRow,newObj,Sem.run,e]
      ·rw[if_neg h0];simp only[Sem.run_bind,Sem.run_pure,Result.andThen_ok,W1 ok'.hf ok'.hz,Array.toList_map,hp,hfill,newRow,newObj,Sem.run,e]
     ·cases h
    ·cases h
   ·cases h
  ·cases h
 ·split at h
  ·rename_i L' tgn hL';injection h with h;subst h;have hL2:=M9 hL';subst hL2;have e:bs k=w.heap.size:=hk.resolve_left (by simp);refine⟨_,{w with heap:=w.heap.push (.map #[] 0)},?_, .inl rfl,?_,hx _⟩
   ·simp only[Instr.makeMap,Option.map_none,Sem.run_bind,Result.andThen_ok,newObj,Sem.run,Sem.run_pure,e]
   ·rw[a0D,e];exact hs.snoc (a0E w) (λh' hh=>hh)
  ·cases h
 ·cases h
end
def gd (ops:List Oper) (E:Env) (o:Oper):Option G:=match o.guard with
 | none=>some .tt
 | some (j,want)=>match n4 ops j with
  | some oj=>match oj.dst with
   | some d=>match E.get d with
    | some ⟨_, .bool b,_, .tt⟩=>match want with
     | true=>some (.when b)
     | false=>some (.when (!b))
    | some ⟨_, .bool b,_, .when c⟩=>match want with
     | true=>some (.when (c&&b))
     | false=>some (.when (c&& !b))
    | _=>none
   | none=>none
  | none=>none
def a8b:G->List Prop->List Prop
 | .tt,l=>l
 | .when _,[]=>[]
 | .when b,p::r=>[b=true->Conj (p::r)]
def b4B:Cl->Nat->Option Atom
 | [],_=>none
 | (j,A)::r,i=>match Nat.beq j i with
  | true=>some A
  | false=>b4B r i
def rdC (C:Cl) (L:List Atom):Nat->List Prop
 | 0=>[]
 | i+1=>[b4B C i=n4 L i]
def b0Y:Cl->List Atom->List Prop
 | [],_=>[]
 | (i,A)::r,L=>(n4 L i=some A)::b0Y r L
def n9 (l:Bool) (C:Cl) (L:List Atom):List Prop:=match l with
 | true=>[]
 | false=>b0Y C L
structure SR where
 E:Env
 L:List Atom
 ob:List Prop
 k:Nat
def B8 (N:Nat) (dst:Option Tmp) (v:Value) (tag:Nat) (g:G) (E:Env):Option Env:=match dst with
 | none=>some E
 | some d=>match Nat.blt d N with
  | true=>some (⟨d,v,tag,g⟩::E)
  | false=>none
def W4 (T:Tab) (N:Nat) (ops:List Oper) (C:Cl) (p:Bool) (i:Nat) (E:Env) (L:List Atom) (k:Nat):Option SR:=match n4 ops i with
 | some o=>match gd ops E o,look T E L o.op with
  | some g,some ⟨v,tag,ob,rd⟩=>match B8 N o.dst v tag g E with
   | some E'=>match p,rd with
    | true,0=>some ⟨E',L,a8b g ob,k⟩
    | true,_+1=>none
    | false,rd=>some ⟨E',L,a8b g (rdC C L rd++ob),k⟩
   | none=>none
  | _,_=>none
 | none=>none
def Q1 (T:Tab) (N:Nat) (bs:Nat->Nat) (ops:List Oper) (C:Cl) (l:Bool) (i:Nat) (E:Env) (L:List Atom) (k:Nat):Option SR:=match n4 ops i with
 | some o=>match gd ops E o with
  | some g=>match look T E L o.op with
   | some ⟨v,tag,ob,_⟩=>match B8 N o.dst v tag g E with
    | some E'=>some ⟨E',L,n9 l C L++a8b g ob,k⟩
    | none=>none
   | none=>match g with
    | .tt=>match eff T bs E L k o.op with
     | some ⟨v,tag,L',ob,k'⟩=>match B8 N o.dst v tag .tt E with
      | some E'=>some ⟨E',L',n9 l C L'++ob,k'⟩
      | none=>none
     | none=>none
    | _=>none
  | none=>none
 | none=>none
section
variable {P : Program} {T : Tab} {E : Env} {L : List Atom} {n : Nat} {a : Act} {w : World}
theorem J5 {ops:Array Oper} {o:Oper} {g:G} (he:EnvOK n E a) (h:gd ops.toList E o=some g):Region.wanted o (yielded ops a.tmps)=g.on:=by
 unfold gd at h;unfold Region.wanted;split at h
 ·rename_i hg;injection h with h;subst h;simp[hg,G.on]
 ·rename_i j want hg;split at h
  ·rename_i oj hj;rw[m9]at hj;have hj':ops[j]? =some oj:=by simpa using hj
   split at h
   ·rename_i d hd;have hy:∀s,E.get d=some s->yielded ops a.tmps j=match s.val with | .bool b=>some b | _=>none:=λs hs=>by
     have:=he.slot d s hs;simp only[yielded,hj',Option.bind_some,hd,this];cases s.val<;>rfl
    split at h
    ·rename_i k b t hs;have:=hy _ hs;simp only[Slot.val,G.on]at this;simp only[hg,this];split at h<;>injection h with h<;>subst h<;>cases b<;>rfl
    ·rename_i k b t c hs;have:=hy _ hs;simp only[Slot.val,G.on]at this;simp only[hg];split at h<;>injection h with h<;>subst h<;>cases c<;>cases b<;>simp only[this]<;>rfl
    ·cases h
   ·cases h
  ·cases h
theorem Z6 {g:G} {l:List Prop} (h:Conj (a8b g l)) (hg:g.on=true):Conj l:=by
 cases g with
 | tt=>exact h
 | when b=>
  cases l with
  | nil=>trivial
  | cons p r=>exact h.1 hg
theorem y7 {N:Nat} {dst:Option Tmp} {v:Value} {tag:Nat} {g:G} {E':Env} (he:EnvOK N E a) (h:B8 N dst v tag g E=some E') (u:Value) (hu:u=match g.on with | true=>v | false=>undef):EnvOK N E' (a.put dst u):=by
 unfold B8 at h;split at h
 ·injection h with h;subst h;exact he
 ·rename_i d;split at h
  ·rename_i hd;injection h with h;subst h;exact he.put (Nat.le_of_ble_eq_true hd) v tag g u hu
  ·cases h
theorem i7:∀{C:Cl} {i:Nat} {A:Atom},b4B C i=some A->(i,A)∈C
 | (j,B)::r,i,A,h=>by
  simp only[b4B]at h;split at h
  ·rename_i e;have:=Nat.eq_of_beq_eq_true e;subst this;injection h with h;subst h;exact List.mem_cons_self ..
  ·exact List.mem_cons_of_mem _ (i7 h)
theorem a2s:∀{C:Cl} {L:List Atom} {w:World},Conj (b0Y C L)->Sep L (hl w)->CAt C w
 | [],L,w,h,hs=>by intro p hp;cases hp
 | (i,A)::r,L,w,h,hs=>by
  intro p hp;rcases List.mem_cons.1 hp with rfl | hp
  ·have:=h.1;rw[m9]at this;exact hs.get this
  ·exact a2s h.2 hs p hp
theorem x5 {l:Bool} {C:Cl} {L:List Atom} {w:World} (h:Conj (n9 l C L)) (hs:Sep L (hl w)) (e:l=false):CAt C w:=by
 subst e;exact a2s h hs
theorem a3J (hT:TabOK P T) {N:Nat} {ops:Array Oper} {C:Cl} {p:Bool} {i k:Nat} {r:SR} (h:W4 T N ops.toList C p i E L k=some r) (hob:Conj r.ob):
  r.L=L/\r.k=k/\∃o,ops[i]? =some o/\∀a,EnvOK N E a->∃v,YldIn P ops (λw=>p=false->CAt C w) o v a/\EnvOK N r.E (a.put o.dst v):=by
 unfold W4 at h;split at h
 ·rename_i o ho;rw[m9]at ho;have ho':ops[i]? =some o:=by simpa using ho
  split at h
  ·rename_i g v tag ob rd hg hq;split at h
   ·rename_i E' hE;split at h
    ·injection h with h;subst h;refine⟨rfl,rfl,o,ho',λa he=>⟨_,?_,y7 he hE _ rfl⟩⟩;have hw:=J5 he hg;cases hon:g.on with
     | false=>exact .inr ⟨by rw[hw,hon],rfl⟩
     | true=>exact .inl ⟨by rw[hw,hon],λw _=>a2Y hT he hq (Z6 hob hon) λi A hi hA=>by cases hi⟩
    ·cases h
    ·injection h with h;subst h;refine⟨rfl,rfl,o,ho',λa he=>⟨_,?_,y7 he hE _ rfl⟩⟩;have hw:=J5 he hg;cases hon:g.on with
     | false=>exact .inr ⟨by rw[hw,hon],rfl⟩
     | true=>
      have hob2:=Z6 hob hon;obtain⟨o1,o2⟩:=Conj.app hob2;refine .inl ⟨by rw[hw,hon],λw hC=>a2Y hT he hq o2 λi A hi hA=>?_⟩;have hi':rd=i+1:=hi;rw[hi']at o1;have h1:=o1.1;rw[m9,hA]at h1;exact hC rfl _ (i7 h1)
   ·cases h
  ·cases h
 ·cases h
theorem a5S (hT:TabOK P T) {N:Nat} {bs:Nat->Nat} {ops:Array Oper} {C:Cl} {l:Bool} {i k:Nat} {r:SR} (h:Q1 T N bs ops.toList C l i E L k=some r) (hob:Conj r.ob):
  ∃o,ops[i]? =some o/\∀a w,EnvOK N E a->Sep L (hl w)->(r.k=k\/bs k=w.heap.size)->sOp P ops o (λa' w'=>(l=false->CAt C w')/\EnvOK N r.E a'/\Sep r.L (hl w')/\Ext w w') a w:=by
 unfold Q1 at h;split at h
 ·rename_i o ho;rw[m9]at ho;have ho':ops[i]? =some o:=by simpa using ho
  split at h
  ·rename_i g hg;split at h
   ·rename_i v tag ob rd hq;split at h
    ·rename_i E' hE;injection h with h;subst h;obtain⟨o1,o2⟩:=Conj.app hob;refine⟨o,ho',λa w he hs _=>?_⟩;have hw:=J5 he hg;unfold sOp;cases hon:g.on with
     | false=>
      rw[if_neg (by rw[hw,hon];simp)];exact⟨x5 o1 hs,y7 he hE _ (by rw[hon]),hs,Ext.refl _⟩
     | true=>
      rw[if_pos (by rw[hw,hon]),a2Y hT he hq (Z6 o2 hon) λi A _ hA=>hs.get hA];exact⟨x5 o1 hs,y7 he hE _ (by rw[hon]),hs,Ext.refl _⟩
    ·cases h
   ·split at h
    ·split at h
     ·rename_i v tag L' ob k' hq;split at h
      ·rename_i E' hE;injection h with h;subst h;obtain⟨o1,o2⟩:=Conj.app hob;refine⟨o,ho',λa w he hs hk=>?_⟩;have hw:=J5 he hg;obtain⟨nv,w',r1,r2,r3,r4⟩:=a8K hT he hq o2 hs hk;unfold sOp;rw[if_pos (by rw[hw];rfl),r1];rcases r2 with rfl | ⟨rfl,r2⟩
       ·exact⟨x5 o1 r3,y7 he hE _ rfl,r3,r4⟩
       ·exact⟨x5 o1 r3,y7 he hE _ (by simp only at r2;rw[r2];rfl),r3,r4⟩
      ·cases h
     ·cases h
    ·cases h
  ·cases h
 ·cases h
end

theorem b0g {T:Tab} {b0 bs:Nat->Nat} {E:Env} {L:List Atom} {k:Nat} {op:Op} {r:ER} (h:eff T b0 E L k op=some r):(r.k=k\/r.k=k+1)/\((k<r.k->bs k=b0 k)->eff T bs E L k op=some r):=by
 unfold eff at h ⊢;split at h
 ·split at h
  ·rename_i s s' h1 h2;refine⟨.inl ?_,λ_=>by first | exact h | (rw[h1,h2];exact h) | (simp only[h1,h2];exact h)⟩;unfold a2g at h
   (repeat' split at h)<;>first | (cases h;done) | (injection h with h;subst h;rfl)
  ·cases h
 ·split at h
  ·rename_i h1;split at h
   ·rename_i h2;injection h with h;subst h;exact⟨.inr rfl,λhb=>by simp only[h1,hb (Nat.lt_succ_self k),h2]⟩
   ·cases h
  ·cases h
 ·split at h
  ·rename_i h1;split at h
   ·rename_i h2;injection h with h;subst h;exact⟨.inr rfl,λhb=>by simp only[h1,hb (Nat.lt_succ_self k),h2]⟩
   ·cases h
  ·cases h
 ·unfold U3 at h ⊢;split at h
  ·rename_i h1 h2;split at h
   ·rename_i h3;split at h
    ·rename_i h4 h5 h6;split at h
     ·rename_i h7;injection h with h;subst h;exact⟨.inr rfl,λhb=>by simp only[h1,h2,h3,h4,h5,h6,hb (Nat.lt_succ_self k),h7]⟩
     ·cases h
    ·cases h
   ·cases h
  ·cases h
 ·split at h
  ·rename_i h2;injection h with h;subst h;exact⟨.inr rfl,λhb=>by rw[hb (Nat.lt_succ_self k)];simp only[h2]⟩
  ·cases h
 ·cases h
theorem J7 {T:Tab} {N:Nat} {b0 bs:Nat->Nat} {ops:List Oper} {C:Cl} {l:Bool} {i k:Nat} {E:Env} {L:List Atom} {r:SR} (h:Q1 T N b0 ops C l i E L k=some r):(r.k=k\/r.k=k+1)/\((k<r.k->bs k=b0 k)->Q1 T N bs ops C l i E L k=some r):=by
 unfold Q1 at h ⊢;split at h
 ·rename_i o ho;split at h
  ·rename_i g hg;split at h
   ·rename_i q hq;split at h
    ·rename_i E' hE;injection h with h;subst h;exact⟨.inl rfl,λ_=>by simp only[ho,hg,hq,hE]⟩
    ·cases h
   ·rename_i hq;split at h
    ·split at h
     ·rename_i q hq2;split at h
      ·rename_i E' hE;injection h with h;subst h;obtain⟨c1,c2⟩:=b0g (bs:=bs) hq2;exact⟨c1,λhb=>by simp only[ho,hg,hq,c2 hb,hE]⟩
      ·cases h
     ·cases h
    ·cases h
  ·cases h
 ·cases h
def b0Q {α:Type}:List Prop->(List Prop->α)->α
 | [],f=>f []
 | p::r,f=>b0Q r λl=>f (p::l)
theorem a1W {α:Type}:∀(l:List Prop) (f:List Prop->α),b0Q l f=f l
 | [],f=>rfl
 | p::r,f=>by rw[b0Q,a1W r]
structure RS where
 K:List KI
 E:Env
 L:List Atom
 ob:List Prop
def run (T:Tab) (N:Nat) (bs:Nat->Nat):Nat->List KI->Env->List Atom->List Prop->Nat->RS
 | 0,K,E,L,ob,_=>⟨K,E,L,ob⟩
 | n+1,K,E,L,ob,k=>match K with
  | .blk _::K'=>run T N bs n K' E L ob k
  | .code (.seq x y)::K'=>run T N bs n (.code x:: .code y::K') E L ob k
  | .code .skip::K'=>run T N bs n K' E L ob k
  | .code (.block id c)::K'=>run T N bs n (.code c:: .blk id::K') E L ob k
  | .code (.exit id)::K'=>match a3o id K' with
   | some K2=>run T N bs n K2 E L ob k
   | none=>⟨.code (.exit id)::K',E,L,ob⟩
  | .code (.region _ ops false)::K'=>run T N bs n (.reg ops [] (PT.seq 0 ops.size)::K') E L ob k
  | .reg _ _ .done::K'=>run T N bs n K' E L ob k
  | .reg ops C (.take p i t)::K'=>match W4 T N ops.toList C p i E L k with
   | some ⟨E',L',ob',k'⟩=>b0Q (ob'++ob) λob2=>run T N bs n (.reg ops C t::K') E' L' ob2 k'
   | none=>⟨.reg ops C (.take p i t)::K',E,L,ob⟩
  | .reg ops C (.alt l i t .non)::K'=>match Q1 T N bs ops.toList C l i E L k with
   | some ⟨E',L',ob',k'⟩=>b0Q (ob'++ob) λob2=>run T N bs n (.reg ops C t::K') E' L' ob2 k'
   | none=>⟨.reg ops C (.alt l i t .non)::K',E,L,ob⟩
  | K=>⟨K,E,L,ob⟩
theorem a9k {X:Cx} {T:Tab} (hT:TabOK X.P T):∀(n:Nat) (K:List KI) (E:Env) (L:List Atom) (ob:List Prop) (k:Nat) (b0:Nat->Nat),
  (∀bs:Nat->Nat,(∀i,i<k->bs i=b0 i)->Conj (run T X.n bs n K E L ob k).ob/\J X (run T X.n bs n K E L ob k).K (run T X.n bs n K E L ob k).E (run T X.n bs n K E L ob k).L)->Conj ob/\J X K E L:=by
 intro n
 induction n with
 | zero=>intro K E L ob k b0 h;exact h b0 (λ_ _=>rfl)
 | succ n ih=>
  intro K E L ob k b0 h;unfold run at h;split at h
  ·obtain⟨h1,h2⟩:=ih _ _ _ _ k b0 h;exact⟨h1,J.blk h2⟩
  ·obtain⟨h1,h2⟩:=ih _ _ _ _ k b0 h;exact⟨h1,J.seq h2⟩
  ·obtain⟨h1,h2⟩:=ih _ _ _ _ k b0 h;exact⟨h1,J.skip h2⟩
  ·obtain⟨h1,h2⟩:=ih _ _ _ _ k b0 h;exact⟨h1,J.block h2⟩
  ·rename_i id K';cases hx:a3o id K' with
   | some K2=>simp only[hx]at h;obtain⟨h1,h2⟩:=ih _ _ _ _ k b0 h;exact⟨h1,J.exit hx h2⟩
   | none=>simp only[hx]at h;exact h b0 (λ_ _=>rfl)
  ·obtain⟨h1,h2⟩:=ih _ _ _ _ k b0 h;exact⟨h1,J.code_reg h2⟩
  ·obtain⟨h1,h2⟩:=ih _ _ _ _ k b0 h;exact⟨h1,J.reg_done h2⟩
  ·rename_i ops C p i t K';cases hs:W4 T X.n ops.toList C p i E L k with
   | none=>simp only[hs]at h;exact h b0 (λ_ _=>rfl)
   | some r=>
    obtain⟨E',L',ob',k'⟩:=r;simp only[hs,a1W]at h;have hk:k'=k:=by
     unfold W4 at hs
     (repeat' split at hs)<;>first | (cases hs;done) | (injection hs with hs;injection hs with _ _ _ e;exact e.symm)
    subst hk;obtain⟨h1,h2⟩:=ih _ _ _ _ k' b0 h;obtain⟨o2,o1⟩:=Conj.app h1;refine⟨o1,λa w hx he hsp=>?_⟩;obtain⟨e1,_,o,ho,hy⟩:=a3J (P:=X.P) hT hs o2;obtain⟨v,y1,y2⟩:=hy a he;simp only at e1;subst e1;exact⟨o,v,ho,y1,h2 _ w hx y2 hsp⟩
  ·rename_i ops C l i t K';refine⟨?_,λa w hx he hsp=>?_⟩
   ·have:=h b0 (λ_ _=>rfl);cases hs:Q1 T X.n b0 ops.toList C l i E L k with
    | none=>simp only[hs]at this;exact this.1
    | some r=>
     obtain⟨E',L',ob',k'⟩:=r;have hk:k<=k':=by rcases(J7 (bs:=b0) hs).1 with e | e<;>simp only at e<;>omega
     have h':∀bs:Nat->Nat,(∀i,i<k'->bs i=b0 i)->Conj (run T X.n bs n (.reg ops C t::K') E' L' (ob'++ob) k').ob/\J X (run T X.n bs n (.reg ops C t::K') E' L' (ob'++ob) k').K (run T X.n bs n (.reg ops C t::K') E' L' (ob'++ob) k').E (run T X.n bs n (.reg ops C t::K') E' L' (ob'++ob) k').L:=λbs hb=>by
      have:=h bs (λi hi=>hb i (by omega));rw[(J7 (bs:=bs) hs).2 (λe=>hb k e)]at this;simpa only[a1W]using this
     exact(Conj.app (ih _ _ _ _ k' b0 h').1).2
   ·let b1:Nat->Nat:=λi=>if i=k then w.heap.size else b0 i
    have hb1:∀i,i<k->b1 i=b0 i:=λi hi=>by show(if i=k then _ else _)=_;rw[if_neg (by omega)]
    have hbk:b1 k=w.heap.size:=by show(if k=k then _ else _)=_;rw[if_pos rfl]
    cases hs:Q1 T X.n b1 ops.toList C l i E L k with
    | none=>have:=h b1 hb1;simp only[hs]at this;exact this.2 a w hx he hsp
    | some r=>
     obtain⟨E',L',ob',k'⟩:=r;have hk:k<=k':=by rcases(J7 (bs:=b0) hs).1 with e | e<;>simp only at e<;>omega
     have h':∀bs:Nat->Nat,(∀i,i<k'->bs i=b1 i)->Conj (run T X.n bs n (.reg ops C t::K') E' L' (ob'++ob) k').ob/\J X (run T X.n bs n (.reg ops C t::K') E' L' (ob'++ob) k').K (run T X.n bs n (.reg ops C t::K') E' L' (ob'++ob) k').E (run T X.n bs n (.reg ops C t::K') E' L' (ob'++ob) k').L:=λbs hb=>by
      have:=h bs (λi hi=>(hb i (by omega)).trans (hb1 i hi));rw[(J7 (bs:=bs) hs).2 (λe=>hb k e)]at this;simpa only[a1W]using this
     obtain⟨h1,h2⟩:=ih _ _ _ _ k' b1 h';obtain⟨o,ho,hstep⟩:=a5S (P:=X.P) hT hs (Conj.app h1).1;exact⟨⟨o,ho,(hstep a w he hsp (.inr hbk)).mono λa' w' ⟨q1,q2,q3,q4⟩=>⟨q1,h2 a' w' (hx.trans q4) q2 q3⟩⟩,trivial⟩
  ·exact h b0 (λ_ _=>rfl)
def a3M (E:Env):Env->List Prop
 | []=>[]
 | s::r=>(E.get s.k=some s)::a3M E r
theorem Env.sub_of {E:Env}:∀{E':Env},Conj (a3M E E')->E.sub E'
 | [],_,k,s,h=>by cases h
 | s'::r,hc,k,s,h=>by
  simp only[Env.get]at h;split at h
  ·rename_i e;have:=Nat.eq_of_beq_eq_true e;injection h with h;subst h;rw[<- this];exact hc.1
  ·exact Env.sub_of hc.2 k s h
structure IsCx (X:Cx) (P:Program) (rs:List ResultVar) (N:Nat) (F:HP) (Post:Value->List Atom->Prop):Prop where
 hP:X.P=P
 hrs:X.fn.results.toList=rs
 hN:X.n=N
 hR:X.R=λe w'=>∃v As,e= .returned v/\Post v As/\Sep (.hp F::As) (hl w')/\Ext X.w0 w'
def a1M:List Nat->List Value->List Nat->Env
 | k::ks,v::r,[]=>⟨k,v,0, .tt⟩::a1M ks r []
 | k::ks,v::r,t::ts=>⟨k,v,t, .tt⟩::a1M ks r ts
 | _,_,_=>[]
def keys:List Nat:=[0,1,2,3,4,5,6,7,8,9,10,11]
def b6H:List Nat->Nat->Prop
 | [],_=>True
 | k::ks,n=>k=n/\b6H ks (n+1)
theorem a4Q:∀(l:List Value) (k:Nat) (ks:List Nat) (ts:List Nat) (j:Nat) (s:Slot),b6H ks k->(a1M ks l ts).get j=some s->∃i,j=k+i/\l[i]? =some s.val
 | [],k,ks,ts,j,s,_,h=>by cases ks<;>simp[a1M,Env.get]at h
 | v::r,k,[],ts,j,s,_,h=>by simp[a1M,Env.get]at h
 | v::r,k,k'::ks,ts,j,s,hr,h=>by
  have key:∀(t:Nat) (ts':List Nat),Env.get (⟨k',v,t, .tt⟩::a1M ks r ts') j=some s->∃i,j=k+i/\(v::r)[i]? =some s.val:=by
   intro t ts' h;simp only[Env.get]at h;split at h
   ·rename_i e;have:=Nat.eq_of_beq_eq_true e;injection h with h;subst h;exact⟨0,by rw[<- this,hr.1];rfl,by simp[Slot.val,G.on]⟩
   ·obtain⟨i,e1,e2⟩:=a4Q r (k+1) ks ts' j s hr.2 h;exact⟨i+1,by omega,by simpa using e2⟩
  cases ts with
  | nil=>exact key _ _ h
  | cons t ts=>exact key _ _ h
theorem Fn.enter {P:Program} {f:FuncId} {args:List Value} {Pre:List Atom} {Post:Value->List Atom->Prop} {fn:Func} {c:Code} {N:Nat} (tags:List Nat) (hf:P.funcs[f]? =some fn) (hb:fn.body=some c) (hN:fn.ntmps=N) (hl:Nat.ble args.length N=true)
  (h:∀(X:Cx) (F:HP),IsCx X P fn.results.toList N F Post->J X [.code c] (a1M keys args tags) (.hp F::Pre)):Fn P f args Pre Post:=by
 intro F w hs;have hle:=Nat.le_of_ble_eq_true hl;have hX:IsCx ⟨P,fn,N,λe w'=>∃v As,e= .returned v/\Post v As/\Sep (.hp F::As) (Go.Proofs.YtpohajhbfllbbaaGreat.hl w')/\Ext w w',w⟩ P fn.results.toList N F Post:=⟨rfl,rfl,rfl,rfl⟩;have hJ:=h _ F hX;refine calls_of_wp hf hb ?_;refine hJ {tmps:=args.toArray++Array.replicate (fn.ntmps-args.toArray.size) undef,defers:=[]} w (Ext.refl w) ⟨by simp;omega,rfl,λk s hk=>?_⟩ hs;obtain⟨i,e1,e2⟩:=a4Q args 0 keys tags k s ⟨rfl,rfl,rfl,rfl,rfl,rfl,rfl,rfl,rfl,rfl,rfl,rfl,trivial⟩ hk;have hi:i<args.length:=(List.getElem?_eq_some_iff.1 e2).1;have:k=i:=by omega
 subst this;rw[Array.getElem?_append,if_pos (by simpa using hi)];simpa using e2
section
variable {X : Cx} {P : Program} {T : Tab} {K : List KI} {E : Env} {L : List Atom} {N : Nat} {F : HP} {Post : Value → List Atom → Prop} {rs : List ResultVar}
theorem J.run (hX:IsCx X P rs N F Post) (hT:TabOK P T) (n:Nat) {K':(Nat->Nat)->List KI} {E':(Nat->Nat)->Env} {L':(Nat->Nat)->List Atom} {ob:(Nat->Nat)->List Prop}
  (h:∀bs,Go.Proofs.YtpohajhbfllbbaaGreat.run T N bs n K E L [] 0=⟨K' bs,E' bs,L' bs,ob bs⟩) (hob:∀bs,Conj (ob bs)) (hJ:∀bs,J X (K' bs) (E' bs) (L' bs)):J X K E L:=by
 have hT':TabOK X.P T:=by rw[hX.hP];exact hT
 refine(a9k hT' n K E L [] 0 (λ_=>0) λbs _=>?_).2;rw[hX.hN,h bs];exact⟨hob bs,hJ bs⟩
theorem J.r (hX:IsCx X P rs N F Post) (hT:TabOK P T) (n:Nat) {K':(Nat->Nat)->List KI} {E':(Nat->Nat)->Env} {L':(Nat->Nat)->List Atom} {ob:(Nat->Nat)->List Prop}
  (h:∀bs,Go.Proofs.YtpohajhbfllbbaaGreat.run T N bs n K E L [] 0=⟨K' bs,E' bs,L' bs,ob bs⟩) (hJ:∀bs,J X (K' bs) (E' bs) (L' bs)) (hob:∀bs,Conj (ob bs):=by intro bs;(repeat' (first | exact Conj.nil | refine Conj.cons ?_ ?_ | omega | exact hq0 | (simpa using hq0) | (exactλh=>h) | exact rfl | (intro hq;have hq0:=hq;try simp only[Bool.and_eq_true,Bool.or_eq_true,decide_eq_true_eq,Bool.not_eq_true',decide_eq_false_iff_not]at hq) | (simp;done) | (simp;omega) | decide))):J X K E L:=J.run hX hT n h hob hJ
theorem J.loopN {c:Code} {α:Type} (I:α->Prop) (Ei:α->Env) (is:List Nat) (As:α->List Atom) (μ:α->Nat) (x0:α) {Li:α->List Atom} (h0:I x0) (hE:Conj (a3M E (Ei x0))) (ok:s9 L is=true) (hA:p6 L is=As x0) (hLi:∀x,I9 L is (As x)=some (Li x))
  (round:∀x,I x->J X (.code c:: .stop (λa w=>Ext X.w0 w/\∃x',I x'/\μ x'<μ x/\EnvOK X.n (Ei x') a/\Sep (Li x') (hl w))::K) (Ei x) (Li x)):J X (.code (.loop c)::K) E L:=
 J.loop I Ei Li μ x0 h0 (Env.sub_of hE) (λh s=>by
  have:=s.turn1 is ok (As:=As x0) (λh' s'=>by rw[hA]at s';exact s')
  rwa [<- T8 (E9 ok).1 (hLi x0)]at this) round
theorem J.lo {c:Code} {α:Type} (I:α->Prop) (Ei:α->Env) (is:List Nat) (As:α->List Atom) (μ:α->Nat) (x0:α) {Li:α->List Atom} (h0:I x0) (ok:s9 L is=true) (hA:p6 L is=As x0) (hLi:∀x,I9 L is (As x)=some (Li x))
  (round:∀x,I x->J X (.code c:: .stop (λa w=>Ext X.w0 w/\∃x',I x'/\μ x'<μ x/\EnvOK X.n (Ei x') a/\Sep (Li x') (hl w))::K) (Ei x) (Li x)) (hE:Conj (a3M E (Ei x0)):=by(repeat' (first | exact Conj.nil | refine Conj.cons ?_ ?_ | omega | exact hq0 | (simpa using hq0) | (exactλh=>h) | exact rfl | (intro hq;have hq0:=hq;try simp only[Bool.and_eq_true,Bool.or_eq_true,decide_eq_true_eq,Bool.not_eq_true',decide_eq_false_iff_not]at hq) | (simp;done) | (simp;omega) | decide))):J X (.code (.loop c)::K) E L:=J.loopN I Ei is As μ x0 h0 hE ok hA hLi round
theorem J.next {α:Type} {I:α->Prop} {Ei:α->Env} {Li:α->List Atom} {μ:α->Nat} {m:Nat} (x:α) (h1:I x) (h2:μ x<m) (h3:Conj (a3M E (Ei x))) (h4:∀h,Sep L h->Sep (Li x) h):
  J X (.stop (λa w=>Ext X.w0 w/\∃x',I x'/\μ x'<m/\EnvOK X.n (Ei x') a/\Sep (Li x') (hl w))::K) E L:=J.stop x h1 h2 (Env.sub_of h3) h4
theorem J.nx {α:Type} {I:α->Prop} {Ei:α->Env} {Li:α->List Atom} {μ:α->Nat} {m:Nat} (x:α) (h1:I x) (h2:μ x<m) (h4:∀h,Sep L h->Sep (Li x) h) (h3:Conj (a3M E (Ei x)):=by(repeat' (first | exact Conj.nil | refine Conj.cons ?_ ?_ | omega | exact hq0 | (simpa using hq0) | (exactλh=>h) | exact rfl | (intro hq;have hq0:=hq;try simp only[Bool.and_eq_true,Bool.or_eq_true,decide_eq_true_eq,Bool.not_eq_true',decide_eq_false_iff_not]at hq) | (simp;done) | (simp;omega) | decide))):
  J X (.stop (λa w=>Ext X.w0 w/\∃x',I x'/\μ x'<m/\EnvOK X.n (Ei x') a/\Sep (Li x') (hl w))::K) E L:=J.next x h1 h2 h3 h4
def b1i (T:Tab) (E:Env) (L:List Atom):ResultVar->Option (Value×List Prop)
 | .tmp t=>match E.get t with
  | some s=>some (s.v,J8 s)
  | none=>none
 | .cell p t=>match E.get p with
  | some s=>match a0e T L t s with
   | some r=>some (r.v,r.ob)
   | none=>none
  | none=>none
def a4h (T:Tab) (E:Env) (L:List Atom):List ResultVar->Option (List Value×List Prop)
 | []=>some ([],[])
 | r::l=>match b1i T E L r,a4h T E L l with
  | some (v,ob),some (vs,obs)=>some (v::vs,ob++obs)
  | _,_=>none
def a2C (T:Tab) (E:Env) (L:List Atom) (rs:List ResultVar):Option (Value×List Prop):=match a4h T E L rs with
 | some ([v],ob)=>some (v,ob)
 | some (vs,ob)=>some (.tuple vs.toArray,ob)
 | none=>none
theorem a3E {a:Act} {w:World}:∀K:List KI,bodyPost X.P X.fn X.R .ret a w->KW X K .ret a w
 | [],h=>h
 | .code c::K,h=>a3E K h
 | .reg o C t::K,h=>a3E K h
 | .blk id::K,h=>a3E K h
 | .stop R::K,h=>a3E K h
def b1j (tmps:Array Value):ResultVar->Sem Value
 | .tmp t=>pure (tmps.getD t undef)
 | .cell p t=>do loadVar t (<- asAddr (tmps.getD p undef))
theorem a7r (fn:Func) (tmps:Array Value):results fn tmps=(do
  let vs <- fn.results.mapM (b1j tmps)
  pure (if h:vs.size=1 then vs[0]else .tuple vs)):=rfl
theorem a4g (hT:TabOK P T) {a:Act} {w:World} {n:Nat} (he:EnvOK n E a) (hs:Sep L (hl w)):∀{rs:List ResultVar} {vs:List Value} {ob:List Prop},a4h T E L rs=some (vs,ob)->Conj ob->
  (rs.mapM (b1j a.tmps)).run P w= .ok vs w
 | [],vs,ob,h,_=>by simp only[a4h,Option.some.injEq,Prod.mk.injEq]at h;obtain⟨rfl,rfl⟩:=h;simp
 | r::l,vs,ob,h,hob=>by
  simp only[a4h]at h;split at h
  ·rename_i v ob1 vs' ob2 h1 h2;simp only[Option.some.injEq,Prod.mk.injEq]at h;obtain⟨rfl,rfl⟩:=h;obtain⟨o1,o2⟩:=Conj.app hob;have ih:=a4g hT he hs h2 o2;have h0:(b1j a.tmps r).run P w= .ok v w:=by
    cases r with
    | tmp t=>
     simp only[b1i]at h1;split at h1
     ·rename_i s hg;simp only[Option.some.injEq,Prod.mk.injEq]at h1;obtain⟨rfl,rfl⟩:=h1;have:=he.slot t s hg;rw[Z7 o1]at this;simp[b1j,this]
     ·cases h1
    | cell p t=>
     simp only[b1i]at h1;split at h1
     ·rename_i s hg;split at h1
      ·rename_i q hq;simp only[Option.some.injEq,Prod.mk.injEq]at h1;obtain⟨rfl,rfl⟩:=h1;have hv:Conj (J8 s):=by
        unfold a0e at hq
        (repeat' split at hq)<;>first | (cases hq;done) | (injection hq with hq;subst hq;exact o1.2)
       have:=he.slot p s hg;rw[Z7 hv]at this;have hr:=a2Z (w:=w) hT hq o1 (λi A _ hA=>hs.get hA);have hsp:∃ad,s.v= .pointer (some ad):=by
        unfold a0e at hq;split at hq
        ·exact⟨_,rfl⟩
        ·cases hq
       obtain⟨ad,had⟩:=hsp;rw[had]at hr this;simp only[Instr.loadAt,Instr.sureAddr,Sem.run_bind,Sem.run_pure,Result.andThen_ok]at hr;simp[b1j,this,asAddr,hr]
      ·cases h1
     ·cases h1
   simp only[List.mapM_cons,Sem.run_bind,h0,Result.andThen_ok,ih,Sem.run_pure]
  ·cases h
theorem a6m (hT:TabOK P T) {a:Act} {w:World} {n:Nat} {fn:Func} (he:EnvOK n E a) (hs:Sep L (hl w)) {v:Value} {ob:List Prop} (h:a2C T E L fn.results.toList=some (v,ob)) (hob:Conj ob):(results fn a.tmps).run P w= .ok v w:=by
 have key:∀{vs:List Value} {ob':List Prop},a4h T E L fn.results.toList=some (vs,ob')->Conj ob'->(results fn a.tmps).run P w= .ok (if h:vs.toArray.size=1 then vs.toArray[0]else .tuple vs.toArray) w:=by
  intro vs ob' h1 h2;have:=a4g (P:=P) (w:=w) hT he hs h1 h2;rw[a7r,Array.mapM_eq_mapM_toList];simp only[map_eq_pure_bind,Sem.run_bind,this,Result.andThen_ok,Sem.run_pure]
 unfold a2C at h;split at h
 ·rename_i v' ob' h1;simp only[Option.some.injEq,Prod.mk.injEq]at h;obtain⟨rfl,rfl⟩:=h;rw[key h1 hob];simp
 ·rename_i vs ob' hne h1;simp only[Option.some.injEq,Prod.mk.injEq]at h;obtain⟨rfl,rfl⟩:=h;rw[key h1 hob];have:vs.toArray.size≠1:=by
   intro e
   match vs,e with
   | [x],_=>exact hne x rfl
  rw[dif_neg this]
 ·cases h
theorem Sep.sub {h:Hl} (s:Sep L h) (is:List Nat) (ok:s9 L is=true):Sep (p6 L is) h:=by
 obtain⟨own,hw⟩:=s.split ok;exact⟨λb=>own b-1,λj A hA=>Atom.up (λb o hb=>by
  rw[res_some]at hb ⊢;exact⟨by show own b-1=j;omega,hb.2⟩) (hw (j+1) A (by simpa using hA))⟩
theorem a6l (hX:IsCx X P rs N F Post) (hT:TabOK P T) {v:Value} {ob:List Prop} (is:List Nat) (h:a2C T E L rs=some (v,ob)) (hob:Conj ob) (ok:s9 L (0::is)=true) (h0:n4 L 0=some (.hp F)) (hP:Post v (p6 L is)) {a:Act} {w:World} (hx:Ext X.w0 w) (he:EnvOK X.n E a) (hs:Sep L (hl w)):
  a.defers=[]/\∃v,(results X.fn a.tmps).run X.P w= .ok v w/\X.R (.returned v) w:=by
 refine⟨he.defers,v,a6m (by rw[hX.hP];exact hT) he hs (by rw[hX.hrs];exact h) hob,?_⟩;rw[hX.hR];refine⟨v,p6 L is,rfl,hP,?_,hx⟩;have:=hs.sub (0::is) ok;rw[m9]at h0;simpa[p6,h0]using this
theorem J.ret (hX:IsCx X P rs N F Post) (hT:TabOK P T) {v:Value} {ob:List Prop} (is:List Nat) (h:a2C T E L rs=some (v,ob)) (hob:Conj ob) (ok:s9 L (0::is)=true) (h0:n4 L 0=some (.hp F)) (hP:Post v (p6 L is)):J X (.code .ret::K) E L:=
 λ_ _ hx he hs=>wp_ret (a3E K (a6l hX hT is h hob ok h0 hP hx he hs))
theorem J.fin (hX:IsCx X P rs N F Post) (hT:TabOK P T) {v:Value} {ob:List Prop} (is:List Nat) (h:a2C T E L rs=some (v,ob)) (hob:Conj ob) (ok:s9 L (0::is)=true) (h0:n4 L 0=some (.hp F)) (hP:Post v (p6 L is)):J X [] E L:=
 λ_ _ hx he hs=>a6l hX hT is h hob ok h0 hP hx he hs
theorem J.rt (hX:IsCx X P rs N F Post) (hT:TabOK P T) {v:Value} {ob:List Prop} (is:List Nat) (h:a2C T E L rs=some (v,ob)) (ok:s9 L (0::is)=true) (h0:n4 L 0=some (.hp F)) (hP:Post v (p6 L is)) (hob:Conj ob:=by(repeat' (first | exact Conj.nil | refine Conj.cons ?_ ?_ | omega | exact hq0 | (simpa using hq0) | (exactλh=>h) | exact rfl | (intro hq;have hq0:=hq;try simp only[Bool.and_eq_true,Bool.or_eq_true,decide_eq_true_eq,Bool.not_eq_true',decide_eq_false_iff_not]at hq) | (simp;done) | (simp;omega) | decide))):J X (.code .ret::K) E L:=J.ret hX hT is h hob ok h0 hP
theorem J.fi (hX:IsCx X P rs N F Post) (hT:TabOK P T) {v:Value} {ob:List Prop} (is:List Nat) (h:a2C T E L rs=some (v,ob)) (ok:s9 L (0::is)=true) (h0:n4 L 0=some (.hp F)) (hP:Post v (p6 L is)) (hob:Conj ob:=by(repeat' (first | exact Conj.nil | refine Conj.cons ?_ ?_ | omega | exact hq0 | (simpa using hq0) | (exactλh=>h) | exact rfl | (intro hq;have hq0:=hq;try simp only[Bool.and_eq_true,Bool.or_eq_true,decide_eq_true_eq,Bool.not_eq_true',decide_eq_false_iff_not]at hq) | (simp;done) | (simp;omega) | decide))):J X [] E L:=J.fin hX hT is h hob ok h0 hP
def a1L (E:Env) (op:Op):Option (FuncId×List Value×List Prop):=match op with
 | .call ⟨.value f,args,_⟩=>match ev E f,slots E args.toList with
  | some ⟨k, .func (.func g) fs cs,t,gg⟩,some l=>some (g,fs.toList++(vals l++cs.toList),J8 ⟨k, .func (.func g) fs cs,t,gg⟩++M6 l)
  | _,_=>none
 | _=>none
def n5 (P:Program) (f:FuncId):Bool:=match P.funcs[f]? with
 | some fn => fn.body.isSome && fn.name != "runtime.NumGoroutine"
 | none=>false
theorem a4P {f:FuncId} {vs:List Value} {ob:List Prop} {o:Oper} {a:Act} {w:World} {n:Nat} (he:EnvOK n E a) (hf:n5 P f=true) (h:a1L E o.op=some (f,vs,ob)) (hob:Conj ob):(execOp a.eval o).run P w= .ok (.enter f vs.toArray) w:=by
 unfold a1L at h;split at h
 ·rename_i fo args ts hop;split at h
  ·rename_i k g fs cs t gg l h1 h2;simp only[Option.some.injEq,Prod.mk.injEq]at h;obtain⟨rfl,rfl,rfl⟩:=h;obtain⟨o1,o2⟩:=Conj.app hob;have e1:=evs he h1 o1;have e2:=C5 he h2 o2;have e3:args.map a.eval=(vals l).toArray:=by apply Array.toList_inj.1;rw[Array.toList_map,e2]
   unfold n5 at hf;split at hf
   ·rename_i fn hfn;simp only[Bool.and_eq_true,Option.isSome_iff_exists,bne_iff_ne,ne_eq]at hf;obtain⟨⟨c,hc⟩,hn⟩:=hf;have hvs:(fs++(vals l).toArray++cs)=(fs.toList++(vals l++cs.toList)).toArray:=by
     apply Array.toList_inj.1;simp
    simp[execOp,hop,resolve,e1,e3,Deferred.ofValue,invoke,callFunc,hfn,hn,hc,hvs]
   ·cases hf
  ·cases h
 ·cases h
theorem J.call (hX:IsCx X P rs N F Post) {ops:Array Oper} {C:Cl} {l:Bool} {i:Nat} {t:PT} {o:Oper} {g:G} {f:FuncId} {vs:List Value} {ob:List Prop} {Pre:List Atom} {Po:Value->List Atom->Prop} {E':Value->Env}
  (hf:n5 P f=true) (c:Fn P f vs Pre Po) (is:List Nat) (tag:Nat) (ho:n4 ops.toList i=some o) (hg:gd ops.toList E o=some g) (hgo:g.on=true) (hc:a1L E o.op=some (f,vs,ob)) (hob:Conj ob) (ok:s9 L is=true) (hp:p6 L is=Pre)
  (hd:∀v,B8 N o.dst v tag .tt E=some (E' v)) (hJ:∀v As,Po v As->∃L',I9 L is As=some L'/\Conj (n9 l C L')/\J X (.reg ops C t::K) (E' v) L'):J X (.reg ops C (.alt l i t .non)::K) E L:=by
 intro a w hx he hs;rw[m9]at ho;have ho':ops[i]? =some o:=by simpa using ho
 refine⟨⟨o,ho',?_⟩,trivial⟩;have hw:=J5 he hg;unfold sOp;rw[if_pos (by rw[hw];exact hgo),a4P (P:=X.P) he (by rw[hX.hP];exact hf) hc hob];have hsp:=hs.split ok;rw[hp]at hsp;have hcall:=c (HP.of (I4 L is)) w hsp;rw[<- hX.hP]at hcall;refine Calls.mono hcall λe w' ⟨v,As,he',hpo,hs',hx'⟩=>⟨v,he',?_⟩;have hs2:=Sep.back ok hs';obtain⟨L',j0,j1,j2⟩:=hJ v As hpo;rw[<- T8 (E9 ok).1 j0]at hs2;exact⟨x5 j1 hs2,j2 _ w' (hx.trans hx') (y7 he (by rw[hX.hN];exact hd v) v rfl) hs2⟩
theorem J.ca (hX:IsCx X P rs N F Post) {ops:Array Oper} {C:Cl} {l:Bool} {i:Nat} {t:PT} {o:Oper} {g:G} {f:FuncId} {vs:List Value} {ob:List Prop} {Pre:List Atom} {Po:Value->List Atom->Prop} {E':Value->Env}
  (hf:n5 P f=true) (c:Fn P f vs Pre Po) (is:List Nat) (tag:Nat) (ho:n4 ops.toList i=some o) (hg:gd ops.toList E o=some g) (hgo:g.on=true) (hc:a1L E o.op=some (f,vs,ob)) (ok:s9 L is=true) (hp:p6 L is=Pre)
  (hd:∀v,B8 N o.dst v tag .tt E=some (E' v)) (hJ:∀v As,Po v As->∃L',I9 L is As=some L'/\Conj (n9 l C L')/\J X (.reg ops C t::K) (E' v) L') (hob:Conj ob:=by(repeat' (first | exact Conj.nil | refine Conj.cons ?_ ?_ | omega | exact hq0 | (simpa using hq0) | (exactλh=>h) | exact rfl | (intro hq;have hq0:=hq;try simp only[Bool.and_eq_true,Bool.or_eq_true,decide_eq_true_eq,Bool.not_eq_true',decide_eq_false_iff_not]at hq) | (simp;done) | (simp;omega) | decide))):J X (.reg ops C (.alt l i t .non)::K) E L:=J.call hX hf c is tag ho hg hgo hc hob ok hp hd hJ
theorem J.gcase (hX:IsCx X P rs N F Post) {ops:Array Oper} {C:Cl} {l:Bool} {i:Nat} {t:PT} {o:Oper} {b:Bool} {E':Env} (ho:n4 ops.toList i=some o) (hg:gd ops.toList E o=some (.when b)) (hd:B8 N o.dst undef 0 (.when false) E=some E') (hst:Conj (n9 l C L))
  (h1:b=true->J X (.reg ops C (.alt l i t .non)::K) E L) (h2:b=false->J X (.reg ops C t::K) E' L):J X (.reg ops C (.alt l i t .non)::K) E L:=by
 intro a w hx he hs;cases b with
 | true=>exact h1 rfl a w hx he hs
 | false=>
  rw[m9]at ho;have ho':ops[i]? =some o:=by simpa using ho
  refine⟨⟨o,ho',?_⟩,trivial⟩;have hw:=J5 he hg;unfold sOp;rw[if_neg (by rw[hw];simp[G.on])];exact⟨x5 hst hs,h2 rfl _ w hx (y7 he (by rw[hX.hN];exact hd) _ rfl) hs⟩
theorem J.op (hX:IsCx X P rs N F Post) {ops:Array Oper} {C:Cl} {l:Bool} {i:Nat} {t:PT} {o:Oper} {g:G} {S:Value->List Atom->Prop} {E':Value->Env} (tag:Nat) (ho:n4 ops.toList i=some o) (hg:gd ops.toList E o=some g) (hgo:g.on=true)
  (hr:∀a w,EnvOK N E a->Sep L (hl w)->∃v L' nv w',S v L'/\(execOp a.eval o).run P w= .ok nv w'/\(nv= .value v\/(nv= .skip/\v=undef))/\Sep L' (hl w')/\Ext w w')
  (hd:∀v,B8 N o.dst v tag .tt E=some (E' v)) (hJ:∀v L',S v L'->Conj (n9 l C L')/\J X (.reg ops C t::K) (E' v) L'):J X (.reg ops C (.alt l i t .non)::K) E L:=by
 intro a w hx he hs;rw[m9]at ho;have ho':ops[i]? =some o:=by simpa using ho
 refine⟨⟨o,ho',?_⟩,trivial⟩;have hw:=J5 he hg;have he2:=he;rw[hX.hN]at he2;obtain⟨v,L',nv,w',r0,r1,r2,r3,r4⟩:=hr a w he2 hs;unfold sOp;rw[<- hX.hP]at r1;rw[if_pos (by rw[hw];exact hgo),r1];obtain⟨j1,j2⟩:=hJ v L' r0;have he3:=y7 he2 (hd v) v rfl;rw[<- hX.hN]at he3;rcases r2 with rfl | ⟨rfl,rfl⟩
 ·exact⟨x5 j1 r3,j2 _ w' (hx.trans r4) he3 r3⟩
 ·exact⟨x5 j1 r3,j2 _ w' (hx.trans r4) he3 r3⟩
theorem J.val (hX:IsCx X P rs N F Post) {ops:Array Oper} {C:Cl} {l:Bool} {i:Nat} {t:PT} {o:Oper} {g:G} {E':Env} (v:Value) (tag:Nat) (ho:n4 ops.toList i=some o) (hg:gd ops.toList E o=some g)
  (hr:g.on=true->∀a w,EnvOK N E a->Sep L (hl w)->(execOp a.eval o).run P w= .ok (.value v) w)
  (hd:B8 N o.dst v tag g E=some E') (hst:Conj (n9 l C L)) (hJ:J X (.reg ops C t::K) E' L):J X (.reg ops C (.alt l i t .non)::K) E L:=by
 intro a w hx he hs;rw[m9]at ho;have ho':ops[i]? =some o:=by simpa using ho
 refine⟨⟨o,ho',?_⟩,trivial⟩;have hw:=J5 he hg;have he2:=he;rw[hX.hN]at he2;have he3:=y7 he2 hd _ rfl;rw[<- hX.hN]at he3;unfold sOp;cases hgo:g.on with
 | true=>
  have hr1:=hr hgo a w he2 hs;rw[<- hX.hP]at hr1;rw[if_pos (by rw[hw];exact hgo),hr1];rw[hgo]at he3;exact⟨x5 hst hs,hJ _ w hx he3 hs⟩
 | false=>
  rw[if_neg (by rw[hw,hgo];simp)];rw[hgo]at he3;exact⟨x5 hst hs,hJ _ w hx he3 hs⟩
theorem J.valT (hX:IsCx X P rs N F Post) {ops:Array Oper} {C:Cl} {p:Bool} {i:Nat} {t:PT} {o:Oper} {g:G} {E':Env} (v:Value) (tag:Nat) (ho:n4 ops.toList i=some o) (hg:gd ops.toList E o=some g)
  (hr:g.on=true->∀a w,EnvOK N E a->(p=false->CAt C w)->(execOp a.eval o).run P w= .ok (.value v) w)
  (hd:B8 N o.dst v tag g E=some E') (hJ:J X (.reg ops C t::K) E' L):J X (.reg ops C (.take p i t)::K) E L:=by
 intro a w hx he hs;rw[m9]at ho;have ho':ops[i]? =some o:=by simpa using ho
 have hw:=J5 he hg;have he2:=he;rw[hX.hN]at he2;have he3:=y7 he2 hd _ rfl;rw[<- hX.hN]at he3;cases hgo:g.on with
 | true=>
  rw[hgo]at he3;exact⟨o,v,ho', .inl ⟨by rw[hw];exact hgo,λw' hC=>by rw[hX.hP];exact hr hgo a w' he2 hC⟩,hJ _ w hx he3 hs⟩
 | false=>
  rw[hgo]at he3;exact⟨o,undef,ho', .inr ⟨by rw[hw];exact hgo,rfl⟩,hJ _ w hx he3 hs⟩
theorem J.slot {k:Nat} {s s':Slot} (h:E.get k=some s) (hk:s'.k=k) (hv:s'.val=s.val) (hJ:J X K (s'::E) L):J X K E L:=by
 intro a w hx he hs;refine hJ a w hx ⟨he.size,he.defers,λj u hu=>?_⟩ hs;simp only[Env.get]at hu;split at hu
 ·rename_i e;have:=Nat.eq_of_beq_eq_true e;injection hu with hu;subst hu;rw[<- this,hk,hv];exact he.slot k s h
 ·exact he.slot j u hu
end
theorem Fn.of_same {P:Program} {f:FuncId} {args:List Value} {v:Value} (h:∀w:World,Calls P f args.toArray w λe w'=>e= .returned v/\w=w'):Fn P f args [] (λu As=>u=v/\As=[]):=λF w hs=>
 (h w).mono λe w' ⟨he,hb⟩=>by subst hb;exact⟨v,[],he,⟨rfl,rfl⟩,hs,Ext.refl _⟩
end Go.Proofs.YtpohajhbfllbbaaGreat
