/- Helpers. No condition. -/
import Derived.Test.YtgkpkpbnonmopaaGreatD02
set_option maxRecDepth 20000
set_option linter.all false
namespace Go.Proofs.YtgkpkpbnonmopaaGreat
open Go
section
variable {P : Program} {T : Tab} {E : Env} {L : List Atom} {n : Nat} {a : Act} {w : World}
theorem a7B (hT:TabOK P T) {b:Builtin} {ts:Array TypeId} {args:Array Operand} {r:LR} (he:EnvOK n E a) (h:a7C T E b ts.toList args.toList=some r) (hob:Conj r.ob) (type:TypeId) (consts:Array Bool):
  (builtin b ts type consts (args.map a.eval)).run P w= .ok (.value r.v) w:=by
 have hargs:∀{l:List Slot},slots E args.toList=some l->Conj (J0 l)->args.map a.eval=(vals l).toArray:=λh1 h2=>by
  apply Array.toList_inj.1;rw[Array.toList_map,y4 he h1 h2]
 unfold a7C at h;split at h
 ·rename_i t rt kk ad n' c tg gg rs hts hs;split at h
  ·rename_i el esz sz z bb hg;injection h with h;subst h;obtain⟨d,fi,zv,ok⟩:=d8 (hT.get hg);obtain⟨fe,rfl,g1,g2⟩:=ok.slice rfl;have ht:ts[0]? =some t:=by rw[<- Array.getElem?_toList,hts];rfl
   have hx:(args.map a.eval)[0]? =some (.slice ad n' c):=by
    rw[<- Array.getElem?_toList,Array.toList_map];cases hal:args.toList with
    | nil=>rw[hal]at hs;simp[slots]at hs
    | cons x xs=>
     rw[hal]at hs;simp only[slots]at hs;split at hs
     ·rename_i s' l' h1 h2;injection hs with hs;injection hs with hs1 hs2;subst hs1;simp[evs he h1 hob]
     ·cases hs
   simp[builtin,Builtin.len_,ht,hx,d4 ok.hd,goInt]
  ·cases h
 ·rename_i t rt kk ad c m' tg gg rs hts hs;split at h
  ·rename_i el esz sz z bb hg;injection h with h;subst h;obtain⟨d,fi,zv,ok⟩:=d8 (hT.get hg);obtain⟨fe,rfl,g1,g2⟩:=ok.slice rfl;have ht:ts[0]? =some t:=by rw[<- Array.getElem?_toList,hts];rfl
   have hx:(args.map a.eval)[0]? =some (.slice ad c m'):=by
    rw[<- Array.getElem?_toList,Array.toList_map];cases hal:args.toList with
    | nil=>rw[hal]at hs;simp[slots]at hs
    | cons x xs=>
     rw[hal]at hs;simp only[slots]at hs;split at hs
     ·rename_i s' l' h1 h2;injection hs with hs;injection hs with hs1 hs2;subst hs1;simp[evs he h1 hob]
     ·cases hs
   simp[builtin,Builtin.cap_,ht,hx,d4 ok.hd,goInt]
  ·cases h
 ·rename_i hs;injection h with h;subst h;have:=hargs hs (by simp only[J0,H1];rw[List.append_nil];exact hob);simp[builtin,this,Builtin.min_,vals,Builtin.min2]
 ·rename_i hs;injection h with h;subst h;have:=hargs hs (by simp only[J0,H1];rw[List.append_nil];exact hob);simp[builtin,this,Builtin.max_,vals,Builtin.max2]
 ·cases h
theorem L4 {t:Nat} {s i:Slot} {r:LR} (h:C5 T t s i=some r) (hob:Conj r.ob):Conj (H1 s)/\Conj (H1 i):=by
 obtain⟨k,v,tg,g⟩:=s;obtain⟨k',v',tg',g'⟩:=i;unfold C5 at h;split at h<;>rename_i e1 e2
 ·split at h
  ·injection h with h;subst h;injection e1 with _ _ _ e1;injection e2 with _ _ _ e2;subst e1;subst e2;exact Conj.app hob.2.2
  ·cases h
 ·split at h
  ·injection h with h;subst h;injection e1 with _ _ _ e1;injection e2 with _ _ _ e2;subst e1;subst e2;exact Conj.app hob.2.2
  ·cases h
 ·cases h
theorem a2K (hT:TabOK P T) {o:Oper} {r:LR} (he:EnvOK n E a) (h:look T E L o.op=some r) (hob:Conj r.ob) (hr:∀i A,r.rd=i+1->L[i]? =some A->A.sat (hl w)):(execOp a.eval o).run P w= .ok (.value r.v) w:=by
 unfold look at h;unfold execOp;split at h<;>rename_i hop<;>simp only[hop]
 ·split at h
  ·rename_i s hs;injection h with h;subst h;simp[evs he hs hob]
  ·cases h
 ·split at h
  ·rename_i s hs;injection h with h;subst h;simp[evs he hs hob]
  ·cases h
 ·have:=a7z (P:=P) (w:=w) he h hob;simp only[Sem.run_bind,Sem.run_pure]at this ⊢
  revert this
  cases(asBool (a.eval _)).run P w with
  | ok b w'=>intro this;simp only[Result.andThen_ok]at this ⊢;injection this with h1 h2;rw[h1,h2]
  | halt x w'=>intro this;cases this
 ·split at h
  ·rename_i k p t g hs;injection h with h;subst h;simp[evs he hs hob]
  ·cases h
 ·split at h
  ·rename_i s s' h1 h2;split at h
   ·rename_i v ob hb;injection h with h;subst h;obtain⟨oo,v2⟩:=Conj.app hob;obtain⟨oo,v1⟩:=Conj.app oo;rw[evs he h1 v1,evs he h2 v2];have:=b2w (P:=P) (w:=w) hT hb oo;simp only[Sem.run_bind,this,Result.andThen_ok,Sem.run_pure]
   ·cases h
  ·cases h
 ·split at h
  ·rename_i s h1;split at h
   ·rename_i v ob hb;injection h with h;subst h;obtain⟨oo,v1⟩:=Conj.app hob;rw[evs he h1 v1];simp only[Sem.run_bind,b2O hb oo,Result.andThen_ok,Sem.run_pure]
   ·cases h
  ·cases h
 ·split at h
  ·rename_i k ik m t g k' sz z bb ti h1 h2 h3;injection h with h;subst h;obtain⟨oo,v1⟩:=Conj.app hob;rw[evs he h1 v1];obtain⟨d,fi,zv,ok⟩:=d8 (hT.get h2);obtain⟨d',fi',zv',ok'⟩:=d8 (hT.get h3);have:=ok.int rfl;subst this;simp[convert,d4 ok.hd,d4 ok'.hd,Conv.intToInt,J8 oo]
  ·cases h
 ·split at h
  ·rename_i s hs;have hv:Conj (H1 s):=by
    unfold L5 at h
    (repeat' split at h)<;>first | (cases h;done) | (injection h with h;subst h;exact hob)
   rw[evs he hs hv];simp only[Sem.run_bind,a1I hT h,Result.andThen_ok,Sem.run_pure]
  ·cases h
 ·split at h
  ·rename_i s hs;have hv:Conj (H1 s):=by
    unfold a1Q at h
    (repeat' split at h)<;>first | (cases h;done) | (injection h with h;subst h;exact hob)
   rw[evs he hs hv];simp only[Sem.run_bind,a6v hT h,Result.andThen_ok,Sem.run_pure]
  ·cases h
 ·split at h
  ·rename_i s h1;have hv:=L4 h hob;rw[evs he h1 hv.1];have:=T7 (P:=P) (w:=w) hT h hob;simp only[Act.eval,Sem.run_bind,this,Result.andThen_ok,Sem.run_pure]
  ·cases h
 ·split at h
  ·rename_i k v tg g s' h1 h2;have hv:=L4 h hob;rw[evs he h1 hv.1,evs he h2 hv.2];have:=T7 (P:=P) (w:=w) hT h hob;simp only[Sem.run_bind,this,Result.andThen_ok,Sem.run_pure]
  ·cases h
 ·split at h
  ·rename_i k vs t g hs;split at h
   ·rename_i v hv;injection h with h;subst h;rw[evs he hs hob];rw[l9]at hv;simp only[Instr.extract,Sem.run_bind];rw[<- Array.getElem?_toList,hv];rfl
   ·cases h
  ·cases h
 ·split at h
  ·rename_i s hs;have hv:Conj (H1 s):=by
    unfold a1P at h
    (repeat' split at h)<;>first | (cases h;done) | (injection h with h;subst h;exact(Conj.app (Conj.app (Conj.app hob).1).1).1)
   rw[evs he hs hv];have:=a6u (P:=P) (w:=w) hT he h hob;simp only[Sem.run_bind,Option.map_none,this,Result.andThen_ok,Sem.run_pure]
  ·cases h
 ·simp only[Sem.run_bind,a6w hT he h hob,Result.andThen_ok,Sem.run_pure]
 ·rename_i fn f1 c1;split at h
  ·rename_i l l' h1 h2;injection h with h;subst h;obtain⟨v1,v2⟩:=Conj.app hob;have e1:Array.map a.eval f1=(vals l).toArray:=by apply Array.toList_inj.1;rw[Array.toList_map,y4 he h1 v1]
   have e2:Array.map a.eval c1=(vals l').toArray:=by apply Array.toList_inj.1;rw[Array.toList_map,y4 he h2 v2]
   simp[Instr.makeFunc,e1,e2]
  ·cases h
 ·split at h
  ·rename_i s hs;have hv:Conj (H1 s):=by
    unfold a0a at h
    (repeat' split at h)<;>first | (cases h;done) | (injection h with h;subst h;exact hob.2)
   rw[evs he hs hv];simp only[Sem.run_bind,a2L hT h hob hr,Result.andThen_ok,Sem.run_pure]
  ·cases h
 ·have:=a7B (P:=P) (w:=w) hT he h hob o.type;simp[resolve,invoke,this]
 ·cases h
end
structure ER where
 v:Value
 tag:Nat
 L:List Atom
 ob:List Prop
 k:Nat
def U4:Nat->List Value->List Value
 | 0,_=>[]
 | n+1,z=>z++U4 n z
def V5 {α:Type}:List Nat->List α->α->Option (List α×Nat)
 | k::_,[],y=>some ([y],k)
 | _::ks,x::r,y=>match V5 ks r y with
  | some (r',k)=>some (x::r',k)
  | none=>none
 | [],_,_=>none
def a9l:List Nat:=[1,2,3,4,5,6,7,8,9,10,11,12,13,14,15,16,17,18,19,20,21,22,23,24,25,26,27,28,29,30,31,32,33,34,35,36,37,38,39,40]
def a1T (T:Tab) (L:List Atom) (k t:Nat):Slot->Slot->Option ER
 | ⟨_, .pointer (some ⟨b,o,none⟩),i+1,g⟩,⟨_,v,_,g'⟩=>match m6 L i,T.get t with
  | some (.pt b' ty cs),some ⟨_,sz,_,_⟩=>match Nat.beq sz v.cells.toList.length,J3 cs o v.cells.toList with
   | true,some cs'=>match n5 L i (.pt b' ty cs')with
    | some L'=>some ⟨undef,0,L',(b=b')::(v.cells.toList.all (·.oneCell')=true)::(n7 g++n7 g'),k⟩
    | none=>none
   | _,_=>none
  | _,_=>none
 | _,_=>none
def R2 (T:Tab) (bs:Nat->Nat) (E:Env) (L:List Atom) (k t len:Nat) (parts:List (Nat×Operand)):Option ER:=match T.get t,slots E (parts.map (·.2))with
 | some ⟨.slice el esz,_,_,_⟩,some l=>match T.get el with
  | some ⟨_,sz,z,_⟩=>match Nat.beq sz z.length,Nat.ble (len*sz) 16777216,a2U (λi=>some (i*sz,sz)) (U4 len z) (Z6 parts l)with
   | true,true,some cs=>match V5 a9l L (.pt (bs k) el cs)with
    | some (L',tg)=>some ⟨.slice (some ⟨bs k,0,none⟩) len len,tg,L',J0 l,k+1⟩
    | none=>none
   | _,_,_=>none
  | none=>none
 | _,_=>none
def eff (T:Tab) (bs:Nat->Nat) (E:Env) (L:List Atom) (k:Nat):Op->Option ER
 | .store t x y=>match ev E x,ev E y with
  | some s,some s'=>a1T T L k t s s'
  | _,_=>none
 | .alloc el=>match T.get el with
  | some ⟨_,_,z,_⟩=>match V5 a9l L (.pt (bs k) el z)with
   | some (L',tg)=>some ⟨.pointer (some ⟨bs k,0,none⟩),tg,L',[],k+1⟩
   | none=>none
  | none=>none
 | .box el x=>match ev E x with
  | some ⟨_,v,_,g⟩=>match V5 a9l L (.pt (bs k) el v.cells.toList)with
   | some (L',tg)=>some ⟨.pointer (some ⟨bs k,0,none⟩),tg,L',n7 g,k+1⟩
   | none=>none
  | none=>none
 | .buildSlice t len parts=>R2 T bs E L k t len parts.toList
 | .makeMap _ none=>match V5 a9l L (.ob (bs k) (.map #[] 0))with
  | some (L',tg)=>some ⟨.map (some (bs k)),tg,L',[],k+1⟩
  | none=>none
 | _=>none
theorem J2 {α:Type}:∀{ks:List Nat} {l m:List α} {y:α} {k:Nat},V5 ks l y=some (m,k)->m=l++[y]
 | k'::ks,[],m,y,k,h=>by simp only[V5,Option.some.injEq,Prod.mk.injEq]at h;rw[<- h.1];rfl
 | k'::ks,x::r,m,y,k,h=>by
  simp only[V5]at h;split at h
  ·rename_i r' k2 hr;simp only[Option.some.injEq,Prod.mk.injEq]at h;rw[<- h.1,J2 hr];rfl
  ·cases h
 | [],l,m,y,k,h=>by simp[V5]at h
section
variable {P : Program} {T : Tab} {E : Env} {L : List Atom} {n : Nat} {a : Act} {w : World}
theorem a9F (h:Hl) (b:Nat) (o o':Obj):r9 (r9 h b o) b o'=r9 h b o':=by
 funext x;unfold r9;split<;>rfl
theorem a7E {b o:Nat} {t:TypeId} {cs:List Value} (hb:Blk w b t cs.toArray) (v:Value):hl (w.setCell ⟨b,o,none⟩ v)=r9 (hl w) b (.cells (cs.set o v).toArray t (0,0)):=by
 funext x;unfold hl r9
 by_cases e:x=b
 ·subst e;have:=hb.set_ o v;rw[if_pos rfl];unfold Blk at this;rw[this];simp
 ·rw[if_neg e];simp[World.setCell,Array.getElem?_modify,Ne.symm e]
theorem a0v (w:World) (o:Obj):hl {w with heap:=w.heap.push o}=r9 (hl w) w.heap.size o:=by
 funext x;unfold hl r9;simp only[Array.getElem?_push]
theorem a0w (w:World):hl w w.heap.size=none:=by simp[hl]
theorem a3u {v:Value} (h:v.oneCell'=true) {p:Addr} {x:Value} (hc:w.cell? p=some x) (hf:w.frozen? p=false):(store p v).run P w= .ok () (w.setCell p v):=by
 cases v<;>first | (simp[Value.oneCell']at h;done) | simp[store,Sem.run,hc,hf]
theorem y3 {b o:Nat} {t:TypeId}:∀(xs:List Value) (j:Nat) (w:World) (cs m:List Value),Blk w b t cs.toArray->J3 cs (o+j) xs=some m->xs.all (·.oneCell')=true->
  ∃w',(storeCells ⟨b,o,none⟩ xs j).run P w= .ok () w'/\hl w'=r9 (hl w) b (.cells m.toArray t (0,0))/\Ext w w'
 | [],j,w,cs,m,hb,hm,_=>by
  obtain⟨h1,_⟩:=O8 hm;simp at h1;subst h1;refine⟨w,rfl,?_,Ext.refl _⟩;funext x;unfold r9;split
  ·rename_i e;subst e;exact hb
  ·rfl
 | x::xs,j,w,cs,m,hb,hm,h1=>by
  simp only[List.all_cons,Bool.and_eq_true]at h1;have hlt:o+j<cs.length:=by have:=(O8 hm).2;simp at this;omega
  have hc:w.cell? ⟨b,o+j,none⟩=some cs[o+j]:=by rw[hb.cell];simp[hlt]
  have hrun:=a3u (P:=P) h1.1 hc (hb.frozen _);have hb':Blk (w.setCell ⟨b,o+j,none⟩ x) b t (cs.set (o+j) x).toArray:=by have:=hb.set_ (o+j) x;simpa using this
  obtain⟨w',r1,r2,r3⟩:=y3 xs (j+1) _ _ m hb' (by rw[<- Nat.add_assoc];exact a0W hm) h1.2;refine⟨w',?_,?_,?_⟩
  ·simp only[storeCells,Addr.add_none,Sem.run_bind,hrun,Result.andThen_ok,r1]
  ·rw[r2,a7E hb,a9F]
  ·exact Ext.trans (b:=w.setCell ⟨b,o+j,none⟩ x) ⟨rfl,rfl,rfl,by simp[World.setCell]⟩ r3
theorem a6P (hT:TabOK P T) {k t:Nat} {s s':Slot} {r:ER} (h:a1T T L k t s s'=some r) (hob:Conj r.ob) (hs:Sep L (hl w)):
  ∃w',(Instr.storeAt t s.v s'.v).run P w= .ok () w'/\r.v=undef/\Sep r.L (hl w')/\Ext w w'/\Conj (H1 s)/\Conj (H1 s'):=by
 unfold a1T at h;split at h
 ·rename_i kk b o i gg kk' v tg' gg';split at h
  ·rename_i b' ty cs td sz z bb hL hg;rw[l9]at hL;split at h
   ·rename_i cs' e1 e2;split at h
    ·rename_i L' hL';injection h with h;subst h;obtain⟨hb,h1,hvv⟩:=hob;subst hb;have hL2:=u5 hL';subst hL2;obtain⟨d,fi,zv,ok⟩:=d8 (hT.get hg);have hsz:sz=fi.size:=ok.hsize;have e3:=Nat.eq_of_beq_eq_true e1;have hblk:Blk w b ty cs.toArray:=hs.pt hL;obtain⟨w',r1,r2,r3⟩:=y3 (P:=P) v.cells.toList 0 w cs cs' hblk e2 h1;obtain⟨v1,v2⟩:=Conj.app hvv;refine⟨w',?_,rfl,?_,r3,v1,v2⟩
     ·have hne:v.cells.size=fi.size:=by rw[<- hsz,e3];simp
      simp only[Instr.storeAt,Instr.sureAddr,Sem.run_bind,Sem.run_pure,Result.andThen_ok,storeVar,l6 ok.hf];simp[hne,r1]
     ·rw[r2];exact hs.setPt cs' hL
    ·cases h
   ·cases h
  ·cases h
 ·cases h
theorem a3n (k:Nat) (z:List Value):(U4 k z).length=k*z.length:=by
 induction k with
 | zero=>simp[U4]
 | succ k ih=>simp[U4,ih,Nat.succ_mul,Nat.add_comm]
theorem a1W (z:List Value):∀(k i:Nat),i<k*z.length->(U4 k z)[i]? =z[i % z.length]?
 | 0,i,h=>by simp at h
 | k+1,i,h=>by
  rw[U4,List.getElem?_append];split
  ·rename_i hi;rw[Nat.mod_eq_of_lt hi]
  ·rename_i hi;have h':i-z.length<k*z.length:=by rw[Nat.succ_mul]at h;omega
   rw[a1W z k _ h'];rw[<- Nat.mod_eq_sub_mod (by omega)]
theorem a8K (k:Nat) (z:Array Value):((Array.range (k*z.size)).map (z[· % z.size]!)).toList=U4 k z.toList:=by
 have hl:=a3n k z.toList;have hzl:z.toList.length=z.size:=by simp
 rw[hzl]at hl;apply List.ext_getElem?;intro i
 by_cases h:i<k*z.size
 ·have hg:=a1W z.toList k i (by simpa using h);have hz:0<z.size:=by
   rcases Nat.eq_zero_or_pos z.size with e | e
   ·rw[e]at h;simp at h
   ·exact e
  have hm:i % z.size<z.size:=Nat.mod_lt _ hz;rw[hg];simp[h,hm]
 ·rw[List.getElem?_eq_none (by simp;omega),List.getElem?_eq_none (by omega)]
theorem a8C (hT:TabOK P T) {bs:Nat->Nat} {k:Nat} {o:Oper} {r:ER} (he:EnvOK n E a) (h:eff T bs E L k o.op=some r) (hob:Conj r.ob) (hs:Sep L (hl w)) (hk:r.k=k\/bs k=w.heap.size):
  ∃nv w',(execOp a.eval o).run P w= .ok nv w'/\(nv= .value r.v\/(nv= .skip/\r.v=undef))/\Sep r.L (hl w')/\Ext w w':=by
 have hx:∀o':Obj,Ext w {w with heap:=w.heap.push o'}:=λo'=>⟨rfl,rfl,rfl,by simp⟩;have hnew:∀(el:TypeId) (cs:List Value),bs k=w.heap.size->Sep (L++[.pt (bs k) el cs]) (hl {w with heap:=w.heap.push (.cells cs.toArray el)}):=λel cs e=>by
  rw[a0v,e];exact hs.snoc (a0w w) (λh' hh=>hh)
 unfold eff at h;unfold execOp;split at h<;>rename_i hop<;>simp only[hop]
 ·split at h
  ·rename_i s s' h1 h2;obtain⟨w',r1,r2,r3,r4,v1,v2⟩:=a6P (P:=P) hT h hob hs;refine⟨.skip,w',?_, .inr ⟨rfl,r2⟩,r3,r4⟩;rw[evs he h1 v1,evs he h2 v2];simp only[Sem.run_bind,r1,Result.andThen_ok,Sem.run_pure]
  ·cases h
 ·split at h
  ·rename_i td sz z bb hg;split at h
   ·rename_i L' tgn hL';injection h with h;subst h;have hL2:=J2 hL';subst hL2;have e:bs k=w.heap.size:=hk.resolve_left (by simp);obtain⟨d,fi,zv,ok⟩:=d8 (hT.get hg);have hz:z=zv.cells.toList:=ok.hzero;subst hz;refine⟨_,_,?_, .inl rfl,hnew _ _ e,hx _⟩;simp only[Instr.alloc,Sem.run_bind,U5 ok.hf ok.hz,Result.andThen_ok,newVar,newRow,newObj,Sem.run,Sem.run_pure,e]
   ·cases h
  ·cases h
 ·split at h
  ·rename_i kk v tg gg h1;split at h
   ·rename_i L' tgn hL';injection h with h;subst h;have hL2:=J2 hL';subst hL2;have e:bs k=w.heap.size:=hk.resolve_left (by simp);refine⟨_,_,?_, .inl rfl,hnew _ _ e,hx _⟩;rw[evs he h1 hob];simp only[Instr.box,Sem.run_bind,Result.andThen_ok,newVar,newRow,newObj,Sem.run,Sem.run_pure,e]
   ·cases h
  ·cases h
 ·rename_i t len parts;unfold R2 at h;split at h
  ·rename_i el esz sz z bb l hg hl1;split at h
   ·rename_i td sz' z' bb' hg';split at h
    ·rename_i cs e1 e2 e3;split at h
     ·rename_i L' tgn hL';injection h with h;subst h;have hL2:=J2 hL';subst hL2;have e:bs k=w.heap.size:=hk.resolve_left (by simp);obtain⟨d,fi,zv,ok⟩:=d8 (hT.get hg);obtain⟨fe,rfl,g1,g2⟩:=ok.slice rfl;obtain⟨d',fi',zv',ok'⟩:=d8 (hT.get hg');have hz:z'=zv'.cells.toList:=ok'.hzero;subst hz;have hsz:sz'=fi'.size:=ok'.hsize;have hbe:=Nat.eq_of_beq_eq_true e1;rw[Array.length_toList]at hbe;have hble:=Nat.le_of_ble_eq_true e2;have hp:=X0 (y4 he hl1 hob);have hel:zv'.cells.size=fi'.size:=by rw[<- hbe,hsz]
      have g1':fe=fi':=by have:=g1.symm.trans ok'.hf;injection this
      subst g1';rw[hsz]at e3 hble;rw[<- hel,<- a8K]at e3;have hfill:=Y3 (place':=λi=>some (i*zv'.cells.size,zv'.cells.size)) (λ_ _ h=>h) e3;refine⟨_,_,?_, .inl rfl,hnew _ cs e,hx _⟩;have hn:¬len*fe.size>2^24:=by omega
      rw[<- hel]at hn;simp only[Instr.buildSlice,Sem.run_bind,d4 ok.hd,Result.andThen_ok,l6 g1,<- hel];rw[if_neg hn]
      by_cases h0:len*zv'.cells.size=0
      ·have hrg:∀f:Nat->Value,(Array.range (len*zv'.cells.size)).map f= #[]:=λf=>by rw[h0];simp
       rw[hrg]at hfill;rw[if_pos h0];simp only[Sem.run_bind,Sem.run_pure,Result.andThen_ok,hrg,Array.toList_map,hp,hfill,newRow,newObj,Sem.run,e]
      ·rw[if_neg h0];simp only[Sem.run_bind,Sem.run_pure,Result.andThen_ok,U5 ok'.hf ok'.hz,Array.toList_map,hp,hfill,newRow,newObj,Sem.run,e]
     ·cases h
    ·cases h
   ·cases h
  ·cases h
 ·split at h
  ·rename_i L' tgn hL';injection h with h;subst h;have hL2:=J2 hL';subst hL2;have e:bs k=w.heap.size:=hk.resolve_left (by simp);refine⟨_,{w with heap:=w.heap.push (.map #[] 0)},?_, .inl rfl,?_,hx _⟩
   ·simp only[Instr.makeMap,Option.map_none,Sem.run_bind,Result.andThen_ok,newObj,Sem.run,Sem.run_pure,e]
   ·rw[a0v,e];exact hs.snoc (a0w w) (λh' hh=>hh)
  ·cases h
 ·cases h
end
def gd (ops:List Oper) (E:Env) (o:Oper):Option G:=match o.guard with
 | none=>some .tt
 | some (j,want)=>match m6 ops j with
  | some oj=>match oj.dst with
   | some d=>match E.get d with
    | some ⟨_, .bool b,_, .tt⟩=>match want with
     | true=>some (.when b)
     | false=>some (.when (!b))
    | some ⟨_, .bool b,_, .when c⟩=>match want with
     | true=>some (.when (c&&b))
     | false=>some (.when (c&& !b))
    | _=>none
   | none=>none
  | none=>none
def a7W:G->List Prop->List Prop
 | .tt,l=>l
 | .when _,[]=>[]
 | .when b,p::r=>[b=true->Conj (p::r)]
def b4c:Cl->Nat->Option Atom
 | [],_=>none
 | (j,A)::r,i=>match Nat.beq j i with
  | true=>some A
  | false=>b4c r i
def rdC (C:Cl) (L:List Atom):Nat->List Prop
 | 0=>[]
 | i+1=>[b4c C i=m6 L i]
def b0A:Cl->List Atom->List Prop
 | [],_=>[]
 | (i,A)::r,L=>(m6 L i=some A)::b0A r L
def p4 (l:Bool) (C:Cl) (L:List Atom):List Prop:=match l with
 | true=>[]
 | false=>b0A C L
structure SR where
 E:Env
 L:List Atom
 ob:List Prop
 k:Nat
def y9 (N:Nat) (dst:Option Tmp) (v:Value) (tag:Nat) (g:G) (E:Env):Option Env:=match dst with
 | none=>some E
 | some d=>match Nat.blt d N with
  | true=>some (⟨d,v,tag,g⟩::E)
  | false=>none
def U8 (T:Tab) (N:Nat) (ops:List Oper) (C:Cl) (p:Bool) (i:Nat) (E:Env) (L:List Atom) (k:Nat):Option SR:=match m6 ops i with
 | some o=>match gd ops E o,look T E L o.op with
  | some g,some ⟨v,tag,ob,rd⟩=>match y9 N o.dst v tag g E with
   | some E'=>match p,rd with
    | true,0=>some ⟨E',L,a7W g ob,k⟩
    | true,_+1=>none
    | false,rd=>some ⟨E',L,a7W g (rdC C L rd++ob),k⟩
   | none=>none
  | _,_=>none
 | none=>none
def M2 (T:Tab) (N:Nat) (bs:Nat->Nat) (ops:List Oper) (C:Cl) (l:Bool) (i:Nat) (E:Env) (L:List Atom) (k:Nat):Option SR:=match m6 ops i with
 | some o=>match gd ops E o with
  | some g=>match look T E L o.op with
   | some ⟨v,tag,ob,_⟩=>match y9 N o.dst v tag g E with
    | some E'=>some ⟨E',L,p4 l C L++a7W g ob,k⟩
    | none=>none
   | none=>match g with
    | .tt=>match eff T bs E L k o.op with
     | some ⟨v,tag,L',ob,k'⟩=>match y9 N o.dst v tag .tt E with
      | some E'=>some ⟨E',L',p4 l C L'++ob,k'⟩
      | none=>none
     | none=>none
    | _=>none
  | none=>none
 | none=>none
section
variable {P : Program} {T : Tab} {E : Env} {L : List Atom} {n : Nat} {a : Act} {w : World}
theorem I6 {ops:Array Oper} {o:Oper} {g:G} (he:EnvOK n E a) (h:gd ops.toList E o=some g):Region.wanted o (yielded ops a.tmps)=g.on:=by
 unfold gd at h;unfold Region.wanted;split at h
 ·rename_i hg;injection h with h;subst h;simp[hg,G.on]
 ·rename_i j want hg;split at h
  ·rename_i oj hj;rw[l9]at hj;have hj':ops[j]? =some oj:=by simpa using hj
   split at h
   ·rename_i d hd;have hy:∀s,E.get d=some s->yielded ops a.tmps j=match s.val with | .bool b=>some b | _=>none:=λs hs=>by
     have:=he.slot d s hs;simp only[yielded,hj',Option.bind_some,hd,this];cases s.val<;>rfl
    split at h
    ·rename_i k b t hs;have:=hy _ hs;simp only[Slot.val,G.on]at this;simp only[hg,this];split at h<;>injection h with h<;>subst h<;>cases b<;>rfl
    ·rename_i k b t c hs;have:=hy _ hs;simp only[Slot.val,G.on]at this;simp only[hg];split at h<;>injection h with h<;>subst h<;>cases c<;>cases b<;>simp only[this]<;>rfl
    ·cases h
   ·cases h
  ·cases h
theorem Y9 {g:G} {l:List Prop} (h:Conj (a7W g l)) (hg:g.on=true):Conj l:=by
 cases g with
 | tt=>exact h
 | when b=>
  cases l with
  | nil=>trivial
  | cons p r=>exact h.1 hg
theorem u9 {N:Nat} {dst:Option Tmp} {v:Value} {tag:Nat} {g:G} {E':Env} (he:EnvOK N E a) (h:y9 N dst v tag g E=some E') (u:Value) (hu:u=match g.on with | true=>v | false=>undef):EnvOK N E' (a.put dst u):=by
 unfold y9 at h;split at h
 ·injection h with h;subst h;exact he
 ·rename_i d;split at h
  ·rename_i hd;injection h with h;subst h;exact he.put (Nat.le_of_ble_eq_true hd) v tag g u hu
  ·cases h
theorem d7:∀{C:Cl} {i:Nat} {A:Atom},b4c C i=some A->(i,A)∈C
 | (j,B)::r,i,A,h=>by
  simp only[b4c]at h;split at h
  ·rename_i e;have:=Nat.eq_of_beq_eq_true e;subst this;injection h with h;subst h;exact List.mem_cons_self ..
  ·exact List.mem_cons_of_mem _ (d7 h)
theorem a2g:∀{C:Cl} {L:List Atom} {w:World},Conj (b0A C L)->Sep L (hl w)->CAt C w
 | [],L,w,h,hs=>by intro p hp;cases hp
 | (i,A)::r,L,w,h,hs=>by
  intro p hp;rcases List.mem_cons.1 hp with rfl | hp
  ·have:=h.1;rw[l9]at this;exact hs.get this
  ·exact a2g h.2 hs p hp
theorem s7 {l:Bool} {C:Cl} {L:List Atom} {w:World} (h:Conj (p4 l C L)) (hs:Sep L (hl w)) (e:l=false):CAt C w:=by
 subst e;exact a2g h hs
theorem a3q (hT:TabOK P T) {N:Nat} {ops:Array Oper} {C:Cl} {p:Bool} {i k:Nat} {r:SR} (h:U8 T N ops.toList C p i E L k=some r) (hob:Conj r.ob):
  r.L=L/\r.k=k/\∃o,ops[i]? =some o/\∀a,EnvOK N E a->∃v,YldIn P ops (λw=>p=false->CAt C w) o v a/\EnvOK N r.E (a.put o.dst v):=by
 unfold U8 at h;split at h
 ·rename_i o ho;rw[l9]at ho;have ho':ops[i]? =some o:=by simpa using ho
  split at h
  ·rename_i g v tag ob rd hg hq;split at h
   ·rename_i E' hE;split at h
    ·injection h with h;subst h;refine⟨rfl,rfl,o,ho',λa he=>⟨_,?_,u9 he hE _ rfl⟩⟩;have hw:=I6 he hg;cases hon:g.on with
     | false=>exact .inr ⟨by rw[hw,hon],rfl⟩
     | true=>exact .inl ⟨by rw[hw,hon],λw _=>a2K hT he hq (Y9 hob hon) λi A hi hA=>by cases hi⟩
    ·cases h
    ·injection h with h;subst h;refine⟨rfl,rfl,o,ho',λa he=>⟨_,?_,u9 he hE _ rfl⟩⟩;have hw:=I6 he hg;cases hon:g.on with
     | false=>exact .inr ⟨by rw[hw,hon],rfl⟩
     | true=>
      have hob2:=Y9 hob hon;obtain⟨o1,o2⟩:=Conj.app hob2;refine .inl ⟨by rw[hw,hon],λw hC=>a2K hT he hq o2 λi A hi hA=>?_⟩;have hi':rd=i+1:=hi;rw[hi']at o1;have h1:=o1.1;rw[l9,hA]at h1;exact hC rfl _ (d7 h1)
   ·cases h
  ·cases h
 ·cases h
theorem a5E (hT:TabOK P T) {N:Nat} {bs:Nat->Nat} {ops:Array Oper} {C:Cl} {l:Bool} {i k:Nat} {r:SR} (h:M2 T N bs ops.toList C l i E L k=some r) (hob:Conj r.ob):
  ∃o,ops[i]? =some o/\∀a w,EnvOK N E a->Sep L (hl w)->(r.k=k\/bs k=w.heap.size)->sOp P ops o (λa' w'=>(l=false->CAt C w')/\EnvOK N r.E a'/\Sep r.L (hl w')/\Ext w w') a w:=by
 unfold M2 at h;split at h
 ·rename_i o ho;rw[l9]at ho;have ho':ops[i]? =some o:=by simpa using ho
  split at h
  ·rename_i g hg;split at h
   ·rename_i v tag ob rd hq;split at h
    ·rename_i E' hE;injection h with h;subst h;obtain⟨o1,o2⟩:=Conj.app hob;refine⟨o,ho',λa w he hs _=>?_⟩;have hw:=I6 he hg;unfold sOp;cases hon:g.on with
     | false=>
      rw[if_neg (by rw[hw,hon];simp)];exact⟨s7 o1 hs,u9 he hE _ (by rw[hon]),hs,Ext.refl _⟩
     | true=>
      rw[if_pos (by rw[hw,hon]),a2K hT he hq (Y9 o2 hon) λi A _ hA=>hs.get hA];exact⟨s7 o1 hs,u9 he hE _ (by rw[hon]),hs,Ext.refl _⟩
    ·cases h
   ·split at h
    ·split at h
     ·rename_i v tag L' ob k' hq;split at h
      ·rename_i E' hE;injection h with h;subst h;obtain⟨o1,o2⟩:=Conj.app hob;refine⟨o,ho',λa w he hs hk=>?_⟩;have hw:=I6 he hg;obtain⟨nv,w',r1,r2,r3,r4⟩:=a8C hT he hq o2 hs hk;unfold sOp;rw[if_pos (by rw[hw];rfl),r1];rcases r2 with rfl | ⟨rfl,r2⟩
       ·exact⟨s7 o1 r3,u9 he hE _ rfl,r3,r4⟩
       ·exact⟨s7 o1 r3,u9 he hE _ (by simp only at r2;rw[r2];rfl),r3,r4⟩
      ·cases h
     ·cases h
    ·cases h
  ·cases h
 ·cases h
end

theorem a9Q {T:Tab} {b0 bs:Nat->Nat} {E:Env} {L:List Atom} {k:Nat} {op:Op} {r:ER} (h:eff T b0 E L k op=some r):(r.k=k\/r.k=k+1)/\((k<r.k->bs k=b0 k)->eff T bs E L k op=some r):=by
 unfold eff at h ⊢;split at h
 ·split at h
  ·rename_i s s' h1 h2;refine⟨.inl ?_,λ_=>by first | exact h | (rw[h1,h2];exact h) | (simp only[h1,h2];exact h)⟩;unfold a1T at h
   (repeat' split at h)<;>first | (cases h;done) | (injection h with h;subst h;rfl)
  ·cases h
 ·split at h
  ·rename_i h1;split at h
   ·rename_i h2;injection h with h;subst h;exact⟨.inr rfl,λhb=>by simp only[h1,hb (Nat.lt_succ_self k),h2]⟩
   ·cases h
  ·cases h
 ·split at h
  ·rename_i h1;split at h
   ·rename_i h2;injection h with h;subst h;exact⟨.inr rfl,λhb=>by simp only[h1,hb (Nat.lt_succ_self k),h2]⟩
   ·cases h
  ·cases h
 ·unfold R2 at h ⊢;split at h
  ·rename_i h1 h2;split at h
   ·rename_i h3;split at h
    ·rename_i h4 h5 h6;split at h
     ·rename_i h7;injection h with h;subst h;exact⟨.inr rfl,λhb=>by simp only[h1,h2,h3,h4,h5,h6,hb (Nat.lt_succ_self k),h7]⟩
     ·cases h
    ·cases h
   ·cases h
  ·cases h
 ·split at h
  ·rename_i h2;injection h with h;subst h;exact⟨.inr rfl,λhb=>by rw[hb (Nat.lt_succ_self k)];simp only[h2]⟩
  ·cases h
 ·cases h
theorem H0 {T:Tab} {N:Nat} {b0 bs:Nat->Nat} {ops:List Oper} {C:Cl} {l:Bool} {i k:Nat} {E:Env} {L:List Atom} {r:SR} (h:M2 T N b0 ops C l i E L k=some r):(r.k=k\/r.k=k+1)/\((k<r.k->bs k=b0 k)->M2 T N bs ops C l i E L k=some r):=by
 unfold M2 at h ⊢;split at h
 ·rename_i o ho;split at h
  ·rename_i g hg;split at h
   ·rename_i q hq;split at h
    ·rename_i E' hE;injection h with h;subst h;exact⟨.inl rfl,λ_=>by simp only[ho,hg,hq,hE]⟩
    ·cases h
   ·rename_i hq;split at h
    ·split at h
     ·rename_i q hq2;split at h
      ·rename_i E' hE;injection h with h;subst h;obtain⟨c1,c2⟩:=a9Q (bs:=bs) hq2;exact⟨c1,λhb=>by simp only[ho,hg,hq,c2 hb,hE]⟩
      ·cases h
     ·cases h
    ·cases h
  ·cases h
 ·cases h
def b0s {α:Type}:List Prop->(List Prop->α)->α
 | [],f=>f []
 | p::r,f=>b0s r λl=>f (p::l)
theorem a1L {α:Type}:∀(l:List Prop) (f:List Prop->α),b0s l f=f l
 | [],f=>rfl
 | p::r,f=>by rw[b0s,a1L r]
structure RS where
 K:List KI
 E:Env
 L:List Atom
 ob:List Prop
def run (T:Tab) (N:Nat) (bs:Nat->Nat):Nat->List KI->Env->List Atom->List Prop->Nat->RS
 | 0,K,E,L,ob,_=>⟨K,E,L,ob⟩
 | n+1,K,E,L,ob,k=>match K with
  | .blk _::K'=>run T N bs n K' E L ob k
  | .code (.seq x y)::K'=>run T N bs n (.code x:: .code y::K') E L ob k
  | .code .skip::K'=>run T N bs n K' E L ob k
  | .code (.block id c)::K'=>run T N bs n (.code c:: .blk id::K') E L ob k
  | .code (.exit id)::K'=>match a2W id K' with
   | some K2=>run T N bs n K2 E L ob k
   | none=>⟨.code (.exit id)::K',E,L,ob⟩
  | .code (.region _ ops false)::K'=>run T N bs n (.reg ops [] (PT.seq 0 ops.size)::K') E L ob k
  | .reg _ _ .done::K'=>run T N bs n K' E L ob k
  | .reg ops C (.take p i t)::K'=>match U8 T N ops.toList C p i E L k with
   | some ⟨E',L',ob',k'⟩=>b0s (ob'++ob) λob2=>run T N bs n (.reg ops C t::K') E' L' ob2 k'
   | none=>⟨.reg ops C (.take p i t)::K',E,L,ob⟩
  | .reg ops C (.alt l i t .non)::K'=>match M2 T N bs ops.toList C l i E L k with
   | some ⟨E',L',ob',k'⟩=>b0s (ob'++ob) λob2=>run T N bs n (.reg ops C t::K') E' L' ob2 k'
   | none=>⟨.reg ops C (.alt l i t .non)::K',E,L,ob⟩
  | K=>⟨K,E,L,ob⟩
theorem a8Y {X:Cx} {T:Tab} (hT:TabOK X.P T):∀(n:Nat) (K:List KI) (E:Env) (L:List Atom) (ob:List Prop) (k:Nat) (b0:Nat->Nat),
  (∀bs:Nat->Nat,(∀i,i<k->bs i=b0 i)->Conj (run T X.n bs n K E L ob k).ob/\J X (run T X.n bs n K E L ob k).K (run T X.n bs n K E L ob k).E (run T X.n bs n K E L ob k).L)->Conj ob/\J X K E L:=by
 intro n
 induction n with
 | zero=>intro K E L ob k b0 h;exact h b0 (λ_ _=>rfl)
 | succ n ih=>
  intro K E L ob k b0 h;unfold run at h;split at h
  ·obtain⟨h1,h2⟩:=ih _ _ _ _ k b0 h;exact⟨h1,J.blk h2⟩
  ·obtain⟨h1,h2⟩:=ih _ _ _ _ k b0 h;exact⟨h1,J.seq h2⟩
  ·obtain⟨h1,h2⟩:=ih _ _ _ _ k b0 h;exact⟨h1,J.skip h2⟩
  ·obtain⟨h1,h2⟩:=ih _ _ _ _ k b0 h;exact⟨h1,J.block h2⟩
  ·rename_i id K';cases hx:a2W id K' with
   | some K2=>simp only[hx]at h;obtain⟨h1,h2⟩:=ih _ _ _ _ k b0 h;exact⟨h1,J.exit hx h2⟩
   | none=>simp only[hx]at h;exact h b0 (λ_ _=>rfl)
  ·obtain⟨h1,h2⟩:=ih _ _ _ _ k b0 h;exact⟨h1,J.code_reg h2⟩
  ·obtain⟨h1,h2⟩:=ih _ _ _ _ k b0 h;exact⟨h1,J.reg_done h2⟩
  ·rename_i ops C p i t K';cases hs:U8 T X.n ops.toList C p i E L k with
   | none=>simp only[hs]at h;exact h b0 (λ_ _=>rfl)
   | some r=>
    obtain⟨E',L',ob',k'⟩:=r;simp only[hs,a1L]at h;have hk:k'=k:=by
     unfold U8 at hs
     (repeat' split at hs)<;>first | (cases hs;done) | (injection hs with hs;injection hs with _ _ _ e;exact e.symm)
    subst hk;obtain⟨h1,h2⟩:=ih _ _ _ _ k' b0 h;obtain⟨o2,o1⟩:=Conj.app h1;refine⟨o1,λa w hx he hsp=>?_⟩;obtain⟨e1,_,o,ho,hy⟩:=a3q (P:=X.P) hT hs o2;obtain⟨v,y1,y2⟩:=hy a he;simp only at e1;subst e1;exact⟨o,v,ho,y1,h2 _ w hx y2 hsp⟩
  ·rename_i ops C l i t K';refine⟨?_,λa w hx he hsp=>?_⟩
   ·have:=h b0 (λ_ _=>rfl);cases hs:M2 T X.n b0 ops.toList C l i E L k with
    | none=>simp only[hs]at this;exact this.1
    | some r=>
     obtain⟨E',L',ob',k'⟩:=r;have hk:k<=k':=by rcases(H0 (bs:=b0) hs).1 with e | e<;>simp only at e<;>omega
     have h':∀bs:Nat->Nat,(∀i,i<k'->bs i=b0 i)->Conj (run T X.n bs n (.reg ops C t::K') E' L' (ob'++ob) k').ob/\J X (run T X.n bs n (.reg ops C t::K') E' L' (ob'++ob) k').K (run T X.n bs n (.reg ops C t::K') E' L' (ob'++ob) k').E (run T X.n bs n (.reg ops C t::K') E' L' (ob'++ob) k').L:=λbs hb=>by
      have:=h bs (λi hi=>hb i (by omega));rw[(H0 (bs:=bs) hs).2 (λe=>hb k e)]at this;simpa only[a1L]using this
     exact(Conj.app (ih _ _ _ _ k' b0 h').1).2
   ·let b1:Nat->Nat:=λi=>if i=k then w.heap.size else b0 i
    have hb1:∀i,i<k->b1 i=b0 i:=λi hi=>by show(if i=k then _ else _)=_;rw[if_neg (by omega)]
    have hbk:b1 k=w.heap.size:=by show(if k=k then _ else _)=_;rw[if_pos rfl]
    cases hs:M2 T X.n b1 ops.toList C l i E L k with
    | none=>have:=h b1 hb1;simp only[hs]at this;exact this.2 a w hx he hsp
    | some r=>
     obtain⟨E',L',ob',k'⟩:=r;have hk:k<=k':=by rcases(H0 (bs:=b0) hs).1 with e | e<;>simp only at e<;>omega
     have h':∀bs:Nat->Nat,(∀i,i<k'->bs i=b1 i)->Conj (run T X.n bs n (.reg ops C t::K') E' L' (ob'++ob) k').ob/\J X (run T X.n bs n (.reg ops C t::K') E' L' (ob'++ob) k').K (run T X.n bs n (.reg ops C t::K') E' L' (ob'++ob) k').E (run T X.n bs n (.reg ops C t::K') E' L' (ob'++ob) k').L:=λbs hb=>by
      have:=h bs (λi hi=>(hb i (by omega)).trans (hb1 i hi));rw[(H0 (bs:=bs) hs).2 (λe=>hb k e)]at this;simpa only[a1L]using this
     obtain⟨h1,h2⟩:=ih _ _ _ _ k' b1 h';obtain⟨o,ho,hstep⟩:=a5E (P:=X.P) hT hs (Conj.app h1).1;exact⟨⟨o,ho,(hstep a w he hsp (.inr hbk)).mono λa' w' ⟨q1,q2,q3,q4⟩=>⟨q1,h2 a' w' (hx.trans q4) q2 q3⟩⟩,trivial⟩
  ·exact h b0 (λ_ _=>rfl)
end Go.Proofs.YtgkpkpbnonmopaaGreat
