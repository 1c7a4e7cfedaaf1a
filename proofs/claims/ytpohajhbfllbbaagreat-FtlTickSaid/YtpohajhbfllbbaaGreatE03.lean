/- Helpers. No condition. -/
import Derived.Test.YtpohajhbfllbbaaGreatE01
import Derived.Test.YtpohajhbfllbbaaGreatE02
import Derived.Laws.CopyOwn
import Derived.Laws.ResultCell
import Derived.Defers
set_option maxRecDepth 20000
set_option linter.all false
namespace Go.Proofs.YtpohajhbfllbbaaGreat
open Go

structure LR where
 v:Value
 tag:Nat
 ob:List Prop
 rd:Nat
def a2B (p:Prop):Slot->List Prop
 | ⟨_,_,_, .tt⟩=>[]
 | ⟨_,_,_, .when c⟩=>[p->c=true]
def R4 (T:Tab) (st f:Nat):Slot->Option LR
 | ⟨_, .pointer (some ⟨b,o,none⟩),tag,g⟩=>match T.get st with
  | some ⟨.row fs,_,_,_⟩=>match n7 fs f with
   | some (off,_+1,_)=>some ⟨.pointer (some ⟨b,o+off,none⟩),tag,s7 g,0⟩
   | _=>none
  | _=>none
 | _=>none
def a2M (T:Tab) (t f:Nat):Slot->Option LR
 | ⟨_, .agg cs,_,g⟩=>match T.get t with
  | some ⟨.row fs,_,_,_⟩=>match n7 fs f with
   | some (off,sz,true)=>match a6h cs.toList off sz with
    | some l=>some ⟨.agg l.toArray,0,s7 g,0⟩
    | none=>none
   | some (off,_,false)=>match n7 cs.toList off with
    | some v=>some ⟨v,0,s7 g,0⟩
    | none=>none
   | none=>none
  | _=>none
 | _=>none
def I5 (T:Tab) (t:Nat):Slot->Slot->Option LR
 | ⟨_, .pointer (some ⟨b,o,none⟩),tag,g⟩,⟨_, .int _ n,_,g'⟩=>match T.get t with
  | some ⟨.arr len esz,_,_,_⟩=>some ⟨.pointer (some ⟨b,o+n.toNat*esz,none⟩),tag,(0<=n)::(n<(len:Int))::(s7 g++s7 g'),0⟩
  | _=>none
 | ⟨_, .slice (some ⟨b,o,none⟩) len _,tag,g⟩,⟨_, .int _ n,_,g'⟩=>match T.get t with
  | some ⟨.slice _ esz,_,_,_⟩=>some ⟨.pointer (some ⟨b,o+n.toNat*esz,none⟩),tag,(0<=n)::(n<(len:Int))::(s7 g++s7 g'),0⟩
  | _=>none
 | _,_=>none
def a8C (E:Env) (c a b:Operand):Option LR:=match ev E c with
 | some ⟨kc, .bool cb,tc,gc⟩=>match b with
  | .const (.bool false)=>match ev E a with
   | some ⟨ka, .bool va,ta,ga⟩=>some ⟨.bool (cb&&va),0,s7 gc++a2B (cb=true) ⟨ka, .bool va,ta,ga⟩,0⟩
   | _=>none
  | _=>match a with
   | .const (.bool true)=>match ev E b with
    | some ⟨kb, .bool vb,tb,gb⟩=>some ⟨.bool (cb||vb),0,s7 gc++a2B (cb=false) ⟨kb, .bool vb,tb,gb⟩,0⟩
    | _=>none
   | _=>none
 | _=>none
def a0E (T:Tab) (L:List Atom) (t:Nat):Slot->Option LR
 | ⟨_, .pointer (some ⟨b,o,none⟩),i+1,g⟩=>match n7 L i with
  | some (.pt b' _ cs)=>match T.get t with
   | some ⟨.row _,sz,_,_⟩=>match a6h cs o sz with
    | some l=>some ⟨.agg l.toArray,0,(b=b')::s7 g,i+1⟩
    | none=>none
   | some ⟨.arr _ _,sz,_,_⟩=>match a6h cs o sz with
    | some l=>some ⟨.agg l.toArray,0,(b=b')::s7 g,i+1⟩
    | none=>none
   | some _=>match n7 cs o with
    | some v=>some ⟨v,0,(b=b')::s7 g,i+1⟩
    | none=>none
   | none=>none
  | _=>none
 | _=>none
def R5 (E:Env):Option Operand->Nat->Option (Nat×List Prop)
 | none,d=>some (d,[])
 | some x,_=>match ev E x with
  | some ⟨_, .int _ n,_,g⟩=>some (n.toNat,(0<=n)::s7 g)
  | _=>none
def a2L (T:Tab) (E:Env) (t:Nat) (lo hi:Option Operand):Slot->Option LR
 | ⟨_, .pointer (some ⟨b,o,none⟩),tag,g⟩=>match T.get t with
  | some ⟨.arr n esz,_,_,_⟩=>match R5 E lo 0,R5 E hi n with
   | some (l,ol),some (h,oh)=>some ⟨.slice (some ⟨b,o+l*esz,none⟩) (h-l) (n-l),tag,s7 g++ol++oh++[l<=h,h<=n,l=0\/l<n],0⟩
   | _,_=>none
  | _=>none
 | ⟨_, .slice (some ⟨b,o,none⟩) len cap,tag,g⟩=>match T.get t with
  | some ⟨.slice _ esz,_,_,_⟩=>match R5 E lo 0,R5 E hi len with
   | some (l,ol),some (h,oh)=>some ⟨.slice (some ⟨b,o+l*esz,none⟩) (h-l) (cap-l),tag,s7 g++ol++oh++[l<=h,h<=cap,l=0\/l<cap],0⟩
   | _,_=>none
  | _=>none
 | _=>none
def slots (E:Env):List Operand->Option (List Slot)
 | []=>some []
 | x::r=>match ev E x,slots E r with
  | some s,some l=>some (s::l)
  | _,_=>none
def P5:List Slot->List Prop
 | []=>[]
 | s::r=>L8 s++P5 r
def vals:List Slot->List Value
 | []=>[]
 | ⟨_,v,_,_⟩::r=>v::vals r
def a3T (place:Nat->Option (Nat×Nat)):List Value->List (Nat×Value)->Option (List Value)
 | cs,[]=>some cs
 | cs,(i,v)::r=>match place i with
  | some (off,sz)=>match Nat.beq v.cells.toList.length sz,P9 cs off v.cells.toList with
   | true,some cs'=>a3T place cs' r
   | _,_=>none
  | none=>none
def a0B:List (Nat×Operand)->List Slot->List (Nat×Value)
 | (i,_)::r,⟨_,v,_,_⟩::l=>(i,v)::a0B r l
 | _,_=>[]
def a3q (fs:List (Nat×Nat×Bool)) (i:Nat):Option (Nat×Nat):=match n7 fs i with
 | some (off,sz,_)=>some (off,sz)
 | none=>none
def a6i (T:Tab) (E:Env) (t:Nat) (parts:List (Nat×Operand)):Option LR:=match T.get t,slots E (parts.map (·.2))with
 | some ⟨.row fs,_,z,_⟩,some l=>match a3T (a3q fs) z (a0B parts l)with
  | some cs=>some ⟨.agg cs.toArray,0,P5 l,0⟩
  | none=>none
 | some ⟨.arr _ esz,_,z,_⟩,some l=>match a3T (λi=>some (i*esz,esz)) z (a0B parts l)with
  | some cs=>some ⟨.agg cs.toArray,0,P5 l,0⟩
  | none=>none
 | _,_=>none
def a8E (T:Tab) (E:Env) (b:Builtin) (ts:List TypeId) (xs:List Operand):Option LR:=match b,ts,slots E xs with
 | .len,t::_,some (⟨_, .slice _ n _,_,g⟩::_)=>match T.get t with
  | some ⟨.slice _ _,_,_,_⟩=>some ⟨.int .i64 (n:Int),0,s7 g,0⟩
  | _=>none
 | .cap,t::_,some (⟨_, .slice _ _ n,_,g⟩::_)=>match T.get t with
  | some ⟨.slice _ _,_,_,_⟩=>some ⟨.int .i64 (n:Int),0,s7 g,0⟩
  | _=>none
 | .min,_,some [⟨_, .int k x,_,g⟩,⟨_, .int _ y,_,g'⟩]=>some ⟨.int k (if y<x then y else x),0,s7 g++s7 g',0⟩
 | .max,_,some [⟨_, .int k x,_,g⟩,⟨_, .int _ y,_,g'⟩]=>some ⟨.int k (if y>x then y else x),0,s7 g++s7 g',0⟩
 | _,_,_=>none
def look (T:Tab) (E:Env) (L:List Atom):Op->Option LR
 | .move x | .assign x=>match ev E x with
  | some ⟨_,v,t,g⟩=>some ⟨v,t,s7 g,0⟩
  | none=>none
 | .pick c a b=>a8C E c a b
 | .nilCheck x=>match ev E x with
  | some ⟨_, .pointer (some a),t,g⟩=>some ⟨.pointer (some a),t,s7 g,0⟩
  | _=>none
 | .binOp op t x y _=>match ev E x,ev E y with
  | some ⟨_,v,_,g⟩,some ⟨_,v',_,g'⟩=>match b7f T op t v v' with
   | some (u,ob)=>some ⟨u,0,ob++s7 g++s7 g',0⟩
   | none=>none
  | _,_=>none
 | .unOp op _ x=>match ev E x with
  | some ⟨_,v,_,g⟩=>match unV op v with
   | some (u,ob)=>some ⟨u,0,ob++s7 g,0⟩
   | none=>none
  | none=>none
 | .convert src dst x=>match ev E x,T.get dst,T.get src with
  | some ⟨_, .int _ n,_,g⟩,some ⟨.int k',_,_,_⟩,some _=>some ⟨.int k' n,0,inR k' n++s7 g,0⟩
  | _,_,_=>none
 | .fieldAddr st x f=>match ev E x with
  | some s=>R4 T st f s
  | none=>none
 | .field t x f=>match ev E x with
  | some s=>a2M T t f s
  | none=>none
 | .indexAddr t x (.const i)=>match ev E x with
  | some s=>I5 T t s ⟨0,i,0, .tt⟩
  | none=>none
 | .indexAddr t x i=>match ev E x,ev E i with
  | some ⟨k,v,_,g⟩,some s'=>I5 T t ⟨k,v,0,g⟩ s'
  | _,_=>none
 | .extract x i=>match ev E x with
  | some ⟨_, .tuple vs,_,g⟩=>match n7 vs.toList i with
   | some v=>some ⟨v,0,s7 g,0⟩
   | none=>none
  | _=>none
 | .slice t x lo hi none=>match ev E x with
  | some s=>a2L T E t lo hi s
  | none=>none
 | .build t parts=>a6i T E t parts.toList
 | .makeFunc fn first captured=>match slots E first.toList,slots E captured.toList with
  | some l,some l'=>some ⟨.func fn (vals l).toArray (vals l').toArray,0,P5 l++P5 l',0⟩
  | _,_=>none
 | .load t x=>match ev E x with
  | some s=>a0E T L t s
  | none=>none
 | .call ⟨.builtin b,args,ts⟩=>a8E T E b ts.toList args.toList
 | _=>none

section
variable {P : Program} {T : Tab} {E : Env} {L : List Atom} {n : Nat} {a : Act} {w : World}
theorem Addr.add_none (b o k:Nat):(⟨b,o,none⟩:Addr).add k=⟨b,o+k,none⟩:=by
 unfold Addr.add;split
 ·rename_i h;subst h;rfl
 ·rfl
theorem evs {x:Operand} {s:Slot} (he:EnvOK n E a) (h:ev E x=some s) (hv:Conj (L8 s)):a.eval x=s.v:=(i6 he h).trans (a0y hv)
theorem a1I {t:TypeId} {d:TypeDesc} (h:P.underlying t=some d):(isAgg t).run P w= .ok (H2 d) w:=by
 cases d<;>simp[isAgg,d7 h,H2]
theorem m6 {t:TypeId} {f:TypeInfo} (h:P.info? t=some f):(sizeOf t).run P w= .ok f.size w:=by simp[sizeOf,typeInfo,h]
theorem Y6 {t:TypeId} {f:TypeInfo} {z:Value} (h:P.info? t=some f) (hz:f.zero=some z):(zeroValue t).run P w= .ok z w:=by simp[zeroValue,typeInfo,h,hz]
def b6H (P:Program) (w:World) (t:TypeId) (cs:Array Value) (off:Nat):=(part t cs off).run P w
theorem a3t {t:TypeId} {f:TypeInfo} {d:TypeDesc} (hd:P.underlying t=some d) (hf:P.info? t=some f) (cs:Array Value) (off:Nat):
  (part t cs off).run P w=if H2 d then .ok (.agg (cs.extract off (off+f.size))) w else match cs[off]? with
   | some v=> .ok v w
   | none=>b6H P w t cs off:=by
 cases hb:H2 d
 ·cases hc:cs[off]? with
  | none=>rfl
  | some v=>simp only[part,Sem.run_bind,a1I hd,Result.andThen_ok,hb,Bool.false_eq_true,if_false,hc];rfl
 ·simp[part,a1I hd,hb,m6 hf]
theorem a2z (hT:TabOK P T) {st f:Nat} {s:Slot} {r:LR} (h:R4 T st f s=some r):(Instr.fieldAt st s.v f).run P w= .ok r.v w:=by
 unfold R4 at h;split at h
 ·rename_i kk b o tg gg;split at h
  ·rename_i fs sz z bb hg;split at h
   ·rename_i off k ag hl;injection h with h;subst h;obtain⟨d,fi,zv,ok⟩:=i3 (hT.get hg);obtain⟨fl,e,hfl⟩:=ok.row rfl;subst e;obtain⟨g,gi,gd,h1,h2,h3,h4,h5,h6⟩:=O6 hfl hl;have h1':fl[f]? =some g:=by simpa using h1
    have hne:gi.size≠0:=by omega
    simp only[Instr.fieldAt,Sem.run_bind,d7 ok.hd,Result.andThen_ok,h1',Instr.sureAddr,Sem.run_pure,fieldPlace,m6 h2];simp[hne,Addr.add_none,h4]
   ·cases h
  ·cases h
 ·cases h
theorem a6g {cs:Array Value} {o n:Nat} {l:List Value} (h:a6h cs.toList o n=some l):cs.extract o (o+n)=l.toArray:=by
 obtain⟨h1,h2⟩:=a1E h;apply Array.toList_inj.1;subst h1;simp[List.extract_eq_take_drop]
theorem a7u (hT:TabOK P T) {t f:Nat} {s:Slot} {r:LR} (h:a2M T t f s=some r):(Instr.field t s.v f).run P w= .ok r.v w:=by
 unfold a2M at h;split at h
 ·rename_i kk cs tg gg;split at h
  ·rename_i fs sz z bb hg;obtain⟨d,fi,zv,ok⟩:=i3 (hT.get hg);obtain⟨fl,e,hfl⟩:=ok.row rfl;subst e;split at h
   ·rename_i off k hl;obtain⟨g,gi,gd,h1,h2,h3,h4,h5,h6⟩:=O6 hfl hl;have h1':fl[f]? =some g:=by simpa using h1
    split at h
    ·rename_i l hl2;injection h with h;subst h;simp only[Instr.field,Sem.run_bind,d7 ok.hd,Result.andThen_ok,h1',asAgg,Sem.run_pure,a3t h3 h2,h6,if_true,h4,h5,a6g hl2]
    ·cases h
   ·rename_i off k hl;obtain⟨g,gi,gd,h1,h2,h3,h4,h5,h6⟩:=O6 hfl hl;have h1':fl[f]? =some g:=by simpa using h1
    split at h
    ·rename_i v hl2;injection h with h;subst h;rw[m9]at hl2;have hl3:cs[off]? =some v:=by simpa using hl2
     simp only[Instr.field,Sem.run_bind,d7 ok.hd,Result.andThen_ok,h1',asAgg,Sem.run_pure,a3t h3 h2,h6,Bool.false_eq_true,if_false,h4,hl3]
    ·cases h
   ·cases h
  ·cases h
 ·cases h
theorem Y0 (hT:TabOK P T) {t:Nat} {s i:Slot} {r:LR} (h:I5 T t s i=some r) (hob:Conj r.ob):(Instr.indexAt t s.v i.v).run P w= .ok r.v w:=by
 unfold I5 at h;split at h
 ·rename_i kk b o tg gg kk' k x tg' gg';split at h
  ·rename_i len esz sz z bb hg;injection h with h;subst h;obtain⟨d,fi,zv,ok⟩:=i3 (hT.get hg);obtain⟨e,fe,rfl,h1,h2⟩:=ok.arr rfl;simp only[Instr.indexAt,asIntOf,Sem.run_bind,Sem.run_pure,Result.andThen_ok,d7 ok.hd,Instr.sureAddr];rw[if_pos ⟨hob.1,hob.2.1⟩];simp[m6 h1,h2,Addr.add_none]
  ·cases h
 ·rename_i kk b o len cap tg gg kk' k x tg' gg';split at h
  ·rename_i el esz sz z bb hg;injection h with h;subst h;obtain⟨d,fi,zv,ok⟩:=i3 (hT.get hg);obtain⟨fe,rfl,h1,h2⟩:=ok.slice rfl;simp only[Instr.indexAt,asIntOf,Sem.run_bind,Sem.run_pure,Result.andThen_ok,d7 ok.hd];rw[if_pos ⟨hob.1,hob.2.1⟩];simp[m6 h1,h2,Addr.add_none]
  ·cases h
 ·cases h
end
end Go.Proofs.YtpohajhbfllbbaaGreat
namespace Go.Proofs.YtpohajhbfllbbaaGreat
open Go.RowKit

section
variable {P : Program} {ops : Array Oper} {rest : List Oper} {dst : Option Tmp} {ty : TypeId} {pos : String} {after : Array Edge} {a : Act} {w : World} {Q : Exit → Act → World → Prop}

end

theorem a6m (w:World) (g:Nat) (C:Array Value):w.grownBy (w.setRow g C) (some g):=
 ⟨rfl,rfl,rfl,by simp,λk _ hk=>setRow_other w g k C (λe=>hk (by simp[e]))⟩
section
variable {P : Program} {ops : Array Oper} {rest : List Oper} {dst : Option Tmp} {ty : TypeId} {pos : String} {after : Array Edge} {a : Act} {w : World} {Q : Exit → Act → World → Prop}
end

theorem a1Z {w:World} {b:Nat} {T:TypeId} {C:Array Value} (hb:Blk w b T C) (o:Nat) (cs:List Value) (h:(C.toList.drop o).take cs.length=cs):w.rangeAt b o cs:=by
 intro j v hv;rw[hb.cell];have hj:j<cs.length:=(List.getElem?_eq_some_iff.1 hv).1;rw[<- h,List.getElem?_take,if_pos hj,List.getElem?_drop]at hv;simpa using hv
end Go.Proofs.YtpohajhbfllbbaaGreat
namespace Go.Proofs.YtpohajhbfllbbaaGreat
open Go
section
variable {P : Program} {T : Tab} {E : Env} {L : List Atom} {n : Nat} {a : Act} {w : World}
theorem b7R {x:Operand} {s:Slot} {p:Prop} (he:EnvOK n E a) (h:ev E x=some s) (hv:Conj (a2B p s)) (hp:p):a.eval x=s.v:=by
 rw[i6 he h];obtain⟨k,v,t,g⟩:=s;unfold Slot.val;cases g with
 | tt=>rfl
 | when c=>simp only[a2B]at hv;simp only[G.on];rw[hv.1 hp]
theorem a8B {c x y:Operand} {r:LR} (he:EnvOK n E a) (h:a8C E c x y=some r) (hob:Conj r.ob):(do pure (if<- asBool (a.eval c)then a.eval x else a.eval y):Sem Value).run P w= .ok r.v w:=by
 unfold a8C at h;split at h
 ·rename_i kc cb tc gc hc;split at h
  ·split at h
   ·rename_i ka va ta ga ha;injection h with h;subst h;obtain⟨o1,o2⟩:=Conj.app hob;rw[evs he hc o1];cases cb
    ·simp[asBool,Act.eval]
    ·simp[asBool,b7R he ha o2 rfl]
   ·cases h
  ·split at h
   ·split at h
    ·rename_i kb vb tb gb hb;injection h with h;subst h;obtain⟨o1,o2⟩:=Conj.app hob;rw[evs he hc o1];cases cb
     ·simp[asBool,b7R he hb o2 rfl]
     ·simp[asBool,Act.eval]
    ·cases h
   ·cases h
 ·cases h
theorem a4c {b:Nat} {t:TypeId} {cs:List Value} (h:hl w b=some (.cells cs.toArray t (0,0))):Blk w b t cs.toArray:=h
theorem Q1 {t:TypeId} {d:TypeDesc} (hd:P.underlying t=some d) (hb:H2 d=false) {b o:Nat} {v:Value} (hc:w.cell? ⟨b,o,none⟩=some v):(loadVar t ⟨b,o,none⟩).run P w= .ok v w:=by
 simp[loadVar,a1I hd,hb,load,Sem.run,hc]
theorem a2c {t:TypeId} {d:TypeDesc} {f:TypeInfo} (hd:P.underlying t=some d) (hb:H2 d=true) (hf:P.info? t=some f) {b o:Nat} {ty:TypeId} {cs l:List Value} (hc:Blk w b ty cs.toArray) (hl:a6h cs o f.size=some l):(loadVar t ⟨b,o,none⟩).run P w= .ok (.agg l.toArray) w:=by
 obtain⟨h1,h2⟩:=a1E hl;refine run_loadVar_mid w b o t l d (a1Z hc o l ?_) hd (by cases d<;>simp_all [H2,TypeDesc.isRow]) (by rw[hf];simp[h2]);rw[h2,h1]
theorem a3L (hT:TabOK P T) {t:Nat} {s:Slot} {r:LR} (h:a0E T L t s=some r) (hob:Conj r.ob) (hr:∀i A,r.rd=i+1->L[i]? =some A->A.sat (hl w)):(Instr.loadAt t s.v).run P w= .ok r.v w:=by
 unfold a0E at h;split at h
 ·rename_i kk b o i gg;split at h
  ·rename_i b' ty cs hL;rw[m9]at hL;split at h
   ·rename_i fs sz z bb hg;obtain⟨d,fi,zv,ok⟩:=i3 (hT.get hg);obtain⟨fl,rfl,_⟩:=ok.row rfl;split at h
    ·rename_i l hl2;injection h with h;subst h;have hb:=hob.1;subst hb;have hA:=a4c (hr i _ rfl hL);have hsz:sz=fi.size:=ok.hsize;rw[hsz]at hl2;simp[Instr.loadAt,Instr.sureAddr,a2c ok.hd rfl ok.hf hA hl2]
    ·cases h
   ·rename_i x y sz z bb hg;obtain⟨d,fi,zv,ok⟩:=i3 (hT.get hg);obtain⟨e,fe,rfl,_⟩:=ok.arr rfl;split at h
    ·rename_i l hl2;injection h with h;subst h;have hb:=hob.1;subst hb;have hA:=a4c (hr i _ rfl hL);have hsz:sz=fi.size:=ok.hsize;rw[hsz]at hl2;simp[Instr.loadAt,Instr.sureAddr,a2c ok.hd rfl ok.hf hA hl2]
    ·cases h
   ·rename_i ti hn1 hn2 hg;obtain⟨d,fi,zv,ok⟩:=i3 (hT.get hg);split at h
    ·rename_i v hl2;injection h with h;subst h;have hb:=hob.1;subst hb;have hA:=a4c (hr i _ rfl hL);rw[m9]at hl2;have hagg:H2 d=false:=by
      have htd:=ok.htd;cases d<;>simp[H2]<;>simp[a2w]at htd
      ·obtain⟨g,h1,h2⟩:=htd;obtain⟨td,sz,zz,bb⟩:=ti;simp at h2;subst h2;exact hn2 _ _ _ _ _ rfl
      ·obtain⟨g,h1,h2⟩:=htd;obtain⟨td,sz,zz,bb⟩:=ti;simp at h2;subst h2;exact hn1 _ _ _ _ rfl
     have hc:w.cell? ⟨b,o,none⟩=some v:=by rw[hA.cell];simpa using hl2
     simp[Instr.loadAt,Instr.sureAddr,Q1 ok.hd hagg hc]
    ·cases h
   ·cases h
  ·cases h
 ·cases h
theorem a2d {x:Option Operand} {d k:Nat} {ob:List Prop} (he:EnvOK n E a) (h:R5 E x d=some (k,ob)) (hob:Conj ob):
  (x=none/\k=d)\/∃y ik z,x=some y/\a.eval y= .int ik z/\0<=z/\z.toNat=k:=by
 unfold R5 at h;split at h
 ·simp only[Option.some.injEq,Prod.mk.injEq]at h;exact .inl ⟨rfl,h.1.symm⟩
 ·rename_i y;split at h
  ·rename_i ks ik z t g hy;simp only[Option.some.injEq,Prod.mk.injEq]at h;obtain⟨rfl,rfl⟩:=h;exact .inr ⟨y,ik,z,rfl,evs he hy hob.2,hob.1,rfl⟩
  ·cases h
theorem J3 {x:Value} {ik:IntKind} {z:Int} (hx:x= .int ik z) (h0:0<=z) {y:Nat} (hy:z.toNat<=y) (c:BoundsCode):(Instr.sliceBound x y c).run P w= .ok z.toNat w:=by
 subst hx;simp only[Instr.sliceBound,asIntOf,Sem.run_bind,Sem.run_pure,Result.andThen_ok];rw[if_pos ⟨h0,by omega⟩];rfl
theorem X6 {isS:Bool} {len cap l h dl:Nat} {lo hi:Option Operand} {ol oh:List Prop} (he:EnvOK n E a) (h1:R5 E lo 0=some (l,ol)) (h2:R5 E hi len=some (h,oh)) (o1:Conj ol) (o2:Conj oh) (hlh:l<=h) (hhc:h<=cap) (hd:dl=cap):
  (Instr.sliceBounds isS len dl (lo.map a.eval) (hi.map a.eval) none).run P w= .ok (l,h,cap) w:=by
 subst hd;rcases a2d he h1 o1 with⟨rfl,rfl⟩ | ⟨y,ik,z,rfl,e1,e2,e3⟩<;>rcases a2d he h2 o2 with⟨rfl,rfl⟩ | ⟨y',ik',z',rfl,e1',e2',e3'⟩
 ·simp[Instr.sliceBounds]
 ·simp[Instr.sliceBounds,J3 (P:=P) (w:=w) e1' e2' (by rw[e3'];exact hhc),e3']
 ·simp[Instr.sliceBounds,J3 (P:=P) (w:=w) e1 e2 (by rw[e3];exact hlh),e3]
 ·subst e3';simp[Instr.sliceBounds,J3 (P:=P) (w:=w) e1' e2' hhc,J3 (P:=P) (w:=w) e1 e2 (by rw[e3];exact hlh),e3]
theorem a7t (hT:TabOK P T) {t:Nat} {s:Slot} {lo hi:Option Operand} {r:LR} (he:EnvOK n E a) (h:a2L T E t lo hi s=some r) (hob:Conj r.ob):(Instr.sliceAt t s.v (lo.map a.eval) (hi.map a.eval) none).run P w= .ok r.v w:=by
 unfold a2L at h;split at h
 ·rename_i kk b o tg gg;split at h
  ·rename_i m esz sz z bb hg;split at h
   ·rename_i l ol hh oh h1 h2;injection h with h;subst h;obtain⟨oo,hlh,hhc,hlc,_⟩:=Conj.app hob;obtain⟨oo,o2⟩:=Conj.app oo;obtain⟨_,o1⟩:=Conj.app oo;obtain⟨d,fi,zv,ok⟩:=i3 (hT.get hg);obtain⟨e,fe,rfl,g1,g2⟩:=ok.arr rfl;simp only[Instr.sliceAt,Sem.run_bind,d7 ok.hd,Result.andThen_ok,Instr.sureAddr,Sem.run_pure,X6 (P:=P) (w:=w) (isS:=false) he h1 h2 o1 o2 hlh hhc rfl,m6 g1,g2]
    by_cases hm:m=l
    ·rcases hlc with rfl | hlc
     ·subst hm;simp
     ·omega
    ·simp[hm,Addr.add_none]
   ·cases h
  ·cases h
 ·rename_i kk b o len cap tg gg;split at h
  ·rename_i el esz sz z bb hg;split at h
   ·rename_i l ol hh oh h1 h2;injection h with h;subst h;obtain⟨oo,hlh,hhc,hlc,_⟩:=Conj.app hob;obtain⟨oo,o2⟩:=Conj.app oo;obtain⟨_,o1⟩:=Conj.app oo;obtain⟨d,fi,zv,ok⟩:=i3 (hT.get hg);obtain⟨fe,rfl,g1,g2⟩:=ok.slice rfl;simp only[Instr.sliceAt,Sem.run_bind,d7 ok.hd,Result.andThen_ok,Instr.slice,Sem.run_pure,X6 (P:=P) (w:=w) (isS:=true) he h1 h2 o1 o2 hlh hhc rfl,m6 g1,g2]
    by_cases hm:cap=l
    ·rcases hlc with rfl | hlc
     ·subst hm;simp
     ·omega
    ·simp[hm,Addr.add_none]
   ·cases h
  ·cases h
 ·cases h
theorem D4 (he:EnvOK n E a):∀{xs:List Operand} {l:List Slot},slots E xs=some l->Conj (P5 l)->xs.map a.eval=vals l
 | [],l,h,_=>by simp only[slots,Option.some.injEq]at h;subst h;rfl
 | x::r,l,h,hv=>by
  simp only[slots]at h;split at h
  ·rename_i s l' h1 h2;injection h with h;subst h;obtain⟨v1,v2⟩:=Conj.app hv;simp only[List.map_cons,vals,evs he h1 v1,D4 he h2 v2]
  ·cases h
theorem a5f {α:Type} (l xs:List α):P9 l 0 xs=X9 l xs:=by cases l<;>rfl
theorem a1F {α:Type}:∀{l:List α} {o:Nat} {x:α} {xs m:List α},P9 l o (x::xs)=some m->P9 (l.set o x) (o+1) xs=some m
 | [],0,x,xs,m,h=>by simp[P9,X9]at h
 | [],o+1,x,xs,m,h=>by simp[P9]at h
 | y::r,0,x,xs,m,h=>by
  rw[a5f]at h;simpa only[X9,List.set_cons_zero,P9,a5f]using h
 | y::r,o+1,x,xs,m,h=>by
  simp only[P9]at h;split at h
  ·rename_i l hl;simp only[List.set_cons_succ,P9,a1F hl];exact h
  ·cases h
theorem a5s (off:Nat):∀(xs:List Value) (k:Nat) (cs:Array Value) (m:List Value),P9 cs.toList (off+k) xs=some m->(xs.zipIdx k).foldl (λcs (c,j)=>cs.setIfInBounds (off+j) c) cs=m.toArray
 | [],k,cs,m,h=>by
  obtain⟨h1,h2⟩:=U1 h;simp at h1;subst h1;simp
 | x::xs,k,cs,m,h=>by
  rw[List.zipIdx_cons,List.foldl_cons];exact a5s off xs (k+1) _ m (by rw[<- Nat.add_assoc];simpa using a1F h)
theorem a0s {place place':Nat->Option (Nat×Nat)} (hp:∀i r,place i=some r->place' i=some r):∀{parts:List (Nat×Value)} {cs:Array Value} {m:List Value},a3T place cs.toList parts=some m->Instr.fill place' cs parts=some m.toArray
 | [],cs,m,h=>by simp only[a3T,Option.some.injEq]at h;subst h;simp[Instr.fill]
 | (i,v)::r,cs,m,h=>by
  simp only[a3T]at h;split at h
  ·rename_i off sz hpl;split at h
   ·rename_i cs' e1 e2;have e3:=Nat.eq_of_beq_eq_true e1;obtain⟨e4,e5⟩:=U1 e2;simp only[Instr.fill,hp _ _ hpl];have:v.cells.size=sz:=by simpa using e3
    have hb:(decide (v.cells.size≠sz)||decide (off+v.cells.size>cs.size))=false:=by
     simp at e5;simp;omega
    have hb':¬(v.cells.size≠sz\/off+v.cells.size>cs.size):=by
     simp at e5;omega
    have hf:=a5s off v.cells.toList 0 cs cs' e2;have hf':Array.foldl (λcs x=>match x with | (c,j)=>cs.setIfInBounds (off+j) c) cs v.cells.zipIdx=cs'.toArray:=by
     rw[<- hf,<- Array.foldl_toList,Array.toList_zipIdx]
    simp only[this,ne_eq,not_true_eq_false,decide_false,Bool.false_or];rw[if_neg (by simp at e5 ⊢;omega)];rw[hf'];exact a0s hp (by simpa using h)
   ·cases h
  ·cases h
theorem a0m:∀{parts:List (Nat×Operand)} {l:List Slot},(parts.map (·.2)).map a.eval=vals l->parts.map (λ(i,x)=>(i,a.eval x))=a0B parts l
 | [],l,h=>by simp[a0B]
 | (i,x)::r,[],h=>by simp[vals]at h
 | (i,x)::r,s::l,h=>by
  simp only[List.map_cons,vals,List.cons.injEq]at h;simp only[List.map_cons,a0B,h.1,a0m h.2]
theorem a3p:∀{fl:List Field} {fs:List (Nat×Nat×Bool)},fieldsOf P fl=some fs->(fl.mapM (λf=>do pure (f.offset,<- sizeOf f.type)):Sem (List (Nat×Nat))).run P w= .ok (fs.map λx=>(x.1,x.2.1)) w
 | [],fs,h=>by simp only[fieldsOf,Option.some.injEq]at h;subst h;simp
 | f::r,fs,h=>by
  simp only[fieldsOf]at h;split at h
  ·rename_i i d l h1 h2 h3;injection h with h;subst h;have:=a3p h3;simp only[List.mapM_cons,Sem.run_bind,m6 h1,Result.andThen_ok,Sem.run_pure,this,List.map_cons]
  ·cases h
theorem a7h (fs:List (Nat×Nat×Bool)) (i:Nat) (r:Nat×Nat) (h:a3q fs i=some r):((fs.map λx=>(x.1,x.2.1)).toArray[i]?)=some r:=by
 unfold a3q at h;rw[m9]at h;split at h
 ·rename_i off sz b e;simp[e,h]
 ·cases h
theorem a7v (hT:TabOK P T) {t:Nat} {parts:Array (Nat×Operand)} {r:LR} (he:EnvOK n E a) (h:a6i T E t parts.toList=some r) (hob:Conj r.ob):(Instr.build t (parts.map λ(i,x)=>(i,a.eval x))).run P w= .ok r.v w:=by
 unfold a6i at h;split at h
 ·rename_i fs sz z bb l hg hl;split at h
  ·rename_i cs hf;injection h with h;subst h;have hp:=a0m (D4 he hl hob);obtain⟨d,fi,zv,ok⟩:=i3 (hT.get hg);obtain⟨fl,rfl,hfl⟩:=ok.row rfl;have hz:z=zv.cells.toList:=ok.hzero;subst hz;have hr:=a0s (place':=((fs.map λx=>(x.1,x.2.1)).toArray[·]?)) (a7h fs) hf;have hpl:(fl.mapM (λf=>do pure (f.offset,<- sizeOf f.type)):Sem (Array (Nat×Nat))).run P w= .ok (fs.map λx=>(x.1,x.2.1)).toArray w:=by
    rw[Array.mapM_eq_mapM_toList];simp only[map_eq_pure_bind,Sem.run_bind,a3p hfl,Result.andThen_ok,Sem.run_pure]
   simp only[Instr.build,Sem.run_bind,Y6 ok.hf ok.hz,Result.andThen_ok,d7 ok.hd,hpl,Sem.run_pure,Array.toList_map,hp,hr]
  ·cases h
 ·rename_i m esz sz z bb l hg hl;split at h
  ·rename_i cs hf;injection h with h;subst h;have hp:=a0m (D4 he hl hob);obtain⟨d,fi,zv,ok⟩:=i3 (hT.get hg);obtain⟨e,fe,rfl,g1,g2⟩:=ok.arr rfl;have hz:z=zv.cells.toList:=ok.hzero;subst hz;have hr:=a0s (place':=λi=>some (i*esz,esz)) (λ_ _ h=>h) hf;simp only[Instr.build,Sem.run_bind,Y6 ok.hf ok.hz,Result.andThen_ok,d7 ok.hd,m6 g1,g2,Array.toList_map,hp,hr,Sem.run_pure]
  ·cases h
 ·cases h
end
section
variable {P : Program} {T : Tab} {E : Env} {L : List Atom} {n : Nat} {a : Act} {w : World}
theorem a8D (hT:TabOK P T) {b:Builtin} {ts:Array TypeId} {args:Array Operand} {r:LR} (he:EnvOK n E a) (h:a8E T E b ts.toList args.toList=some r) (hob:Conj r.ob) (type:TypeId) (consts:Array Bool):
  (builtin b ts type consts (args.map a.eval)).run P w= .ok (.value r.v) w:=by
 have hargs:∀{l:List Slot},slots E args.toList=some l->Conj (P5 l)->args.map a.eval=(vals l).toArray:=λh1 h2=>by
  apply Array.toList_inj.1;rw[Array.toList_map,D4 he h1 h2]
 unfold a8E at h;split at h
 ·rename_i t rt kk ad n' c tg gg rs hts hs;split at h
  ·rename_i el esz sz z bb hg;injection h with h;subst h;obtain⟨d,fi,zv,ok⟩:=i3 (hT.get hg);obtain⟨fe,rfl,g1,g2⟩:=ok.slice rfl;have ht:ts[0]? =some t:=by rw[<- Array.getElem?_toList,hts];rfl
   have hx:(args.map a.eval)[0]? =some (.slice ad n' c):=by
    rw[<- Array.getElem?_toList,Array.toList_map];cases hal:args.toList with
    | nil=>rw[hal]at hs;simp[slots]at hs
    | cons x xs=>
     rw[hal]at hs;simp only[slots]at hs;split at hs
     ·rename_i s' l' h1 h2;injection hs with hs;injection hs with hs1 hs2;subst hs1;simp[evs he h1 hob]
     ·cases hs
   simp[builtin,Builtin.len_,ht,hx,d7 ok.hd,goInt]
  ·cases h
 ·rename_i t rt kk ad c m' tg gg rs hts hs;split at h
  ·rename_i el esz sz z bb hg;injection h with h;subst h;obtain⟨d,fi,zv,ok⟩:=i3 (hT.get hg);obtain⟨fe,rfl,g1,g2⟩:=ok.slice rfl;have ht:ts[0]? =some t:=by rw[<- Array.getElem?_toList,hts];rfl
   have hx:(args.map a.eval)[0]? =some (.slice ad c m'):=by
    rw[<- Array.getElem?_toList,Array.toList_map];cases hal:args.toList with
    | nil=>rw[hal]at hs;simp[slots]at hs
    | cons x xs=>
     rw[hal]at hs;simp only[slots]at hs;split at hs
     ·rename_i s' l' h1 h2;injection hs with hs;injection hs with hs1 hs2;subst hs1;simp[evs he h1 hob]
     ·cases hs
   simp[builtin,Builtin.cap_,ht,hx,d7 ok.hd,goInt]
  ·cases h
 ·rename_i hs;injection h with h;subst h;have:=hargs hs (by simp only[P5,L8];rw[List.append_nil];exact hob);simp[builtin,this,Builtin.min_,vals,Builtin.min2]
 ·rename_i hs;injection h with h;subst h;have:=hargs hs (by simp only[P5,L8];rw[List.append_nil];exact hob);simp[builtin,this,Builtin.max_,vals,Builtin.max2]
 ·cases h
theorem R3 {t:Nat} {s i:Slot} {r:LR} (h:I5 T t s i=some r) (hob:Conj r.ob):Conj (L8 s)/\Conj (L8 i):=by
 obtain⟨k,v,tg,g⟩:=s;obtain⟨k',v',tg',g'⟩:=i;unfold I5 at h;split at h<;>rename_i e1 e2
 ·split at h
  ·injection h with h;subst h;injection e1 with _ _ _ e1;injection e2 with _ _ _ e2;subst e1;subst e2;exact Conj.app hob.2.2
  ·cases h
 ·split at h
  ·injection h with h;subst h;injection e1 with _ _ _ e1;injection e2 with _ _ _ e2;subst e1;subst e2;exact Conj.app hob.2.2
  ·cases h
 ·cases h
theorem a3K (hT:TabOK P T) {o:Oper} {r:LR} (he:EnvOK n E a) (h:look T E L o.op=some r) (hob:Conj r.ob) (hr:∀i A,r.rd=i+1->L[i]? =some A->A.sat (hl w)):(execOp a.eval o).run P w= .ok (.value r.v) w:=by
 unfold look at h;unfold execOp;split at h<;>rename_i hop<;>simp only[hop]
 ·split at h
  ·rename_i s hs;injection h with h;subst h;simp[evs he hs hob]
  ·cases h
 ·split at h
  ·rename_i s hs;injection h with h;subst h;simp[evs he hs hob]
  ·cases h
 ·have:=a8B (P:=P) (w:=w) he h hob;simp only[Sem.run_bind,Sem.run_pure]at this ⊢
  revert this
  cases(asBool (a.eval _)).run P w with
  | ok b w'=>intro this;simp only[Result.andThen_ok]at this ⊢;injection this with h1 h2;rw[h1,h2]
  | halt x w'=>intro this;cases this
 ·split at h
  ·rename_i k p t g hs;injection h with h;subst h;simp[evs he hs hob]
  ·cases h
 ·split at h
  ·rename_i s s' h1 h2;split at h
   ·rename_i v ob hb;injection h with h;subst h;obtain⟨oo,v2⟩:=Conj.app hob;obtain⟨oo,v1⟩:=Conj.app oo;rw[evs he h1 v1,evs he h2 v2];have:=b3S (P:=P) (w:=w) hT hb oo;simp only[Sem.run_bind,this,Result.andThen_ok,Sem.run_pure]
   ·cases h
  ·cases h
 ·split at h
  ·rename_i s h1;split at h
   ·rename_i v ob hb;injection h with h;subst h;obtain⟨oo,v1⟩:=Conj.app hob;rw[evs he h1 v1];simp only[Sem.run_bind,b4s hb oo,Result.andThen_ok,Sem.run_pure]
   ·cases h
  ·cases h
 ·split at h
  ·rename_i k ik m t g k' sz z bb ti h1 h2 h3;injection h with h;subst h;obtain⟨oo,v1⟩:=Conj.app hob;rw[evs he h1 v1];obtain⟨d,fi,zv,ok⟩:=i3 (hT.get h2);obtain⟨d',fi',zv',ok'⟩:=i3 (hT.get h3);have:=ok.int rfl;subst this;simp[convert,d7 ok.hd,d7 ok'.hd,Conv.intToInt,Q4 oo]
  ·cases h
 ·split at h
  ·rename_i s hs;have hv:Conj (L8 s):=by
    unfold R4 at h
    (repeat' split at h)<;>first | (cases h;done) | (injection h with h;subst h;exact hob)
   rw[evs he hs hv];simp only[Sem.run_bind,a2z hT h,Result.andThen_ok,Sem.run_pure]
  ·cases h
 ·split at h
  ·rename_i s hs;have hv:Conj (L8 s):=by
    unfold a2M at h
    (repeat' split at h)<;>first | (cases h;done) | (injection h with h;subst h;exact hob)
   rw[evs he hs hv];simp only[Sem.run_bind,a7u hT h,Result.andThen_ok,Sem.run_pure]
  ·cases h
 ·split at h
  ·rename_i s h1;have hv:=R3 h hob;rw[evs he h1 hv.1];have:=Y0 (P:=P) (w:=w) hT h hob;simp only[Act.eval,Sem.run_bind,this,Result.andThen_ok,Sem.run_pure]
  ·cases h
 ·split at h
  ·rename_i k v tg g s' h1 h2;have hv:=R3 h hob;rw[evs he h1 hv.1,evs he h2 hv.2];have:=Y0 (P:=P) (w:=w) hT h hob;simp only[Sem.run_bind,this,Result.andThen_ok,Sem.run_pure]
  ·cases h
 ·split at h
  ·rename_i k vs t g hs;split at h
   ·rename_i v hv;injection h with h;subst h;rw[evs he hs hob];rw[m9]at hv;simp only[Instr.extract,Sem.run_bind];rw[<- Array.getElem?_toList,hv];rfl
   ·cases h
  ·cases h
 ·split at h
  ·rename_i s hs;have hv:Conj (L8 s):=by
    unfold a2L at h
    (repeat' split at h)<;>first | (cases h;done) | (injection h with h;subst h;exact(Conj.app (Conj.app (Conj.app hob).1).1).1)
   rw[evs he hs hv];have:=a7t (P:=P) (w:=w) hT he h hob;simp only[Sem.run_bind,Option.map_none,this,Result.andThen_ok,Sem.run_pure]
  ·cases h
 ·simp only[Sem.run_bind,a7v hT he h hob,Result.andThen_ok,Sem.run_pure]
 ·rename_i fn f1 c1;split at h
  ·rename_i l l' h1 h2;injection h with h;subst h;obtain⟨v1,v2⟩:=Conj.app hob;have e1:Array.map a.eval f1=(vals l).toArray:=by apply Array.toList_inj.1;rw[Array.toList_map,D4 he h1 v1]
   have e2:Array.map a.eval c1=(vals l').toArray:=by apply Array.toList_inj.1;rw[Array.toList_map,D4 he h2 v2]
   simp[Instr.makeFunc,e1,e2]
  ·cases h
 ·split at h
  ·rename_i s hs;have hv:Conj (L8 s):=by
    unfold a0E at h
    (repeat' split at h)<;>first | (cases h;done) | (injection h with h;subst h;exact hob.2)
   rw[evs he hs hv];simp only[Sem.run_bind,a3L hT h hob hr,Result.andThen_ok,Sem.run_pure]
  ·cases h
 ·have:=a8D (P:=P) (w:=w) hT he h hob o.type;simp[resolve,invoke,this]
 ·cases h
end
structure ER where
 v:Value
 tag:Nat
 L:List Atom
 ob:List Prop
 k:Nat
def Y5:Nat->List Value->List Value
 | 0,_=>[]
 | n+1,z=>z++Y5 n z
def X8 {α:Type}:List Nat->List α->α->Option (List α×Nat)
 | k::_,[],y=>some ([y],k)
 | _::ks,x::r,y=>match X8 ks r y with
  | some (r',k)=>some (x::r',k)
  | none=>none
 | [],_,_=>none
def a8u:List Nat:=[1,2,3,4,5,6,7,8,9,10,11,12,13,14,15,16,17,18,19,20,21,22,23,24,25,26,27,28,29,30,31,32,33,34,35,36,37,38,39,40]
def a2P (T:Tab) (L:List Atom) (k t:Nat):Slot->Slot->Option ER
 | ⟨_, .pointer (some ⟨b,o,none⟩),i+1,g⟩,⟨_,v,_,g'⟩=>match n7 L i,T.get t with
  | some (.pt b' ty cs),some ⟨_,sz,_,_⟩=>match Nat.beq sz v.cells.toList.length,P9 cs o v.cells.toList with
   | true,some cs'=>match A8 L i (.pt b' ty cs')with
    | some L'=>some ⟨undef,0,L',(b=b')::(v.cells.toList.all (·.oneCell')=true)::(s7 g++s7 g'),k⟩
    | none=>none
   | _,_=>none
  | _,_=>none
 | _,_=>none
def W7 (T:Tab) (bs:Nat->Nat) (E:Env) (L:List Atom) (k t len:Nat) (parts:List (Nat×Operand)):Option ER:=match T.get t,slots E (parts.map (·.2))with
 | some ⟨.slice el esz,_,_,_⟩,some l=>match T.get el with
  | some ⟨_,sz,z,_⟩=>match Nat.beq sz z.length,Nat.ble (len*sz) 16777216,a3T (λi=>some (i*sz,sz)) (Y5 len z) (a0B parts l)with
   | true,true,some cs=>match X8 a8u L (.pt (bs k) el cs)with
    | some (L',tg)=>some ⟨.slice (some ⟨bs k,0,none⟩) len len,tg,L',P5 l,k+1⟩
    | none=>none
   | _,_,_=>none
  | none=>none
 | _,_=>none
def eff (T:Tab) (bs:Nat->Nat) (E:Env) (L:List Atom) (k:Nat):Op->Option ER
 | .store t x y=>match ev E x,ev E y with
  | some s,some s'=>a2P T L k t s s'
  | _,_=>none
 | .alloc el=>match T.get el with
  | some ⟨_,_,z,_⟩=>match X8 a8u L (.pt (bs k) el z)with
   | some (L',tg)=>some ⟨.pointer (some ⟨bs k,0,none⟩),tg,L',[],k+1⟩
   | none=>none
  | none=>none
 | .box el x=>match ev E x with
  | some ⟨_,v,_,g⟩=>match X8 a8u L (.pt (bs k) el v.cells.toList)with
   | some (L',tg)=>some ⟨.pointer (some ⟨bs k,0,none⟩),tg,L',s7 g,k+1⟩
   | none=>none
  | none=>none
 | .buildSlice t len parts=>W7 T bs E L k t len parts.toList
 | .makeMap _ none=>match X8 a8u L (.ob (bs k) (.map #[] 0))with
  | some (L',tg)=>some ⟨.map (some (bs k)),tg,L',[],k+1⟩
  | none=>none
 | _=>none
theorem P8 {α:Type}:∀{ks:List Nat} {l m:List α} {y:α} {k:Nat},X8 ks l y=some (m,k)->m=l++[y]
 | k'::ks,[],m,y,k,h=>by simp only[X8,Option.some.injEq,Prod.mk.injEq]at h;rw[<- h.1];rfl
 | k'::ks,x::r,m,y,k,h=>by
  simp only[X8]at h;split at h
  ·rename_i r' k2 hr;simp only[Option.some.injEq,Prod.mk.injEq]at h;rw[<- h.1,P8 hr];rfl
  ·cases h
 | [],l,m,y,k,h=>by simp[X8]at h
section
variable {P : Program} {T : Tab} {E : Env} {L : List Atom} {n : Nat} {a : Act} {w : World}
theorem b0Y (h:Hl) (b:Nat) (o o':Obj):A9 (A9 h b o) b o'=A9 h b o':=by
 funext x;unfold A9;split<;>rfl
theorem a8I {b o:Nat} {t:TypeId} {cs:List Value} (hb:Blk w b t cs.toArray) (v:Value):hl (w.setCell ⟨b,o,none⟩ v)=A9 (hl w) b (.cells (cs.set o v).toArray t (0,0)):=by
 funext x;unfold hl A9
 by_cases e:x=b
 ·subst e;have:=hb.set_ o v;rw[if_pos rfl];unfold Blk at this;rw[this];simp
 ·rw[if_neg e];simp[World.setCell,Array.getElem?_modify,Ne.symm e]
theorem a1e (w:World) (o:Obj):hl {w with heap:=w.heap.push o}=A9 (hl w) w.heap.size o:=by
 funext x;unfold hl A9;simp only[Array.getElem?_push]
theorem a1f (w:World):hl w w.heap.size=none:=by simp[hl]
theorem a4x {v:Value} (h:v.oneCell'=true) {p:Addr} {x:Value} (hc:w.cell? p=some x) (hf:w.frozen? p=false):(store p v).run P w= .ok () (w.setCell p v):=by
 cases v<;>first | (simp[Value.oneCell']at h;done) | simp[store,Sem.run,hc,hf]
theorem D3 {b o:Nat} {t:TypeId}:∀(xs:List Value) (j:Nat) (w:World) (cs m:List Value),Blk w b t cs.toArray->P9 cs (o+j) xs=some m->xs.all (·.oneCell')=true->
  ∃w',(storeCells ⟨b,o,none⟩ xs j).run P w= .ok () w'/\hl w'=A9 (hl w) b (.cells m.toArray t (0,0))/\Ext w w'
 | [],j,w,cs,m,hb,hm,_=>by
  obtain⟨h1,_⟩:=U1 hm;simp at h1;subst h1;refine⟨w,rfl,?_,Ext.refl _⟩;funext x;unfold A9;split
  ·rename_i e;subst e;exact hb
  ·rfl
 | x::xs,j,w,cs,m,hb,hm,h1=>by
  simp only[List.all_cons,Bool.and_eq_true]at h1;have hlt:o+j<cs.length:=by have:=(U1 hm).2;simp at this;omega
  have hc:w.cell? ⟨b,o+j,none⟩=some cs[o+j]:=by rw[hb.cell];simp[hlt]
  have hrun:=a4x (P:=P) h1.1 hc (hb.frozen _);have hb':Blk (w.setCell ⟨b,o+j,none⟩ x) b t (cs.set (o+j) x).toArray:=by have:=hb.set_ (o+j) x;simpa using this
  obtain⟨w',r1,r2,r3⟩:=D3 xs (j+1) _ _ m hb' (by rw[<- Nat.add_assoc];exact a1F hm) h1.2;refine⟨w',?_,?_,?_⟩
  ·simp only[storeCells,Addr.add_none,Sem.run_bind,hrun,Result.andThen_ok,r1]
  ·rw[r2,a8I hb,b0Y]
  ·exact Ext.trans (b:=w.setCell ⟨b,o+j,none⟩ x) ⟨rfl,rfl,rfl,by simp[World.setCell]⟩ r3
theorem a7Q (hT:TabOK P T) {k t:Nat} {s s':Slot} {r:ER} (h:a2P T L k t s s'=some r) (hob:Conj r.ob) (hs:Sep L (hl w)):
  ∃w',(Instr.storeAt t s.v s'.v).run P w= .ok () w'/\r.v=undef/\Sep r.L (hl w')/\Ext w w'/\Conj (L8 s)/\Conj (L8 s'):=by
 unfold a2P at h;split at h
 ·rename_i kk b o i gg kk' v tg' gg';split at h
  ·rename_i b' ty cs td sz z bb hL hg;rw[m9]at hL;split at h
   ·rename_i cs' e1 e2;split at h
    ·rename_i L' hL';injection h with h;subst h;obtain⟨hb,h1,hvv⟩:=hob;subst hb;have hL2:=A7 hL';subst hL2;obtain⟨d,fi,zv,ok⟩:=i3 (hT.get hg);have hsz:sz=fi.size:=ok.hsize;have e3:=Nat.eq_of_beq_eq_true e1;have hblk:Blk w b ty cs.toArray:=hs.pt hL;obtain⟨w',r1,r2,r3⟩:=D3 (P:=P) v.cells.toList 0 w cs cs' hblk e2 h1;obtain⟨v1,v2⟩:=Conj.app hvv;refine⟨w',?_,rfl,?_,r3,v1,v2⟩
     ·have hne:v.cells.size=fi.size:=by rw[<- hsz,e3];simp
      simp only[Instr.storeAt,Instr.sureAddr,Sem.run_bind,Sem.run_pure,Result.andThen_ok,storeVar,m6 ok.hf];simp[hne,r1]
     ·rw[r2];exact hs.setPt cs' hL
    ·cases h
   ·cases h
  ·cases h
 ·cases h
theorem a4q (k:Nat) (z:List Value):(Y5 k z).length=k*z.length:=by
 induction k with
 | zero=>simp[Y5]
 | succ k ih=>simp[Y5,ih,Nat.succ_mul,Nat.add_comm]
theorem a2Q (z:List Value):∀(k i:Nat),i<k*z.length->(Y5 k z)[i]? =z[i % z.length]?
 | 0,i,h=>by simp at h
 | k+1,i,h=>by
  rw[Y5,List.getElem?_append];split
  ·rename_i hi;rw[Nat.mod_eq_of_lt hi]
  ·rename_i hi;have h':i-z.length<k*z.length:=by rw[Nat.succ_mul]at h;omega
   rw[a2Q z k _ h'];rw[<- Nat.mod_eq_sub_mod (by omega)]
theorem a9W (k:Nat) (z:Array Value):((Array.range (k*z.size)).map (z[· % z.size]!)).toList=Y5 k z.toList:=by
 have hl:=a4q k z.toList;have hzl:z.toList.length=z.size:=by simp
 rw[hzl]at hl;apply List.ext_getElem?;intro i
 by_cases h:i<k*z.size
 ·have hg:=a2Q z.toList k i (by simpa using h);have hz:0<z.size:=by
   rcases Nat.eq_zero_or_pos z.size with e | e
   ·rw[e]at h;simp at h
   ·exact e
  have hm:i % z.size<z.size:=Nat.mod_lt _ hz;rw[hg];simp[h,hm]
 ·rw[List.getElem?_eq_none (by simp;omega),List.getElem?_eq_none (by omega)]
theorem a9L (hT:TabOK P T) {bs:Nat->Nat} {k:Nat} {o:Oper} {r:ER} (he:EnvOK n E a) (h:eff T bs E L k o.op=some r) (hob:Conj r.ob) (hs:Sep L (hl w)) (hk:r.k=k\/bs k=w.heap.size):
  ∃nv w',(execOp a.eval o).run P w= .ok nv w'/\(nv= .value r.v\/(nv= .skip/\r.v=undef))/\Sep r.L (hl w')/\Ext w w':=by
 have hx:∀o':Obj,Ext w {w with heap:=w.heap.push o'}:=λo'=>⟨rfl,rfl,rfl,by simp⟩;have hnew:∀(el:TypeId) (cs:List Value),bs k=w.heap.size->Sep (L++[.pt (bs k) el cs]) (hl {w with heap:=w.heap.push (.cells cs.toArray el)}):=λel cs e=>by
  rw[a1e,e];exact hs.snoc (a1f w) (λh' hh=>hh)
 unfold eff at h;unfold execOp;split at h<;>rename_i hop<;>simp only[hop]
 ·split at h
  ·rename_i s s' h1 h2;obtain⟨w',r1,r2,r3,r4,v1,v2⟩:=a7Q (P:=P) hT h hob hs;refine⟨.skip,w',?_, .inr ⟨rfl,r2⟩,r3,r4⟩;rw[evs he h1 v1,evs he h2 v2];simp only[Sem.run_bind,r1,Result.andThen_ok,Sem.run_pure]
  ·cases h
 ·split at h
  ·rename_i td sz z bb hg;split at h
   ·rename_i L' tgn hL';injection h with h;subst h;have hL2:=P8 hL';subst hL2;have e:bs k=w.heap.size:=hk.resolve_left (by simp);obtain⟨d,fi,zv,ok⟩:=i3 (hT.get hg);have hz:z=zv.cells.toList:=ok.hzero;subst hz;refine⟨_,_,?_, .inl rfl,hnew _ _ e,hx _⟩;simp only[Instr.alloc,Sem.run_bind,Y6 ok.hf ok.hz,Result.andThen_ok,newVar,newRow,newObj,Sem.run,Sem.run_pure,e]
   ·cases h
  ·cases h
 ·split at h
  ·rename_i kk v tg gg h1;split at h
   ·rename_i L' tgn hL';injection h with h;subst h;have hL2:=P8 hL';subst hL2;have e:bs k=w.heap.size:=hk.resolve_left (by simp);refine⟨_,_,?_, .inl rfl,hnew _ _ e,hx _⟩;rw[evs he h1 hob];simp only[Instr.box,Sem.run_bind,Result.andThen_ok,newVar,newRow,newObj,Sem.run,Sem.run_pure,e]
   ·cases h
  ·cases h
 ·rename_i t len parts;unfold W7 at h;split at h
  ·rename_i el esz sz z bb l hg hl1;split at h
   ·rename_i td sz' z' bb' hg';split at h
    ·rename_i cs e1 e2 e3;split at h
     ·rename_i L' tgn hL';injection h with h;subst h;have hL2:=P8 hL';subst hL2;have e:bs k=w.heap.size:=hk.resolve_left (by simp);obtain⟨d,fi,zv,ok⟩:=i3 (hT.get hg);obtain⟨fe,rfl,g1,g2⟩:=ok.slice rfl;obtain⟨d',fi',zv',ok'⟩:=i3 (hT.get hg');have hz:z'=zv'.cells.toList:=ok'.hzero;subst hz;have hsz:sz'=fi'.size:=ok'.hsize;have hbe:=Nat.eq_of_beq_eq_true e1;rw[Array.length_toList]at hbe;have hble:=Nat.le_of_ble_eq_true e2;have hp:=a0m (D4 he hl1 hob);have hel:zv'.cells.size=fi'.size:=by rw[<- hbe,hsz]
      have g1':fe=fi':=by have:=g1.symm.trans ok'.hf;injection this
      subst g1';rw[hsz]at e3 hble;rw[<- hel,<- a9W]at e3;have hfill:=a0s (place':=λi=>some (i*zv'.cells.size,zv'.cells.size)) (λ_ _ h=>h) e3;refine⟨_,_,?_, .inl rfl,hnew _ cs e,hx _⟩;have hn:¬len*fe.size>2^24:=by omega
      rw[<- hel]at hn;simp only[Instr.buildSlice,Sem.run_bind,d7 ok.hd,Result.andThen_ok,m6 g1,<- hel];rw[if_neg hn]
      by_cases h0:len*zv'.cells.size=0
      ·have hrg:∀f:Nat->Value,(Array.range (len*zv'.cells.size)).map f= #[]:=λf=>by rw[h0];simp
       rw[hrg]at hfill;rw[if_pos h0];simp only[Sem.run_bind,Sem.run_pure,Result.andThen_ok,hrg,Array.toList_map,hp,hfill,newRow,newObj,Sem.run,e]
      ·rw[if_neg h0];simp only[Sem.run_bind,Sem.run_pure,Result.andThen_ok,Y6 ok'.hf ok'.hz,Array.toList_map,hp,hfill,newRow,newObj,Sem.run,e]
     ·cases h
    ·cases h
   ·cases h
  ·cases h
 ·split at h
  ·rename_i L' tgn hL';injection h with h;subst h;have hL2:=P8 hL';subst hL2;have e:bs k=w.heap.size:=hk.resolve_left (by simp);refine⟨_,{w with heap:=w.heap.push (.map #[] 0)},?_, .inl rfl,?_,hx _⟩
   ·simp only[Instr.makeMap,Option.map_none,Sem.run_bind,Result.andThen_ok,newObj,Sem.run,Sem.run_pure,e]
   ·rw[a1e,e];exact hs.snoc (a1f w) (λh' hh=>hh)
  ·cases h
 ·cases h
end
end Go.Proofs.YtpohajhbfllbbaaGreat
