/- Helpers. No condition. -/
import Derived.Test.YtgkpkpbnonmopaaGreatD04
import Derived.Laws.MakeOwn
import Derived.Laws.OwnMore
import Derived.Maps.RangeRun
set_option maxRecDepth 20000
set_option linter.all false
namespace Go.Proofs.YtgkpkpbnonmopaaGreat
open Go Go.RowKit

def slv (a:Option Nat) (n cap:Nat):Value:= .slice (match a with | some g=>some ⟨g,0,none⟩ | none=>none) n cap
def H8 (e size:Nat) (a:Option Nat) (n cap:Nat) (xs:List Value) (h:Hl):Prop:=
 xs.length=n*size/\match a with
  | none=>n=0/\cap=0
  | some g=>∃cur:Array Value,h g=some (.cells cur e (0,0))/\n<=cap/\cap<=maxLen/\cur.size=cap*size/\cur.toList.take (n*size)=xs
def c8 (e size:Nat) (a:Option Nat) (n cap:Nat) (xs:List Value):Atom:= .hp ⟨H8 e size a n cap xs,λh h' l s=>by
 refine⟨s.1,?_⟩;have:=s.2;cases a with
 | none=>exact this
 | some g=>obtain⟨cur,h1,h2⟩:=this;exact⟨cur,l _ _ h1,h2⟩⟩
def a7x {K:Type} (r:Nat) (kv:K->Value) (l:List (K×Value)) (h:Hl):Prop:=
 ∃es clock,h r=some (.map es clock)/\es.toList.map (λe=>(e.key,e.val))=l.map (λx=>(kv x.1,x.2))/\(es.toList.map (·.born)).Nodup/\∀e∈es.toList,e.born<clock
def u4 {K:Type} (r:Nat) (kv:K->Value) (l:List (K×Value)):Atom:= .hp ⟨a7x r kv l,λ_ _ l ⟨es,c,h1,h2⟩=>⟨es,c,l _ _ h1,h2⟩⟩
section
variable {L : List Atom} {w w' : World}
theorem a2w {e size:Nat} {a:Option Nat} {n cap:Nat} {xs:List Value} (h:H8 e size a n cap xs (hl w)):w.ownsRow 0 e size (slv a n cap) n xs:=by
 refine⟨h.1,?_⟩;cases a with
 | none=>obtain⟨rfl,rfl⟩:=h.2;exact .inl ⟨rfl,rfl⟩
 | some g=>obtain⟨cur,h1,h2,h3,h4,h5⟩:=h.2;exact .inr ⟨g,cap,cur,rfl,Nat.zero_le _,h1,h2,h3,h4,h5⟩
theorem a6a {e size:Nat} {v:Value} {n:Nat} {xs:List Value} (h:w.ownsRow 0 e size v n xs):∃a cap,v=slv a n cap/\H8 e size a n cap xs (hl w)/\v.ownBlock=a:=by
 rcases h.2 with⟨rfl,rfl⟩ | ⟨g,cap,cur,rfl,_,h1,h2,h3,h4,h5⟩
 ·exact⟨none,0,rfl,⟨h.1,rfl,rfl⟩,rfl⟩
 ·exact⟨some g,cap,rfl,⟨h.1,cur,h1,h2,h3,h4,h5⟩,rfl⟩
theorem Sep.step {i:Nat} {A A':Atom} {x x':Option Nat} (s:Sep L (hl w)) (hA:L[i]? =some A) (hx:∀h g,A.sat h->x=some g->∃o,h g=some o) (hg:w.grownBy w' x) (hx':x'=x\/x'=some w.heap.size) (hA':∀h,(∀g,x'=some g->h g=hl w' g)->A'.sat h):Sep (L.set i A') (hl w'):=by
 obtain⟨own,hw⟩:=s;have hi:i<L.length:=(List.getElem?_eq_some_iff.1 hA).1;have hown:∀g,x=some g->own g=i:=λg e=>by
  obtain⟨o,ho⟩:=hx _ g (hw i A hA) e;exact(res_some.1 ho).1
 refine⟨λb=>if x'=some b then i else own b,λj B hB=>?_⟩;rw[List.getElem?_set]at hB;split at hB
 ·rename_i e;injection hB with hB;subst hB;subst e;refine hA' _ λg hg'=>?_;unfold res;rw[if_pos (by simp[hg'])]
 ·rename_i e;refine Atom.up (λb o hb=>?_) (hw j B hB);rw[res_some]at hb ⊢;have hlt:b<w.heap.size:=by
   rcases Nat.lt_or_ge b w.heap.size with h | h
   ·exact h
   ·have:=hb.2;simp only[hl]at this;rw[Array.getElem?_eq_none h]at this;cases this
  have hnx:x≠some b:=λe'=>e ((hown b e').symm.trans hb.1);have hnx':x'≠some b:=by
   rcases hx' with e' | e'
   ·rw[e'];exact hnx
   ·rw[e'];intro e2;injection e2 with e2;omega
  refine⟨by rw[if_neg hnx'];exact hb.1,?_⟩;have:=hg.block b hlt (λe'=>hnx e'.symm);simp only[hl]at hb ⊢;rw[this];exact hb.2
theorem Ext.grown {x:Option Nat} (h:w.grownBy w' x):Ext w w':=⟨h.os,h.tape,h.output,h.size⟩
end
section
variable {X : Cx} {P : Program} {T : Tab} {K : List KI} {E : Env} {L : List Atom} {N : Nat} {F : HP} {Post : Value → List Atom → Prop} {rs : List ResultVar}
theorem J.append (hX:IsCx X P rs N F Post) (hT:TabOK P T) {ops:Array Oper} {C:Cl} {lt:Bool} {i:Nat} {t:PT} {o:Oper} {g:G} {x y:Operand} {st e size by_:Nat} {ks tgs:Nat} {gs:G} {a:Option Nat} {n cap:Nat} {xs:List Value} {ky tgy:Nat} {gy:G} {b m c ty:Nat} {cs:List Value} {s1 b1:Nat} {z1:List Value} {E':Value->Env} (is iy tag:Nat)
  (ho:m6 ops.toList i=some o) (hg:gd ops.toList E o=some g) (hgo:g.on=true) (hop:o.op= .call ⟨.builtin .append,#[x,y],#[st,st]⟩)
  (hx:ev E x=some ⟨ks,slv a n cap,tgs,gs⟩) (hvx:gs.on=true) (hy:ev E y=some ⟨ky, .slice (some ⟨b,0,none⟩) m c,tgy,gy⟩) (hvy:gy.on=true)
  (hLs:m6 L is=some (c8 e size a n cap xs)) (hLy:m6 L iy=some (.pt b ty cs)) (hst:T.get st=some ⟨.slice e size,s1,z1,b1⟩) {td:TD} {z:List Value} (he:T.get e=some ⟨td,size,z,by_⟩) (hz:Nat.beq z.length size=true)
  (hsz:Nat.blt 0 size=true) (hcs:cs.length=m*size) (h1:cs.all (·.oneCell')=true) (h63:n+m<=maxLen) (hbytes:(n+m)*by_<=140737488355328)
  (hd:∀v,y9 N o.dst v tag .tt E=some (E' v))
  (hJ:∀a' cap',∃L',n5 L is (c8 e size a' (n+m) cap' (xs++cs))=some L'/\Conj (p4 lt C L')/\J X (.reg ops C t::K) (E' (slv a' (n+m) cap')) L'):J X (.reg ops C (.alt lt i t .non)::K) E L:=by
 refine J.op hX (S:=λv L'=>∃a' cap',v=slv a' (n+m) cap'/\L'=L.set is (c8 e size a' (n+m) cap' (xs++cs))) tag ho hg hgo (λa0 w hen hs=>?_) hd (λv L' ⟨a',cap',e1,e2⟩=>by subst e1;subst e2;obtain⟨L2,q1,q2⟩:=hJ a' cap';rw[<- u5 q1];exact q2);obtain⟨d,f,zv,ok⟩:=d8 (hT.get hst);obtain⟨fe,rfl,g1,g2⟩:=ok.slice rfl;obtain⟨d',f',zv',ok'⟩:=d8 (hT.get he);have hf:fe=f':=by have:=g1.symm.trans ok'.hf;injection this
 subst hf;have hzz:z=zv'.cells.toList:=ok'.hzero;subst hzz;rw[l9]at hLs hLy;have hrow:=a2w (hs.get hLs);have hblk:Blk w b ty cs.toArray:=hs.pt hLy;have hnews:∀j u,cs[j]? =some u->w.cell? ((⟨b,0,none⟩:Addr).add j)=some u:=λj u hu=>by
  rw[Addr.add_none,hblk.cell,Nat.zero_add];simpa using hu
 have h1':∀u∈cs,u.oneCell'=true:=by simpa using h1
 obtain⟨v',w',r1,r2,r3,_,r5⟩:=run_append_own_at (P:=P) w 0 st o.type e fe zv' size by_ ok.hd ok'.hf ok'.hz g2 ok'.hbytes.symm (by have:=Nat.eq_of_beq_eq_true hz;simpa using this) (Nat.le_of_ble_eq_true hsz) _ n xs hrow ⟨b,0,none⟩ m c cs hcs hnews h1' h63 hbytes (Nat.zero_le _);obtain⟨a',cap',e1,e2,e3⟩:=a6a r2;subst e1;have ex:=i7 hen hx;have ey:=i7 hen hy;simp only[Slot.val,hvx,hvy]at ex ey;refine⟨_,_, .value (slv a' (n+m) cap'),w',⟨a',cap',rfl,rfl⟩,?_, .inl rfl,?_,Ext.grown r3⟩
 ·simp only[execOp,hop,resolve,Sem.run_bind,Sem.run_pure,Result.andThen_ok,invoke,builtin,List.map_toArray,List.map_cons,List.map_nil,ex,ey,r1]
 ·refine Sep.step hs hLs (x:=(slv a n cap).ownBlock) (x':=a') (λh g0 hh he0=>?_) r3 (by rw[<- e3];exact r5) (λh hh=>⟨e2.1,?_⟩)
  ·cases a with
   | none=>simp[slv,Value.ownBlock]at he0
   | some ga=>
    simp only[slv,Value.ownBlock,Option.some.injEq]at he0;subst he0;obtain⟨cur,h1,_⟩:=hh.2;exact⟨_,h1⟩
  ·have e22:=e2.2;cases a' with
   | none=>exact e22
   | some ga=>
    obtain⟨cur,q1,q2⟩:=e22;exact⟨cur,(hh ga rfl).trans q1,q2⟩
def TD.one:TD->Bool
 | .row _ | .arr _ _=>false
 | _=>true
section
variable {P : Program} {T : Tab} {E : Env} {n : Nat} {a : Act} {w : World}
theorem TIOK.one {t:TypeId} {i:TI} {d:TypeDesc} {f:TypeInfo} {z:Value} (ok:TIOK P t i d f z) (h:i.d.one=true):A6 d=false:=by
 have htd:=ok.htd;cases d<;>simp[A6]<;>simp[a1G]at htd
 ·obtain⟨g,h1,h2⟩:=htd;rw[<- h2]at h;cases h
 ·obtain⟨g,h1,h2⟩:=htd;rw[<- h2]at h;cases h
theorem TIOK.many {t:TypeId} {i:TI} {d:TypeDesc} {f:TypeInfo} {z:Value} (ok:TIOK P t i d f z) (h:i.d.one=false):A6 d=true:=by
 have htd:=ok.htd;cases d<;>first | rfl | (simp[a1G]at htd;(try obtain⟨g,h1,h2⟩:=htd);first | (rw[<- htd]at h;cases h) | (rw[<- h2]at h;cases h))
theorem f9 (hT:TabOK P T) {o:Oper} {t:TypeId} {x:Operand} {k tg b off ty:Nat} {g:G} {ti:TI} {cs:List Value} {v:Value} (hop:o.op= .load t x) (hx:ev E x=some ⟨k, .pointer (some ⟨b,off,none⟩),tg,g⟩) (he:EnvOK n E a) (hg:g.on=true) (hti:T.get t=some ti) (h1:ti.d.one=true)
  (hb:hl w b=some (.cells cs.toArray ty (0,0))) (hv:cs[off]? =some v):(execOp a.eval o).run P w= .ok (.value v) w:=by
 have ex:=i7 he hx;simp only[Slot.val,hg]at ex;obtain⟨d,f,z,ok⟩:=d8 (hT.get hti);have hblk:Blk w b ty cs.toArray:=hb;have hc:w.cell? ⟨b,off,none⟩=some v:=by rw[hblk.cell];simpa using hv
 simp only[execOp,hop,ex,Instr.loadAt,Instr.sureAddr,Sem.run_bind,Sem.run_pure,Result.andThen_ok,J6 ok.hd (ok.one h1) hc]
theorem j7 (hT:TabOK P T) {o:Oper} {t:TypeId} {x:Operand} {k tg b off ty:Nat} {g:G} {ti:TI} {cs l:List Value} (hop:o.op= .load t x) (hx:ev E x=some ⟨k, .pointer (some ⟨b,off,none⟩),tg,g⟩) (he:EnvOK n E a) (hg:g.on=true) (hti:T.get t=some ti) (h1:ti.d.one=false)
  (hb:hl w b=some (.cells cs.toArray ty (0,0))) (hv:(cs.drop off).take ti.size=l) (hl:l.length=ti.size):(execOp a.eval o).run P w= .ok (.value (.agg l.toArray)) w:=by
 have ex:=i7 he hx;simp only[Slot.val,hg]at ex;obtain⟨d,f,z,ok⟩:=d8 (hT.get hti);have hblk:Blk w b ty cs.toArray:=hb;have hm:=ok.many h1;have hr:=run_loadVar_mid (P:=P) w b off t l d (n8 hblk off l (by rw[hl];exact hv)) ok.hd (by cases d<;>simp_all [A6,TypeDesc.isRow]) (by rw[ok.hf];simp[hl,ok.hsize]);simp only[execOp,hop,ex,Instr.loadAt,Instr.sureAddr,Sem.run_bind,Sem.run_pure,Result.andThen_ok,hr]
end
section
variable {P : Program} {T : Tab} {E : Env} {n : Nat} {a : Act} {w : World}
theorem j9 (hT:TabOK P T) {o:Oper} {t:TypeId} {x:Operand} {k tg b off e size m cap:Nat} {g:G} {ti:TI} {xs:List Value} {v:Value} (hop:o.op= .load t x) (hx:ev E x=some ⟨k, .pointer (some ⟨b,off,none⟩),tg,g⟩) (he:EnvOK n E a) (hg:g.on=true) (hti:T.get t=some ti) (h1:ti.d.one=true)
  (hb:H8 e size (some b) m cap xs (hl w)) (hv:xs[off]? =some v):(execOp a.eval o).run P w= .ok (.value v) w:=by
 obtain⟨_,cur,h2,h3,h4,h5,h6⟩:=hb;refine f9 hT hop hx he hg hti h1 (cs:=cur.toList) (ty:=e) (by rw[h2]) ?_;rw[<- h6,List.getElem?_take]at hv;split at hv
 ·exact hv
 ·cases hv
theorem n3 (hT:TabOK P T) {o:Oper} {t:TypeId} {x:Operand} {k tg b off e size m cap:Nat} {g:G} {ti:TI} {xs l:List Value} (hop:o.op= .load t x) (hx:ev E x=some ⟨k, .pointer (some ⟨b,off,none⟩),tg,g⟩) (he:EnvOK n E a) (hg:g.on=true) (hti:T.get t=some ti) (h1:ti.d.one=false)
  (hb:H8 e size (some b) m cap xs (hl w)) (hv:(xs.drop off).take ti.size=l) (hl:l.length=ti.size):(execOp a.eval o).run P w= .ok (.value (.agg l.toArray)) w:=by
 obtain⟨h0,cur,h2,h3,h4,h5,h6⟩:=hb;refine j7 hT hop hx he hg hti h1 (cs:=cur.toList) (ty:=e) (by rw[h2]) ?_ hl;have:off+ti.size<=xs.length\/ti.size=0:=by
  have:=congrArg List.length hv;simp at this;omega
 rcases this with h | h
 ·rw[<- hv,<- h6];apply List.ext_getElem?;intro j;simp only[List.getElem?_take,List.getElem?_drop];split
  ·rw[if_pos (by omega)]
  ·rfl
 ·rw[<- hv,h];simp
end
section
variable {P : Program} {KK : Type} [DecidableEq KK] {kv : KK → Value} {E : Env} {L : List Atom} {n : Nat} {a : Act} {w : World}
theorem l4 {KT MT ET:TypeId} (hk:KeyOk P KT kv) (hm:P.underlying MT=some (.map KT ET)) {z:Value} (hz:∀w,(zeroValue ET).run P w= .ok z w) {o:Oper} {x y:Operand} {c:Bool} {r:Nat} {l:List (KK×Value)} {key:KK} {k1 k2 t1 t2:Nat} {g1 g2:G} {u:Value}
  (hop:o.op= .lookup MT x y c) (hx:ev E x=some ⟨k1, .map (some r),t1,g1⟩) (hy:ev E y=some ⟨k2,u,t2,g2⟩) (hu:u=kv key) (he:EnvOK n E a) (v1:g1.on=true) (v2:g2.on=true) (hmap:a7x r kv l (hl w)):
  (execOp a.eval o).run P w= .ok (.value (match c with | true=> .tuple #[(r6 l key).getD z, .bool (r6 l key).isSome] | false=>(r6 l key).getD z)) w:=by
 have ex:=i7 he hx;have ey:=i7 he hy;simp only[Slot.val,v1,v2]at ex ey;have hr:=a4H (P:=P) hk hm hz (w:=w) hmap key c;rw[hu]at ey;simp only[execOp,hop,ex,ey,Sem.run_bind,hr,Result.andThen_ok,Sem.run_pure];cases c<;>rfl
theorem a1r {KT MT ET:TypeId} (hm:P.underlying MT=some (.map KT ET)) {o:Oper} {x:Operand} {r:Nat} {l:List (KK×Value)} {k1 t1:Nat} {g1:G} (hop:o.op= .call ⟨.builtin .len,#[x],#[MT]⟩) (hx:ev E x=some ⟨k1, .map (some r),t1,g1⟩) (he:EnvOK n E a) (v1:g1.on=true) (hmap:a7x r kv l (hl w)):
  (execOp a.eval o).run P w= .ok (.value (.int .i64 (l.length:Int))) w:=by
 have ex:=i7 he hx;simp only[Slot.val,v1]at ex;obtain⟨es,cl,h1,h2,_⟩:=hmap;have hl:es.size=l.length:=by have:=congrArg List.length h2;simpa using this
 have hgo:(getObj r).run P w= .ok (.map es cl) w:=rgo h1;simp[execOp,hop,resolve,invoke,builtin,Builtin.len_,ex,d4 hm,hgo,goInt,hl]
end
section
variable {X : Cx} {P : Program} {K : List KI} {E : Env} {L : List Atom} {N : Nat} {F : HP} {Post : Value → List Atom → Prop} {rs : List ResultVar} {KK : Type} [DecidableEq KK] {kv : KK → Value}
theorem Sep.mapStep {w w':World} {i r:Nat} {l l':List (KK×Value)} (s:Sep L (hl w)) (hA:L[i]? =some (u4 r kv l)) (hg:w.grownBy w' (some r)) (hm:a1E w' r kv l'):Sep (L.set i (u4 r kv l')) (hl w'):=
 Sep.step s hA (x:=some r) (x':=some r) (λh g ⟨es,c,h1,_⟩ e=>by injection e with e;subst e;exact⟨_,h1⟩) hg (.inl rfl) (λh hh=>by
  obtain⟨es,c,h1,h2⟩:=hm;exact⟨es,c,(hh r rfl).trans h1,h2⟩)
theorem J.mapUpdate (hX:IsCx X P rs N F Post) {KT MT ET:TypeId} (hk:KeyOk P KT kv) (hm:P.underlying MT=some (.map KT ET)) {ops:Array Oper} {C:Cl} {lt:Bool} {i:Nat} {t:PT} {o:Oper} {g:G} {x y u:Operand} {r:Nat} {l:List (KK×Value)} (key:KK) {k1 k2 k3 t1 t2 t3:Nat} {g1 g2 g3:G} {kvv v:Value} {E':Value->Env} (im:Nat)
  (ho:m6 ops.toList i=some o) (hg:gd ops.toList E o=some g) (hgo:g.on=true) (hop:o.op= .mapUpdate MT x y u) (hx:ev E x=some ⟨k1, .map (some r),t1,g1⟩) (v1:g1.on=true) (hy:ev E y=some ⟨k2,kvv,t2,g2⟩) (v2:g2.on=true) (hkv:kvv=kv key) (hu:ev E u=some ⟨k3,v,t3,g3⟩) (v3:g3.on=true)
  (hL:m6 L im=some (u4 r kv l)) (hd:∀v,y9 N o.dst v 0 .tt E=some (E' v)) {L2:List Atom} (hL2:n5 L im (u4 r kv (I1 l key v))=some L2) (hJ:Conj (p4 lt C L2)/\J X (.reg ops C t::K) (E' undef) L2):J X (.reg ops C (.alt lt i t .non)::K) E L:=by
 refine J.op hX (S:=λv' L'=>v'=undef/\L'=L.set im (u4 r kv (I1 l key v))) 0 ho hg hgo (λa0 w hen hs=>?_) hd (λv L' ⟨e1,e2⟩=>by subst e1;subst e2;rw[<- u5 hL2];exact hJ);rw[l9]at hL;have ex:=i7 hen hx;have ey:=i7 hen hy;have eu:=i7 hen hu;simp only[Slot.val,v1,v2,v3]at ex ey eu;rw[hkv]at ey;have hmap:a1E w r kv l:=hs.get hL;obtain⟨w',r1,r2,r3,r4⟩:=a1H (P:=P) hk hm hmap key v;exact⟨undef,_, .skip,w',⟨rfl,rfl⟩,by simp only[execOp,hop,ex,ey,eu,Sem.run_bind,r1,Result.andThen_ok,Sem.run_pure], .inr ⟨rfl,rfl⟩,Sep.mapStep hs hL r3 r2,Ext.grown r3⟩
theorem J.delete (hX:IsCx X P rs N F Post) {KT MT ET:TypeId} (hk:KeyOk P KT kv) (hm:P.underlying MT=some (.map KT ET)) {ops:Array Oper} {C:Cl} {lt:Bool} {i:Nat} {t:PT} {o:Oper} {g:G} {x y:Operand} {r:Nat} {l:List (KK×Value)} (key:KK) {k1 k2 t1 t2 t3:Nat} {g1 g2:G} {kvv:Value} {E':Value->Env} (im:Nat)
  (ho:m6 ops.toList i=some o) (hg:gd ops.toList E o=some g) (hgo:g.on=true) (hop:o.op= .call ⟨.builtin .delete,#[x,y],#[MT,t3]⟩) (hx:ev E x=some ⟨k1, .map (some r),t1,g1⟩) (v1:g1.on=true) (hy:ev E y=some ⟨k2,kvv,t2,g2⟩) (v2:g2.on=true) (hkv:kvv=kv key)
  (hL:m6 L im=some (u4 r kv l)) (hd:∀v,y9 N o.dst v 0 .tt E=some (E' v)) {L2:List Atom} (hL2:n5 L im (u4 r kv (a0f l key))=some L2) (hJ:Conj (p4 lt C L2)/\J X (.reg ops C t::K) (E' (.tuple #[])) L2):J X (.reg ops C (.alt lt i t .non)::K) E L:=by
 refine J.op hX (S:=λv' L'=>v'= .tuple #[]/\L'=L.set im (u4 r kv (a0f l key))) 0 ho hg hgo (λa0 w hen hs=>?_) hd (λv L' ⟨e1,e2⟩=>by subst e1;subst e2;rw[<- u5 hL2];exact hJ);rw[l9]at hL;have ex:=i7 hen hx;have ey:=i7 hen hy;simp only[Slot.val,v1,v2]at ex ey;rw[hkv]at ey;have hmap:a1E w r kv l:=hs.get hL;obtain⟨w',r1,r2,r3,r4⟩:=a4I (P:=P) (ty:=o.type) (ats:= #[MT,t3]) hk hm rfl hmap key;exact⟨_,_, .value (.tuple #[]),w',⟨rfl,rfl⟩,by simp only[execOp,hop,resolve,Sem.run_bind,Sem.run_pure,Result.andThen_ok,invoke,builtin,List.map_toArray,List.map_cons,List.map_nil,ex,ey,r1], .inl rfl,Sep.mapStep hs hL r3 r2,Ext.grown r3⟩
theorem a6s {α:Type} {v:α}:∀{cs:List α} {off:Nat},off<cs.length->J3 cs off [v]=some (cs.set off v)
 | [],_,h=>by simp at h
 | c::cs,0,_=>by cases cs<;>rfl
 | c::cs,k+1,h=>by simp only[J3,List.set_cons_succ,a6s (cs:=cs) (off:=k) (by simpa using h)]
theorem J.store1 {T:Tab} (hX:IsCx X P rs N F Post) (hT:TabOK P T) {ops:Array Oper} {C:Cl} {lt:Bool} {i:Nat} {t:PT} {o:Oper} {g:G} {ty0:TypeId} {x y:Operand} {k1 k2 t1 t2 b off ty:Nat} {g1 g2:G} {v:Value} {cs:List Value} {ti:TI} {E':Value->Env} (is:Nat)
  (ho:m6 ops.toList i=some o) (hg:gd ops.toList E o=some g) (hgo:g.on=true) (hop:o.op= .store ty0 x y) (hx:ev E x=some ⟨k1, .pointer (some ⟨b,off,none⟩),t1,g1⟩) (v1:g1.on=true) (hy:ev E y=some ⟨k2,v,t2,g2⟩) (v2:g2.on=true)
  (hti:T.get ty0=some ti) (hsz:Nat.beq ti.size 1=true) (hc:v.cells.toList=[v]) (h1:v.oneCell'=true) (hL:m6 L is=some (.pt b ty cs)) (hlt:off<cs.length) (cs':List Value) (hcs:cs.set off v=cs') {L2:List Atom} (hL2:n5 L is (.pt b ty cs')=some L2)
  (hd:∀v,y9 N o.dst v 0 .tt E=some (E' v)) (hJ:Conj (p4 lt C L2)/\J X (.reg ops C t::K) (E' undef) L2):J X (.reg ops C (.alt lt i t .non)::K) E L:=by
 refine J.op hX (S:=λv' L'=>v'=undef/\L'=L.set is (.pt b ty cs')) 0 ho hg hgo (λa0 w hen hs=>?_) hd (λv L' ⟨e1,e2⟩=>by subst e1;subst e2;rw[<- u5 hL2];exact hJ);rw[l9]at hL;have ex:=i7 hen hx;have ey:=i7 hen hy;simp only[Slot.val,v1,v2]at ex ey;obtain⟨d,f,z,ok⟩:=d8 (hT.get hti);have hblk:Blk w b ty cs.toArray:=hs.pt hL;have hput:J3 cs (off+0) [v]=some cs':=by rw[Nat.add_zero,<- hcs];exact a6s hlt
 obtain⟨w',r1,r2,r3⟩:=y3 (P:=P) [v] 0 w cs cs' hblk hput (by simp[h1]);have hsize:v.cells.size=f.size:=by
  have:=Nat.eq_of_beq_eq_true hsz;rw[<- ok.hsize,this,<- Array.length_toList,hc];rfl
 refine⟨undef,_, .skip,w',⟨rfl,rfl⟩,?_, .inr ⟨rfl,rfl⟩,?_,r3⟩
 ·simp only[execOp,hop,ex,ey,Instr.storeAt,Instr.sureAddr,Sem.run_bind,Sem.run_pure,Result.andThen_ok,storeVar,l6 ok.hf];simp[hsize,hc,r1]
 ·rw[r2];exact hs.setPt cs' hL
end
end
theorem Sep.one {A:Atom} {h:Hl} (hA:A.sat h):Sep [A] h:=⟨λ_=>0,λi B hB=>by
 cases i with
 | zero=>simp at hB;subst hB;exact A.up (λb o hb=>res_some.2 ⟨rfl,hb⟩) hA
 | succ k=>simp at hB⟩
theorem a2J {α:Type}:∀(cs:List α) (off:Nat) (xs:List α),off+xs.length<=cs.length->J3 cs off xs=some (cs.take off++xs++cs.drop (off+xs.length))
 | cs,0,xs,h=>by
  simp only[List.take_zero,List.nil_append,Nat.zero_add];have e:J3 cs 0 xs=T6 cs xs:=by cases cs<;>rfl
  rw[e];clear e
  induction xs generalizing cs with
  | nil=>cases cs<;>rfl
  | cons x xs ih=>
   cases cs with
   | nil=>simp at h
   | cons c cs=>
    simp only[T6,ih cs (by simp at h ⊢;omega),List.cons_append,List.length_cons,List.drop_succ_cons]
 | [],k+1,xs,h=>by simp at h
 | c::cs,k+1,xs,h=>by
  simp only[J3,a2J cs k xs (by simp at h;omega),List.take_succ_cons,List.cons_append];rw[show k+1+xs.length=(k+xs.length)+1 from by omega,List.drop_succ_cons]
def subV (E:Env):Env->List Prop
 | []=>[]
 | s::r=>((E.get s.k).map Slot.val=some s.val)::subV E r
theorem EnvOK.subV {n:Nat} {E E':Env} {a:Act} (h:EnvOK n E a) (hs:Conj (subV E E')):EnvOK n E' a:=by
 refine⟨h.size,h.defers,?_⟩
 induction E' with
 | nil=>intro k s hk;cases hk
 | cons s' r ih=>
  intro k s hk;simp only[Env.get]at hk;split at hk
  ·rename_i e;have:=Nat.eq_of_beq_eq_true e;injection hk with hk;subst hk;subst this;have h1:=hs.1;cases h2:E.get s'.k with
   | none=>rw[h2]at h1;cases h1
   | some u=>
    rw[h2]at h1;have h3:u.val=s'.val:=by simpa using h1
    have:=h.slot _ _ h2;rw[h3]at this;exact this
  ·exact ih hs.2 k s hk
section
variable {X : Cx} {P : Program} {T : Tab} {K : List KI} {E : Env} {L : List Atom} {N : Nat} {F : HP} {Post : Value → List Atom → Prop} {rs : List ResultVar}
theorem J.openOwn {e size g n cap:Nat} {xs:List Value} {L':List Value->List Atom} (i:Nat) (ok:p6 L [i]=true) (hp:n6 L [i]=[c8 e size (some g) n cap xs]) (hL:∀r,H9 L [i] [.pt g e (xs++r)]=some (L' r))
  (h:∀r:List Value,xs.length=n*size->n<=cap->cap<=maxLen->xs.length+r.length=cap*size->J X K E (L' r)):J X K E L:=by
 refine J.turn [i] ok (α:={r:List Value//xs.length=n*size/\n<=cap/\cap<=maxLen/\xs.length+r.length=cap*size}) (As:=λr=>[.pt g e (xs++r.1)]) (L':=λr=>L' r.1) (λh' s=>?_) (λr=>hL r.1) (λr=>h r.1 r.2.1 r.2.2.1 r.2.2.2.1 r.2.2.2.2);rw[hp]at s;obtain⟨h0,cur,h1,h2,h3,h4,h5⟩:=s.get (i:=0) rfl;refine⟨⟨cur.toList.drop (n*size),h0,h2,h3,?_⟩,Sep.one ?_⟩
 ·have hle:n*size<=cap*size:=Nat.mul_le_mul_right _ h2;have h4':cur.toList.length=cap*size:=h4;rw[List.length_drop,h4',h0];omega
 ·show h' g=_;rw[h1];show some (Obj.cells cur e (0,0))=some (Obj.cells (xs++cur.toList.drop (n*size)).toArray e (0,0));rw[<- h5,List.take_append_drop]
theorem J.closeOwn {e size g n cap:Nat} {xs ys:List Value} {L':List Atom} (i:Nat) (ok:p6 L [i]=true) (hp:n6 L [i]=[.pt g e ys]) (h0:xs.length=n*size) (h2:n<=cap) (h3:cap<=maxLen) (h4:ys.length=cap*size) (h5:ys.take (n*size)=xs)
  (hL:H9 L [i] [c8 e size (some g) n cap xs]=some L') (h:J X K E L'):J X K E L:=by
 refine J.turn1 [i] ok (λh' s=>?_) hL h;rw[hp]at s;exact Sep.one (show H8 e size (some g) n cap xs h' from⟨h0,ys.toArray,s.get (i:=0) rfl,h2,h3,by simpa using h4,by simpa using h5⟩)
theorem J.storeN {T:Tab} (hX:IsCx X P rs N F Post) (hT:TabOK P T) {ops:Array Oper} {C:Cl} {lt:Bool} {i:Nat} {t:PT} {o:Oper} {g:G} {ty0:TypeId} {x y:Operand} {k1 k2 t1 t2 b off ty:Nat} {g1 g2:G} {v:Value} {cs vs:List Value} {ti:TI} {E':Value->Env} (is:Nat)
  (ho:m6 ops.toList i=some o) (hg:gd ops.toList E o=some g) (hgo:g.on=true) (hop:o.op= .store ty0 x y) (hx:ev E x=some ⟨k1, .pointer (some ⟨b,off,none⟩),t1,g1⟩) (v1:g1.on=true) (hy:ev E y=some ⟨k2,v,t2,g2⟩) (v2:g2.on=true)
  (hti:T.get ty0=some ti) (hc:v.cells.toList=vs) (hsz:ti.size=vs.length) (h1:vs.all (·.oneCell')=true) (hL:m6 L is=some (.pt b ty cs)) (hlt:off+vs.length<=cs.length) (cs':List Value) (hcs:cs.take off++vs++cs.drop (off+vs.length)=cs') {L2:List Atom} (hL2:n5 L is (.pt b ty cs')=some L2)
  (hd:∀v,y9 N o.dst v 0 .tt E=some (E' v)) (hJ:Conj (p4 lt C L2)/\J X (.reg ops C t::K) (E' undef) L2):J X (.reg ops C (.alt lt i t .non)::K) E L:=by
 refine J.op hX (S:=λv' L'=>v'=undef/\L'=L.set is (.pt b ty cs')) 0 ho hg hgo (λa0 w hen hs=>?_) hd (λv L' ⟨e1,e2⟩=>by subst e1;subst e2;rw[<- u5 hL2];exact hJ);rw[l9]at hL;have ex:=i7 hen hx;have ey:=i7 hen hy;simp only[Slot.val,v1,v2]at ex ey;obtain⟨d,f,z,ok⟩:=d8 (hT.get hti);have hblk:Blk w b ty cs.toArray:=hs.pt hL;have hput:J3 cs (off+0) vs=some cs':=by rw[Nat.add_zero,<- hcs];exact a2J _ _ _ hlt
 obtain⟨w',r1,r2,r3⟩:=y3 (P:=P) vs 0 w cs cs' hblk hput h1;have hsize:v.cells.size=f.size:=by
  rw[<- ok.hsize,hsz,<- Array.length_toList,hc]
 refine⟨undef,_, .skip,w',⟨rfl,rfl⟩,?_, .inr ⟨rfl,rfl⟩,?_,r3⟩
 ·simp only[execOp,hop,ex,ey,Instr.storeAt,Instr.sureAddr,Sem.run_bind,Sem.run_pure,Result.andThen_ok,storeVar,l6 ok.hf];simp[hsize,hc,r1]
 ·rw[r2];exact hs.setPt cs' hL
theorem J.makeSlice {T:Tab} (hX:IsCx X P rs N F Post) (hT:TabOK P T) {ops:Array Oper} {C:Cl} {lt:Bool} {i:Nat} {t:PT} {o:Oper} {g:G} {st e by_:Nat} {x y:Operand} {k1 k2 t1 t2 n s1 b1:Nat} {kl kc:IntKind} {g1 g2:G} {z1:List Value} {z:Value} {td:TD} {E':Value->Env} {L2:Nat->List Atom} (tag:Nat)
  (ho:m6 ops.toList i=some o) (hg:gd ops.toList E o=some g) (hgo:g.on=true) (hop:o.op= .makeSlice st x y) (hx:ev E x=some ⟨k1, .int kl n,t1,g1⟩) (v1:g1.on=true) (hy:ev E y=some ⟨k2, .int kc n,t2,g2⟩) (v2:g2.on=true)
  (hst:T.get st=some ⟨.slice e 1,s1,z1,b1⟩) (he:T.get e=some ⟨td,1,[z],by_⟩) (h63:n<=maxLen) (hbytes:by_*n<=281474976710656)
  (hL2:∀b,V5 a9l L (.pt b e (List.replicate n z))=some (L2 b,tag)) (hd:∀v,y9 N o.dst v tag .tt E=some (E' v)) (hJ:∀b,Conj (p4 lt C (L2 b))/\J X (.reg ops C t::K) (E' (.slice (some ⟨b,0,none⟩) n n)) (L2 b)):J X (.reg ops C (.alt lt i t .non)::K) E L:=by
 refine J.op hX (S:=λv' L'=>∃b,v'= .slice (some ⟨b,0,none⟩) n n/\L'=L++[.pt b e (List.replicate n z)]) tag ho hg hgo (λa0 w hen hs=>?_) hd (λv L' ⟨b,e1,e2⟩=>by subst e1;subst e2;rw[<- J2 (hL2 b)];exact hJ b);have ex:=i7 hen hx;have ey:=i7 hen hy;simp only[Slot.val,v1,v2]at ex ey;obtain⟨d,f,zv,ok⟩:=d8 (hT.get hst);obtain⟨fe,rfl,g1',g2'⟩:=ok.slice rfl;obtain⟨d',f',zv',ok'⟩:=d8 (hT.get he);have hf:fe=f':=by have:=g1'.symm.trans ok'.hf;injection this
 subst hf;have hb2:(fe.bytes:Int)*(n:Int)<=281474976710656:=by
  rw[<- ok'.hbytes];have h:((by_*n:Nat):Int)<=281474976710656:=by omega
  rwa [Int.natCast_mul]at h
 have hr:=run_make (P:=P) w st e fe zv' ok.hd ok'.hf ok'.hz kl kc n n (by omega) (Int.le_refl _) hb2 (by simp[maxLen]at h63;omega);have hz:zv'.cells= #[z]:=by apply Array.toList_inj.1;exact ok'.hzero.symm
 have hs1:fe.size=1:=ok'.hsize.symm;simp only[Int.toNat_natCast,hs1,Nat.mul_one,hz]at hr;refine⟨_,_, .value (.slice (some ⟨w.heap.size,0,none⟩) n n),w.alloc (.cells (madeCells #[z] n) e),⟨w.heap.size,rfl,rfl⟩,?_, .inl rfl,?_,⟨rfl,rfl,rfl,by show w.heap.size<=(w.heap.push _).size;simp⟩⟩
 ·simp only[execOp,hop,ex,ey,hr,Sem.run_bind,Result.andThen_ok,Sem.run_pure]
 ·have e1:Obj.cells (madeCells #[z] n) e (0,0)=Obj.cells (List.replicate n z).toArray e (0,0):=by
   congr 1;apply Array.toList_inj.1;rw[toList_madeCells_one]
  show Sep _ (hl {w with heap:=w.heap.push (Obj.cells (madeCells #[z] n) e (0,0))});rw[e1,a0v];exact hs.snoc (a0w w) (λh' hh=>hh)
theorem J.nextS {α:Type} {I:α->Prop} {Ei:α->Env} {Li:α->List Atom} {μ:α->Nat} {m:Nat} (x:α) (h1:I x) (h2:μ x<m) (is:List Nat) (h3:Conj (a3t E (Ei x))) (ok:p6 L is=true) (hL:n6 L is=Li x):
  J X (.stop (λa w=>Ext X.w0 w/\∃x',I x'/\μ x'<m/\EnvOK X.n (Ei x') a/\Sep (Li x') (hl w))::K) E L:=J.next x h1 h2 h3 (λh' s=>by have:=s.sub is ok;rwa [hL]at this)
theorem J.nS {α:Type} {I:α->Prop} {Ei:α->Env} {Li:α->List Atom} {μ:α->Nat} {m:Nat} (x:α) (h1:I x) (h2:μ x<m) (is:List Nat) (ok:p6 L is=true) (hL:n6 L is=Li x) (h3:Conj (a3t E (Ei x)):=by(repeat' (first | exact Conj.nil | refine Conj.cons ?_ ?_ | omega | exact hq0 | (simpa using hq0) | (exactλh=>h) | exact rfl | (intro hq;have hq0:=hq;try simp only[Bool.and_eq_true,Bool.or_eq_true,decide_eq_true_eq,Bool.not_eq_true',decide_eq_false_iff_not]at hq) | (simp;done) | (simp;omega) | decide))):
  J X (.stop (λa w=>Ext X.w0 w/\∃x',I x'/\μ x'<m/\EnvOK X.n (Ei x') a/\Sep (Li x') (hl w))::K) E L:=J.nextS x h1 h2 is h3 ok hL
theorem L9 {w:World} {n0:Nat} {a:Act} (hT:TabOK P T) {o:Oper} {src dst:TypeId} {x:Operand} {k tg sz b1:Nat} {z1:List Value} {g:G} {k0 k':IntKind} {n:Int} {ti:TI} (hop:o.op= .convert src dst x) (hx:ev E x=some ⟨k, .int k0 n,tg,g⟩) (he:EnvOK n0 E a) (hg:g.on=true) (hd:T.get dst=some ⟨.int k',sz,z1,b1⟩) (hs:T.get src=some ti):
  (execOp a.eval o).run P w= .ok (.value (.int k' (k'.wrap n))) w:=by
 have ex:=i7 he hx;simp only[Slot.val,hg]at ex;obtain⟨d,fi,zv,ok⟩:=d8 (hT.get hd);obtain⟨d',fi',zv',ok'⟩:=d8 (hT.get hs);have:=ok.int rfl;subst this;simp[execOp,hop,ex,convert,d4 ok.hd,d4 ok'.hd,Conv.intToInt]
theorem J.join {α:Type} {k:KI} (E0:α->Env) (L0:α->List Atom) (h1:(∀x,J X K (E0 x) (L0 x))->J X (k::K) E L) (h2:∀x,J X K (E0 x) (L0 x)):J X (k::K) E L:=h1 h2
theorem J.goto {E0:Env} {L0:List Atom} (is:List Nat) (h:J X K E0 L0) (h3:Conj (subV E E0)) (ok:p6 L is=true) (hL:n6 L is=L0):J X K E L:=
 λa w hx he s=>h a w hx (he.subV h3) (by have:=s.sub is ok;rwa [hL]at this)
end
def itP {K:Type} (bm r:Nat) (kv:K->Value) (l:List (K×Value)) (is:List Nat) (h:Hl):Prop:=
 ∃es clock seen,h bm=some (.map es clock)/\h r=some (.mapIter (some bm) clock seen clock)/\es.toList.map (λe=>(e.key,e.val))=l.map (λx=>(kv x.1,x.2))/\(es.toList.map (·.born)).Nodup/\(∀e∈es.toList,e.born<clock)/\
  is.Nodup/\(∀i∈is,i<l.length)/\seen.toList=is.map (λi=>(es.toList.map (·.born)).getD i 0)
def itA {K:Type} (bm r:Nat) (kv:K->Value) (l:List (K×Value)) (is:List Nat):Atom:= .hp ⟨itP bm r kv l is,λ_ _ u ⟨es,c,s,h1,h2,h3⟩=>⟨es,c,s,u _ _ h1,u _ _ h2,h3⟩⟩
theorem b1H {K:Type} {bm r:Nat} {kv:K->Value} {l:List (K×Value)} {is:List Nat} {h:Hl} (s:Sep [itA bm r kv l is] h):Sep [u4 bm kv l] h:=by
 obtain⟨es,c,sn,h1,h2,h3,h4,h5,_⟩:=s.get (i:=0) rfl;exact Sep.one ⟨es,c,h1,h3,h4,h5⟩
theorem a9o {α:Type} {l:List α} (h:l.Nodup) {i j:Nat} (hi:i<l.length) (hj:j<l.length) (e:l[i]=l[j]):i=j:=by
 have h':=List.pairwise_iff_getElem.1 h;rcases Nat.lt_trichotomy i j with h1 | h1 | h1
 ·exact absurd e (h' i j hi hj h1)
 ·exact h1
 ·exact absurd e.symm (h' j i hj hi h1)
theorem b2z {n:Nat} {is:List Nat} (hn:is.Nodup) (hl:∀i∈is,i<n) (hall:∀i,i<n->i∈is):is.Perm (List.range n):=by
 rw[List.perm_iff_count];intro a;rw[List.Nodup.count hn,List.Nodup.count List.nodup_range]
 by_cases h:a∈is
 ·rw[if_pos h,if_pos (List.mem_range.2 (hl a h))]
 ·rw[if_neg h,if_neg (λh2=>h (hall a (List.mem_range.1 h2)))]
theorem Sep.part {L:List Atom} {h:Hl} (s:Sep L h) {i b:Nat} {o':Obj} {A A':Atom} (hA:L[i]? =some A) (hs:∀h',A.sat h'->∃o,h' b=some o) (hs':∀h',Hle h' h->A.sat h'->A'.sat (r9 h' b o')):Sep (L.set i A') (r9 h b o'):=by
 obtain⟨own,hw⟩:=s;obtain⟨o,ho⟩:=hs _ (hw i A hA);have hb:=res_some.1 ho;have hi:i<L.length:=(List.getElem?_eq_some_iff.1 hA).1;refine⟨own,λj B hB=>?_⟩;rw[List.getElem?_set]at hB;split at hB
 ·rename_i e;injection hB with hB;subst hB;subst e;refine Atom.up (λx u hx=>?_) (hs' _ (λb o hb=>(res_some.1 hb).2) (hw _ A hA));rw[res_some];unfold r9 at hx ⊢;split at hx
  ·rename_i e;subst e;exact⟨hb.1,by simpa using hx⟩
  ·rename_i e;rw[res_some]at hx;exact⟨hx.1,by rw[if_neg e];exact hx.2⟩
 ·rename_i e;refine Atom.up (λx u hx=>?_) (hw j B hB);rw[res_some]at hx ⊢;refine⟨hx.1,?_⟩;unfold r9;rw[if_neg]
  ·exact hx.2
  ·rintro rfl;exact e (hb.1.symm.trans hx.1)
theorem Sep.grow {L:List Atom} {h:Hl} (s:Sep L h) {i b:Nat} {o':Obj} {A A':Atom} (hA:L[i]? =some A) (hn:h b=none) (hs':∀h',Hle h' h->h' b=none->A.sat h'->A'.sat (r9 h' b o')):Sep (L.set i A') (r9 h b o'):=by
 obtain⟨own,hw⟩:=s;have hi:i<L.length:=(List.getElem?_eq_some_iff.1 hA).1;have hres:∀k,res h own k b=none:=λk=>by unfold res;split<;>first | exact hn | rfl
 refine⟨λx=>if x=b then i else own x,λj B hB=>?_⟩;rw[List.getElem?_set]at hB;split at hB
 ·rename_i e;injection hB with hB;subst hB;subst e;refine Atom.up (λx u hx=>?_) (hs' _ (λb o hb=>(res_some.1 hb).2) (hres _) (hw _ A hA));rw[res_some];unfold r9 at hx ⊢;split at hx
  ·rename_i e;subst e;exact⟨by simp,by simpa using hx⟩
  ·rename_i e;rw[res_some]at hx;exact⟨by rw[if_neg e];exact hx.1,by rw[if_neg e];exact hx.2⟩
 ·rename_i e;refine Atom.up (λx u hx=>?_) (hw j B hB);rw[res_some]at hx ⊢;have hxb:x≠b:=by rintro rfl;rw[hn]at hx;cases hx.2
  refine⟨by rw[if_neg hxb];exact hx.1,?_⟩;unfold r9;rw[if_neg hxb];exact hx.2
theorem a6E {w:World} {r:Nat} {o o':Obj} (h:hl w r=some o):hl (Go.ChangeMaps.setBlock w r o')=r9 (hl w) r o':=by
 funext x;unfold hl r9 Go.ChangeMaps.setBlock;simp only[Array.getElem?_setIfInBounds]
 by_cases e:x=r
 ·subst e;have hlt:x<w.heap.size:=by
   rcases Nat.lt_or_ge x w.heap.size with h1 | h1
   ·exact h1
   ·simp only[hl]at h;rw[Array.getElem?_eq_none h1]at h;cases h
  simp[hlt]
 ·rw[if_neg (Ne.symm e),if_neg e]
section
variable {X : Cx} {P : Program} {T : Tab} {K : List KI} {E : Env} {L : List Atom} {N : Nat} {F : HP} {Post : Value → List Atom → Prop} {rs : List ResultVar} {KK : Type} {kv : KK → Value}
theorem J.rangeMap (hX:IsCx X P rs N F Post) {ops:Array Oper} {C:Cl} {lt:Bool} {i:Nat} {t:PT} {o:Oper} {g:G} {MT KT ET:TypeId} {x:Operand} {k1 t1 bm:Nat} {g1:G} {l:List (KK×Value)} {E':Value->Env} {L2:Nat->List Atom} (im:Nat)
  (hm:P.underlying MT=some (.map KT ET)) (ho:m6 ops.toList i=some o) (hg:gd ops.toList E o=some g) (hgo:g.on=true) (hop:o.op= .range MT x) (hx:ev E x=some ⟨k1, .map (some bm),t1,g1⟩) (v1:g1.on=true)
  (hL:m6 L im=some (u4 bm kv l)) (hL2:∀r,n5 L im (itA bm r kv l [])=some (L2 r)) (hd:∀v,y9 N o.dst v 0 .tt E=some (E' v))
  (hJ:∀r,Conj (p4 lt C (L2 r))/\J X (.reg ops C t::K) (E' (.pointer (some ⟨r,0,none⟩))) (L2 r)):J X (.reg ops C (.alt lt i t .non)::K) E L:=by
 refine J.op hX (S:=λv' L'=>∃r,v'= .pointer (some ⟨r,0,none⟩)/\L'=L.set im (itA bm r kv l [])) 0 ho hg hgo (λa0 w hen hs=>?_) hd (λv L' ⟨r,e1,e2⟩=>by subst e1;subst e2;rw[<- u5 (hL2 r)];exact hJ r);rw[l9]at hL;have ex:=i7 hen hx;simp only[Slot.val,v1]at ex;obtain⟨es,clock,h1,h2,h3,h4⟩:a7x bm kv l (hl w):=hs.get hL;have hr:=run_range_map (P:=P) w MT KT ET bm es clock hm h1;have hbm:bm≠w.heap.size:=λe=>by
  have:=h1;simp only[hl]at this;rw[e,Array.getElem?_eq_none (Nat.le_refl _)]at this;cases this
 refine⟨_,_, .value (.pointer (some ⟨w.heap.size,0,none⟩)),w.alloc (.mapIter (some bm) clock #[] clock),⟨w.heap.size,rfl,rfl⟩,?_, .inl rfl,?_,⟨rfl,rfl,rfl,by show w.heap.size<=(w.heap.push _).size;simp⟩⟩
 ·simp only[execOp,hop,ex,hr,Sem.run_bind,Result.andThen_ok,Sem.run_pure]
 ·show Sep _ (hl {w with heap:=w.heap.push (Obj.mapIter (some bm) clock #[] clock)});rw[a0v];refine Sep.grow hs hL (a0w w) (λh' hle hn ⟨es',c',q1,q2,q3,q4⟩=>?_);have e1:=(hle _ _ q1).symm.trans h1;simp only[Option.some.injEq,Obj.map.injEq]at e1;obtain⟨rfl,rfl⟩:=e1;exact⟨es',c',#[],by unfold r9;rw[if_neg hbm];exact q1,by unfold r9;rw[if_pos rfl],q2,q3,q4,List.nodup_nil,by simp,rfl⟩
theorem J.rangeNext (hX:IsCx X P rs N F Post) {ops:Array Oper} {C:Cl} {lt:Bool} {i:Nat} {t:PT} {o:Oper} {g:G} {x:Operand} {k1 t1 bm r:Nat} {g1:G} {l:List (KK×Value)} {is:List Nat} {E':Value->Env} {L2:Nat->List Atom} (im:Nat)
  (ho:m6 ops.toList i=some o) (hg:gd ops.toList E o=some g) (hgo:g.on=true) (hop:o.op= .next x false) (hx:ev E x=some ⟨k1, .pointer (some ⟨r,0,none⟩),t1,g1⟩) (v1:g1.on=true)
  (hL:m6 L im=some (itA bm r kv l is)) (hL2:∀j,n5 L im (itA bm r kv l (is++[j]))=some (L2 j)) (hd:∀v,y9 N o.dst v 0 .tt E=some (E' v))
  (h0:is.Perm (List.range l.length)->Conj (p4 lt C L)/\J X (.reg ops C t::K) (E' (.tuple #[.bool false])) L)
  (h1:∀j y,j∉is->l[j]? =some y->Conj (p4 lt C (L2 j))/\J X (.reg ops C t::K) (E' (.tuple #[.bool true,kv y.1,y.2])) (L2 j)):J X (.reg ops C (.alt lt i t .non)::K) E L:=by
 refine J.op hX (S:=λv' L'=>(is.Perm (List.range l.length)/\v'= .tuple #[.bool false]/\L'=L)\/∃j y,j∉is/\l[j]? =some y/\v'= .tuple #[.bool true,kv y.1,y.2]/\L'=L.set im (itA bm r kv l (is++[j]))) 0 ho hg hgo (λa0 w hen hs=>?_) hd (λv L' hS=>by
  rcases hS with⟨e0,e1,e2⟩ | ⟨j,y,e0,e1,e2,e3⟩
  ·subst e1;subst e2;exact h0 e0
  ·subst e2;subst e3;rw[<- u5 (hL2 j)];exact h1 j y e0 e1)
 rw[l9]at hL;have ex:=i7 hen hx;simp only[Slot.val,v1]at ex;obtain⟨es,clock,seen,q1,q2,q3,q4,q5,q6,q7,q8⟩:itP bm r kv l is (hl w):=hs.get hL;have hlen:es.toList.length=l.length:=by have:=congrArg List.length q3;simpa using this
 rcases run_next_at (P:=P) w o.type r bm clock clock seen es clock q2 q1 q5 (Nat.le_refl _)with⟨z1,z2⟩ | ⟨e,z1,w1,z2,z3⟩
 ·refine⟨.tuple #[.bool false],L, .value (.tuple #[.bool false]),w, .inl ⟨?_,rfl,rfl⟩,?_, .inl rfl,hs,Ext.refl _⟩
  ·refine b2z q6 q7 (λj hj=>?_);have hj':j<es.toList.length:=by omega
   have h0:leftOf es seen= #[]:=Array.eq_empty_of_size_eq_zero z1;have hm:es.toList[j]∈es.toList:=List.getElem_mem hj';have hs1:seen.contains (es.toList[j]).born=true:=by
    cases hc:seen.contains (es.toList[j]).born with
    | true=>rfl
    | false=>
     exfalso
     have:es.toList[j]∈leftOf es seen:=by
      unfold leftOf;rw[Array.mem_filter];exact⟨by simpa using hm,by rw[hc];rfl⟩
     rw[h0]at this;simp at this
   have hs2:(es.toList[j]).born∈seen.toList:=by simpa using hs1
   rw[q8,List.mem_map]at hs2;obtain⟨i',hi',e⟩:=hs2;have hi2:i'<es.toList.length:=by have:=q7 i' hi';omega
   have e2:(es.toList.map (·.born))[i']'(by simpa using hi2)=(es.toList.map (·.born))[j]'(by simpa using hj'):=by
    rw[List.getD_eq_getElem?_getD,List.getElem?_eq_getElem (by simpa using hi2),Option.getD_some]at e;rw[e,List.getElem_map]
   have:=a9o q4 _ _ e2;subst this;exact hi'
  ·simp only[execOp,hop,ex,z2,Sem.run_bind,Result.andThen_ok,Sem.run_pure]
 ·have hle:e∈es.toList/\seen.contains e.born=false:=by
   have:e∈leftOf es seen:=by simpa using z1
   unfold leftOf at this;rw[Array.mem_filter]at this;exact⟨by simpa using this.1,by simpa using this.2⟩
  obtain⟨j,hj,hje⟩:=List.mem_iff_getElem.1 hle.1;have hjl:j<l.length:=by omega
  have hkv:(e.key,e.val)=(kv l[j].1,l[j].2):=by
   have h2:(es.toList.map λe=>(e.key,e.val))[j]'(by simpa using hj)=(l.map λx=>(kv x.1,x.2))[j]'(by simpa using hjl):=by simp only[q3]
   rw[List.getElem_map,List.getElem_map,hje]at h2;exact h2
  simp only[Prod.mk.injEq]at hkv;have hbj:(es.toList.map (·.born)).getD j 0=e.born:=by
   rw[List.getD_eq_getElem?_getD,List.getElem?_eq_getElem (by simpa using hj),Option.getD_some,List.getElem_map,hje]
  have hnj:j∉is:=λhm=>by
   have:e.born∈seen.toList:=by rw[q8,List.mem_map];exact⟨j,hm,hbj⟩
   have h2:seen.contains e.born=true:=by simpa using this
   rw[hle.2]at h2;cases h2
  have hw1:hl w1=hl w:=by rcases z2 with rfl | rfl<;>rfl
  have hx1:Ext w w1:=by rcases z2 with rfl | rfl<;>exact⟨rfl,rfl,rfl,Nat.le_refl _⟩
  refine⟨.tuple #[.bool true,kv l[j].1,l[j].2],L.set im (itA bm r kv l (is++[j])), .value (.tuple #[.bool true,e.key,e.val]),Go.ChangeMaps.setBlock w1 r (.mapIter (some bm) clock (seen.push e.born) clock), .inr ⟨j,l[j],hnj,List.getElem?_eq_getElem hjl,rfl,rfl⟩,?_, .inl (by rw[hkv.1,hkv.2]),?_,?_⟩
  ·simp only[execOp,hop,ex,z3,Sem.run_bind,Result.andThen_ok,Sem.run_pure]
  ·rw[a6E (by rw[hw1];exact q2),hw1];refine Sep.part hs hL (λh' ⟨_,_,_,_,u,_⟩=>⟨_,u⟩) (λh' hh ⟨es',c',sn',u1,u2,u3⟩=>?_);have e1:=(hh _ _ u1).symm.trans q1;have e2:=(hh _ _ u2).symm.trans q2;simp only[Option.some.injEq,Obj.map.injEq]at e1;simp only[Option.some.injEq,Obj.mapIter.injEq]at e2;obtain⟨rfl,rfl⟩:=e1;obtain⟨-,-,rfl,-⟩:=e2;have hne:bm≠r:=by rintro rfl;rw[q1]at q2;cases q2
   refine⟨es',c',sn'.push e.born,by unfold r9;rw[if_neg hne];exact u1,by unfold r9;rw[if_pos rfl],q3,q4,q5,?_,?_,?_⟩
   ·rw[List.nodup_append];exact⟨q6,by simp,λa ha b hb=>by simp at hb;subst hb;rintro rfl;exact hnj ha⟩
   ·intro a ha;rw[List.mem_append]at ha;rcases ha with ha | ha
    ·exact q7 a ha
    ·simp at ha;subst ha;exact hjl
   ·rw[Array.toList_push,q8,List.map_append,List.map_cons,List.map_nil,hbj]
  ·exact⟨hx1.os,hx1.tape,hx1.output,Nat.le_trans hx1.size (by simp[Go.ChangeMaps.setBlock])⟩
theorem J.rangeEntry (hX:IsCx X P rs N F Post) {ops:Array Oper} {C:Cl} {lt:Bool} {i:Nat} {t:PT} {o:Oper} {g:G} {x:Operand} {k1 t1 bm r:Nat} {g1:G} {l:List (KK×Value)} {is:List Nat} {j:Nat} {y:KK×Value} {E':Env} (im:Nat)
  (ho:m6 ops.toList i=some o) (hg:gd ops.toList E o=some g) (hgo:g.on=true) (hop:o.op= .entry x) (hx:ev E x=some ⟨k1, .pointer (some ⟨r,0,none⟩),t1,g1⟩) (v1:g1.on=true)
  (hL:m6 L im=some (itA bm r kv l (is++[j]))) (hy:l[j]? =some y) (hd:y9 N o.dst (.tuple #[kv y.1,y.2]) 0 g E=some E')
  (hJ:Conj (p4 lt C L)/\J X (.reg ops C t::K) E' L):J X (.reg ops C (.alt lt i t .non)::K) E L:=by
 refine J.val hX _ 0 ho hg (λ_ a w hen hs=>?_) hd hJ.1 hJ.2;rw[l9]at hL;have ex:=i7 hen hx;simp only[Slot.val,v1]at ex;obtain⟨es,clock,seen,q1,q2,q3,q4,q5,q6,q7,q8⟩:itP bm r kv l (is++[j]) (hl w):=hs.get hL;have hjl:j<l.length:=(List.getElem?_eq_some_iff.1 hy).1;have hlen:es.toList.length=l.length:=by have:=congrArg List.length q3;simpa using this
 have hj:j<es.toList.length:=by omega
 have hkv:((es.toList[j]).key,(es.toList[j]).val)=(kv y.1,y.2):=by
  have h2:(es.toList.map λe=>(e.key,e.val))[j]'(by simpa using hj)=(l.map λx=>(kv x.1,x.2))[j]'(by simpa using hjl):=by simp only[q3]
  rw[List.getElem_map,List.getElem_map,(List.getElem?_eq_some_iff.1 hy).2]at h2;exact h2
 simp only[Prod.mk.injEq]at hkv;have hs:seen=(is.map (λi=>(es.toList.map (·.born)).getD i 0)).toArray.push (es.toList[j]).born:=by
  apply Array.toList_inj.1;rw[q8,Array.toList_push,List.map_append,List.map_cons,List.map_nil,List.getD_eq_getElem?_getD,List.getElem?_eq_getElem (by simpa using hj),Option.getD_some,List.getElem_map]
 have hr:=run_entry_at (P:=P) w r bm clock (is.map (λi=>(es.toList.map (·.born)).getD i 0)).toArray es clock (es.toList[j]) (by rw[<- hs];exact q2) q1 (List.getElem_mem hj) q4;simp only[execOp,hop,ex,hr,Sem.run_bind,Result.andThen_ok,Sem.run_pure,hkv.1,hkv.2]
end
def tab:Tab:=[
 (3,⟨(.int .i64),1,[.int .i64 0],8⟩),
 (1,⟨.other,1,[.nilFunc],8⟩),
 (29,⟨(.arr 16 1),16,[.int .u8 0, .int .u8 0, .int .u8 0, .int .u8 0, .int .u8 0, .int .u8 0, .int .u8 0, .int .u8 0, .int .u8 0, .int .u8 0, .int .u8 0, .int .u8 0, .int .u8 0, .int .u8 0, .int .u8 0, .int .u8 0],16⟩),
 (52,⟨(.row [(0,1,false),(1,1,false),(2,1,false)]),3,[.int .i64 0, .int .i64 0, .int .i64 0],24⟩),
 (2,⟨(.int .i64),1,[.int .i64 0],8⟩),
 (40,⟨(.int .i64),1,[.int .i64 0],8⟩),
 (4,⟨.bool,1,[.bool false],1⟩),
 (24,⟨(.row [(0,1,false),(1,1,false),(2,1,false)]),3,[.int .i64 0, .int .i64 0, .int .i64 0],24⟩),
 (34,⟨(.slice 3 1),1,[.slice none 0 0],24⟩),
 (132,⟨(.row [(0,1,false),(1,1,false),(2,1,false),(3,16,true)]),19,[.int .i64 0, .int .i64 0, .int .i64 0, .int .u8 0, .int .u8 0, .int .u8 0, .int .u8 0, .int .u8 0, .int .u8 0, .int .u8 0, .int .u8 0, .int .u8 0, .int .u8 0, .int .u8 0, .int .u8 0, .int .u8 0, .int .u8 0, .int .u8 0, .int .u8 0],40⟩),
 (37,⟨.ptr,1,[.pointer none],8⟩),
 (222,⟨(.row [(0,16,true),(16,1,false),(17,1,false),(18,1,false),(19,1,false),(20,1,false),(21,1,false),(22,1,false)]),23,[.int .u8 0, .int .u8 0, .int .u8 0, .int .u8 0, .int .u8 0, .int .u8 0, .int .u8 0, .int .u8 0, .int .u8 0, .int .u8 0, .int .u8 0, .int .u8 0, .int .u8 0, .int .u8 0, .int .u8 0, .int .u8 0, .int .i64 0, .int .i64 0, .int .i64 0, .int .i64 0, .int .i64 0, .int .i64 0, .int .i64 0],72⟩),
 (119,⟨.ptr,1,[.pointer none],8⟩),
 (294,⟨(.slice 52 3),1,[.slice none 0 0],24⟩),
 (39,⟨.ptr,1,[.pointer none],8⟩),
 (54,⟨(.row [(0,1,false),(1,1,false),(2,3,true),(5,1,false),(6,1,false)]),7,[.int .i64 0, .int .i64 0, .int .i64 0, .int .i64 0, .int .i64 0, .int .i64 0, .int .i64 0],56⟩),
 (114,⟨(.slice 132 19),1,[.slice none 0 0],24⟩),
 (113,⟨.ptr,1,[.pointer none],8⟩),
 (287,⟨(.int .u64),1,[.int .u64 0],8⟩),
 (5,⟨(.int .u8),1,[.int .u8 0],1⟩),
 (35,⟨(.slice 29 16),1,[.slice none 0 0],24⟩),
 (78,⟨(.slice 54 7),1,[.slice none 0 0],24⟩),
 (155,⟨(.arr 32 1),32,[.int .u8 0, .int .u8 0, .int .u8 0, .int .u8 0, .int .u8 0, .int .u8 0, .int .u8 0, .int .u8 0, .int .u8 0, .int .u8 0, .int .u8 0, .int .u8 0, .int .u8 0, .int .u8 0, .int .u8 0, .int .u8 0, .int .u8 0, .int .u8 0, .int .u8 0, .int .u8 0, .int .u8 0, .int .u8 0, .int .u8 0, .int .u8 0, .int .u8 0, .int .u8 0, .int .u8 0, .int .u8 0, .int .u8 0, .int .u8 0, .int .u8 0, .int .u8 0],32⟩),
 (186,⟨(.row [(0,19,true),(19,3,true),(22,1,false),(23,1,false),(24,1,false)]),25,[.int .i64 0, .int .i64 0, .int .i64 0, .int .u8 0, .int .u8 0, .int .u8 0, .int .u8 0, .int .u8 0, .int .u8 0, .int .u8 0, .int .u8 0, .int .u8 0, .int .u8 0, .int .u8 0, .int .u8 0, .int .u8 0, .int .u8 0, .int .u8 0, .int .u8 0, .int .i64 0, .int .i64 0, .int .i64 0, .int .i64 0, .bool false, .bool false],80⟩),
 (171,⟨(.int .u64),1,[.int .u64 0],8⟩),
 (58,⟨(.row [(0,1,false),(1,16,true)]),17,[.int .i64 0, .int .u8 0, .int .u8 0, .int .u8 0, .int .u8 0, .int .u8 0, .int .u8 0, .int .u8 0, .int .u8 0, .int .u8 0, .int .u8 0, .int .u8 0, .int .u8 0, .int .u8 0, .int .u8 0, .int .u8 0, .int .u8 0],24⟩),
 (125,⟨(.row [(0,1,false),(1,1,false),(2,1,false),(3,1,false),(4,1,false),(5,1,false),(6,1,false)]),7,[.pointer none, .pointer none, .pointer none, .pointer none, .pointer none, .int .i64 0, .bool false],56⟩),
 (123,⟨.ptr,1,[.pointer none],8⟩),
 (183,⟨(.slice 186 25),1,[.slice none 0 0],24⟩),
 (107,⟨(.row [(0,3,true),(3,1,false),(4,1,false),(5,1,false),(6,1,false),(7,1,false),(8,1,false),(9,1,false),(10,1,false),(11,1,false)]),12,[.int .i64 0, .int .i64 0, .int .i64 0, .map none, .pointer none, .slice none 0 0, .bool false, .int .i64 0, .int .i64 0, .bool false, .int .i64 0, .int .i64 0],112⟩),
 (116,⟨(.row [(0,1,false),(1,1,false),(2,1,false),(3,1,false),(4,1,false),(5,1,false)]),6,[.pointer none, .slice none 0 0, .int .i64 0, .slice none 0 0, .int .i64 0, .int .i64 0],80⟩),
 (220,⟨(.slice 222 23),1,[.slice none 0 0],24⟩),
 (109,⟨(.slice 268 34),1,[.slice none 0 0],24⟩),
 (285,⟨(.int .u32),1,[.int .u32 0],4⟩),
 (61,⟨(.row [(0,1,false),(1,1,false),(2,16,true),(18,1,false),(19,1,false),(20,7,true)]),27,[.int .i64 0, .int .i64 0, .int .u8 0, .int .u8 0, .int .u8 0, .int .u8 0, .int .u8 0, .int .u8 0, .int .u8 0, .int .u8 0, .int .u8 0, .int .u8 0, .int .u8 0, .int .u8 0, .int .u8 0, .int .u8 0, .int .u8 0, .int .u8 0, .int .i64 0, .int .i64 0, .int .i64 0, .int .i64 0, .int .i64 0, .int .i64 0, .int .i64 0, .int .i64 0, .int .i64 0],104⟩),
 (203,⟨(.row [(0,1,false),(1,1,false),(2,1,false),(3,1,false),(4,1,false),(5,1,false),(6,1,false)]),7,[.pointer none, .pointer none, .pointer none, .int .i64 0, .int .i64 0, .int .i64 0, .int .i64 0],56⟩),
 (136,⟨(.row [(0,1,false),(1,1,false),(2,1,false)]),3,[.int .i64 0, .int .i64 0, .int .i64 0],24⟩),
 (138,⟨(.row [(0,3,true),(3,1,false),(4,1,false),(5,1,false)]),6,[.int .i64 0, .int .i64 0, .int .i64 0, .int .i64 0, .int .i64 0, .int .i64 0],48⟩),
 (30,⟨.ptr,1,[.pointer none],8⟩),
 (306,⟨(.slice 5 1),1,[.slice none 0 0],24⟩),
 (55,⟨.ptr,1,[.pointer none],8⟩),
 (90,⟨(.slice 4 1),1,[.slice none 0 0],24⟩),
 (80,⟨(.row [(0,1,false),(1,1,false),(2,1,false),(3,1,false),(4,1,false),(5,1,false),(6,1,false),(7,1,false),(8,1,false)]),9,[.pointer none, .pointer none, .int .i64 0, .bool false, .bool false, .bool false, .slice none 0 0, .int .i64 0, .int .i64 0],72⟩),
 (121,⟨.ptr,1,[.pointer none],8⟩),
 (111,⟨(.row [(0,1,false),(1,1,false),(2,1,false),(3,1,false)]),4,[.slice none 0 0, .int .i64 0, .bool false, .bool false],40⟩),
 (224,⟨(.row [(0,1,false),(1,1,false),(2,23,true),(25,1,false)]),26,[.slice none 0 0, .slice none 0 0, .int .u8 0, .int .u8 0, .int .u8 0, .int .u8 0, .int .u8 0, .int .u8 0, .int .u8 0, .int .u8 0, .int .u8 0, .int .u8 0, .int .u8 0, .int .u8 0, .int .u8 0, .int .u8 0, .int .u8 0, .int .u8 0, .int .i64 0, .int .i64 0, .int .i64 0, .int .i64 0, .int .i64 0, .int .i64 0, .int .i64 0, .bool false],128⟩),
 (313,⟨(.int .u64),1,[.int .u64 0],8⟩),
 (170,⟨(.row [(0,1,false),(1,1,false),(2,1,false),(3,1,false)]),4,[.slice none 0 0, .slice none 0 0, .slice none 0 0, .slice none 0 0],96⟩),
 (6,⟨(.int .u8),1,[.int .u8 0],1⟩),
 (341,⟨.other,1,[.nilFunc],8⟩),
 (152,⟨(.row [(0,1,false),(1,1,false),(2,1,false),(3,1,false)]),4,[.pointer none, .pointer none, .pointer none, .slice none 0 0],48⟩),
 (99,⟨(.row [(0,16,true),(16,1,false),(17,1,false),(18,1,false)]),19,[.int .u8 0, .int .u8 0, .int .u8 0, .int .u8 0, .int .u8 0, .int .u8 0, .int .u8 0, .int .u8 0, .int .u8 0, .int .u8 0, .int .u8 0, .int .u8 0, .int .u8 0, .int .u8 0, .int .u8 0, .int .u8 0, .bool false, .slice none 0 0, .slice none 0 0],72⟩),
 (168,⟨(.slice 35 1),1,[.slice none 0 0],24⟩),
 (356,⟨.ptr,1,[.pointer none],8⟩),
 (95,⟨(.slice 99 19),1,[.slice none 0 0],24⟩),
 (103,⟨.map,1,[.map none],8⟩),
 (104,⟨.ptr,1,[.pointer none],8⟩),
 (7,⟨(.row [(0,1,false),(1,1,false),(2,1,false),(3,1,false)]),4,[.int .i64 0, .int .i64 0, .bool false, .int .u8 0],24⟩),
 (204,⟨.ptr,1,[.pointer none],8⟩),
 (311,⟨.ptr,1,[.pointer none],8⟩),
 (201,⟨(.row [(0,1,false)]),1,[.slice none 0 0],24⟩),
 (218,⟨(.row [(0,1,false),(1,1,false),(2,1,false),(3,1,false)]),4,[.int .i64 0, .map none, .map none, .int .i64 0],32⟩),
 (320,⟨(.row [(0,1,false),(1,1,false)]),2,[.slice none 0 0, .int .i64 0],32⟩),
 (318,⟨.ptr,1,[.pointer none],8⟩),
 (91,⟨(.slice 58 17),1,[.slice none 0 0],24⟩),
 (9,⟨.other,1,[.string ⟨#[]⟩],16⟩),
 (180,⟨(.slice 183 1),1,[.slice none 0 0],24⟩),
 (197,⟨(.row [(0,3,true),(3,1,false),(4,1,false)]),5,[.int .i64 0, .int .i64 0, .int .i64 0, .slice none 0 0, .int .i64 0],56⟩),
 (235,⟨.other,1,[.nilFunc],8⟩),
 (268,⟨(.row [(0,32,true),(32,1,false),(33,1,false)]),34,[.int .u8 0, .int .u8 0, .int .u8 0, .int .u8 0, .int .u8 0, .int .u8 0, .int .u8 0, .int .u8 0, .int .u8 0, .int .u8 0, .int .u8 0, .int .u8 0, .int .u8 0, .int .u8 0, .int .u8 0, .int .u8 0, .int .u8 0, .int .u8 0, .int .u8 0, .int .u8 0, .int .u8 0, .int .u8 0, .int .u8 0, .int .u8 0, .int .u8 0, .int .u8 0, .int .u8 0, .int .u8 0, .int .u8 0, .int .u8 0, .int .u8 0, .int .u8 0, .bool false, .bool false],34⟩),
 (97,⟨(.row [(0,1,false)]),1,[.slice none 0 0],24⟩),
 (182,⟨(.row [(0,1,false),(1,1,false)]),2,[.pointer none, .slice none 0 0],32⟩),
 (215,⟨.map,1,[.map none],8⟩),
 (232,⟨(.row [(0,1,false)]),1,[.slice none 0 0],24⟩),
 (333,⟨(.row [(0,1,false),(1,1,false)]),2,[.slice none 0 0, .int .i64 0],32⟩),
 (365,⟨.map,1,[.map none],8⟩),
 (77,⟨.ptr,1,[.pointer none],8⟩),
 (207,⟨(.row [(0,1,false),(1,1,false),(2,1,false),(3,1,false)]),4,[.int .i64 0, .int .i64 0, .bool false, .bool false],24⟩),
 (149,⟨.ptr,1,[.pointer none],8⟩),
 (175,⟨.map,1,[.map none],8⟩),
 (216,⟨.map,1,[.map none],8⟩),
 (8,⟨(.row [(0,1,false),(1,1,false),(2,1,false),(3,1,false)]),4,[.int .i64 0, .int .i64 0, .bool false, .int .u8 0],24⟩),
 (277,⟨(.int .i64),1,[.int .i64 0],8⟩),
 (307,⟨.ptr,1,[.pointer none],8⟩),
 (195,⟨(.slice 207 4),1,[.slice none 0 0],24⟩),
 (67,⟨.other,1,[.nilFunc],8⟩),
 (367,⟨(.row [(0,1,false)]),1,[.map none],8⟩),
 (100,⟨.ptr,1,[.pointer none],8⟩),
 (177,⟨(.row [(0,1,false)]),1,[.map none],8⟩),
 (214,⟨.other,1,[.nilFunc],8⟩),
 (363,⟨(.slice 155 32),1,[.slice none 0 0],24⟩),
 (361,⟨(.slice 34 1),1,[.slice none 0 0],24⟩),
 (157,⟨(.arr 8 1),8,[.bool false, .bool false, .bool false, .bool false, .bool false, .bool false, .bool false, .bool false],8⟩),
 (73,⟨(.slice 61 27),1,[.slice none 0 0],24⟩),
 (108,⟨.ptr,1,[.pointer none],8⟩),
 (368,⟨.map,1,[.map none],8⟩),
 (179,⟨.ptr,1,[.pointer none],8⟩),
 (85,⟨.other,1,[.nilFunc],8⟩),
 (296,⟨.other,1,[.nilFunc],8⟩),
 (74,⟨.ptr,1,[.pointer none],8⟩),
 (190,⟨.other,1,[.nilFunc],8⟩),
 (298,⟨.other,1,[.nilFunc],8⟩),
 (312,⟨(.arr 4 1),4,[.pointer none, .pointer none, .pointer none, .pointer none],32⟩),
 (323,⟨(.arr 4 1),4,[.int .i64 0, .int .i64 0, .int .i64 0, .int .i64 0],32⟩),
 (354,⟨.other,1,[.nilFunc],8⟩),
 (62,⟨.ptr,1,[.pointer none],8⟩),
 (162,⟨(.arr 6 1),6,[.bool false, .bool false, .bool false, .bool false, .bool false, .bool false],6⟩)]
theorem tk:TabOK Tryz.prog tab:=TabOK.mk (by kernel_rfl)
end Go.Proofs.YtgkpkpbnonmopaaGreat
