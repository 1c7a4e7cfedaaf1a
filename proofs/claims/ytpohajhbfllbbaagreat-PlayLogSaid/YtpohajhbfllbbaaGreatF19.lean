/- Helpers. No condition. -/
import Derived.Test.YtpohajhbfllbbaaGreatF04
import Derived.Test.YtpohajhbfllbbaaGreatF05
import Derived.Test.YtpohajhbfllbbaaGreatF06
import Derived.Test.YtpohajhbfllbbaaGreatF10
import Derived.Test.YtpohajhbfllbbaaGreatF11
import Derived.Test.YtpohajhbfllbbaaGreatF13
import Derived.Test.YtpohajhbfllbbaaGreatF14
import Derived.Test.YtpohajhbfllbbaaGreatF15
import Derived.Test.YtpohajhbfllbbaaGreatF18
import Derived.WideKeyEntry
set_option maxRecDepth 20000
set_option linter.all false
namespace Go.Proofs.YtpohajhbfllbbaaGreat
open Go Go.RowKit
section
variable {KK : Type} [DecidableEq KK]
def W3 (l:List (KK×Value)) (k:KK) (z:Value):List (KK×Value):=match fi l k 0 with
 | none=>l++[(k,z)]
 | some _=>l
def b2P (r:Nat) (kv:KK->Value) (l:List (KK×Value)) (key:KK) (st:Int) (h:Hl):Prop:=
 ∃es clock,h r=some (.map es clock)/\es.toList.map (λe=>(e.key,e.val))=l.map (λx=>(kv x.1,x.2))/\(es.toList.map (·.born)).Nodup/\(∀e∈es.toList,e.born<clock)/\
  ∃(j:Nat) (e0:MapEntry) (u:Value),es.toList[j]? =some e0/\e0.key=kv key/\(e0.born:Int)=st/\fi l key 0=some (j,u)
def b4f (r:Nat) (kv:KK->Value) (l:List (KK×Value)) (key:KK) (st:Int):Atom:= .hp ⟨b2P r kv l key st,λ_ _ l ⟨es,c,h1,h2⟩=>⟨es,c,l _ _ h1,h2⟩⟩
theorem b0W (k:KK):∀(l:List (KK×Value)) i j u,fi l k i=some (j,u)->(l[j-i]?).map (·.1)=some k/\i<=j
 | [],i,j,u,h=>by cases h
 | x::l,i,j,u,h=>by
  unfold fi at h;split at h
  ·rename_i hh;injection h with h;injection h with e1 _;subst e1;simp[hh]
  ·have hl2:=a2b _ _ _ _ _ h;have:=b0W k l _ _ _ h;refine⟨?_,by omega⟩;rw[show j-i=(j-(i+1))+1 from by omega,List.getElem?_cons_succ];exact this.1
theorem b0X (k:KK) (z:Value):∀(l:List (KK×Value)) i,fi l k i=none->fi (l++[(k,z)]) k i=some (i+l.length,z)
 | [],i,_=>by simp[fi]
 | x::l,i,h=>by
  unfold fi at h;split at h
  ·cases h
  ·rename_i hh;rw[List.cons_append,fi,if_neg hh,b0X k z l _ h,List.length_cons];congr 2;omega
variable {P : Program} {kv : KK → Value}
theorem a1x {MT T E:TypeId} (hk:KeyOk P T kv) (hm:P.underlying MT=some (.map T E)) {z:Value} (hz:∀w,(zeroValue E).run P w= .ok z w) {w:World} {r:Nat} {l:List (KK×Value)} (h:a6n r kv l (hl w)) (k:KK):
  ∃w' st,(Instr.mapEntry MT (.map (some r)) (kv k)).run P w= .ok (.tuple #[(p6 l k).getD z,goInt st]) w'/\b2P r kv (W3 l k z) k st (hl w')/\w.grownBy w' (some r):=by
 obtain⟨es,clock,h1,h2,h3,h4⟩:=h;have hf:=H5 hk k w es.toList l h2;have hr:r<w.heap.size:=(Array.getElem?_eq_some_iff.1 h1).1;have hlen:es.toList.length=l.length:=by have:=congrArg List.length h2;simpa using this
 have ha:=a2n l k 0;unfold Instr.mapEntry;simp only[Sem.run_bind,run_underlying hm,Result.andThen_ok,rgo h1,hk.check,hf];cases hfi:fi l k 0 with
 | none=>
  rw[hfi]at ha;have he:W3 l k z=l++[(k,z)]:=by rw[W3,hfi]
  refine⟨World.putObj' w r (.map (es.push {key:=kv k,val:=z,born:=clock}) (clock+1)),clock,?_,⟨es.push {key:=kv k,val:=z,born:=clock},clock+1,?_,?_,?_,?_,es.size,{key:=kv k,val:=z,born:=clock},z,?_,rfl,rfl,?_⟩,v8 _ _ _⟩
  ·simp only[Sem.run_bind,hz,Result.andThen_ok,rso _ h1,Sem.run_pure,<- ha,Option.map_none,Option.getD_none];rfl
  ·simp[hl,World.putObj',hr]
  ·rw[he];simp[h2]
  ·simp only[Array.toList_push,List.map_append,List.map_cons,List.map_nil];rw[List.nodup_append];refine⟨h3,by simp,?_⟩;intro a ha b hb;simp at hb;obtain⟨e,he,rfl⟩:=List.mem_map.1 ha;have:=h4 e he;omega
  ·intro e he;simp at he;rcases he with he | rfl
   ·have:=h4 e (by simpa using he);omega
   ·simp
  ·simp
  ·rw[he,b0X k z l 0 hfi,<- hlen];simp
 | some x=>
  obtain⟨j,u⟩:=x;rw[hfi]at ha;have he:W3 l k z=l:=by rw[W3,hfi]
  have hl2:=a2b _ _ _ _ _ hfi;obtain⟨e0,he0⟩:∃e0,es.toList[j]? =some e0:=⟨_,List.getElem?_eq_getElem (by omega)⟩;have he1:es[j]? =some e0:=by simpa using he0
  have hkey:e0.key=kv k:=by
   have h5:=(b0W k l 0 j u hfi).1;rw[Nat.sub_zero]at h5;have hx:(es.toList.map (λe=>(e.key,e.val)))[j]? =(l.map (λx=>(kv x.1,x.2)))[j]?:=by rw[h2]
   rw[List.getElem?_map,List.getElem?_map,he0]at hx;cases hlj:l[j]? with
   | none=>rw[hlj]at hx;simp at hx
   | some y=>
    rw[hlj]at hx h5;simp only[Option.map_some,Option.some.injEq,Prod.mk.injEq]at hx h5;rw[hx.1,h5]
  have hmod:es.modify j (λe=>{e with key:=kv k})=es:=by
   apply Array.toList_inj.1;rw[Array.toList_modify];apply List.ext_getElem?;intro i;rw[List.getElem?_modify]
   by_cases hij:j=i
   ·subst hij;rw[he0];simp only[Option.map_eq_map,Option.map_some,if_true,<- hkey]
   ·simp[hij]
  refine⟨World.putObj' w r (.map (es.modify j λe=>{e with key:=kv k}) clock),e0.born,?_,⟨es,clock,?_,?_,h3,h4,j,e0,u,he0,hkey,rfl,?_⟩,v8 _ _ _⟩
  ·simp only[he1,Option.map_some,Option.getD_some,hkey,Instr.keyThatStays,hk.bits,if_true,Sem.run_bind,Sem.run_pure,Result.andThen_ok,rso _ h1,<- ha];rfl
  ·rw[hmod];simp[hl,World.putObj',hr]
  ·rw[he];exact h2
  ·rw[he];exact hfi
theorem a0a {MT:TypeId} {w:World} {r:Nat} {l:List (KK×Value)} {key:KK} {st:Int} (h:b2P r kv l key st (hl w)) (v:Value):
  ∃w',(Instr.entryStore MT (.map (some r)) (goInt st) v).run P w= .ok () w'/\a6n r kv (H2 l key v) (hl w')/\w.grownBy w' (some r):=by
 obtain⟨es,clock,h1,h2,h3,h4,j,e0,u,he0,hkey,hst,hfi⟩:=h;have hr:r<w.heap.size:=(Array.getElem?_eq_some_iff.1 h1).1;have hmp:=V8 es.toList l key v 0 j u h2 hfi;rw[Nat.sub_zero]at hmp;have hmod:es.modify j (λe=>{e with val:=v})=es.modify j (λe=>{e with key:=kv key,val:=v}):=by
  apply Array.toList_inj.1;rw[Array.toList_modify,Array.toList_modify];apply List.ext_getElem?;intro i;rw[List.getElem?_modify,List.getElem?_modify]
  by_cases hij:j=i
  ·subst hij;rw[he0];simp only[Option.map_eq_map,Option.map_some,if_true,<- hkey]
  ·simp[hij]
 have hidx:es.findIdx? (λe=>((e.born:Nat):Int)==st)=some j:=by
  rw[Go.WideElems.findIdx_arr,<- hst];exact Go.WideElems.findIdx_born h3 he0
 refine⟨World.putObj' w r (.map (es.modify j λe=>{e with val:=v}) clock),?_,⟨es.modify j λe=>{e with val:=v},clock,?_,?_,?_,?_⟩,v8 _ _ _⟩
 ·simp only[Instr.entryStore,Sem.run_bind,rgo h1,Result.andThen_ok,goInt,asInt,asIntOf,Sem.run_pure,hidx,rso _ h1];rfl
 ·simp[hl,World.putObj',hr]
 ·rw[hmod,Array.toList_modify];exact hmp.1
 ·rw[hmod,Array.toList_modify,hmp.2];exact h3
 ·intro e he;have:e.born∈(es.modify j λe=>{e with val:=v}).toList.map (·.born):=List.mem_map_of_mem he;rw[hmod,Array.toList_modify,hmp.2]at this;obtain⟨e',he',hb⟩:=List.mem_map.1 this;have:=h4 e' he';omega
end
section
variable {X : Cx} {P : Program} {K : List KI} {E : Env} {L : List Atom} {N : Nat} {F : HP} {Post : Value → List Atom → Prop} {rs : List ResultVar} {KK : Type} [DecidableEq KK] {kv : KK → Value}
theorem J.mapEntry (hX:IsCx X P rs N F Post) {KT MT ET:TypeId} (hk:KeyOk P KT kv) (hm:P.underlying MT=some (.map KT ET)) {z:Value} (hz:∀w,(zeroValue ET).run P w= .ok z w) {ops:Array Oper} {C:Cl} {lt:Bool} {i:Nat} {t:PT} {o:Oper} {g:G} {x y:Operand} {r:Nat} {l:List (KK×Value)} (key:KK) {k1 k2 t1 t2:Nat} {g1 g2:G} {kvv:Value} {E':Value->Env} (im:Nat)
  (ho:j5 ops.toList i=some o) (hg:gd ops.toList E o=some g) (hgo:g.on=true) (hop:o.op= .mapEntry MT x y) (hx:ev E x=some ⟨k1, .map (some r),t1,g1⟩) (v1:g1.on=true) (hy:ev E y=some ⟨k2,kvv,t2,g2⟩) (v2:g2.on=true) (hkv:kvv=kv key)
  (hL:j5 L im=some (s7 r kv l)) (hd:∀v,v6 N o.dst v 0 .tt E=some (E' v)) {L2:Int->List Atom} (hL2:∀st,r8 L im (b4f r kv (W3 l key z) key st)=some (L2 st)) (hJ:∀st,Conj (l5 lt C (L2 st))/\J X (.reg ops C t::K) (E' (.tuple #[(p6 l key).getD z, .int .i64 st])) (L2 st)):J X (.reg ops C (.alt lt i t .non)::K) E L:=by
 refine J.op hX (S:=λv' L'=>∃st,v'= .tuple #[(p6 l key).getD z, .int .i64 st]/\L'=L.set im (b4f r kv (W3 l key z) key st)) 0 ho hg hgo (λa0 w hen hs=>?_) hd (λv L' ⟨st,e1,e2⟩=>by subst e1;subst e2;rw[<- r7 (hL2 st)];exact hJ st);rw[j4]at hL;have ex:=f7 hen hx;have ey:=f7 hen hy;simp only[Slot.val,v1,v2]at ex ey;rw[hkv]at ey;have hmap:a6n r kv l (hl w):=hs.get hL;obtain⟨w',st,r1,r2,r3⟩:=a1x (P:=P) hk hm hz hmap key;refine⟨_,_, .value _,w',⟨st,rfl,rfl⟩,by simp only[execOp,hop,ex,ey,Sem.run_bind,r1,Result.andThen_ok,Sem.run_pure];rfl, .inl rfl,?_,Ext.grown r3⟩;exact Sep.step hs hL (x:=some r) (x':=some r) (λh g ⟨es,c,h1,_⟩ e=>by injection e with e;subst e;exact⟨_,h1⟩) r3 (.inl rfl) (λh hh=>by
  obtain⟨es,c,h1,h2⟩:=r2;exact⟨es,c,(hh r rfl).trans h1,h2⟩)
theorem J.entryStore (hX:IsCx X P rs N F Post) {MT:TypeId} {ops:Array Oper} {C:Cl} {lt:Bool} {i:Nat} {t:PT} {o:Oper} {g:G} {x y u:Operand} {r:Nat} {l:List (KK×Value)} {key:KK} {st:Int} {k1 k2 k3 t1 t2 t3:Nat} {g1 g2 g3:G} {v:Value} {E':Value->Env} (im:Nat)
  (ho:j5 ops.toList i=some o) (hg:gd ops.toList E o=some g) (hgo:g.on=true) (hop:o.op= .entryStore MT x y u) (hx:ev E x=some ⟨k1, .map (some r),t1,g1⟩) (v1:g1.on=true) (hy:ev E y=some ⟨k2, .int .i64 st,t2,g2⟩) (v2:g2.on=true) (hu:ev E u=some ⟨k3,v,t3,g3⟩) (v3:g3.on=true)
  (hL:j5 L im=some (b4f r kv l key st)) (hd:∀v,v6 N o.dst v 0 .tt E=some (E' v)) {L2:List Atom} (hL2:r8 L im (s7 r kv (H2 l key v))=some L2) (hJ:Conj (l5 lt C L2)/\J X (.reg ops C t::K) (E' undef) L2):J X (.reg ops C (.alt lt i t .non)::K) E L:=by
 refine J.op hX (S:=λv' L'=>v'=undef/\L'=L.set im (s7 r kv (H2 l key v))) 0 ho hg hgo (λa0 w hen hs=>?_) hd (λv L' ⟨e1,e2⟩=>by subst e1;subst e2;rw[<- r7 hL2];exact hJ);rw[j4]at hL;have ex:=f7 hen hx;have ey:=f7 hen hy;have eu:=f7 hen hu;simp only[Slot.val,v1,v2,v3]at ex ey eu;have hent:b2P r kv l key st (hl w):=hs.get hL;obtain⟨w',r1,r2,r3⟩:=a0a (P:=P) (MT:=MT) hent v;refine⟨undef,_, .skip,w',⟨rfl,rfl⟩,by simp only[execOp,hop,ex,ey,eu,Sem.run_bind];rw[show(Value.int IntKind.i64 st)=goInt st from rfl,r1];rfl, .inr ⟨rfl,rfl⟩,?_,Ext.grown r3⟩;exact Sep.step hs hL (x:=some r) (x':=some r) (λh g ⟨es,c,h1,_⟩ e=>by injection e with e;subst e;exact⟨_,h1⟩) r3 (.inl rfl) (λh hh=>by
  obtain⟨es,c,h1,h2⟩:=r2;exact⟨es,c,(hh r rfl).trans h1,h2⟩)
end
abbrev Pg:={l:List UInt8//l.length=32}
def pgk (p:Pg):Value:=pgV p.1
theorem a3k:KeyOk Tryz.prog 176 pgk where
 now:=⟨_,Tryz.underlying176,λ_ _=> .inl rfl⟩
 eq:=λa b w=>by
  have:=x6 100 176 _ a1T 10000 (by omega) (p9 a.1) (p9 b.1) (a0i a.1) (a0i b.1) w;rw[b4e _ _ a.2 b.2,b2q,b2q]at this;have e:decide (a.1=b.1)=decide (a=b):=by
   by_cases h:a=b
   ·simp[h]
   ·have:¬a.1=b.1:=λe=>h (Subtype.ext e);simp[h,this]
  rw[<- e];exact this
 check:=λe a w=>by kernel_rfl
 bits:=λa=>by simp[pgk,p9,byC,bv,Instr.sameBits]
theorem a2K:Tryz.prog.underlying 353=some (.map 176 121):=by kernel_rfl
theorem a2F (w:World):(zeroValue 121).run Tryz.prog w= .ok (.slice none 0 0) w:=by kernel_rfl
def p1:Pg:=⟨[1,0,0,0,0,0,0,0,0,0,0,0,0,0,0,0,0,0,0,0,0,0,0,0,0,0,0,0,0,0,0,0],rfl⟩
def p2:Pg:=⟨[2,0,0,0,0,0,0,0,0,0,0,0,0,0,0,0,0,0,0,0,0,0,0,0,0,0,0,0,0,0,0,0],rfl⟩
def pg3:List Value:=p9 p1.1++(p9 p2.1++p9 p1.1)
def twL (k:Nat) (a b:Option Nat×Nat):List (Pg×Value):=match k with
 | 0=>[]
 | 1=>[(p1,slv a.1 1 a.2)]
 | 2=>[(p1,slv a.1 1 a.2),(p2,slv b.1 1 b.2)]
 | _=>[(p1,slv a.1 2 a.2),(p2,slv b.1 1 b.2)]
def twN (k:Nat):Nat:=match k with | 0=>0 | 1=>1 | 2=>1 | _=>2
def twM (k:Nat):Nat:=match k with | 0=>0 | 1=>0 | _=>1
def twA (k:Nat):List Value:=match k with | 0=>[] | 1=>[iI 0] | 2=>[iI 0] | _=>[iI 0,iI 2]
def twB (k:Nat):List Value:=match k with | 0=>[] | 1=>[] | _=>[iI 1]
def twO (k:Nat) (ga ca:Nat):List Value:=match k with | 0=>[] | _=>[slv (some ga) 2 ca]
theorem b1x (g:Nat):FP 301 [.slice (some ⟨g,0,none⟩) 3 3] [.pt g 176 pg3]
  (λv As=>∃o co a ca,v=slv o 1 co/\As=[c8 121 1 o 1 co [slv a 2 ca],c8 3 1 a 2 ca [iI 0,iI 2]]):=by
 refine FE [2] Tryz.func301 λX F hX=>?_;refine J.q λmm=>?_;refine J.turn1 [2] rfl (As:=[s7 (mm 0) pgk (twL 0 (none,0) (none,0)),c8 3 1 none 0 0 [],c8 3 1 none 0 0 []]) (λh s=>⟨λ_=>0,λi A hA=>by
  match i,hA with
  | 0,hA=>simp at hA;subst hA;exact⟨#[],0,res_some.2 ⟨rfl,s.get (i:=0) rfl⟩,rfl,by simp,by simp⟩
  | 1,hA=>simp at hA;subst hA;exact⟨rfl,rfl,rfl⟩
  | 2,hA=>simp at hA;subst hA;exact⟨rfl,rfl,rfl⟩
  | k+3,hA=>simp at hA⟩) rfl ?_
 refine J.q λ_=>?_;refine J.l (α:=(Nat×(Option Nat×Nat)×(Option Nat×Nat))) (λz=>z.1<=3/\(z.1=0->∀g,z.2.1.1≠some g)/\(z.1<=1->∀g,z.2.2.1≠some g)) (λz=>[si 13 z.1,si 12 3,⟨11, .slice (some ⟨g,0,none⟩) 3 3,2, .tt⟩,⟨0, .slice (some ⟨g,0,none⟩) 3 3,2, .tt⟩,⟨3, .map (some (mm 0)),3, .tt⟩]) [2,3,4] (λz=>[s7 (mm 0) pgk (twL z.1 z.2.1 z.2.2),c8 3 1 z.2.1.1 (twN z.1) z.2.1.2 (twA z.1),c8 3 1 z.2.2.1 (twM z.1) z.2.2.2 (twB z.1)]) (λz=>3-z.1) ((0,(none,0),(none,0))) (⟨by omega,by simp,by simp⟩) λz hI=>?_;obtain⟨k,⟨a,ca⟩,⟨b,cb⟩⟩:=z;dsimp only at hI ⊢;obtain⟨hI0,hI⟩:=hI;rcases(by omega:k=0\/k=1\/k=2\/k=3)with rfl | rfl | rfl | rfl
 ·--0
  refine J.qT λ_=>?_;obtain rfl:a=none:=by cases a with
   | none=>rfl
   | some g=>exact absurd rfl (hI.1 rfl g)
  refine J.know (p:=ca=0) (λh' s=>(s.get (i:=3) rfl).2.2) λhg=>?_;subst hg;refine J.q λ_=>?_;refine J.v (pgk p1) rfl rfl (λhg a w he hw=>i4 tk rfl rfl he rfl rfl rfl (hw.get (i:=1) rfl) rfl rfl) ?_;refine J.q λ_=>?_;refine J.mapEntry hX a3k a2K a2F p1 2 rfl rfl rfl rfl rfl rfl rfl rfl rfl rfl (λ_=>rfl) (λ_=>rfl) λst=>⟨trivial,?_⟩;refine J.q λ_=>?_;refine J.append hX tk (a:=none) (n:=0) (cap:=0) 3 6 0 rfl rfl rfl rfl rfl rfl rfl rfl rfl rfl rfl rfl rfl rfl rfl rfl (by decide) (by decide) (λ_=>rfl) λa2 c2=>⟨_,rfl,trivial,?_⟩;refine J.q λ_=>?_;refine J.entryStore hX 2 rfl rfl rfl rfl rfl rfl rfl rfl rfl rfl rfl (λ_=>rfl) rfl ⟨trivial,?_⟩;refine J.q λ_=>?_;refine J.n ((1,(a2,c2),(b,cb))) (⟨by dsimp only;omega,by simp,λ_=>hI.2 (by omega)⟩) (by dsimp only;omega) [0,1,2,3,4]
 ·--1
  refine J.qT λ_=>?_;obtain rfl:b=none:=by cases b with
   | none=>rfl
   | some g=>exact absurd rfl (hI.2 (by omega) g)
  refine J.know (p:=cb=0) (λh' s=>(s.get (i:=4) rfl).2.2) λhg=>?_;subst hg;refine J.q λ_=>?_;refine J.v (pgk p2) rfl rfl (λhg a w he hw=>i4 tk rfl rfl he rfl rfl rfl (hw.get (i:=1) rfl) rfl rfl) ?_;refine J.q λ_=>?_;refine J.mapEntry hX a3k a2K a2F p2 2 rfl rfl rfl rfl rfl rfl rfl rfl rfl rfl (λ_=>rfl) (λ_=>rfl) λst=>⟨trivial,?_⟩;refine J.q λ_=>?_;refine J.append hX tk (a:=none) (n:=0) (cap:=0) 4 6 0 rfl rfl rfl rfl rfl rfl rfl rfl rfl rfl rfl rfl rfl rfl rfl rfl (by decide) (by decide) (λ_=>rfl) λa2 c2=>⟨_,rfl,trivial,?_⟩;refine J.q λ_=>?_;refine J.entryStore hX 2 rfl rfl rfl rfl rfl rfl rfl rfl rfl rfl rfl (λ_=>rfl) rfl ⟨trivial,?_⟩;refine J.q λ_=>?_;refine J.n ((2,(a,ca),(a2,c2))) (⟨by dsimp only;omega,by simp,by simp⟩) (by dsimp only;omega) [0,1,2,3,4]
 ·--2
  refine J.qT λ_=>?_;refine J.know (λh' s=>f8 (c:=(a,ca)) (by decide) (s.get (i:=3) rfl)) λhg=>?_;obtain⟨ga,rfl⟩:=hg;refine J.q λ_=>?_;refine J.v (pgk p1) rfl rfl (λhg a w he hw=>i4 tk rfl rfl he rfl rfl rfl (hw.get (i:=1) rfl) rfl rfl) ?_;refine J.q λ_=>?_;refine J.mapEntry hX a3k a2K a2F p1 2 rfl rfl rfl rfl rfl rfl rfl rfl rfl rfl (λ_=>rfl) (λ_=>rfl) λst=>⟨trivial,?_⟩;refine J.q λ_=>?_;refine J.append hX tk (a:=(some ga)) (n:=1) (cap:=ca) 3 6 0 rfl rfl rfl rfl rfl rfl rfl rfl rfl rfl rfl rfl rfl rfl rfl rfl (by decide) (by decide) (λ_=>rfl) λa2 c2=>⟨_,rfl,trivial,?_⟩;refine J.q λ_=>?_;refine J.entryStore hX 2 rfl rfl rfl rfl rfl rfl rfl rfl rfl rfl rfl (λ_=>rfl) rfl ⟨trivial,?_⟩;refine J.q λ_=>?_;refine J.n ((3,(a2,c2),(b,cb))) (⟨by dsimp only;omega,by simp,by simp⟩) (by dsimp only;omega) [0,1,2,3,4]
 ·refine J.qF λ_=>?_;refine J.know (λh' s=>f8 (c:=(a,ca)) (by decide) (s.get (i:=3) rfl)) λhg=>?_;obtain⟨ga,rfl⟩:=hg;refine J.know (λh' s=>f8 (c:=(b,cb)) (by decide) (s.get (i:=4) rfl)) λhg=>?_;obtain⟨gb,rfl⟩:=hg;refine J.turn1 [] rfl (As:=[c8 121 1 none 0 0 []]) (λh s=>Sep.one ⟨rfl,rfl,rfl⟩) rfl ?_;refine J.q λ_=>?_;refine J.l (α:=(Nat×Option Nat×Nat)) (λz=>z.1<=3/\(z.1=0->∀g,z.2.1≠some g)) (λz=>[si 29 z.1,si 28 3,⟨27, .slice (some ⟨g,0,none⟩) 3 3,2, .tt⟩,⟨3, .map (some (mm 0)),3, .tt⟩,⟨6,slv z.2.1 (twM (z.1+1)) z.2.2,0, .tt⟩]) [5] (λz=>[c8 121 1 z.2.1 (twM (z.1+1)) z.2.2 (twO z.1 ga ca)]) (λz=>3-z.1) ((0,none,0)) (⟨by omega,by simp⟩) λz hI=>?_;obtain⟨k,o,co⟩:=z;dsimp only at hI ⊢;obtain⟨hI0,hJ⟩:=hI;rcases(by omega:k=0\/k=1\/k=2\/k=3)with rfl | rfl | rfl | rfl
  ·refine J.qT λ_=>?_;refine J.q λ_=>?_;refine J.v (pgk p1) rfl rfl (λhg a w he hw=>i4 tk rfl rfl he rfl rfl rfl (hw.get (i:=1) rfl) rfl rfl) ?_;refine J.q λ_=>?_;refine J.v (slv (some ga) 2 ca) rfl rfl (λhg a w he hw=>?_) ?_
   ·exact(i6 (key:=p1) a3k a2K (z:= .slice none 0 0) a2F rfl rfl rfl rfl he rfl rfl (hw.get (i:=2) rfl)).trans rfl
   refine J.q λ_=>?_;refine J.v (iI 0) rfl rfl (λhg a w he hw=>i5 tk rfl rfl he rfl rfl rfl (hw.get (i:=3) rfl) rfl) ?_;refine J.qT λ_=>?_;obtain rfl:o=none:=by cases o with
    | none=>rfl
    | some g=>exact absurd rfl (hJ rfl g)
   refine J.know (p:=co=0) (λh' s=>(s.get (i:=5) rfl).2.2) λhg=>?_;subst hg;refine J.q λ_=>?_;refine J.append hX tk (a:=none) (n:=0) (cap:=0) 5 7 0 rfl rfl rfl rfl rfl rfl rfl rfl rfl rfl rfl rfl rfl rfl rfl rfl (by decide) (by decide) (λ_=>rfl) λo2 c2=>⟨_,rfl,trivial,?_⟩;refine J.q λ_=>?_;refine J.n ((1,o2,c2)) (⟨by dsimp only;omega,by simp⟩) (by dsimp only;omega) [0,1,2,3,4,5]
  ·refine J.qT λ_=>?_;refine J.q λ_=>?_;refine J.v (pgk p2) rfl rfl (λhg a w he hw=>i4 tk rfl rfl he rfl rfl rfl (hw.get (i:=1) rfl) rfl rfl) ?_;refine J.q λ_=>?_;refine J.v (slv (some gb) 1 cb) rfl rfl (λhg a w he hw=>?_) ?_
   ·exact(i6 (key:=p2) a3k a2K (z:= .slice none 0 0) a2F rfl rfl rfl rfl he rfl rfl (hw.get (i:=2) rfl)).trans rfl
   refine J.q λ_=>?_;refine J.v (iI 1) rfl rfl (λhg a w he hw=>i5 tk rfl rfl he rfl rfl rfl (hw.get (i:=4) rfl) rfl) ?_;refine J.qF λ_=>?_;refine J.q λ_=>?_;refine J.n ((2,o,co)) (⟨by dsimp only;omega,by simp⟩) (by dsimp only;omega) [0,1,2,3,4,5]
  ·refine J.qT λ_=>?_;refine J.q λ_=>?_;refine J.v (pgk p1) rfl rfl (λhg a w he hw=>i4 tk rfl rfl he rfl rfl rfl (hw.get (i:=1) rfl) rfl rfl) ?_;refine J.q λ_=>?_;refine J.v (slv (some ga) 2 ca) rfl rfl (λhg a w he hw=>?_) ?_
   ·exact(i6 (key:=p1) a3k a2K (z:= .slice none 0 0) a2F rfl rfl rfl rfl he rfl rfl (hw.get (i:=2) rfl)).trans rfl
   refine J.q λ_=>?_;refine J.v (iI 0) rfl rfl (λhg a w he hw=>i5 tk rfl rfl he rfl rfl rfl (hw.get (i:=3) rfl) rfl) ?_;refine J.qF λ_=>?_;refine J.q λ_=>?_;refine J.n ((3,o,co)) (⟨by dsimp only;omega,by simp⟩) (by dsimp only;omega) [0,1,2,3,4,5]
  ·refine J.qF λ_=>?_;refine J.qr [5,3] λ_=>?_;exact⟨o,co,some ga,ca,rfl,rfl⟩
theorem b4M {α:Type} {l:List α} {a b:α} (h:l.Perm [a,b]):l=[a,b]\/l=[b,a]:=by
 match l,h.length_eq,h with
 | [x,y],_,h=>
  have hx:=(h.mem_iff (a:=x)).1 (by simp);simp only[List.mem_cons,List.not_mem_nil,or_false]at hx;rcases hx with rfl | rfl
  ·left;have:=(List.perm_cons x).1 h;rw[List.perm_singleton.1 this]
  ·right;have:=(List.perm_cons x).1 (h.trans (List.Perm.swap x a []));rw[List.perm_singleton.1 this]
theorem b1R (a:ByteArray) (w:World) (o1 o2:Operand):(do eqGuard .eql 9 o1 o2 (.string a) (.string a);binOp .eql 9 (.string a) (.string a):Sem Value).run Tryz.prog w= .ok (.bool true) w:=by
 have hu:Tryz.prog.underlying 9=some .string:=by kernel_rfl
 simp[eqGuard,binOp,Op.stringOp,a2d,Op.equalIn,d4 hu]
theorem a7D {E:Env} {n:Nat} {a:Act} {w:World} {o:Oper} {x y:Operand} {k1 k2 u1 u2 t2:Nat} {g1 g2:G} {s1:ByteArray} (hop:o.op= .binOp .eql 9 x y t2) (hx:ev E x=some ⟨k1, .string s1,u1,g1⟩) (hy:ev E y=some ⟨k2, .string s1,u2,g2⟩) (he:EnvOK n E a) (v1:g1.on=true) (v2:g2.on=true):
  (execOp a.eval o).run Tryz.prog w= .ok (.value (.bool true)) w:=by
 have ex:=f7 he hx;have ey:=f7 he hy;simp only[Slot.val,v1,v2]at ex ey;have h:=b1R s1 w x y;simp only[execOp,hop,ex,ey];simp only[Sem.run_bind]at h ⊢;rw[h];rfl
def sX:Value:= .string ⟨#[120]⟩
def sY:Value:= .string ⟨#[121]⟩
def sL:List (A3×Value):=[((1,2,3),sX),((0,9,9),sY)]
theorem b1T {l:List A3} (h:l.Perm [((1:Int),(2:Int),(3:Int)),(0,9,9)]):S8 a0N l=[(0,9,9),(1,2,3)]:=by
 rcases b4M h with rfl | rfl<;>decide
theorem b0p:FP 292 [] [] (Ps (.bool true) []):=by
 refine FE [] Tryz.func292 λX F hX=>?_;refine J.qc (b4F) [] λ_=>?_;rintro v As ⟨q,rfl,rfl⟩;refine⟨_,rfl,trivial,?_⟩;refine J.qF λ_=>?_;refine J.qp (b3e q [] 1 2 3 ⟨#[120]⟩) [1] λ_=>?_;refine J.qp (b3e q [((1,2,3),sX)] 0 9 9 ⟨#[121]⟩) [1] λ_=>?_;refine J.qp (b3f q sL 1 2 3) [1] λ_=>?_;rw[show(p6 sL (1,2,3)).getD sE=sX from rfl,show(p6 sL (1,2,3)).isSome=true from rfl];refine J.qc (b3g q sL (by decide)) [1] λ_=>?_;rintro v As ⟨a,cap,l0,l',hp,hl',rfl,rfl⟩;refine⟨_,rfl,trivial,?_⟩;obtain rfl:l'=[(0,9,9),(1,2,3)]:=hl'.trans (b1T hp);refine J.know (λh' s=>f8 (c:=(a,cap)) (by decide) (s.get (i:=2) rfl)) λhg=>?_;obtain⟨ga,rfl⟩:=hg;refine J.q λbp=>?_;refine J.cb (b1x (bp 0)) [3] ?_;rintro v As ⟨o,co,a2,c2,rfl,rfl⟩;refine⟨_,rfl,trivial,?_⟩;refine J.know (λh' s=>f8 (c:=(o,co)) (by decide) (s.get (i:=3) rfl)) λhg=>?_;obtain⟨go,rfl⟩:=hg;refine J.know (λh' s=>f8 (c:=(a2,c2)) (by decide) (s.get (i:=4) rfl)) λhg=>?_;obtain⟨g2,rfl⟩:=hg;refine J.q λ_=>?_;refine J.v (.bool true) rfl rfl (λhg a w he hw=>(a7D rfl rfl rfl he rfl rfl).trans rfl) ?_;refine J.qp (b4G q sL) [1] λ_=>?_;refine J.q λ_=>?_;refine J.v (iI 0) rfl rfl (λhg a w he hw=>i5 tk rfl rfl he hg rfl rfl (hw.get (i:=2) rfl) rfl) ?_;refine J.qc (b1P q sL (by decide) 1 2) [1] λ_=>?_;rintro v As ⟨a3,c3,l3,hp3,rfl,rfl⟩;refine⟨_,rfl,trivial,?_⟩;have h3:l3.length=1:=hp3.length_eq.trans rfl;rw[h3];refine J.q λ_=>?_;refine J.v (H3 (0,9,9)) rfl rfl (λhg a w he hw=>j6 tk rfl rfl he hg rfl rfl (hw.get (i:=2) rfl) rfl rfl) ?_;refine J.qp (a9h q sL 0 9 9) [1] λ_=>?_;rw[show(p6 sL (0,9,9)).isSome=true from rfl,show W4 sL (0,9,9)=[((1,2,3),sX)]from rfl];refine J.q λ_=>?_;refine J.v (H3 (0,9,9)) rfl rfl (λhg a w he hw=>j6 tk rfl rfl he hg rfl rfl (hw.get (i:=2) rfl) rfl rfl) ?_;refine J.qp (a9h q [((1,2,3),sX)] 0 9 9) [1] λ_=>?_;rw[show(p6 [(((1:Int),(2:Int),(3:Int)),sX)] (0,9,9)).isSome=false from rfl];refine J.q λ_=>?_;refine J.v (slv (some g2) 2 c2) rfl rfl (λhg a w he hw=>i5 tk rfl rfl he hg rfl rfl (hw.get (i:=3) rfl) rfl) ?_;refine J.q λ_=>?_;refine J.v (slv (some g2) 2 c2) rfl rfl (λhg a w he hw=>i5 tk rfl rfl he hg rfl rfl (hw.get (i:=3) rfl) rfl) ?_;refine J.q λ_=>?_;refine J.v (iI 2) rfl rfl (λhg a w he hw=>i5 tk rfl rfl he hg rfl rfl (hw.get (i:=4) rfl) rfl) ?_;exact J.qx []
theorem b0q:FP 284 [] [] (Ps (.bool true) []):=by
 refine FE [] Tryz.func284 λX F hX=>?_;refine J.qp (b0p) [] λ_=>?_;exact J.qx []
def b4R:List Lk:=lvD++[.int .i64, .int .i64, .int .i64, .int .i64, .int .i64, .int .i64, .int .i64]
theorem b0h:s8 Tryz.prog 100 219=some b4R:=by kernel_rfl
theorem b0U (s:Sh):Fits b4R (shL s):=Fits.append (J0 s.data) (show Fits [.int .i64, .int .i64, .int .i64, .int .i64, .int .i64, .int .i64, .int .i64] [.int .i64 s.role, .int .i64 s.lpn, .int .i64 s.seq, .int .i64 s.kind, .int .i64 s.block, .int .i64 s.row, .int .i64 s.mask]from⟨rfl,rfl,rfl,rfl,rfl,rfl,rfl,trivial⟩)
theorem b5i (zs:List Value):mkV Tryz.prog 219 zs= .agg zs.toArray:=by simp[mkV,Tryz.underlying219]
theorem b5m:Tryz.prog.eqGuardType Tryz.prog.depth 219=false:=by kernel_rfl
theorem b5n (x y:Sh) (hx:x.data.length=16) (hy:y.data.length=16):g7 (shL x) (shL y)=decide (x=y):=by
 have h1:shL x=j8 x.data++[.int .i64 x.role, .int .i64 x.lpn, .int .i64 x.seq, .int .i64 x.kind, .int .i64 x.block, .int .i64 x.row, .int .i64 x.mask]:=rfl;have h2:shL y=j8 y.data++[.int .i64 y.role, .int .i64 y.lpn, .int .i64 y.seq, .int .i64 y.kind, .int .i64 y.block, .int .i64 y.row, .int .i64 y.mask]:=rfl;rw[h1,h2,x7 (a:=j8 x.data) (c:=j8 y.data) rfl,eqD _ _ hx hy];obtain⟨d,r,l,s,k,b,ro,m⟩:=x;obtain⟨d',r',l',s',k',b',ro',m'⟩:=y;rw[Bool.eq_iff_iff];simp[g7,T9,Sh.mk.injEq]
def b4T:List Lk:=[.int .i64, .int .i64, .int .i64]++lvD
theorem a5o:s8 Tryz.prog 100 135=some b4T:=by kernel_rfl
theorem a4m (e:En):Fits b4T (enL e):=Fits.append (show Fits [.int .i64, .int .i64, .int .i64] [.int .i64 e.lpn, .int .i64 e.seq, .int .i64 e.role]from⟨rfl,rfl,rfl,trivial⟩) (J0 e.data)
theorem b4Q (zs:List Value):mkV Tryz.prog 135 zs= .agg zs.toArray:=by simp[mkV,Tryz.underlying135]
theorem b4X:Tryz.prog.eqGuardType Tryz.prog.depth 135=false:=by kernel_rfl
theorem b5b (x y:En) (hx:x.data.length=16) (hy:y.data.length=16):g7 (enL x) (enL y)=true↔x=y:=by
 have h1:enL x=[.int .i64 x.lpn, .int .i64 x.seq, .int .i64 x.role]++j8 x.data:=rfl;have h2:enL y=[.int .i64 y.lpn, .int .i64 y.seq, .int .i64 y.role]++j8 y.data:=rfl;rw[h1,h2,x7 (a:=[.int .i64 x.lpn, .int .i64 x.seq, .int .i64 x.role]) (c:=[.int .i64 y.lpn, .int .i64 y.seq, .int .i64 y.role]) rfl,eqD _ _ hx hy];obtain⟨l,s,r,d⟩:=x;obtain⟨l',s',r',d'⟩:=y;simp[g7,T9,En.mk.injEq,and_assoc]
section
variable {X : Cx} {P : Program} {T : Tab} {K : List KI} {E : Env} {L : List Atom} {N : Nat} {F : HP} {Post : Value → List Atom → Prop} {rs : List ResultVar}
theorem J.effG (hX:IsCx X P rs N F Post) (hT:TabOK P T) {ops:Array Oper} {C:Cl} {lt:Bool} {i:Nat} {t:PT} {o:Oper} {g:G} {v:Nat->Value} {tag:Nat} {L':Nat->List Atom} {ob:List Prop} {E':Value->Env}
  (ho:j5 ops.toList i=some o) (hg:gd ops.toList E o=some g) (hgo:g.on=true) (hef:∀x:Nat,eff T (λ_=>x) E L 0 o.op=some ⟨v x,tag,L' x,ob,1⟩) (hob:Conj ob)
  (hd:∀v,v6 N o.dst v tag .tt E=some (E' v)) (hJ:∀x,Conj (l5 lt C (L' x))/\J X (.reg ops C t::K) (E' (v x)) (L' x)):J X (.reg ops C (.alt lt i t .non)::K) E L:=by
 refine J.op hX (S:=λv' L2=>∃x,v'=v x/\L2=L' x) tag ho hg hgo (λa0 w hen hs=>?_) hd (λv' L2 ⟨x,e1,e2⟩=>by subst e1;subst e2;exact hJ x);obtain⟨nv,w',r1,r2,r3,r4⟩:=a7j (P:=P) hT hen (hef w.heap.size) hob hs (.inr rfl);exact⟨v w.heap.size,L' w.heap.size,nv,w',⟨w.heap.size,rfl,rfl⟩,r1,r2,r3,r4⟩
end
end Go.Proofs.YtpohajhbfllbbaaGreat
namespace Go.Proofs.YtpohajhbfllbbaaGreat
open Go Go.RowKit
def pgB (a b:UInt8):List UInt8:=[a,b,0,0,0,0,0,0,0,0,0,0,0,0,0,0,0,0,0,0,0,0,0,0,0,0,0,0,0,0,0,0]
namespace B7
def N0:Nand:=Nand.new 3 8 2
def N1:Nand:=N0.progN 1 0 0 (pgB 7 0)
def N2:Nand:=N1.progN 1 0 0 (pgB 8 0)
def N3:Nand:=(N2.fault 3 1 0 0 0 0).2
def N4:Nand:=N3.eraseN 1 0
def N5:Nand:=N4.setCut 0 1
def N6:Nand:=N5.progN 1 0 0 (pgB 5 6)
def N7:Nand:=N6.onN
def N8:Nand:=(N7.fault 4 2 0 0 0 0).2
theorem G0:N0.Gd 100 0:=Nand.Gd.new 3 8 2 rfl 100 (by decide)
theorem G1:N1.Gd 99 0:=G0.prog 1 0 0 _ rfl
theorem G2:N2.Gd 98 0:=G1.prog 1 0 0 _ rfl
theorem G3:N3.Gd 98 0:=G2.fault0 3 1 0 0 0 0 (by decide)
theorem G4:N4.Gd 97 0:=G3.erase 1 0
theorem G5:N5.Gd 97 0:=G4.cut 0 1 (by decide) (by decide)
theorem G6:N6.Gd 96 0:=G5.prog 1 0 0 _ rfl
theorem G7:N7.Gd 96 0:=G6.on
theorem G8:N8.Gd 96 0:=G7.fault0 4 2 0 0 0 0 (by decide)
end B7
open B7
theorem b2p:FP 34 [.agg #[iI 0,iI 0,iI 0]] [] (Ps (.pointer none) []):=by
 refine FE [0] Tryz.func34 λX F hX=>?_;refine J.q λg1=>?_;refine J.cb (a0D 0 0 0) [] ?_;refine cpq ⟨_,rfl,trivial,?_⟩;rw[show m7 0 0 0=false from rfl];refine J.qT λ_=>?_;exact J.qx []
theorem b0n:FP 274 [] [] (Ps (.bool true) []):=by
 refine FE [] Tryz.func274 λX F hX=>?_;refine J.qc (a3a 3 8 2 rfl) [] λ_=>?_;rintro v As ⟨q,rfl,rfl⟩;refine⟨_,rfl,trivial,?_⟩;refine J.qp (b2p) [] λ_=>?_;refine J.qF λ_=>?_;refine J.p (.of [0,5,8,16,21,24,14,31,32,36]) [7,8,9] [3] λ_=>?_;refine J.qp (U5 q N0 G0.ok G0.room 1 0 0 (pgB 7 0) rfl) [2] λ_=>?_;rw[show N0.progE 1 0 0=0 from by kernel_rfl];refine J.qp (U5 q N1 G1.ok G1.room 1 0 0 (pgB 8 0) rfl) [2] λ_=>?_;rw[show N1.progE 1 0 0=4 from by kernel_rfl];refine J.qp (a1K q N2 G2.ok 1 0 0) [2] λ_=>?_;rw[show N2.readE 1 0 0=0 from by kernel_rfl,show N2.readV 1 0 0=pgB 7 0 from by kernel_rfl];refine J.qp (a1K q N2 G2.ok 2 0 0) [2] λ_=>?_;rw[show N2.readE 2 0 0=5 from by kernel_rfl];refine J.qp (O5 q N2 G2.ok 0 3 1 0 0 0 0) [2] λ_=>?_;rw[show(N2.fault 3 1 0 0 0 0).1=true from by kernel_rfl];refine J.qp (a1K q N3 G3.ok 1 0 0) [2] λ_=>?_;rw[show N3.readE 1 0 0=6 from by kernel_rfl];refine J.qp (a6Y q N3 G3.ok G3.room G3.nodup (Nat.le_trans G3.few (by decide)) 1 0) [2] λ_=>?_;rw[show N3.eraseE 1 0=0 from by kernel_rfl];refine J.qp (a3b q N4 0 1) [2] λ_=>?_;refine J.qp (U5 q N5 G5.ok G5.room 1 0 0 (pgB 5 6) rfl) [2] λ_=>?_;rw[show N5.progE 1 0 0=9 from by kernel_rfl];refine J.qp (a7W q N6) [2] λ_=>?_;refine J.qp (a1K q N7 G7.ok 1 0 0) [2] λ_=>?_;rw[show N7.readE 1 0 0=0 from by kernel_rfl,show N7.readV 1 0 0=Nand.fillP 1 (pgB 5 6)from by kernel_rfl];refine J.q λbf=>?_;refine J.cb (b4K (bf (0+1))) [8] ?_;rintro v As ⟨p,a,c,rfl,rfl⟩;refine⟨_,rfl,trivial,?_⟩;refine J.know (λh' s=>f8 (c:=(a,c)) (by decide) (s.get (i:=9) rfl)) λhg=>?_;obtain⟨g,rfl⟩:=hg;refine J.qp (b0q) [] λ_=>?_;refine J.qp (a5s) [] λ_=>?_;refine J.qp (a5c q N7) [2] λ_=>?_;rw[show N7.broken=1 from by kernel_rfl];refine J.q λ_=>?_;refine J.v (.bool true) rfl rfl (λhg a w he hw=>(t7 (xs:=p9 (pgB 7 0)) (ys:=p9 (pgB 7 0)) rfl rfl rfl he hg rfl a1T (a0i _) (a0i _) b2q b4W).trans (by rw[b4e _ _ rfl rfl];simp)) ?_;refine J.qp (a9Y q N7) [2] λ_=>?_;rw[show N7.ops=3 from by kernel_rfl];refine J.qp (a6l q N7 G7.ok 1 0) [2] λ_=>?_;rw[show N7.wornAt 1 0=1 from by kernel_rfl];refine J.qp (a9Z q N7 G7.ok 1 0) [2] λ_=>?_;rw[show N7.next 1 0=1 from by kernel_rfl];refine J.qp (b3E p (some ⟨g,0,none⟩) 1 c) [8] λ_=>?_;refine J.qp (b4J p g c q N7 G7.ok (by kernel_rfl)) [8,9,2] λ_=>?_;refine J.qp (a1L q N8 G8.ok 2) [2] λ_=>?_;rw[show N8.deadAt 2=true from by kernel_rfl];refine J.q λ_=>?_;refine J.effG hX tk rfl rfl rfl (λ_=>rfl) (by(repeat' (first | exact Conj.nil | refine Conj.cons ?_ ?_ | omega | exact hq0 | (simpa using hq0) | (exactλh=>h) | exact rfl | (intro hq;have hq0:=hq;try simp only[Bool.and_eq_true,Bool.or_eq_true,decide_eq_true_eq,Bool.not_eq_true',decide_eq_false_iff_not]at hq) | (simp;done) | (simp;omega) | decide))) (λ_=>rfl) λbg=>⟨trivial,?_⟩;refine J.qp (b3F bg) [10] λ_=>?_;exact J.qx []
theorem a5r:FP 270 [] [] (Ps (.bool true) []):=by
 refine FE [] Tryz.func270 λX F hX=>?_;refine J.qp (b0n) [] λ_=>?_;exact J.qx []
end Go.Proofs.YtpohajhbfllbbaaGreat
namespace Go.Proofs.YtpohajhbfllbbaaGreat
open Go Go.RowKit
theorem a8I (x:Int):FP 295 [.int .u8 x] [] (Ps (.bool (x !=255)) []):=by
 refine FE [0] Tryz.func295 λX F hX=>?_;exact J.qx []
theorem b1u (b:Nat) (p:List UInt8) (h:(((p.getD 0 0).toNat:Int) !=255)=true):FP 307 [.slice (some ⟨b,0,none⟩) 32 32, .func (.func 295) #[] #[]] [.pt b 176 (p9 p)] (Ps (iI 0) []):=by
 refine FE [2,0] Tryz.func307 λX F hX=>?_;refine J.q λ_=>?_;refine J.l (α:=Nat) (λk=>k=0) (λk=>[si 8 0,si 7 32,⟨0, .slice (some ⟨b,0,none⟩) 32 32,2, .tt⟩,⟨1, .func (.func 295) #[] #[],0, .tt⟩]) [] (λk=>[]) (λk=>0) (0) (rfl) λk hI=>?_;refine J.qT λ_=>?_;refine J.q λ_=>?_;refine J.v (byC p 0) rfl rfl (λhg a w he hw=>f9 tk rfl rfl he rfl rfl rfl (hw.get (i:=1) rfl) rfl) ?_;refine J.qp (a8I ((p.getD 0 0).toNat:Int)) [] λ_=>?_;rw[h];refine J.qT λ_=>?_;exact J.qx []
theorem a5O (b:Nat) (p:List UInt8) (h:(((p.getD 0 0).toNat:Int) !=255)=true):FP 294 [.slice (some ⟨b,0,none⟩) 32 32, .func (.func 295) #[] #[]] [.pt b 176 (p9 p)] (Ps (.bool true) []):=by
 refine FE [2,0] Tryz.func294 λX F hX=>?_;refine J.qp (b1u b p h) [1] λ_=>?_;exact J.qx []
theorem b1v (p:List UInt8) (h:(((p.getD 0 0).toNat:Int) !=255)=true):FP 288 [pgV p] [] (Ps (.bool false) []):=by
 refine FE [0] Tryz.func288 λX F hX=>?_;refine J.q λbb=>?_;refine J.cb (a5O (bb 0) p h) [1] ?_;refine cpq ⟨_,rfl,trivial,?_⟩;exact J.qx []
namespace B9
def e:En:=⟨3,9,1,[1,2,0,0,0,0,0,0,0,0,0,0,0,0,0,0]⟩
def pad:En:=⟨0,0,3,zeros16⟩
def a:Sh:=W.sh 2 1 7 e
def b:Sh:=W.sh 2 1 7 pad
def p:Sh:=W.par 2 1 7 [e,pad]
def pg:List UInt8:=H6 a
theorem h_a:W.own 2 1 7 e=a:=by kernel_rfl
theorem h_a2:W.ok 2 1 7 e=true:=by kernel_rfl
theorem h_b:W.own 2 1 7 pad=b:=by kernel_rfl
theorem h_b2:W.ok 2 1 7 pad=true:=by kernel_rfl
theorem h_p2:W.parB 2 1 7 [e,pad]=true:=by kernel_rfl
theorem h_pl:p.data.length=16:=by kernel_rfl
theorem h_m:S.may a=true:=by kernel_rfl
theorem h_g:S.getV pg=a:=by kernel_rfl
theorem h_g2:S.getE pg=0:=by kernel_rfl
theorem h_z2:S.getE O1=1:=by kernel_rfl
theorem h_k:W.back p [b]=e:=by kernel_rfl
theorem h_k2:W.backB p [b]=true:=by kernel_rfl
theorem h_meta:S.meta_ 2 5 77=144120685633994829:=by kernel_rfl
theorem h_mp:S.may p=true:=by kernel_rfl
theorem h_mz:S.may Sh.zero=false:=by kernel_rfl
theorem h_bl:(((pg.getD 0 0).toNat:Int) !=255)=true:=by kernel_rfl
theorem h_pgl:pg.length=32:=R5 a rfl
end B9
open B9
theorem b0m:FP 275 [] [] (Ps (.bool true) []):=by
 refine FE [] Tryz.func275 λX F hX=>?_;refine J.qp (a4H 2 1 7 e rfl) [] λ_=>?_;rw[h_a,h_a2];refine J.qp (a4H 2 1 7 pad rfl) [] λ_=>?_;rw[h_b,h_b2];refine J.q λb1=>?_;refine J.ca hX (by kernel_rfl) (a4G 2 1 7 (.pt (b1 (0+1)) 135 (c9 [e,pad])) (some ⟨b1 (0+1),0,none⟩) 2 2 [e,pad] (Q3 _ _ _ _ _ rfl) rfl (by decide)) [5] 0 rfl rfl rfl rfl rfl rfl (λ_=>rfl) ?_;refine cpq ⟨_,rfl,trivial,?_⟩;rw[show W.par 2 1 7 [e,pad]=p from rfl,h_p2];refine J.qp (b0K a rfl) [] λ_=>?_;rw[show H6 a=pg from rfl,h_m];refine J.qp (b0M pg h_pgl) [] λ_=>?_;rw[h_g,h_g2];refine J.qp (b0M O1 rfl) [] λ_=>?_;rw[h_z2];refine J.q λb2=>?_;refine J.cO 219 23 1 1 (j3 [b]) 10 ?_;refine J.qp (a8S p h_pl (some (b2 (0+1))) 1 1 [b] rfl (by decide) (by decide)) [10] λ_=>?_;rw[h_k,h_k2];refine J.qp (b0L 2 5 77) [] λ_=>?_;rw[h_meta];refine J.qp (b3Z 144120685633994829 (by decide)) [] λ_=>?_;refine J.qp (a5s) [] λ_=>?_;refine J.q λ_=>?_;refine J.v (.bool true) rfl rfl (λhg x w he hw=>(t7 (xs:=shL a) (ys:=shL a) rfl rfl rfl he hg rfl b0h (b0U _) (b0U _) b5i b5m).trans (by rw[b5n _ _ rfl rfl];simp)) ?_;refine J.q λ_=>?_;refine J.v (.bool true) rfl rfl (λhg x w he hw=>(t7 (xs:=enL e) (ys:=enL e) rfl rfl rfl he hg rfl a5o (a4m _) (a4m _) b4Q b4X).trans (by rw[(b5b _ _ rfl rfl).2 rfl])) ?_;refine J.qp (a3o p h_pl) [] λ_=>?_;rw[h_mp];refine J.qp (a3o Sh.zero rfl) [] λ_=>?_;rw[h_mz];refine J.qp (b1v pg h_bl) [] λ_=>?_;refine J.qr [] λ_=>?_;exact⟨by kernel_rfl,rfl⟩
theorem a5q:FP 271 [] [] (Ps (.bool true) []):=by
 refine FE [] Tryz.func271 λX F hX=>?_;refine J.qp (b0m) [] λ_=>?_;exact J.qx []
end Go.Proofs.YtpohajhbfllbbaaGreat
namespace Go.Proofs.YtpohajhbfllbbaaGreat
open Go Go.RowKit
namespace B11
def N0:Nand:=Nand.new 3 8 2
def N1:Nand:=(R.write N0 1 0 7 [B9.e,B9.pad]).1
def N2:Nand:=(N1.fault 4 0 0 0 0 0).2
def fn:Fnd:=⟨B9.e,1,0,0,7,true,true⟩
theorem G0:N0.Gd 100 0:=Nand.Gd.new 3 8 2 rfl 100 (by decide)
theorem G1:N1.Gd 92 0:=W6 (by decide) G0
theorem G2:N2.Gd 92 0:=G1.fault0 4 0 0 0 0 0 (by decide)
theorem h_w:(R.write N0 1 0 7 [B9.e,B9.pad]).2=(0,0):=by kernel_rfl
theorem h_l1:(M.look N1 0 1 0).2=1:=by kernel_rfl
theorem h_l2:(M.look N1 0 1 0).1.lpn=3:=by kernel_rfl
theorem h_l3:(M.look N1 0 2 0).2=2:=by kernel_rfl
theorem h_r:R.read N2 1 0 0 7=(B9.e,0):=by kernel_rfl
theorem h_a:R.all N2 1 0=[fn]:=by kernel_rfl
theorem h_m:M.masks N2 1 0=[7]:=by kernel_rfl
end B11
open B11
theorem a8g:FP 259 [] [] (Ps (.bool true) []):=by
 refine FE [] Tryz.func259 λX F hX=>?_;refine J.q λb1=>?_;refine J.cb (a3a 3 8 2 rfl) [] ?_;rintro v As ⟨q,rfl,rfl⟩;refine⟨_,rfl,trivial,?_⟩;refine J.qF λ_=>?_;refine J.q λb1=>?_;refine J.ca hX (by kernel_rfl) (a0V q N0 (.pt (b1 (0+1)) 135 (c9 [B9.e,B9.pad])) 1 0 7 (some ⟨b1 (0+1),0,none⟩) 2 2 0 [B9.e,B9.pad] (Q3 _ _ _ _ _ rfl) rfl (by decide) (G0.less (by decide) (Nat.le_refl _))) [1,3] 0 rfl rfl rfl rfl rfl rfl (λ_=>rfl) ?_;refine cpq ⟨_,rfl,trivial,?_⟩;rw[h_w];refine J.qp (a0c q N1 G1.ok G1.room 0 1 0) [1] λ_=>?_;rw[h_l1];refine J.qp (a0c q N1 G1.ok G1.room 0 2 0) [1] λ_=>?_;rw[h_l3];refine J.qp (O5 q N1 G1.ok 0 4 0 0 0 0 0) [1] λ_=>?_;refine J.qp (a3W q N2 G2.ok G2.room 1 0 0 7 (by decide) (by decide)) [1] λ_=>?_;rw[h_r];refine J.qc (b3i q N2 G2.ok G2.room 1 0) [1] λ_=>?_;rintro v As ⟨a,c,rfl,rfl⟩;refine⟨_,rfl,trivial,?_⟩;rw[h_a];refine J.know (λh' s=>f8 (c:=(a,c)) (by decide) (s.get (i:=7) rfl)) λhg=>?_;obtain⟨ga,rfl⟩:=hg;refine J.qp (a5r) [] λ_=>?_;refine J.qp (a5q) [] λ_=>?_;refine J.q λ_=>?_;rw[h_l2];refine J.v (.bool true) rfl rfl (λhg x w he hw=>(t7 (xs:=enL B9.e) (ys:=enL B9.e) rfl rfl rfl he hg rfl a5o (a4m _) (a4m _) b4Q b4X).trans (by rw[(b5b _ _ rfl rfl).2 rfl])) ?_;refine J.q λ_=>?_;refine J.v (.bool true) rfl rfl (λhg x w he hw=>i5 tk rfl rfl he hg rfl rfl (hw.get (i:=7) rfl) rfl) ?_;refine J.q λ_=>?_;refine J.v (.bool true) rfl rfl (λhg x w he hw=>i5 tk rfl rfl he hg rfl rfl (hw.get (i:=7) rfl) rfl) ?_;refine J.q λ_=>?_;refine J.v (iI 7) rfl rfl (λhg x w he hw=>i5 tk rfl rfl he hg rfl rfl (hw.get (i:=7) rfl) rfl) ?_;refine J.qc (a7b q N2 G2.ok G2.room 1 0) [1] λ_=>?_;rintro v As ⟨a2,c2,rfl,rfl⟩;refine⟨_,rfl,trivial,?_⟩;rw[h_m];exact J.qx []
end Go.Proofs.YtpohajhbfllbbaaGreat
namespace Go.Proofs.YtpohajhbfllbbaaGreat
open Go Go.RowKit
theorem a6K (a:Int) (n:Int) (hn:0<n): -n<a.tmod n/\a.tmod n<n:=by
 refine⟨?_,Int.tmod_lt_of_pos a hn⟩;obtain⟨k,rfl | rfl⟩:=Int.eq_nat_or_neg a
 ·have:=Int.tmod_nonneg (a:=(k:Int)) n (by omega);omega
 ·rw[Int.neg_tmod];have:=Int.tmod_lt_of_pos (k:Int) hn;omega
theorem b3A (a:Int) (n:Int) (hn:0<n):0<=(a.tmod n+n).tmod n/\(a.tmod n+n).tmod n<n:=by
 have:=a6K a n hn;exact⟨Int.tmod_nonneg _ (by omega),Int.tmod_lt_of_pos _ hn⟩
theorem b3U (a b c:Int):FP 9 [iI a,iI b,iI c] [] (λv As=>∃D B P:Nat,v= .agg #[iI D,iI B,iI P]/\(3<=D/\D<=6)/\(8<=B/\B<=16)/\(2<=P/\P<=8)/\As=[]):=by
 have a1:=a6K a 4 (by decide);have a2:=b3A a 4 (by decide);have b1:=a6K b 9 (by decide);have b2:=b3A b 9 (by decide);have c1:=a6K c 7 (by decide);have c2:=b3A c 7 (by decide);refine FE [0,0,0] Tryz.func9 λX F hX=>?_;refine J.q λb1=>?_;refine J.ru hX [] ?_;obtain⟨D,hD⟩:=Int.eq_ofNat_of_zero_le a2.1;obtain⟨B,hB⟩:=Int.eq_ofNat_of_zero_le b2.1;obtain⟨P,hP⟩:=Int.eq_ofNat_of_zero_le c2.1;refine⟨3+D,8+B,2+P,?_,by omega,by omega,by omega,rfl⟩;rw[hD,hB,hP,Int.natCast_add,Int.natCast_add,Int.natCast_add];rfl
namespace B13
def e1:En:={En.zero with lpn:=4,seq:=7,role:=1}
def e2:En:={En.zero with lpn:=4,seq:=6,role:=1}
def e3:En:={En.zero with lpn:=10,seq:=9,role:=1}
def T0:Tb:=⟨10,[],[],1⟩
def T1:Tb:=⟨10,[(4,⟨2,1,0,7,7,1⟩)],[(2,1)],8⟩
def t0:Tl:=Tl.new 3 8 2
def t1:Tl:=⟨3,8,2,⟨3,0,false,false⟩::List.replicate 7 Sb.zero,0⟩
def t2:Tl:=⟨3,8,2,[⟨3,0,false,false⟩,Sb.zero,⟨0,2,false,false⟩,Sb.zero,Sb.zero,Sb.zero,Sb.zero,Sb.zero],0⟩
theorem h0:Tb.new 10=T0:=by kernel_rfl
theorem h1:Tb.put T0 e1 2 1 0 7=T1:=by kernel_rfl
theorem h2:Tb.put T1 e2 0 0 0 7=T1:=by kernel_rfl
theorem h3:Tb.put T1 e3 0 0 0 7=T1:=by kernel_rfl
theorem p1:Tb.putB T0 e1=true:=by kernel_rfl
theorem p2:Tb.putB T1 e2=false:=by kernel_rfl
theorem p3:Tb.putB T1 e3=false:=by kernel_rfl
theorem w1:t0.wore 0 3=t1:=by kernel_rfl
theorem w2:t1.bad 1 2=t2:=by kernel_rfl
theorem c0 (k:Int):0<=T0.count k/\T0.count k<=1000000:=by
 have:T0.count k=0:=rfl;rw[this];omega
theorem c1 (k:Int):0<=T1.count k/\T1.count k<=1000000:=by
 have:T1.count k=(if k=2 then some (1:Int)else none).getD 0:=rfl;rw[this];split<;>simp
theorem o1:A4 (λx y=>s4 (t2.wear x) (t2.wear y)) (g5 (s5 t2 T1) (-1) t2.b)=1:=by kernel_rfl
theorem o2:A4 (λx y=>orI [s4 (T1.count x) (T1.count y),s4 (t2.wear x) (t2.wear y)]) (g5 (L4 t2 T1) (-1) t2.b)=2:=by kernel_rfl
theorem o3:(g5 (s5 t2 T1) (-1) t2.b).length=7:=by kernel_rfl
theorem o4:g5 (s9 t2 T1) (-1) t2.b=[]:=by kernel_rfl
theorem o5:g5 (I0 t2 T1) (-1) t2.b=[2]:=by kernel_rfl
theorem o6:T1.ins 2=[4]:=by kernel_rfl
theorem o7:t2.mask 2=5:=by kernel_rfl
theorem o8:t2.usable 2=true:=by kernel_rfl
theorem o9:t2.alive=7:=by kernel_rfl
theorem o10:t2.wear 0=3:=by kernel_rfl
theorem o11:t2.blank 3=true:=by kernel_rfl
theorem o12:T1.count 2=1:=by kernel_rfl
end B13
theorem a8e:FP 260 [] [] (Ps (.bool true) []):=by
 refine FE [] Tryz.func260 λX F hX=>?_;refine J.qc (a5U 10) [] λ_=>?_;rintro v As ⟨r,rfl,rfl⟩;refine⟨_,rfl,trivial,?_⟩;rw[B13.h0];refine J.qc (a5S 3 8 2 rfl) [] λ_=>?_;rintro v As ⟨q,rfl,rfl⟩;refine⟨_,rfl,trivial,?_⟩;rw[show Tl.new 3 8 2=B13.t0 from rfl];refine J.qp (b1N) [] λ_=>?_;refine J.qF λ_=>?_;refine J.qp (a1m r B13.T0 B13.e1 2 1 0 7 (by decide) B13.c0) [1] λ_=>?_;rw[B13.h1,B13.p1];refine J.qp (a1m r B13.T1 B13.e2 0 0 0 7 (by decide) B13.c1) [1] λ_=>?_;rw[B13.h2,B13.p2];refine J.qp (a1m r B13.T1 B13.e3 0 0 0 7 (by decide) B13.c1) [1] λ_=>?_;rw[B13.h3,B13.p3];refine J.qp (Z8 r B13.T1 4) [1] λ_=>?_;rw[show Tb.look B13.T1.at_ 4=some ⟨2,1,0,7,7,1⟩from rfl,Option.getD_some,Option.isSome_some];refine J.qp (a3K q B13.t0 (by decide) rfl 0 3) [2] λ_=>?_;rw[B13.w1];refine J.qp (a5T q B13.t1 (by decide) rfl 1 2) [2] λ_=>?_;rw[B13.w2];refine J.qp (a5r) [] λ_=>?_;refine J.qp (a5q) [] λ_=>?_;refine J.qp (a9f r B13.T1) [1] λ_=>?_;refine J.qp (z8 r B13.T1 2) [1] λ_=>?_;rw[B13.o12];refine J.qc (a9g r B13.T1 10 rfl (by decide) 2) [1] λ_=>?_;rintro v As ⟨a1,c1,rfl,rfl⟩;refine⟨_,rfl,trivial,?_⟩;rw[B13.o6];refine J.qp (b1O r B13.T1) [1] λ_=>?_;refine J.qp (W8 q B13.t2 (by decide) rfl 0) [2] λ_=>?_;rw[B13.o10];refine J.qp (J6 q B13.t2 (by decide) rfl 2) [2] λ_=>?_;rw[B13.o7];refine J.qp (U3 q B13.t2 (by decide) rfl 2) [2] λ_=>?_;rw[B13.o8];refine J.qp (a9b q B13.t2) [2] λ_=>?_;rw[B13.o9];refine J.qp (a6f q B13.t2 (by decide) rfl r B13.T1 (-1)) [2,1] λ_=>?_;rw[B13.o1];refine J.qp (a5a q B13.t2 (by decide) rfl r B13.T1 (-1)) [2,1] λ_=>?_;rw[B13.o2];refine J.qp (a9N q B13.t2 (by decide) rfl r B13.T1 (-1)) [2,1] λ_=>?_;rw[B13.o3];refine J.qc (a6V q B13.t2 (by decide) rfl r B13.T1 (-1)) [2,1] λ_=>?_;rintro v As ⟨a2,c2,rfl,rfl⟩;refine⟨_,rfl,trivial,?_⟩;rw[B13.o4];refine J.qc (a6g q B13.t2 (by decide) rfl r B13.T1 10 rfl (by decide)) [2,1] λ_=>?_;rintro v As ⟨a3,c3,rfl,rfl⟩;refine⟨_,rfl,trivial,?_⟩;rw[B13.o5];refine J.qp (a1l q B13.t2 (by decide) rfl 3) [2] λ_=>?_;rw[B13.o11];exact J.qx []
theorem a8f:FP 236 [] [] (Ps (.bool true) []):=by
 refine FE [] Tryz.func236 λX F hX=>?_;refine J.qp (a8e) [] λ_=>?_;exact J.qx []
section
variable {X : Cx} {P : Program} {K : List KI} {E : Env} {L : List Atom} {N : Nat} {F : HP} {Post : Value → List Atom → Prop} {rs : List ResultVar} {T : Tab}
theorem Q9 (hT:TabOK P T) {o:Oper} {x y:Operand} {st e size by_ ks tgs ky tgy:Nat} {gs gy:G} {a:Option Nat} {n cap:Nat} {xs:List Value} {s1 b1:Nat} {z1:List Value} {ac:Act} {w:World} {NN:Nat}
  (hop:o.op= .call ⟨.builtin .append,#[x,y],#[st,st]⟩) (hx:ev E x=some ⟨ks,slv a n cap,tgs,gs⟩) (hvx:gs.on=true) (hy:ev E y=some ⟨ky, .slice none 0 0,tgy,gy⟩) (hvy:gy.on=true) (hen:EnvOK NN E ac)
  (hst:T.get st=some ⟨.slice e size,s1,z1,b1⟩) {td:TD} {z:List Value} (he:T.get e=some ⟨td,size,z,by_⟩) (hown:C9 e size a n cap xs (hl w)):
  (execOp ac.eval o).run P w= .ok (.value (slv a n cap)) w:=by
 obtain⟨d,f,zv,ok⟩:=d7 (hT.get hst);obtain⟨fe,rfl,g1,g2⟩:=ok.slice rfl;obtain⟨d',f',zv',ok'⟩:=d7 (hT.get he);have hf:fe=f':=by have:=g1.symm.trans ok'.hf;injection this
 subst hf;have ex:=f7 hen hx;have ey:=f7 hen hy;simp only[Slot.val,hvx,hvy]at ex ey;have hr:=run_append_owned_none (P:=P) w 0 st o.type e fe size ok.hd ok'.hf _ n xs (a1F hown);simp only[execOp,hop,resolve,Sem.run_bind,Sem.run_pure,Result.andThen_ok,invoke,builtin,List.map_toArray,List.map_cons,List.map_nil,ex,ey,hr]
theorem J.appendO (hX:IsCx X P rs N F Post) (hT:TabOK P T) {ops:Array Oper} {C:Cl} {lt:Bool} {i:Nat} {t:PT} {o:Oper} {x y:Operand} {st e size by_:Nat} {ks tgs:Nat} {gs:G} {a:Option Nat} {n cap:Nat} {xs:List Value} {ky tgy:Nat} {gy:G} {ay:Option Nat} {m cy:Nat} {cs:List Value} {s1 b1:Nat} {z1:List Value} {E':Value->Env} (is iy:Nat)
  (ho:j5 ops.toList i=some o) (hg:gd ops.toList E o=some .tt) (hop:o.op= .call ⟨.builtin .append,#[x,y],#[st,st]⟩)
  (hx:ev E x=some ⟨ks,slv a n cap,tgs,gs⟩) (hvx:gs.on=true) (hy:ev E y=some ⟨ky,slv ay m cy,tgy,gy⟩) (hvy:gy.on=true)
  (hLs:j5 L is=some (c8 e size a n cap xs)) (hLy:j5 L iy=some (c8 e size ay m cy cs)) (hst:T.get st=some ⟨.slice e size,s1,z1,b1⟩) {td:TD} {z:List Value} (he:T.get e=some ⟨td,size,z,by_⟩) (hz:Nat.beq z.length size=true)
  (hsz:Nat.blt 0 size=true) (h1:∀u∈cs,u.oneCell'=true) (h63:n+m<=maxLen) (hbytes:(n+m)*by_<=140737488355328)
  (hd:∀v,v6 N o.dst v 0 .tt E=some (E' v))
  (hJ:∀a' cap',∃L',r8 L is (c8 e size a' (n+m) cap' (xs++cs))=some L'/\Conj (l5 lt C L')/\J X (.reg ops C t::K) (E' (slv a' (n+m) cap')) L'):J X (.reg ops C (.alt lt i t .non)::K) E L:=by
 cases ay with
 | some b=>exact J.appendR hX hT (oo:=0) is iy 0 ho hg rfl hop hx hvx hy hvy hLs hLy (w7 _ _ (some b) _ _ _) hst he hz hsz h1 h63 hbytes hd hJ
 | none=>
  rw[j4]at hLs hLy;refine J.know (p:=cs.length=m*size/\m=0/\cy=0) (λh s=>(show C9 e size none m cy cs h from s.get hLy)) λhk=>?_;obtain⟨q1,rfl,rfl⟩:=hk;have hcs:cs=[]:=List.eq_nil_of_length_eq_zero (by rw[q1,Nat.zero_mul]);subst hcs;obtain⟨L',e1,e2,e3⟩:=hJ a cap;rw[Nat.add_zero,List.append_nil]at e1;rw[Nat.add_zero]at e3;have hL:L'=L:=by
   rw[r7 e1];apply List.ext_getElem?;intro j;rw[List.getElem?_set];split
   ·rename_i e;subst e;split
    ·exact hLs.symm
    ·rename_i e4;rw[List.getElem?_eq_none (by omega)]
   ·rfl
  subst hL;exact J.val hX (slv a n cap) 0 ho hg (λ_ ac w hen hs=>Q9 hT hop hx hvx hy hvy hen hst he (show C9 e size a n cap xs (hl w)from hs.get hLs)) (hd _) e2 e3
end
end Go.Proofs.YtpohajhbfllbbaaGreat
