/- Helpers, proved here. No condition. -/
import Derived.Test.YtdocmcapegcoeaaGreatC06
import Derived.Test.YtdocmcapegcoeaaGreatC11
import Derived.Test.YtdocmcapegcoeaaGreatC12
import Derived.Test.YtdocmcapegcoeaaGreatC13
import Derived.Test.YtdocmcapegcoeaaGreatC14
import Derived.Test.YtdocmcapegcoeaaGreatC16
import Derived.Test.YtdocmcapegcoeaaGreatC17
import Derived.Test.YtdocmcapegcoeaaGreatC20
import Derived.Test.YtdocmcapegcoeaaGreatC21
set_option maxRecDepth 20000
set_option linter.all false
namespace Go.Proofs.YtdocmcapegcoeaaGreat
open Go Go.RowKit
def leI (x y:Int):Bool:=decide (x<=y)
def sortI (l:List Int):List Int:=l.mergeSort leI
theorem sortI_len (l:List Int):(sortI l).length=l.length:=by rw[sortI,List.length_mergeSort]
theorem holds_own {g n cap:Nat} {l:List Int} {w:World} (hl':l.length=n) (h:ownP 3 1 (some g) n cap (cellsI l) (hl w)):Go.Sort.Holds (Value.int .i64) w g 0 l.toArray:=by
 obtain⟨h0,cur,h1,h2,h3,h4,h5⟩:=h;have h1':w.heap[g]? =some (.cells cur 3 (0,0)):=h1;intro j hj;have hj':j<l.length:=by simpa using hj
 have hc:cur.toList[j]? =some (.int .i64 l[j]):=by
  have:(cur.toList.take (n*1))[j]? =(cellsI l)[j]?:=by rw[h5]
  rw[List.getElem?_take_of_lt (by omega)]at this;rw[this,cellsI,List.getElem?_map,List.getElem?_eq_getElem hj'];rfl
 have hg:l.toArray[j]! =l[j]:=by simp[hj']
 rw[hg];refine⟨?_,?_⟩
 ·simp only[World.cell?,Nat.zero_add,h1'];rw[Array.getElem?_toList]at hc;simp[hc]
 ·simp[World.frozen?,h1']
theorem x_SortN (a:Option Nat) (n cap:Nat) (l:List Int) (hl':l.length=n) (hn:n<=1000000):Fn Tryz.prog 174 [slv a n cap] [ownA 3 1 a n cap (cellsI l)]
  (λv As=>v= .tuple #[]/\As=[ownA 3 1 a n cap (cellsI (sortI l))]):=by
 cases a with
 | none=>
  intro F w s;have h0:n=0:=(s.get (i:=1) rfl).2.1;subst h0;have:l=[]:=List.eq_nil_of_length_eq_zero hl';subst this;have e:sortI []=isortL []:=by rw[sortI,List.mergeSort_nil];rfl
  rw[e];exact s_SortInts none 0 cap [] rfl (by omega) F w s
 | some g=>
  intro F w s;have ho:ownP 3 1 (some g) n cap (cellsI l) (hl w):=s.get (i:=1) rfl;have hH:=holds_own hl' ho;obtain⟨h0,cur,h1,h2,h3,h4,h5⟩:=ho;have h1':w.heap[g]? =some (.cells cur 3 (0,0)):=h1;have hlt:g<w.heap.size:=(Array.getElem?_eq_some_iff.1 h1').1;have hc:=Any.slices_Sort_int laysn189 g 0 cap l w hH hlt (by omega);subst hl';refine Calls.mono hc λe w' ⟨e1,m,os,e2⟩=>?_;subst e1;have hsz:w.heap.size<=w'.heap.size:=by rw[e2];simp[Go.Sort.grow]
  have hother:∀k,k<w.heap.size->some k≠some g->w'.heap[k]? =w.heap[k]?:=λk hk hne=>by
   rw[e2];have:g≠k:=λe=>hne (by rw[e]);show(w.heap.modify g (Go.Sort.onCells (Go.Sort.putCells (Value.int .i64) 0 (sortI l).toArray))++os)[k]? =_;rw[Array.getElem?_append_left (by rw[Array.size_modify];exact hk),Array.getElem?_modify,if_neg this]
  have hthis:w'.heap[g]? =some (.cells (Go.Sort.putCells (Value.int .i64) 0 (sortI l).toArray cur) 3 (0,0)):=by
   rw[e2];show(w.heap.modify g (Go.Sort.onCells (Go.Sort.putCells (Value.int .i64) 0 (sortI l).toArray))++os)[g]? =_;rw[Array.getElem?_append_left (by rw[Array.size_modify];exact hlt),Array.getElem?_modify,if_pos rfl,h1'];rfl
  have hgr:w.grownBy w' (some g):=⟨by rw[e2];rfl,by rw[e2];rfl,by rw[e2];rfl,hsz,hother⟩;refine⟨.tuple #[],_,rfl,⟨rfl,rfl⟩,?_,⟨hgr.os,hgr.tape,hgr.output,hsz⟩⟩;refine Sep.step s (i:=1) (A:=ownA 3 1 (some g) l.length cap (cellsI l)) rfl (x:=some g) (x':=some g) (λh g' hs e=>?_) hgr (.inl rfl) (λh hh=>?_)
  ·injection e with e;subst e;obtain⟨_,cur',q,_⟩:=hs;exact⟨_,q⟩
  ·refine⟨by rw[cellsI,List.length_map,sortI_len,Nat.mul_one],_,(hh g rfl).trans hthis,h2,h3,?_,?_⟩
   ·rw[Go.Sort.putCells,Array.size_mapIdx];exact h4
   ·apply List.ext_getElem?;intro i;rw[Nat.mul_one,List.getElem?_take];split
    ·rename_i hi;have hi2:i<(sortI l).length:=by rw[sortI_len];exact hi
     rw[Array.getElem?_toList,Go.Sort.putCells,Array.getElem?_mapIdx,Array.getElem?_eq_getElem (by omega),Option.map_some,if_pos ⟨Nat.zero_le _,by simpa using hi2⟩,cellsI,List.getElem?_map,List.getElem?_eq_getElem hi2];simp[hi2]
    ·rw[List.getElem?_eq_none (by rw[cellsI,List.length_map,sortI_len];omega)]
end Go.Proofs.YtdocmcapegcoeaaGreat
namespace Go.Proofs.YtdocmcapegcoeaaGreat
structure Scd where
 tb:Tb
 torn:List En
 first:Nat
 held:List Int
 next:Int
 pages:Nat
structure Sst where
 tb:Tb
 torn:List En
 held:List Int
 others:List En
namespace V
def nextOf (l:List Fnd):Int:=l.foldl (λm f=>max m (f.en.seq+1)) 1
def step (N:Nand) (L:List Fnd) (s:Sst) (k:Nat):Sst:=
 if(standOf (of L k)).2=true then
  if(standOf (of L k)).1.whole=true then {s with tb:=s.tb.put (standOf (of L k)).1.en (standOf (of L k)).1.block (standOf (of L k)).1.row (standOf (of L k)).1.slot (standOf (of L k)).1.mask}
  else if last N (standOf (of L k)).1=true then⟨s.tb.put (standOf (of L k)).1.en (standOf (of L k)).1.block (standOf (of L k)).1.row (standOf (of L k)).1.slot (standOf (of L k)).1.mask,s.torn++[(standOf (of L k)).1.en],s.held++holds (of L k),s.others⟩
  else⟨s.tb.put (standOf (of L k)).1.en (standOf (of L k)).1.block (standOf (of L k)).1.row (standOf (of L k)).1.slot (standOf (of L k)).1.mask,s.torn,s.held,s.others++[(standOf (of L k)).1.en]⟩
 else s
def goS (N:Nand) (L:List Fnd) (n:Int) (k:Nat):Sst:=(List.range k).foldl (step N L) ⟨Tb.new n,[],[],[]⟩
def size (n:Int):Nat:=(min (max n 0) 65536).toNat
def scanOf (N:Nand) (L:List Fnd) (n:Int):Scd:=⟨(goS N L n (size n)).tb,(goS N L n (size n)).torn++(goS N L n (size n)).others,(goS N L n (size n)).torn.length,compactI (sortI (goS N L n (size n)).held),nextOf L,L.length⟩
def scan (N:Nand) (n:Int):Scd:=scanOf N (all N) n
theorem goS_succ (N:Nand) (L:List Fnd) (n:Int) (k:Nat):goS N L n (k+1)=step N L (goS N L n k) k:=by unfold goS;rw[List.range_succ,List.foldl_append];rfl
theorem step_tb (N:Nand) (L:List Fnd) (s:Sst) (k:Nat):(step N L s k).tb=s.tb\/(standOf (of L k)).2=true/\(step N L s k).tb=s.tb.put (standOf (of L k)).1.en (standOf (of L k)).1.block (standOf (of L k)).1.row (standOf (of L k)).1.slot (standOf (of L k)).1.mask:=by
 unfold step;split
 ·right;rename_i h;refine⟨h,?_⟩;split
  ·rfl
  ·split<;>rfl
 ·left;rfl
theorem goS_ok (N:Nand) (L:List Fnd) (n:Int):∀k,(goS N L n k).tb.Ok
 | 0=>Tb.Ok.new n
 | k+1=>by
  rw[goS_succ];rcases step_tb N L (goS N L n k) k with h | ⟨_,h⟩
  ·rw[h];exact goS_ok N L n k
  ·rw[h];exact(goS_ok N L n k).put _ _ _ _ _
theorem goS_log (N:Nand) (L:List Fnd) (n:Int):∀k,(goS N L n k).tb.logical=min (max n 0) 65536
 | 0=>rfl
 | k+1=>by
  rw[goS_succ];rcases step_tb N L (goS N L n k) k with h | ⟨_,h⟩
  ·rw[h];exact goS_log N L n k
  ·rw[h,Tb.put_logical];exact goS_log N L n k
theorem tops_mem {l:List Fnd} {f:Fnd}:f∈tops l->f∈l:=by
 have:∀k,k<=l.length->∀f∈tops (l.take k),f∈l:=by
  intro k
  induction k with
  | zero=>intro _ f hf;simp[tops]at hf
  | succ k ih=>
   intro hk f hf;rw[tops_succ (List.getElem?_eq_getElem (by omega))]at hf;have ih:=ih (by omega);have hx:l[k]∈l:=List.getElem_mem _
   revert hf ih
   generalize tops (l.take k)=o;intro hf ih;cases o with
   | nil=>simp[topsStep]at hf;rw[hf];exact hx
   | cons h t=>
    simp only[topsStep]at hf;split at hf
    ·simp at hf;rw[hf];exact hx
    ·split at hf
     ·exact ih f hf
     ·rw[List.mem_append]at hf;rcases hf with hf | hf
      ·exact ih f hf
      ·simp at hf;rw[hf];exact hx
 intro h;refine this l.length (Nat.le_refl _) f ?_
 rwa [List.take_length]
theorem standOf_mem {l:List Fnd} (h:(standOf l).2=true):(standOf l).1∈l:=by
 have hm:∀f,f∈tops l->f∈l:=λf=>tops_mem
 revert h
 unfold standOf;cases ht:tops l with
 | nil=>intro h;cases h
 | cons f o=>intro _;exact hm f (by rw[ht];exact List.mem_cons_self ..)
theorem of_len (L:List Fnd) (k:Int):(of L k).length<=L.length:=List.length_filter_le _ _
theorem holds_len (l:List Fnd):(holds l).length<=l.length:=by
 unfold holds;rw[List.length_map];exact Nat.le_trans (tops_len _) (List.length_filter_le _ _)
theorem of_sum (L:List Fnd):∀k,((List.range k).map λi:Nat=>(of L (i:Int)).length).sum<=L.length:=by
 intro k
 induction L with
 | nil=>
  have:∀k:Nat,((List.range k).map λi:Nat=>(of [] (i:Int)).length).sum=0:=λk=>by
   induction k with
   | zero=>rfl
   | succ k ih=>rw[List.range_succ,List.map_append,List.sum_append,ih];rfl
  rw[this];exact Nat.zero_le _
 | cons x L ih=>
  have h1:∀i:Nat,(of (x::L) (i:Int)).length=(of L (i:Int)).length+(if x.en.lpn=(i:Int)then 1 else 0):=by
   intro i;unfold of;rw[List.filter_cons];split
   ·rename_i h;simp only[beq_iff_eq]at h;rw[if_pos h,List.length_cons]
   ·rename_i h;simp only[beq_iff_eq]at h;rw[if_neg h];rfl
  have h2:∀k,((List.range k).map λi:Nat=>(of (x::L) (i:Int)).length).sum<=((List.range k).map λi:Nat=>(of L (i:Int)).length).sum+(if 0<=x.en.lpn/\x.en.lpn<(k:Int)then 1 else 0):=by
   intro k
   induction k with
   | zero=>simp
   | succ k ih=>
    rw[List.range_succ,List.map_append,List.sum_append,List.map_append,List.sum_append];simp only[List.map_cons,List.map_nil,List.sum_cons,List.sum_nil,Nat.add_zero];rw[h1];split at ih<;>split<;>split<;>omega
  have:=h2 k;rw[List.length_cons];split at this<;>omega
theorem goS_len (N:Nand) (L:List Fnd) (n:Int):∀k,(goS N L n k).torn.length<=k/\(goS N L n k).others.length<=k/\(goS N L n k).held.length<=((List.range k).map λi:Nat=>(of L (i:Int)).length).sum
 | 0=>by simp[goS]
 | k+1=>by
  have ih:=goS_len N L n k;have hh:=holds_len (of L k);rw[goS_succ,List.range_succ,List.map_append,List.sum_append];simp only[List.map_cons,List.map_nil,List.sum_cons,List.sum_nil,Nat.add_zero];unfold step;split
  ·split
   ·dsimp only;omega
   ·split
    ·simp only[List.length_append,List.length_cons,List.length_nil];omega
    ·simp only[List.length_append,List.length_cons,List.length_nil];omega
  ·omega
theorem goS_held (N:Nand) (L:List Fnd) (n:Int) (k:Nat):(goS N L n k).held.length<=L.length:=Nat.le_trans (goS_len N L n k).2.2 (of_sum L k)
theorem nextOf_snoc (l:List Fnd) (f:Fnd):nextOf (l++[f])=max (nextOf l) (f.en.seq+1):=by unfold nextOf;rw[List.foldl_append];rfl
theorem of_snoc (l:List Fnd) (f:Fnd) (k:Int):of (l++[f]) k=if f.en.lpn=k then of l k++[f]else of l k:=by
 unfold of;rw[List.filter_append,List.filter_cons]
 by_cases h:f.en.lpn=k
 ·rw[if_pos h,if_pos (by simpa using h)];rfl
 ·rw[if_neg h,if_neg (by simpa using h)];simp
def upB (N:Nand) (b:Nat):List Fnd:=(List.range b).flatMap λb=>(List.range N.pages).flatMap λr=>R.all N (b:Nat) (r:Nat)
def upR (N:Nand) (b r:Nat):List Fnd:=upB N b++(List.range r).flatMap λr=>R.all N (b:Nat) (r:Nat)
def upI (N:Nand) (b r i:Nat):List Fnd:=upR N b r++(R.all N (b:Nat) (r:Nat)).take i
theorem upR_zero (N:Nand) (b:Nat):upR N b 0=upB N b:=by simp[upR]
theorem upI_zero (N:Nand) (b r:Nat):upI N b r 0=upR N b r:=by simp[upI]
theorem upR_succ (N:Nand) (b r:Nat):upR N b (r+1)=upI N b r (R.all N (b:Nat) (r:Nat)).length:=by
 unfold upI upR;rw[List.take_length,List.range_succ,List.flatMap_append,List.append_assoc];simp
theorem upB_succ (N:Nand) (b:Nat):upB N (b+1)=upR N b N.pages:=by
 unfold upR upB;rw[List.range_succ,List.flatMap_append];simp
theorem upB_all (N:Nand):upB N N.blocks=all N:=rfl
theorem upI_succ {N:Nand} {b r i:Nat} {x:Fnd} (h:(R.all N (b:Nat) (r:Nat))[i]? =some x):upI N b r (i+1)=upI N b r i++[x]:=by
 unfold upI;rw[List.take_add_one,h,Option.toList_some,List.append_assoc]
theorem nextOf_bd {l:List Fnd} (h:∀f∈l,EnBd f.en):1<=nextOf l/\nextOf l<=1099511627776:=by
 have:∀(l:List Fnd) (m:Int),(∀f∈l,EnBd f.en)->1<=m->m<=1099511627776->1<=l.foldl (λm f=>max m (f.en.seq+1)) m/\l.foldl (λm f=>max m (f.en.seq+1)) m<=1099511627776:=by
  intro l
  induction l with
  | nil=>intro m _ h1 h2;exact⟨h1,h2⟩
  | cons x l ih=>
   intro m hl h1 h2;have:=hl x (List.mem_cons_self ..);unfold EnBd at this;exact ih (max m (x.en.seq+1)) (λf hf=>hl f (List.mem_cons_of_mem _ hf)) (by omega) (by omega)
 exact this l 1 h (by omega) (by omega)
end V
end Go.Proofs.YtdocmcapegcoeaaGreat
namespace Go.Proofs.YtdocmcapegcoeaaGreat
open Go Go.RowKit
section
variable {X : Cx} {P : Program} {K : List KI} {E : Env} {L : List Atom} {N : Nat} {F : HP} {Post : Value → List Atom → Prop} {rs : List ResultVar} {T : Tab}
theorem append_none_run (hT:TabOK P T) {o:Oper} {x y:Operand} {st e size by_ ks tgs ky tgy:Nat} {gs gy:G} {a:Option Nat} {n cap:Nat} {xs:List Value} {s1 b1:Nat} {z1:List Value} {ac:Act} {w:World} {NN:Nat}
  (hop:o.op= .call ⟨.builtin .append,#[x,y],#[st,st]⟩) (hx:ev E x=some ⟨ks,slv a n cap,tgs,gs⟩) (hvx:gs.on=true) (hy:ev E y=some ⟨ky, .slice none 0 0,tgy,gy⟩) (hvy:gy.on=true) (hen:EnvOK NN E ac)
  (hst:T.get st=some ⟨.slice e size,s1,z1,b1⟩) {td:TD} {z:List Value} (he:T.get e=some ⟨td,size,z,by_⟩) (hown:ownP e size a n cap xs (hl w)):
  (execOp ac.eval o).run P w= .ok (.value (slv a n cap)) w:=by
 obtain⟨d,f,zv,ok⟩:=tiOf_spec (hT.get hst);obtain⟨fe,rfl,g1,g2⟩:=ok.slice rfl;obtain⟨d',f',zv',ok'⟩:=tiOf_spec (hT.get he);have hf:fe=f':=by have:=g1.symm.trans ok'.hf;injection this
 subst hf;have ex:=ev_spec hen hx;have ey:=ev_spec hen hy;simp only[Slot.val,hvx,hvy]at ex ey;have hr:=run_append_owned_none (P:=P) w 0 st o.type e fe size ok.hd ok'.hf _ n xs (ownP_row hown);simp only[execOp,hop,resolve,Sem.run_bind,Sem.run_pure,Result.andThen_ok,invoke,builtin,List.map_toArray,List.map_cons,List.map_nil,ex,ey,hr]
theorem J.appendO (hX:IsCx X P rs N F Post) (hT:TabOK P T) {ops:Array Oper} {C:Cl} {lt:Bool} {i:Nat} {t:PT} {o:Oper} {x y:Operand} {st e size by_:Nat} {ks tgs:Nat} {gs:G} {a:Option Nat} {n cap:Nat} {xs:List Value} {ky tgy:Nat} {gy:G} {ay:Option Nat} {m cy:Nat} {cs:List Value} {s1 b1:Nat} {z1:List Value} {E':Value->Env} (is iy:Nat)
  (ho:lget ops.toList i=some o) (hg:gd ops.toList E o=some .tt) (hop:o.op= .call ⟨.builtin .append,#[x,y],#[st,st]⟩)
  (hx:ev E x=some ⟨ks,slv a n cap,tgs,gs⟩) (hvx:gs.on=true) (hy:ev E y=some ⟨ky,slv ay m cy,tgy,gy⟩) (hvy:gy.on=true)
  (hLs:lget L is=some (ownA e size a n cap xs)) (hLy:lget L iy=some (ownA e size ay m cy cs)) (hst:T.get st=some ⟨.slice e size,s1,z1,b1⟩) {td:TD} {z:List Value} (he:T.get e=some ⟨td,size,z,by_⟩) (hz:Nat.beq z.length size=true)
  (hsz:Nat.blt 0 size=true) (h1:∀u∈cs,u.oneCell'=true) (h63:n+m<=maxLen) (hbytes:(n+m)*by_<=140737488355328)
  (hd:∀v,putE N o.dst v 0 .tt E=some (E' v))
  (hJ:∀a' cap',∃L',lset L is (ownA e size a' (n+m) cap' (xs++cs))=some L'/\Conj (staysL lt C L')/\J X (.reg ops C t::K) (E' (slv a' (n+m) cap')) L'):J X (.reg ops C (.alt lt i t .non)::K) E L:=by
 cases ay with
 | some b=>exact J.appendR hX hT (oo:=0) is iy 0 ho hg rfl hop hx hvx hy hvy hLs hLy (own_rd _ _ (some b) _ _ _) hst he hz hsz h1 h63 hbytes hd hJ
 | none=>
  rw[lget_eq]at hLs hLy;refine J.know (p:=cs.length=m*size/\m=0/\cy=0) (λh s=>(show ownP e size none m cy cs h from s.get hLy)) λhk=>?_;obtain⟨q1,rfl,rfl⟩:=hk;have hcs:cs=[]:=List.eq_nil_of_length_eq_zero (by rw[q1,Nat.zero_mul]);subst hcs;obtain⟨L',e1,e2,e3⟩:=hJ a cap;rw[Nat.add_zero,List.append_nil]at e1;rw[Nat.add_zero]at e3;have hL:L'=L:=by
   rw[lset_eq e1];apply List.ext_getElem?;intro j;rw[List.getElem?_set];split
   ·rename_i e;subst e;split
    ·exact hLs.symm
    ·rename_i e4;rw[List.getElem?_eq_none (by omega)]
   ·rfl
  subst hL;exact J.val hX (slv a n cap) 0 ho hg (λ_ ac w hen hs=>append_none_run hT hop hx hvx hy hvy hen hst he (show ownP e size a n cap xs (hl w)from hs.get hLs)) (hd _) e2 e3
end
def FOk (m:Nat) (L:List Fnd) (Z:List FSlot):Prop:=Z.map (·.l)=(List.range m).map λk:Nat=>V.of L (k:Int)
theorem FOk.len {m:Nat} {L:List Fnd} {Z:List FSlot} (h:FOk m L Z):Z.length=m:=by have:=congrArg List.length h;simpa using this
theorem FOk.get {m:Nat} {L:List Fnd} {Z:List FSlot} (h:FOk m L Z) {k:Nat} (hk:k<m):∃z,Z[k]? =some z/\z.l=V.of L (k:Int):=by
 have hl:=h.len;refine⟨Z[k],List.getElem?_eq_getElem (by omega),?_⟩;have:=congrArg (λl=>l[k]?) h;simp only[List.getElem?_map,List.getElem?_range hk,List.getElem?_eq_getElem (show k<Z.length by omega),Option.map_some,Option.some.injEq]at this;exact this
theorem FOk.zero (m:Nat):FOk m [] (List.replicate m ⟨none,0,[]⟩):=by
 unfold FOk;apply List.ext_getElem?;intro i;rw[List.getElem?_map,List.getElem?_replicate,List.getElem?_map]
 by_cases h:i<m
 ·rw[if_pos h,List.getElem?_range h];simp[V.of]
 ·rw[if_neg h,List.getElem?_eq_none (by simp;omega)];rfl
theorem FOk.hit {m:Nat} {L:List Fnd} {Z:List FSlot} (h:FOk m L Z) {x:Fnd} {k:Nat} (hx:x.en.lpn=(k:Int)) {z z':FSlot} (hz:Z[k]? =some z) (hz':z'.l=z.l++[x]):FOk m (L++[x]) (Z.set k z'):=by
 have hl:=h.len;have hk:k<Z.length:=(List.getElem?_eq_some_iff.1 hz).1;have hzl:z.l=V.of L (k:Int):=by
  obtain⟨z2,h1,h2⟩:=h.get (k:=k) (by omega);rw[hz]at h1;injection h1 with h1;subst h1;exact h2
 unfold FOk;rw[List.map_set,show Z.map (·.l)=_ from h,hz',hzl];apply List.ext_getElem?;intro i;rw[List.getElem?_set,List.getElem?_map,List.getElem?_map]
 by_cases e:k=i
 ·subst e;rw[if_pos rfl,if_pos (by simp;omega),List.getElem?_range (by omega),Option.map_some,V.of_snoc,if_pos hx]
 ·rw[if_neg e]
  by_cases h2:i<m
  ·rw[List.getElem?_range h2,Option.map_some,Option.map_some,V.of_snoc,if_neg (by omega)]
  ·rw[List.getElem?_eq_none (by simp;omega)];rfl
theorem FOk.miss {m:Nat} {L:List Fnd} {Z:List FSlot} (h:FOk m L Z) {x:Fnd} (hx:(m:Int)<=x.en.lpn):FOk m (L++[x]) Z:=by
 unfold FOk;rw[show Z.map (·.l)=_ from h];apply List.map_congr_left;intro i hi;rw[List.mem_range]at hi;rw[V.of_snoc,if_neg (by omega)]
theorem FOk.le {m:Nat} {L:List Fnd} {Z:List FSlot} (h:FOk m L Z) {k:Nat} {z:FSlot} (hz:Z[k]? =some z):z.l.length<=L.length:=by
 have hl:=h.len;have hk:k<Z.length:=(List.getElem?_eq_some_iff.1 hz).1;obtain⟨z2,h1,h2⟩:=h.get (k:=k) (by omega);rw[hz]at h1;injection h1 with h1;subst h1
 rw[h2];exact V.of_len L k
theorem flatMap_le {α β:Type} (f:α->List β) (c:Nat) (l:List α) (h:∀x∈l,(f x).length<=c):(l.flatMap f).length<=c*l.length:=by
 induction l with
 | nil=>simp
 | cons x l ih=>
  rw[List.flatMap_cons,List.length_append,List.length_cons];have:=h x (List.mem_cons_self ..);have:=ih (λy hy=>h y (List.mem_cons_of_mem _ hy));rw[Nat.mul_add];omega
theorem rall_len (N:Nand) (hN:N.Ok) (b r:Int):(R.all N b r).length<=42:=by
 have hbd:=hN.bd;have:=outI_len N b r (M.masks N b r).length (by omega);unfold outI at this
 rwa [List.take_length]at this
theorem upB_len (N:Nand) (hN:N.Ok) (b:Nat) (hb:b<=16):(V.upB N b).length<=5376:=by
 have hbd:=hN.bd;unfold V.upB;have:=flatMap_le (λb:Nat=>(List.range N.pages).flatMap λr=>R.all N (b:Nat) (r:Nat)) 336 (List.range b) (λx _=>by
  have:=flatMap_le (λr:Nat=>R.all N (x:Nat) (r:Nat)) 42 (List.range N.pages) (λr _=>rall_len N hN _ _);rw[List.length_range]at this;omega)
 rw[List.length_range]at this;omega
theorem upR_len (N:Nand) (hN:N.Ok) (b r:Nat) (hb:b<=16) (hr:r<=8):(V.upR N b r).length<=5712:=by
 have h1:=upB_len N hN b hb;have:=flatMap_le (λr:Nat=>R.all N (b:Nat) (r:Nat)) 42 (List.range r) (λr _=>rall_len N hN _ _);rw[List.length_range]at this;unfold V.upR;rw[List.length_append];omega
theorem upI_len (N:Nand) (hN:N.Ok) (b r i:Nat) (hb:b<=16) (hr:r<=8):(V.upI N b r i).length<=5754:=by
 have h1:=upR_len N hN b r hb hr;have:=rall_len N hN b r;unfold V.upI;rw[List.length_append,List.length_take];omega
theorem upB_bd (N:Nand) (b:Nat):∀f∈V.upB N b,EnBd f.en:=by
 intro f h;unfold V.upB at h;rw[List.mem_flatMap]at h;obtain⟨_,_,h⟩:=h;rw[List.mem_flatMap]at h;obtain⟨_,_,h⟩:=h;exact(fnd_bd h).2.2
theorem upR_bd (N:Nand) (b r:Nat):∀f∈V.upR N b r,EnBd f.en:=by
 intro f h;unfold V.upR at h;rw[List.mem_append]at h;rcases h with h | h
 ·exact upB_bd N b f h
 ·rw[List.mem_flatMap]at h;obtain⟨_,_,h⟩:=h;exact(fnd_bd h).2.2
theorem upI_bd (N:Nand) (b r i:Nat):∀f∈V.upI N b r i,EnBd f.en:=by
 intro f h;unfold V.upI at h;rw[List.mem_append]at h;rcases h with h | h
 ·exact upR_bd N b r f h
 ·exact(fnd_bd (List.mem_of_mem_take h)).2.2
theorem Sep.ofAll {L:List Atom} {h:Hl} (hL:∀A∈L,∀h,A.sat h):Sep L h:=⟨λ_=>0,λi A hA=>hL A (List.mem_of_getElem? hA) _⟩
def svL (q:Nat) (torn:Value) (first:Int) (held:Value) (next pages:Int):List Value:=[.pointer (some ⟨q,0,none⟩),torn, .int .i64 first,held, .int .i64 next, .int .i64 pages]
def svV (q:Nat) (S:Scd) (a1:Option Nat) (c1:Nat) (a2:Option Nat) (c2:Nat):Value:= .agg (svL q (slv a1 S.torn.length c1) S.first (slv a2 S.held.length c2) S.next S.pages).toArray
def sv0 (q:Nat) (L:List Fnd):List Value:=svL q (.slice none 0 0) 0 (.slice none 0 0) (V.nextOf L) L.length
theorem flat_single {α:Type} (x:α):∀n:Nat,(List.replicate n [x]).flatten=List.replicate n x
 | 0=>rfl
 | n+1=>by rw[List.replicate_succ,List.replicate_succ,List.flatten_cons,flat_single x n];rfl
theorem hdrs_zero (m:Nat):(List.replicate m [Value.slice none 0 0]).flatten=hdrs (List.replicate m ⟨none,0,[]⟩):=by
 rw[flat_single];unfold hdrs;rw[List.map_replicate];rfl
theorem hdrs_getI {Z:List FSlot} {k:Int} {z:FSlot} (h:Z[k.toNat]? =some z):(hdrs Z)[0+k.toNat*1]? =some z.hdr:=by
 rw[show 0+k.toNat*1=k.toNat from by omega,hdrs,List.getElem?_map,h];rfl
theorem max_if (a b:Int):(if b>a then b else a)=max a b:=by split<;>omega
theorem cellsI_app (l m:List Int):cellsI l++cellsI m=cellsI (l++m):=by simp[cellsI]
theorem cellsE_app (l m:List En):cellsE l++cellsE m=cellsE (l++m):=by simp[cellsE]
theorem cellsI_one (l:List Int):∀u∈cellsI l,u.oneCell'=true:=by
 intro u hu;simp only[cellsI,List.mem_map]at hu;obtain⟨x,_,rfl⟩:=hu;rfl
theorem v_Scan (p:Nat) (N:Nand) (hN:N.Ok) (hR:N.Room) (hoff:N.off=false) (n:Int):Fn Tryz.prog 134 [.pointer (some ⟨p,0,none⟩), .int .i64 n] [NandA p N]
  (λv As=>∃q a1 c1 a2 c2,v= .tuple #[svV q (V.scan N n) a1 c1 a2 c2, .int .i64 0]/\As=[NandA p N,TbA q (V.scan N n).tb,ownA 38 19 a1 (V.scan N n).torn.length c1 (cellsE (V.scan N n).torn),ownA 3 1 a2 (V.scan N n).held.length c2 (cellsI (V.scan N n).held)]):=by
 have hbd:=hN.bd;refine Fn.enter [2,0] Tryz.func134 rfl rfl rfl λX F hX=>?_;refine J.q hX λbr=>?_;refine J.cF ?_;refine J.q hX λ_=>?_;refine J.cb hX (n_Power p N) [1] ?_;refine cpq ⟨_,rfl,trivial,?_⟩;rw[hoff];refine J.q hX λ_=>?_;refine J.cF ?_;refine J.q hX λ_=>?_;refine J.cb hX (tb_New n) [] ?_;rintro v As ⟨q,rfl,rfl⟩;refine⟨_,rfl,trivial,?_⟩;refine J.qn hX 11 λbo=>?_;rw[tb_mm];obtain⟨m,hm⟩:∃m:Nat,min (max n 0) 65536=(m:Int):=⟨(min (max n 0) 65536).toNat,by omega⟩;have hms:V.size n=m:=by unfold V.size;omega
 have hm1:m<=65536:=by omega
 rw[hm];refine J.makeMany hX tk 6 rfl rfl rfl rfl rfl rfl rfl rfl rfl rfl rfl ?_ ?_ (λ_=>rfl) (λ_=>rfl) λg=>⟨trivial,?_⟩
 ·simp only[maxLen];omega
 ·omega
 rw[hdrs_zero];refine J.q hX λbs=>?_;refine J.turn1 [] rfl (As:=[.hp (HP.of (fats (List.replicate m ⟨none,0,[]⟩)))]) (λh s=>Sep.hpOf.2 (Sep.ofAll λA hA h=>by
  unfold fats at hA;rw[List.map_replicate,List.mem_replicate]at hA;rw[hA.2];exact⟨rfl,rfl,rfl⟩)) rfl ?_
 refine J.q hX λ_=>?_;refine J.cb hX (n_Geo p N) [1] ?_;refine cpq ⟨_,rfl,trivial,?_⟩;refine J.q hX λ_=>?_;refine J.lo (α:=(Nat×List FSlot)) (λz=>z.1<=N.blocks/\FOk m (V.upB N z.1) z.2) (λz=>[⟨38, .int .i64 z.1,0, .tt⟩,⟨37, .int .i64 N.blocks,0, .tt⟩,⟨0, .pointer (some ⟨p,0,none⟩),2, .tt⟩,⟨4, .pointer (some ⟨br 0,0,none⟩),3, .tt⟩,⟨6, .pointer (some ⟨bo 0,0,none⟩),5, .tt⟩,⟨7, .pointer (some ⟨bs 0,0,none⟩),7, .tt⟩]) [4,5,7] (λz=>[.pt (bo 0) 177 (sv0 q (V.upB N z.1)), .pt g 139 (hdrs z.2), .hp (HP.of (fats z.2))]) (λz=>N.blocks-z.1) ((0,List.replicate m ⟨none,0,[]⟩)) (⟨Nat.zero_le _,FOk.zero m⟩) rfl ?_ (λ_=>rfl) λz hI=>?_
 ·rfl
 obtain⟨b,Z⟩:=z;dsimp only at hI ⊢;obtain⟨hb,hZ⟩:=hI;refine J.q hX λ_=>?_;refine J.cond rfl (λh1=>?_) (λh1=>?_)
 ·simp only[decide_eq_true_eq,Int.ofNat_lt]at h1;refine J.q hX λ_=>?_;refine J.cb hX (n_Geo p N) [1] ?_;refine cpq ⟨_,rfl,trivial,?_⟩;rw[<- V.upR_zero]at hZ;rw[<- V.upR_zero];refine J.q hX λ_=>?_;refine J.lo (α:=(Nat×List FSlot)) (λz=>z.1<=N.pages/\FOk m (V.upR N b z.1) z.2) (λz=>[⟨44, .int .i64 z.1,0, .tt⟩,⟨43, .int .i64 N.pages,0, .tt⟩,⟨8, .int .i64 b,0, .tt⟩,⟨38, .int .i64 b,0, .tt⟩,⟨37, .int .i64 N.blocks,0, .tt⟩,⟨0, .pointer (some ⟨p,0,none⟩),2, .tt⟩,⟨4, .pointer (some ⟨br 0,0,none⟩),3, .tt⟩,⟨6, .pointer (some ⟨bo 0,0,none⟩),5, .tt⟩,⟨7, .pointer (some ⟨bs 0,0,none⟩),7, .tt⟩]) [4,5,7] (λz=>[.pt (bo 0) 177 (sv0 q (V.upR N b z.1)), .pt g 139 (hdrs z.2), .hp (HP.of (fats z.2))]) (λz=>N.pages-z.1) ((0,Z)) (⟨Nat.zero_le _,hZ⟩) rfl ?_ (λ_=>rfl) λz hI=>?_
  ·rfl
  clear hZ Z;obtain⟨r,Z⟩:=z;dsimp only at hI ⊢;obtain⟨hr,hZ⟩:=hI;refine J.q hX λ_=>?_;refine J.cond rfl (λh2=>?_) (λh2=>?_)
  ·simp only[decide_eq_true_eq,Int.ofNat_lt]at h2;refine J.q hX λ_=>?_;refine J.cb hX (r_All p N hN hR b r) [1] ?_;rintro v As ⟨al,cl,rfl,rfl⟩;refine⟨_,rfl,trivial,?_⟩;rw[<- V.upI_zero]at hZ;rw[<- V.upI_zero];refine J.q hX λ_=>?_;refine J.lo (α:=(Nat×List FSlot)) (λz=>z.1<=(R.all N b r).length/\FOk m (V.upI N b r z.1) z.2) (λz=>[⟨52, .int .i64 z.1,0, .tt⟩,⟨51, .int .i64 (R.all N b r).length,0, .tt⟩,⟨50,slv al (R.all N b r).length cl,0, .tt⟩,⟨9, .int .i64 r,0, .tt⟩,⟨44, .int .i64 r,0, .tt⟩,⟨43, .int .i64 N.pages,0, .tt⟩,⟨8, .int .i64 b,0, .tt⟩,⟨38, .int .i64 b,0, .tt⟩,⟨37, .int .i64 N.blocks,0, .tt⟩,⟨0, .pointer (some ⟨p,0,none⟩),2, .tt⟩,⟨4, .pointer (some ⟨br 0,0,none⟩),3, .tt⟩,⟨6, .pointer (some ⟨bo 0,0,none⟩),5, .tt⟩,⟨7, .pointer (some ⟨bs 0,0,none⟩),7, .tt⟩]) [4,5,7] (λz=>[.pt (bo 0) 177 (sv0 q (V.upI N b r z.1)), .pt g 139 (hdrs z.2), .hp (HP.of (fats z.2))]) (λz=>(R.all N b r).length-z.1) ((0,Z)) (⟨Nat.zero_le _,hZ⟩) rfl ?_ (λ_=>rfl) λz hI=>?_
   ·rfl
   clear hZ Z;obtain⟨i,Z⟩:=z;dsimp only at hI ⊢;obtain⟨hi,hZ⟩:=hI;refine J.q hX λ_=>?_;refine J.cond rfl (λh3=>?_) (λh3=>?_)
   ·simp only[decide_eq_true_eq,Int.ofNat_lt]at h3;obtain⟨x,hx⟩:∃x,(R.all N b r)[i]? =some x:=⟨_,List.getElem?_eq_getElem h3⟩;have hup:=V.upI_succ hx;have hrl:=rall_len N hN b r;have hxb:=(fnd_bd (List.mem_of_getElem? hx)).2.2;have hul:=upI_len N hN b r i (by omega) (by omega);have hnb:=V.nextOf_bd (upI_bd N b r i);refine J.know (λh' s=>own_some (c:=(al,cl)) (by omega) (s.get (i:=8) rfl)) λhg=>?_;obtain⟨gl,rfl⟩:=hg;refine J.q hX λ_=>?_;refine J.val hX (fdV x) 0 rfl rfl (λhg a w he hs=>?_) rfl trivial ?_
    ·exact ownN_run tk rfl rfl he rfl rfl rfl (hs.get (i:=8) rfl) (by rw[show 0+(i:Int).toNat*25=i*25 from by omega];exact cellsF_get hx) rfl
    unfold EnBd at hxb;refine J.q hX λbf=>?_;have hn1:V.nextOf (V.upI N b r (i+1))=max (V.nextOf (V.upI N b r i)) (x.en.seq+1):=by rw[hup,V.nextOf_snoc]
    have hn2:((V.upI N b r i).length:Int)+1=((V.upI N b r (i+1)).length:Int):=by rw[hup,List.length_append];rfl
    rw[max_if,<- hn1,hn2];refine J.q hX λ_=>?_;refine J.plan (.of [0,4,9,12,16,20,25,28,32]) [] [6,9] (by rw[hX.hP];kernel_rfl) (by kernel_rfl) ?_;refine J.q hX λ_=>?_;refine J.cond rfl (λh4=>?_) (λh4=>?_)
    ·simp only[decide_eq_true_eq]at h4;obtain⟨z,hz,hzl⟩:=hZ.get (k:=x.en.lpn.toNat) (by omega);have hzle:=hZ.le hz;have hZl:=hZ.len;refine J.openAt 7 x.en.lpn.toNat rfl rfl (fats_get hz) rfl ?_;refine J.q hX λ_=>?_;refine J.plan (.of [0,4,8,13,16,20,25,28,32,36,41,44,48,53,56,61,65,70,74,76,83]) [19,20] [5,6,9] (by rw[hX.hP];kernel_rfl) (by kernel_rfl) ?_;refine J.qn hX 15 λ_=>?_;refine J.valT hX z.hdr 0 rfl rfl (λhg a w he hC=>load1_run tk rfl rfl he rfl rfl rfl (hC rfl _ (cget_mem (i:=5) rfl)) (hdrs_getI hz)) rfl ?_;refine J.q hX λ_=>?_;refine J.append hX tk 10 11 0 rfl rfl rfl rfl rfl rfl rfl rfl rfl rfl rfl rfl rfl rfl rfl rfl ?_ ?_ (λ_=>rfl) λa' c'=>⟨_,(congrArg (λy=>lset _ 10 (ownA _ _ _ _ _ y)) (cellsF_snoc z.l x).symm).trans rfl,⟨rfl,rfl,rfl,trivial⟩,?_⟩
     ·simp only[maxLen];omega
     ·omega
     rw[show z.l.length+1=(z.l++[x]).length from by simp];refine J.q hX λ_=>?_;have hhit:=hZ.hit (x:=x) (k:=x.en.lpn.toNat) (by omega) hz (z':=⟨a',c',z.l++[x]⟩) rfl;refine J.store1 hX tk 5 rfl rfl rfl rfl rfl rfl rfl rfl rfl rfl rfl rfl rfl ?_ (hdrs (Z.set x.en.lpn.toNat ⟨a',c',z.l++[x]⟩)) ?_ rfl (λ_=>rfl) ⟨(by first | exact trivial | (repeat' (first | exact trivial | refine⟨rfl,?_⟩))),?_⟩
     ·rw[show(hdrs Z).length=Z.length from by simp[hdrs]];omega
     ·rw[show 0+x.en.lpn.toNat*1=x.en.lpn.toNat from by omega];exact hdrs_set Z _ ⟨a',c',z.l++[x]⟩
     refine J.closeAt (A:=(FSlot.mk a' c' (z.l++[x])).atom) 7 10 x.en.lpn.toNat rfl rfl rfl ?_;rw[fats_set];refine J.q hX λ_=>?_;refine J.nS ((i+1,Z.set x.en.lpn.toNat ⟨a',c',z.l++[x]⟩)) (⟨by dsimp only;omega,by dsimp only;rw[hup];exact hhit⟩) (by dsimp only;omega) [0,1,2,3,4,5,6,7,8] rfl rfl
    ·simp only[decide_eq_false_iff_not]at h4;have hmiss:=hZ.miss (x:=x) (by omega);refine J.q hX λ_=>?_;refine J.nS ((i+1,Z)) (⟨by dsimp only;omega,by dsimp only;rw[hup];exact hmiss⟩) (by dsimp only;omega) [0,1,2,3,4,5,6,7,8] rfl rfl
   ·simp only[decide_eq_false_iff_not,Int.ofNat_lt]at h3;obtain rfl:i=(R.all N b r).length:=by omega
    rw[<- V.upR_succ]at hZ;rw[<- V.upR_succ];refine J.q hX λ_=>?_;refine J.nS ((r+1,Z)) (⟨by dsimp only;omega,hZ⟩) (by dsimp only;omega) [0,1,2,3,4,5,6,7] rfl rfl
  ·simp only[decide_eq_false_iff_not,Int.ofNat_lt]at h2;obtain rfl:r=N.pages:=by omega
   rw[<- V.upB_succ]at hZ;rw[<- V.upB_succ];refine J.q hX λ_=>?_;refine J.nS ((b+1,Z)) (⟨by dsimp only;omega,hZ⟩) (by dsimp only;omega) [0,1,2,3,4,5,6,7] rfl rfl
 simp only[decide_eq_false_iff_not,Int.ofNat_lt]at h1;obtain rfl:b=N.blocks:=by omega
 rw[V.upB_all]at hZ;rw[V.upB_all];have hZl:=hZ.len;have hLb:∀f∈V.all N,EnBd f.en:=λf hf=>(all_bd hf).2;have hLl:=all_len N hN;subst hZl;refine J.q hX λ_=>?_;refine J.turn1 [] rfl (As:=[ownA 38 19 none 0 0 (cellsE []),ownA 3 1 none 0 0 (cellsI []),ownA 38 19 none 0 0 (cellsE [])]) (λh s=>Sep.ofAll λA hA h=>by
  simp only[List.mem_cons,List.not_mem_nil,or_false]at hA;rcases hA with rfl | rfl | rfl<;>exact⟨rfl,rfl,rfl⟩) rfl ?_
 refine J.q hX λ_=>?_;refine J.lo (α:=(Nat×(Option Nat×Nat)×(Option Nat×Nat)×(Option Nat×Nat))) (λz=>z.1<=Z.length) (λz=>[⟨105, .int .i64 z.1,0, .tt⟩,⟨104, .int .i64 Z.length,0, .tt⟩,⟨12,slv z.2.2.2.1 (V.goS N (V.all N) n z.1).others.length z.2.2.2.2,0, .tt⟩,⟨0, .pointer (some ⟨p,0,none⟩),2, .tt⟩,⟨4, .pointer (some ⟨br 0,0,none⟩),3, .tt⟩,⟨6, .pointer (some ⟨bo 0,0,none⟩),5, .tt⟩,⟨7, .pointer (some ⟨bs 0,0,none⟩),7, .tt⟩]) [3,4,8,9,10] (λz=>[TbA q (V.goS N (V.all N) n z.1).tb, .pt (bo 0) 177 (svL q (slv z.2.1.1 (V.goS N (V.all N) n z.1).torn.length z.2.1.2) 0 (slv z.2.2.1.1 (V.goS N (V.all N) n z.1).held.length z.2.2.1.2) (V.nextOf (V.all N)) (V.all N).length),ownA 38 19 z.2.1.1 (V.goS N (V.all N) n z.1).torn.length z.2.1.2 (cellsE (V.goS N (V.all N) n z.1).torn),ownA 3 1 z.2.2.1.1 (V.goS N (V.all N) n z.1).held.length z.2.2.1.2 (cellsI (V.goS N (V.all N) n z.1).held),ownA 38 19 z.2.2.2.1 (V.goS N (V.all N) n z.1).others.length z.2.2.2.2 (cellsE (V.goS N (V.all N) n z.1).others)]) (λz=>Z.length-z.1) ((0,(none,0),(none,0),(none,0))) (Nat.zero_le _) rfl ?_ (λ_=>rfl) λz hI=>?_
 ·rfl
 obtain⟨k,⟨a1,c1⟩,⟨a2,c2⟩,⟨a3,c3⟩⟩:=z;dsimp only at hI ⊢;have hgl:=V.goS_len N (V.all N) n k;have hgh:=V.goS_held N (V.all N) n k;refine J.q hX λ_=>?_;refine J.cond rfl (λh2=>?_) (λh2=>?_)
 ·simp only[decide_eq_true_eq,Int.ofNat_lt]at h2;obtain⟨z,hz,hzl⟩:=hZ.get (k:=k) h2;have hzle:=hZ.le hz;have hstep:=V.goS_succ N (V.all N) n k;have hok:=V.goS_ok N (V.all N) n k;have hhl:=V.holds_len (V.of (V.all N) k);have hol:=V.of_len (V.all N) k;have hsm:=V.standOf_mem (l:=V.of (V.all N) k);generalize hS:V.goS N (V.all N) n k=S at hgl hgh hstep hok;refine J.q hX λ_=>?_;refine J.cb hX (v_stands (bs 0) p g Z k z hz (by omega) (by omega)) [6,5,7] ?_;refine cpq ⟨_,rfl,trivial,?_⟩;rw[hzl];unfold V.step at hstep;obtain⟨f,is,hs⟩:∃f is,V.standOf (V.of (V.all N) k)=(f,is):=⟨_,_,rfl⟩;rw[hs]at hsm hstep ⊢;dsimp only at hsm hstep ⊢;refine J.q hX λbf=>?_;refine J.cond rfl (λh3=>?_) (λh3=>?_)
  ·simp only[Bool.not_eq_true']at h3;subst h3;rw[if_neg Bool.false_ne_true]at hstep;rw[<- hstep];refine J.q hX λ_=>?_;refine J.nS ((k+1,(a1,c1),(a2,c2),(a3,c3))) (by dsimp only;omega) (by dsimp only;omega) [0,1,2,3,4,5,6,7,8,9,10] rfl rfl
  simp only[Bool.not_eq_false']at h3;subst h3;rw[if_pos rfl]at hstep;have hfm:f∈V.all N:=by have:=hsm rfl;unfold V.of at this;exact(List.mem_filter.1 this).1
  obtain⟨⟨r0,hr0,hr1⟩,hfb⟩:=all_bd hfm;unfold EnBd at hfb;refine J.q hX λ_=>?_;refine J.cb hX (tb_Put q S.tb f.en f.block f.row f.slot f.mask (by omega) hok.bd) [3] ?_;refine cpq ⟨_,rfl,trivial,?_⟩;refine J.q hX λ_=>?_;refine J.cond rfl (λh4=>?_) (λh4=>?_)
  ·rw[if_pos h4]at hstep;have e1:=congrArg Sst.tb hstep;have e2:=congrArg Sst.torn hstep;have e3:=congrArg Sst.held hstep;have e4:=congrArg Sst.others hstep;dsimp only at e1 e2 e3 e4;rw[<- e1,<- e2,<- e3,<- e4];refine J.q hX λ_=>?_;refine J.nS ((k+1,(a1,c1),(a2,c2),(a3,c3))) (by dsimp only;omega) (by dsimp only;omega) [0,1,2,3,4,5,6,7,8,9,10] rfl rfl
  rw[if_neg (by rw[h4];exact Bool.false_ne_true)]at hstep;refine J.q hX λ_=>?_;refine J.cb hX (v_last p N hN hR (bs 0) (.slice (some ⟨g,0,none⟩) Z.length Z.length) f r0 hr0 (by omega)) [1,6] ?_;refine cpq ⟨_,rfl,trivial,?_⟩;refine J.q hX λ_=>?_;refine J.cond rfl (λh5=>?_) (λh5=>?_)
  ·rw[if_pos h5]at hstep;have e1:=congrArg Sst.tb hstep;have e2:=congrArg Sst.torn hstep;have e3:=congrArg Sst.held hstep;have e4:=congrArg Sst.others hstep;dsimp only at e1 e2 e3 e4;refine J.q hX λ_=>?_;refine J.append hX tk 8 12 0 rfl rfl rfl rfl rfl rfl rfl rfl rfl rfl rfl rfl rfl rfl rfl rfl ?_ ?_ (λ_=>rfl) λa4 c4=>⟨_,(congrArg (λy=>lset _ 8 (ownA _ _ _ _ _ y)) (cellsE_snoc S.torn f.en)).trans rfl,trivial,?_⟩
   ·simp only[maxLen];omega
   ·omega
   rw[show S.torn.length+1=(S.torn++[f.en]).length from by simp];refine J.q hX λ_=>?_;refine J.plan (.of [0,5,8,12,18,23,24,31]) [5,6,7] [4] (by rw[hX.hP];kernel_rfl) (by kernel_rfl) ?_;refine J.q hX λ_=>?_;refine J.cb hX (v_holds (bs 0) p g Z k z hz (by omega) (by omega)) [6,5,7] ?_;rintro v As ⟨a5,c5,rfl,rfl⟩;refine⟨_,rfl,(by first | exact trivial | (repeat' (first | exact trivial | refine⟨rfl,?_⟩))),?_⟩;rw[hzl];refine J.q hX λ_=>?_;refine J.appendO hX tk 9 13 rfl rfl rfl rfl rfl rfl rfl rfl rfl rfl rfl rfl rfl (cellsI_one _) ?_ ?_ (λ_=>rfl) λa6 c6=>⟨_,(congrArg (λy=>lset _ 9 (ownA _ _ _ _ _ y)) (cellsI_app S.held (V.holds (V.of (V.all N) k)))).trans rfl,(by first | exact trivial | (repeat' (first | exact trivial | refine⟨rfl,?_⟩))),?_⟩
   ·simp only[maxLen];omega
   ·omega
   rw[show S.held.length+(V.holds (V.of (V.all N) k)).length=(S.held++V.holds (V.of (V.all N) k)).length from by simp];rw[<- e1,<- e2,<- e3,<- e4];refine J.q hX λ_=>?_;refine J.nS ((k+1,(a4,c4),(a6,c6),(a3,c3))) (by dsimp only;omega) (by dsimp only;omega) [0,1,2,3,4,5,6,7,8,9,10] rfl rfl
  ·rw[if_neg (by rw[h5];exact Bool.false_ne_true)]at hstep;have e1:=congrArg Sst.tb hstep;have e2:=congrArg Sst.torn hstep;have e3:=congrArg Sst.held hstep;have e4:=congrArg Sst.others hstep;dsimp only at e1 e2 e3 e4;refine J.q hX λ_=>?_;refine J.append hX tk 10 12 0 rfl rfl rfl rfl rfl rfl rfl rfl rfl rfl rfl rfl rfl rfl rfl rfl ?_ ?_ (λ_=>rfl) λa4 c4=>⟨_,(congrArg (λy=>lset _ 10 (ownA _ _ _ _ _ y)) (cellsE_snoc S.others f.en)).trans rfl,trivial,?_⟩
   ·simp only[maxLen];omega
   ·omega
   rw[show S.others.length+1=(S.others++[f.en]).length from by simp];rw[<- e1,<- e2,<- e3,<- e4];refine J.q hX λ_=>?_;refine J.nS ((k+1,(a1,c1),(a2,c2),(a4,c4))) (by dsimp only;omega) (by dsimp only;omega) [0,1,2,3,4,5,6,7,8,9,10] rfl rfl
 simp only[decide_eq_false_iff_not,Int.ofNat_lt]at h2;obtain rfl:k=Z.length:=by omega
 have hsc:V.scan N n=⟨(V.goS N (V.all N) n Z.length).tb,(V.goS N (V.all N) n Z.length).torn++(V.goS N (V.all N) n Z.length).others,(V.goS N (V.all N) n Z.length).torn.length,compactI (sortI (V.goS N (V.all N) n Z.length).held),V.nextOf (V.all N),(V.all N).length⟩:=by
  unfold V.scan V.scanOf;rw[hms]
 generalize V.goS N (V.all N) n Z.length=S at hgl hgh hsc;refine J.q hX λ_=>?_;refine J.appendO hX tk 8 10 rfl rfl rfl rfl rfl rfl rfl rfl rfl rfl rfl rfl rfl (cellsE_one _) ?_ ?_ (λ_=>rfl) λa6 c6=>⟨_,(congrArg (λy=>lset _ 8 (ownA _ _ _ _ _ y)) (cellsE_app S.torn S.others)).trans rfl,(by first | exact trivial | (repeat' (first | exact trivial | refine⟨rfl,?_⟩))),?_⟩
 ·simp only[maxLen];omega
 ·omega
 rw[show S.torn.length+S.others.length=(S.torn++S.others).length from by simp];refine J.q hX λ_=>?_;refine J.cb hX (x_SortN a2 S.held.length c2 S.held rfl (by omega)) [9] ?_;refine cpq ⟨_,rfl,trivial,?_⟩;refine J.q hX λ_=>?_;refine J.ca hX (by kernel_rfl) (x_Compact a2 S.held.length c2 (sortI S.held) (sortI_len _) (by omega)) [9] 0 rfl rfl rfl rfl rfl rfl (λ_=>rfl) ?_;rintro v As ⟨l',hl',rfl,rfl⟩;refine⟨_,rfl,trivial,?_⟩;refine J.q hX λ_=>?_;refine J.ru hX [1,3,8,9] ?_;rw[hsc,<- hl'];exact⟨q,a6,c6,a2,c2,rfl,rfl⟩
end Go.Proofs.YtdocmcapegcoeaaGreat
namespace Go.Proofs.YtdocmcapegcoeaaGreat
def normI (l:List Int):List Int:=compactI (sortI l)
def insI:List Int->Int->List Int
 | [],b=>[b]
 | x::l,b=>if x<b then x::insI l b else if x=b then x::l else b::x::l
theorem insI_mem {b c:Int}:∀{l:List Int},c∈insI l b↔c=b\/c∈l
 | []=>by simp[insI]
 | x::l=>by
  simp only[insI];split
  ·rw[List.mem_cons,insI_mem,List.mem_cons];constructor
   ·rintro(h | h | h)<;>simp[h]
   ·rintro(h | h | h)<;>simp[h]
  ·split
   ·rename_i e;subst e;simp
   ·simp
theorem insI_sorted {b:Int}:∀{l:List Int},l.Pairwise (· < ·)->(insI l b).Pairwise (· < ·)
 | [],_=>by simp[insI]
 | x::l,h=>by
  simp only[insI];have h1:=List.pairwise_cons.1 h;split
  ·rename_i e;refine List.pairwise_cons.2 ⟨λc hc=>?_,insI_sorted h1.2⟩;rcases insI_mem.1 hc with rfl | hc
   ·exact e
   ·exact h1.1 c hc
  ·split
   ·exact h
   ·refine List.pairwise_cons.2 ⟨λc hc=>?_,h⟩;rcases List.mem_cons.1 hc with rfl | hc
    ·omega
    ·have:=h1.1 c hc;omega
theorem dedFrom_spec:∀(l:List Int) (p:Int),(p::l).Pairwise (· <= ·)->(dedFrom p l).Pairwise (· < ·)/\(∀c∈dedFrom p l,p<c)/\∀c,c∈dedFrom p l\/c=p↔c∈l\/c=p
 | [],p,_=>by simp[dedFrom]
 | x::l,p,h=>by
  have h1:=List.pairwise_cons.1 h;simp only[dedFrom]
  by_cases e:x=p
  ·subst e;obtain⟨a,b,c⟩:=dedFrom_spec l x h1.2;rw[if_pos rfl];refine⟨a,b,λd=>?_⟩;rw[c d,List.mem_cons];constructor
   ·rintro(h | h)<;>simp[h]
   ·rintro((h | h) | h)<;>simp[h]
  ·obtain⟨a,b,c⟩:=dedFrom_spec l x h1.2;have hx:p<x:=by have:=h1.1 x (List.mem_cons_self ..);omega
   rw[if_neg e];refine⟨List.pairwise_cons.2 ⟨b,a⟩,λd hd=>?_,λd=>?_⟩
   ·rcases List.mem_cons.1 hd with rfl | hd
    ·exact hx
    ·have:=b d hd;omega
   ·have:=c d;rw[List.mem_cons,List.mem_cons];constructor
    ·rintro((h | h) | h)
     ·simp[h]
     ·rcases this.1 (.inl h)with h | h<;>simp[h]
     ·simp[h]
    ·rintro((h | h) | h)
     ·simp[h]
     ·rcases this.2 (.inl h)with h | h<;>simp[h]
     ·simp[h]
theorem sortI_sorted (l:List Int):(sortI l).Pairwise (· <= ·):=by
 have:=List.pairwise_mergeSort (le:=leI) (λa b c h1 h2=>by simp only[leI,decide_eq_true_eq]at*;omega) (λa b=>by simp only[leI,Bool.or_eq_true,decide_eq_true_eq];omega) l;exact this.imp (λh=>by simpa[leI]using h)
theorem sortI_mem (l:List Int) (c:Int):c∈sortI l↔c∈l:=List.mem_mergeSort
theorem normI_spec (l:List Int):(normI l).Pairwise (· < ·)/\∀c,c∈normI l↔c∈l:=by
 have hs:=sortI_sorted l;have hm:=sortI_mem l;unfold normI
 revert hs hm
 cases sortI l with
 | nil=>intro _ hm;exact⟨by simp[compactI],λc=>by rw[<- hm c];simp[compactI]⟩
 | cons x m=>
  intro hs hm;obtain⟨a,b,c⟩:=dedFrom_spec m x hs;refine⟨List.pairwise_cons.2 ⟨b,a⟩,λd=>?_⟩;rw[<- hm d];show d∈x::dedFrom x m↔_;rw[List.mem_cons,List.mem_cons];have:=c d;constructor
  ·rintro(h | h)
   ·simp[h]
   ·rcases this.1 (.inl h)with h | h<;>simp[h]
  ·rintro(h | h)
   ·simp[h]
   ·rcases this.2 (.inl h)with h | h<;>simp[h]
theorem sorted_ext:∀{a b:List Int},a.Pairwise (· < ·)->b.Pairwise (· < ·)->(∀c,c∈a↔c∈b)->a=b
 | [],[],_,_,_=>rfl
 | [],y::b,_,_,h=>by have:=(h y).2 (List.mem_cons_self ..);cases this
 | x::a,[],_,_,h=>by have:=(h x).1 (List.mem_cons_self ..);cases this
 | x::a,y::b,ha,hb,h=>by
  have ha1:=List.pairwise_cons.1 ha;have hb1:=List.pairwise_cons.1 hb;have e:x=y:=by
   rcases List.mem_cons.1 ((h x).1 (List.mem_cons_self ..))with e | e
   ·exact e
   ·rcases List.mem_cons.1 ((h y).2 (List.mem_cons_self ..))with e2 | e2
    ·exact e2.symm
    ·have:=ha1.1 y e2;have:=hb1.1 x e;omega
  subst e;rw[sorted_ext ha1.2 hb1.2 (λc=>?_)];constructor
  ·intro hc;rcases List.mem_cons.1 ((h c).1 (List.mem_cons_of_mem _ hc))with e | e
   ·have:=ha1.1 c hc;omega
   ·exact e
  ·intro hc;rcases List.mem_cons.1 ((h c).2 (List.mem_cons_of_mem _ hc))with e | e
   ·have:=hb1.1 c hc;omega
   ·exact e
theorem normI_nil:normI []=[]:=by have:=(normI_spec []).2;exact List.eq_nil_iff_forall_not_mem.2 (λc hc=>by simpa using(this c).1 hc)
theorem normI_snoc (l:List Int) (b:Int):normI (l++[b])=insI (normI l) b:=by
 refine sorted_ext (normI_spec _).1 (insI_sorted (normI_spec l).1) λc=>?_;rw[(normI_spec _).2,insI_mem,(normI_spec l).2,List.mem_append,List.mem_singleton,or_comm]
theorem normI_len (l:List Int):(normI l).length<=l.length:=by
 have h:∀(l:List Int),(compactI l).length<=l.length:=λl=>by
  have:∀(l:List Int) (p:Int),(dedFrom p l).length<=l.length:=λl=>by
   induction l with
   | nil=>intro p;simp[dedFrom]
   | cons x l ih=>intro p;simp only[dedFrom];split<;>simp only[List.length_cons]<;>have:=ih x<;>have:=ih p<;>omega
  cases l with
  | nil=>simp[compactI]
  | cons x l=>have:=this l x;simp only[compactI,List.length_cons];omega
 have:=h (sortI l);rw[sortI_len]at this;exact this
def spotH (l:List Int) (b:Int):Nat:=(l.takeWhile λx=>decide (x<b)).length
theorem insI_spotH (b:Int):∀l:List Int,insI l b=if l[spotH l b]? =some b then l else l.take (spotH l b)++[b]++l.drop (spotH l b)
 | []=>by simp[insI,spotH]
 | x::l=>by
  simp only[insI]
  by_cases h:x<b
  ·have hs:spotH (x::l) b=spotH l b+1:=by simp[spotH,List.takeWhile_cons,h]
   rw[if_pos h,insI_spotH b l,hs];simp only[List.getElem?_cons_succ,List.take_succ_cons,List.drop_succ_cons];split
   ·rfl
   ·rfl
  ·have hs:spotH (x::l) b=0:=by simp[spotH,List.takeWhile_cons,h]
   rw[if_neg h,hs];simp only[List.getElem?_cons_zero,Option.some.injEq,List.take_zero,List.nil_append,List.drop_zero];rfl
namespace V
theorem tops_snoc (l:List Fnd) (x:Fnd):tops (l++[x])=topsStep (tops l) x:=by unfold tops;rw[List.foldl_append];rfl
theorem standOf_snoc (l:List Fnd) (x:Fnd):standOf (l++[x])=if(standOf l).2=false\/behind (standOf l).1 x=true then(x,true)else standOf l:=by
 unfold standOf;rw[tops_snoc];cases tops l with
 | nil=>simp[topsStep]
 | cons h t=>
  simp only[topsStep,Bool.true_eq_false,false_or]
  by_cases hb:behind h x=true
  ·rw[if_pos hb,if_pos hb]
  ·rw[if_neg hb,if_neg hb]
   by_cases hb2:behind x h=true
   ·rw[if_pos hb2]
   ·rw[if_neg hb2];rfl
def topSeq (l:List Fnd):Int:=l.foldl (λm f=>max m f.en.seq) (-1)
theorem topSeq_snoc (l:List Fnd) (x:Fnd):topSeq (l++[x])=max (topSeq l) x.en.seq:=by unfold topSeq;rw[List.foldl_append];rfl
theorem topSeq_le (l:List Fnd): -1<=topSeq l/\∀f∈l,f.en.seq<=topSeq l:=by
 have:∀(l:List Fnd) (m:Int),m<=l.foldl (λm f=>max m f.en.seq) m/\∀f∈l,f.en.seq<=l.foldl (λm f=>max m f.en.seq) m:=by
  intro l
  induction l with
  | nil=>intro m;simp
  | cons x l ih=>
   intro m;have:=ih (max m x.en.seq);refine⟨by simp only[List.foldl_cons];omega,λf hf=>?_⟩;rcases List.mem_cons.1 hf with rfl | hf
   ·simp only[List.foldl_cons];omega
   ·exact this.2 f hf
 exact this l (-1)
theorem behind_whole {a b:Fnd} (ha:a.whole=true) (hb:b.whole=true):behind a b=decide (a.en.seq<b.en.seq):=by
 unfold behind;split
 ·rfl
 ·rename_i h;rw[ha];have:¬a.en.seq<b.en.seq:=by omega
  simp[this]
theorem tops_whole (l:List Fnd) (h:∀f∈l,f.whole=true/\0<=f.en.seq):tops l=l.filter λf=>f.en.seq==topSeq l:=by
 have:∀k,k<=l.length->tops (l.take k)=(l.take k).filter (λf=>f.en.seq==topSeq (l.take k))/\(tops (l.take k)=[]->k=0):=by
  intro k
  induction k with
  | zero=>intro _;simp[tops]
  | succ k ih=>
   intro hk;obtain⟨ih0,ih2⟩:=ih (by omega);clear ih;have ih:=ih0;clear ih0;obtain⟨x,hx⟩:∃x,l[k]? =some x:=⟨_,List.getElem?_eq_getElem (by omega)⟩;have hxl:=h x (List.mem_of_getElem? hx);rw[List.take_add_one,hx,Option.toList_some,tops_snoc,topSeq_snoc,List.filter_append];have htl:=topSeq_le (l.take k);have hml:∀f∈l.take k,f.whole=true/\0<=f.en.seq:=λf hf=>h f (List.mem_of_mem_take hf);generalize htp:tops (l.take k)=o at ih ih2;generalize l.take k=m at ih htl hml htp;cases o with
   | nil=>
    have hk0:=ih2 rfl;have hno:m.filter (λf=>f.en.seq==max (topSeq m) x.en.seq)=[]:=by
     rw[List.filter_eq_nil_iff];intro f hf;have h1:=htl.2 f hf;have:f∉m.filter (λf=>f.en.seq==topSeq m):=by rw[<- ih];simp
     simp only[List.mem_filter,hf,true_and,beq_iff_eq]at this;simp only[beq_iff_eq];omega
    have hmt:topSeq m<=x.en.seq:=by
     by_cases hm:m=[]
     ·subst hm;simp only[topSeq,List.foldl_nil];omega
     ·exfalso
      clear hno hk0
      --the top is there
      have:∃f∈m,f.en.seq=topSeq m:=topSeq_in m hm (λf hf=>(hml f hf).2);obtain⟨f,hf,e⟩:=this;have:f∈m.filter (λf=>f.en.seq==topSeq m):=by simp[hf,e]
      rw[<- ih]at this;cases this
    rw[hno];simp only[topsStep,List.nil_append];refine⟨?_,λh=>by simp at h⟩;rw[List.filter_cons_of_pos (by simp only[beq_iff_eq];omega)];rfl
   | cons y o=>
    have hy:y∈m.filter (λf=>f.en.seq==topSeq m):=by rw[<- ih];exact List.mem_cons_self ..
    simp only[List.mem_filter,beq_iff_eq]at hy;have hyw:=(hml y hy.1).1;simp only[topsStep];rw[behind_whole hyw hxl.1,behind_whole hxl.1 hyw]
    by_cases h1:y.en.seq<x.en.seq
    ·rw[if_pos (by simpa using h1)];refine⟨?_,λh=>by simp at h⟩;have hno:m.filter (λf=>f.en.seq==max (topSeq m) x.en.seq)=[]:=by
      rw[List.filter_eq_nil_iff];intro f hf;have h1:=htl.2 f hf;simp only[beq_iff_eq];omega
     rw[hno,List.filter_cons_of_pos (by simp only[beq_iff_eq];omega)];rfl
    ·rw[if_neg (by simpa using h1),show max (topSeq m) x.en.seq=topSeq m by omega]
     by_cases h2:x.en.seq<y.en.seq
     ·rw[if_pos (by simpa using h2)];refine⟨?_,λh=>by simp at h⟩;rw[<- ih,List.filter_cons_of_neg (by simp only[beq_iff_eq];omega)];simp
     ·rw[if_neg (by simpa using h2)];refine⟨?_,λh=>by simp at h⟩;rw[<- ih,List.filter_cons_of_pos (by simp only[beq_iff_eq];omega)];rfl
 have:=(this l.length (Nat.le_refl _)).1
 rwa [List.take_length]at this
where
 topSeq_in (m:List Fnd) (hm:m≠[]) (h0:∀f∈m,0<=f.en.seq):∃f∈m,f.en.seq=topSeq m:=by
  have:∀(m:List Fnd) (a:Int),m.foldl (λm f=>max m f.en.seq) a=a\/∃f∈m,f.en.seq=m.foldl (λm f=>max m f.en.seq) a:=by
   intro m
   induction m with
   | nil=>intro a;left;rfl
   | cons x m ih=>
    intro a;rcases ih (max a x.en.seq)with h | ⟨f,hf,e⟩
    ·by_cases ha:x.en.seq<=a
     ·left;simp only[List.foldl_cons];rw[h];omega
     ·right;exact⟨x,List.mem_cons_self ..,by simp only[List.foldl_cons];rw[h];omega⟩
    ·right;exact⟨f,List.mem_cons_of_mem _ hf,e⟩
  rcases this m (-1)with h | h
  ·cases m with
   | nil=>exact absurd rfl hm
   | cons x m=>
    have h1:=(topSeq_le (x::m)).2 x (List.mem_cons_self ..);have h2:=h0 x (List.mem_cons_self ..);have h3:topSeq (x::m)= -1:=h;omega
  ·exact h
end V
end Go.Proofs.YtdocmcapegcoeaaGreat
namespace Go.Proofs.YtdocmcapegcoeaaGreat
open Go Go.RowKit
namespace B16
def e1:En:=⟨2,5,1,1::List.replicate 15 0⟩
def e2:En:=⟨2,4,1,2::List.replicate 15 0⟩
def e3:En:=⟨1,8,2,zeros16⟩
def w1:En:=⟨4,1,0,zeros16⟩
def w2:En:=⟨5,2,0,zeros16⟩
def w3:En:=⟨4,3,0,zeros16⟩
def N0:Nand:=Nand.new 3 8 2
def N1:Nand:=(R.write N0 1 0 7 [e1,B9.pad]).1
def N2:Nand:=(R.write N1 2 0 7 [e2,e3]).1
theorem G0:N0.Gd 100 0:=Nand.Gd.new 3 8 2 rfl 100 (by decide)
theorem G1:N1.Gd 92 0:=write_Gd (by decide) G0
theorem G2:N2.Gd 84 0:=write_Gd (by decide) G1
theorem off2:N2.off=false:=by kernel_rfl
def L:List Fnd:=[⟨e1,1,0,0,7,true,false⟩,⟨e2,2,0,0,7,true,false⟩,⟨e3,2,0,1,7,true,false⟩]
def T:Tb:=⟨3,[(1,⟨2,0,1,7,8,2⟩),(2,⟨1,0,0,7,5,1⟩)],[(2,1),(1,1)],9⟩
theorem h_all:V.all N2=L:=by kernel_rfl
theorem h_go:V.goS N2 L 3 3=⟨T,[],[],[]⟩:=by kernel_rfl
theorem h_size:V.size 3=3:=by kernel_rfl
theorem h_next:V.nextOf L=9:=by kernel_rfl
theorem h_scan:V.scan N2 3=⟨T,[],0,[],9,3⟩:=by
 unfold V.scan;rw[h_all];unfold V.scanOf;rw[h_size,h_go,h_next];have:compactI (sortI [])=[]:=normI_nil;dsimp only;rw[this];rfl
end B16
end Go.Proofs.YtdocmcapegcoeaaGreat
namespace Go.Proofs.YtdocmcapegcoeaaGreat
open Go Go.RowKit
theorem l11_Begun:Fn Tryz.prog 139 [] [] (λv As=>v= .bool true/\As=[]):=by
 refine Fn.enter [] Tryz.func139 rfl rfl rfl λX F hX=>?_;refine J.q hX λ_=>?_;refine J.cb hX (l11_begun) [] ?_;refine cpq ⟨_,rfl,trivial,?_⟩;refine J.q hX λ_=>?_;exact J.ru hX [] ⟨rfl,rfl⟩
open B16
theorem l16_begun:Fn Tryz.prog 99 [] [] (λv As=>v= .bool true/\As=[]):=by
 refine Fn.enter [] Tryz.func99 rfl rfl rfl λX F hX=>?_;refine J.q hX λ_=>?_;refine J.cb hX (n_New 3 8 2 rfl) [] ?_;rintro v As ⟨q,rfl,rfl⟩;refine⟨_,rfl,trivial,?_⟩;refine J.q hX λ_=>?_;refine J.cF ?_;refine J.q hX λbx=>?_;refine J.ca hX (by kernel_rfl) (r_Write q N0 (.pt (bx 0) 38 (cellsE [e1,B9.pad])) 1 0 7 (some ⟨bx 0,0,none⟩) 2 2 0 [e1,B9.pad] (pt_rd _ _ _ _ _ rfl) rfl (by decide) (G0.less (by decide) (Nat.le_refl _))) [1,2] 0 rfl rfl rfl rfl rfl rfl (λ_=>rfl) ?_;refine cpq ⟨_,rfl,trivial,?_⟩;refine J.q hX λby_=>?_;refine J.ca hX (by kernel_rfl) (r_Write q N1 (.pt (by_ 0) 38 (cellsE [e2,e3])) 2 0 7 (some ⟨by_ 0,0,none⟩) 2 2 0 [e2,e3] (pt_rd _ _ _ _ _ rfl) rfl (by decide) (G1.less (by decide) (Nat.le_refl _))) [1,3] 0 rfl rfl rfl rfl rfl rfl (λ_=>rfl) ?_;refine cpq ⟨_,rfl,trivial,?_⟩;refine J.q hX λ_=>?_;refine J.cb hX (v_Scan q N2 G2.ok G2.room off2 3) [1] ?_;rintro v As ⟨r,a1,c1,a2,c2,rfl,rfl⟩;refine⟨_,rfl,trivial,?_⟩;rw[h_scan];refine J.q hX λ_=>?_;refine J.cF ?_;refine J.q hX λ_=>?_;refine J.cb hX (tb_Get r T 2) [4] ?_;refine cpq ⟨_,rfl,trivial,?_⟩;rw[show Tb.look T.at_ 2=some ⟨1,0,0,7,5,1⟩from rfl,Option.getD_some,Option.isSome_some];refine J.q hX λ_=>?_;refine J.cb hX (d_New) [] ?_;rintro v As ⟨d,rfl,rfl⟩;refine⟨_,rfl,trivial,?_⟩;refine J.q hX λ_=>?_;refine J.cb hX (d_Put d [] (by decide) w1) [9] ?_;refine cpq ⟨_,rfl,trivial,?_⟩;rw[show dkPut [] w1=[w1]from rfl];refine J.q hX λ_=>?_;refine J.cb hX (d_Put d [w1] (by decide) w2) [9] ?_;refine cpq ⟨_,rfl,trivial,?_⟩;rw[show dkPut [w1] w2=[w1,w2]from rfl];refine J.q hX λ_=>?_;refine J.cb hX (d_Put d [w1,w2] (by decide) w3) [9] ?_;refine cpq ⟨_,rfl,trivial,?_⟩;rw[show dkPut [w1,w2] w3=[w2,w3]from rfl];refine J.q hX λ_=>?_;refine J.cb hX (d_First d [w2,w3] (by decide) 5) [9] ?_;rintro v As ⟨a3,c3,rfl,rfl⟩;refine⟨_,rfl,trivial,?_⟩;rw[show dkN [w2,w3] 5=2 from rfl,show[w2,w3].take 2=[w2,w3]from rfl];refine J.know (λh' s=>own_some (c:=(a3,c3)) (by decide) (s.get (i:=10) rfl)) λhg=>?_;obtain⟨ga,rfl⟩:=hg;refine J.know (λh' s=>ownP_cap (show ownP _ _ (some ga) 2 c3 _ _ from s.get (i:=10) rfl)) λhcap=>?_;refine J.q hX λ_=>?_;refine J.cb hX (d_Get d [w2,w3] (by decide) 4) [9] ?_;refine cpq ⟨_,rfl,trivial,?_⟩;rw[show dkGet [w2,w3] 4=(w3,true)from rfl];refine J.q hX λ_=>?_;refine J.cb hX (l11_Begun) [] ?_;refine cpq ⟨_,rfl,trivial,?_⟩;refine J.q hX λ_=>?_;refine J.cb hX (l13_Begun) [] ?_;refine cpq ⟨_,rfl,trivial,?_⟩;refine J.q hX λ_=>?_;refine J.cb hX (tb_Len r T) [4] ?_;refine cpq ⟨_,rfl,trivial,?_⟩;refine J.q hX λ_=>?_;refine J.val hX (.int .i64 5) 0 rfl rfl (λhg a w he hw=>own1_run tk rfl rfl he hg rfl rfl (hw.get (i:=10) rfl) rfl) rfl trivial ?_;refine J.q hX λ_=>?_;have hRd:Rd (ownA 38 19 (some ga) 2 c3 (cellsE [w2,w3])) (some ⟨ga,0,none⟩) 19 1 (cellsE [w2]):=(own_rd 38 19 (some ga) 2 c3 (cellsE [w2,w3])).take 1 (by decide);refine J.q hX λ_=>?_;refine J.cb hX (d_Done d [w2,w3] (by decide) (ownA 38 19 (some ga) 2 c3 (cellsE [w2,w3])) (some ⟨ga,0,none⟩) 1 c3 [w2] hRd rfl (by decide)) [9,10] ?_;refine cpq ⟨_,rfl,trivial,?_⟩;rw[show dkDone [w2,w3] [w2]=[w3]from rfl];refine J.q hX λ_=>?_;refine J.cb hX (d_Len d [w3]) [9] ?_;refine cpq ⟨_,rfl,trivial,?_⟩;refine J.q hX λ_=>?_;exact J.ru hX [] ⟨rfl,rfl⟩
end Go.Proofs.YtdocmcapegcoeaaGreat
