/- Helpers. No condition. -/
import Derived.Test.YtpohajhbfllbbaaGreatF01
import Derived.Test.YtpohajhbfllbbaaGreatF04
import Derived.Test.YtpohajhbfllbbaaGreatF06
import Derived.Test.YtpohajhbfllbbaaGreatF08
import Derived.Shelf.GgSortFunc.InsertionK
import Derived.Sort.Grow
import Derived.Shelf.SlLaysF0
import Derived.Shelf.SlSortCmp.WholeK
import Derived.Laws.AppendOwn
set_option maxRecDepth 20000
set_option linter.all false
namespace Go.Proofs.YtpohajhbfllbbaaGreat
open Go Go.RowKit
def b0g (x:Nat):Nat:=([0,1,2,2,3,3,3,3,4,4,4,4,4]:List Nat).getD x 0
theorem b5g:Tryz.prog.underlying 9=some .string:=by kernel_rfl
theorem a4g {P:Program} {E:Env} {w:World} {n0:Nat} {a:Act} {o:Oper} {ty:TypeId} {s:ByteArray} {y:Operand} {k tg:Nat} {g:G} {ik:IntKind} {i:Int} {b:UInt8} (hop:o.op= .index ty (.const (.string s)) y) (hy:ev E y=some ⟨k, .int ik i,tg,g⟩) (he:EnvOK n0 E a) (hg:g.on=true) (hd:P.underlying ty=some .string)
  (h0:0<=i) (hb:s.data.toList[i.toNat]? =some b):(execOp a.eval o).run P w= .ok (.value (.int .u8 b.toNat)) w:=by
 have ey:=f7 he hy;simp only[Slot.val,hg]at ey;have h1:=run_index_string (P:=P) (w:=w) ty s ik i hd;have hlt:i.toNat<s.size:=(List.getElem?_eq_some_iff.1 hb).1;have hv:s[i.toNat]'hlt=b:=by
  have:=(List.getElem?_eq_some_iff.1 hb).2;rw[<- this];rfl
 rw[dif_pos ⟨h0,by omega⟩,hv]at h1;simp only[execOp,hop,ey,Sem.run_bind];have e1:a.eval (.const (.string s))= .string s:=rfl;rw[e1,h1];rfl
theorem b2w {x:Nat} (hx:x<=12):b0g x<=4:=by
 obtain rfl | rfl | rfl | rfl | rfl | rfl | rfl | rfl | rfl | rfl | rfl | rfl | rfl:x=0\/x=1\/x=2\/x=3\/x=4\/x=5\/x=6\/x=7\/x=8\/x=9\/x=10\/x=11\/x=12:=by omega
 all_goals decide
theorem b2Y (x:Nat) (hx:x<=12):FP 220 [.int .u64 x] [] (λv As=>(∃k:Nat,k<=8/\v=iI k)/\As=[]):=by
 have h4:=b2w hx;refine FE [0] Tryz.func220 λX F hX=>?_;refine J.qd (λ_ h1=>?_) λ_ h1=>?_
 ·simp only[decide_eq_true_eq]at h1;omega
 refine J.qd (λ_ h2=>?_) λ_ h2=>?_
 ·simp only[decide_eq_true_eq]at h2;omega
 refine J.qd (λ_ h3=>?_) λ_ h3=>?_
 ·simp only[decide_eq_true_eq]at h3;omega
 refine J.q λ_=>?_;refine J.v (.int .u8 (UInt8.ofNat (b0g x)).toNat) rfl rfl (λhg a w he hs=>?_) ?_
 ·refine a4g rfl rfl he rfl b5g (by omega) ?_;obtain rfl | rfl | rfl | rfl | rfl | rfl | rfl | rfl | rfl | rfl | rfl | rfl | rfl:x=0\/x=1\/x=2\/x=3\/x=4\/x=5\/x=6\/x=7\/x=8\/x=9\/x=10\/x=11\/x=12:=by omega
  all_goals rfl
 have h5:(UInt8.ofNat (b0g x)).toNat=b0g x:=by rw[UInt8.toNat_ofNat'];omega
 rw[h5];refine J.qr [] λ_=>?_;exact⟨⟨b0g x,by omega,by simp⟩,rfl⟩
theorem b3p (x:Nat) (hx:x<=12):FP 177 [.int .u64 x] [] (λv As=>(∃k:Nat,k<=8/\v=iI k)/\As=[]):=by
 refine FE [0] Tryz.func177 λX F hX=>?_;refine J.qF λ_=>?_;refine J.qc (b2Y x hx) [] λ_=>?_;rintro v As ⟨⟨k,hk,rfl⟩,rfl⟩;refine⟨_,rfl,trivial,?_⟩;refine J.qr [] λ_=>?_;exact⟨⟨k,hk,rfl⟩,rfl⟩
theorem b3I (c:Nat) (f:A3->A3->Int) (hcal:j7 Tryz.prog c=true) (hf:∀x y,Fn Tryz.prog c [H3 x,H3 y] [] (Ps (iI (f x y)) []))
  (g n cap:Nat) (l:List A3) (hl:l.length=n) (hn:n<=12) (r:List Value) (k:Nat):FP 273 [.slice (some ⟨g,0,none⟩) n cap,iI 0,iI n,iI k,fnV c] [.pt g 33 (g6 l++r)]
  (Ps (.tuple #[]) [.pt g 33 (g6 (S8 f l)++r)]):=by
 refine FE [2,0,0,0,0] Tryz.func273 λX F hX=>?_;refine J.q λ_=>?_;refine J.l (α:=Nat) (λy=>True) (λy=>[⟨0, .slice (some ⟨g,0,none⟩) n cap,2, .tt⟩,si 1 0,si 2 n,si 3 k,⟨4,fnV c,0, .tt⟩]) [1] (λy=>[.pt g 33 (g6 l++r)]) (λy=>0) (0) (trivial) λy hI=>?_;refine J.qd (λ_ h1=>?_) λ_ h1=>?_
 ·refine J.q λ_=>?_;rw[show(n:Int)-0=n from by omega]at*;refine J.qp (b3W c f hcal hf g n cap l hl (by omega) r) [1] λ_=>?_;exact J.qx [1]
 ·simp only[decide_eq_false_iff_not]at h1;omega
theorem b2h (c:Nat) (d:Value) (k:Nat):FP 273 [d,iI 0,iI 0,iI k,fnV c] [] (Ps (.tuple #[]) []):=by
 have h0:FP 276 [d,iI 0,iI 0,fnV c] [] (Ps (.tuple #[]) []):=by
  refine FE [0,0,0,0] Tryz.func276 λX F hX=>?_;refine J.q λ_=>?_;refine J.l (α:=Nat) (λy=>True) (λy=>[si 8 (0+1),sv 0 d,si 1 0,si 2 0,⟨3,fnV c,0, .tt⟩]) [] (λy=>[]) (λy=>0) (0) (trivial) λy hI=>?_;refine J.qd (λ_ h1=>?_) λ_ h1=>?_
  ·simp at h1
  ·refine J.q λ_=>?_;refine J.f [] ?_;exact⟨rfl,rfl⟩
 refine FE [0,0,0,0,0] Tryz.func273 λX F hX=>?_;refine J.q λ_=>?_;refine J.l (α:=Nat) (λy=>True) (λy=>[sv 0 d,si 1 0,si 2 0,si 3 k,⟨4,fnV c,0, .tt⟩]) [] (λy=>[]) (λy=>0) (0) (trivial) λy hI=>?_;refine J.qd (λ_ h1=>?_) λ_ h1=>?_
 ·refine J.qp (h0) [] λ_=>?_;exact J.qx []
 ·simp at h1
theorem a1u (c:Nat) (f:A3->A3->Int) (hcal:j7 Tryz.prog c=true) (hf:∀x y,Fn Tryz.prog c [H3 x,H3 y] [] (Ps (iI (f x y)) []))
  (a:Option Nat) (n cap:Nat) (l:List A3) (hl:l.length=n) (hn:n<=12):FP 268 [slv a n cap,fnV c] [c8 33 3 a n cap (g6 l)]
  (Ps (.tuple #[]) [c8 33 3 a n cap (g6 (S8 f l))]):=by
 refine FE [0,0] Tryz.func268 λX F hX=>?_;refine J.qc (b3p n hn) [] λ_=>?_;rintro v As ⟨⟨k,hk,rfl⟩,rfl⟩;refine⟨_,rfl,trivial,?_⟩;refine J.q λ_=>?_;cases a with
 | none=>
  refine J.know (λh' s=>(s.get (i:=1) rfl).2.1) λhn0=>?_;subst hn0;have:l=[]:=List.eq_nil_of_length_eq_zero hl;subst this;refine J.qp (b2h c (slv none 0 cap) k) [] λ_=>?_;refine J.q λ_=>?_;refine J.f [1] ?_;exact⟨rfl,rfl⟩
 | some g=>
  refine J.openOwn 1 rfl rfl (λ_=>rfl) λr q1 q2 q3 q4=>?_;refine J.qp (b3I c f hcal hf g n cap l hl hn r k) [1] λ_=>?_;refine J.closeOwn (e:=33) (size:=3) (n:=n) (cap:=cap) (xs:=g6 (S8 f l)) 1 rfl rfl (by rw[l7,(D1 f l).length_eq,hl]) q2 q3 (by rw[List.length_append,l7,(D1 f l).length_eq];rw[l7]at q4;exact q4) (by rw[List.take_left' (by rw[l7,(D1 f l).length_eq,hl])]) rfl ?_;refine J.q λ_=>?_;refine J.f [1] ?_;exact⟨rfl,rfl⟩
def a2C (x:A3):List Value:=[.int .i64 x.1, .int .i64 x.2.1, .int .i64 x.2.2]
instance:Inhabited A3:=⟨d3⟩
theorem a1Y (d:Array A3):(Go.Sort.flatK a2C 3 d).toList=g6 d.toList:=by
 apply List.ext_getElem?;intro t;have hs:(Go.Sort.flatK a2C 3 d).toList.length=d.size*3:=by simp
 by_cases ht:t<d.size*3
 ·have hx:d.toList[t/3]? =some d[t/3]!:=by
   rw[Array.getElem?_toList,Array.getElem?_eq_getElem (by omega),getElem!_pos d _ (by omega)]
  have h1:=w6 d.toList [] (t/3) _ hx;rw[List.append_nil]at h1;have h2:(g6 d.toList)[t]? =([.int .i64 d[t/3]!.1, .int .i64 d[t/3]!.2.1, .int .i64 d[t/3]!.2.2]:List Value)[t % 3]?:=by
   rw[<- h1,List.getElem?_take,if_pos (Nat.mod_lt _ (by decide)),List.getElem?_drop,show t/3*3+t % 3=t from by omega]
  rw[h2];have h3:=Go.Sort.get_flatK a2C 3 d t ht;rw[Array.getElem?_toList,Array.getElem?_eq_getElem (by simpa using ht),<- getElem!_pos (Go.Sort.flatK a2C 3 d) t (by simpa using ht),h3];have:t % 3<3:=Nat.mod_lt _ (by decide);rcases(by omega:t % 3=0\/t % 3=1\/t % 3=2)with e | e | e<;>rw[e]<;>rfl
 ·rw[List.getElem?_eq_none (by omega),List.getElem?_eq_none (by rw[l7,Array.length_toList];omega)]
theorem a2y (F cur:Array Value) (h:F.size<=cur.size):(Go.Sort.putCells id 0 F cur).size=cur.size/\(Go.Sort.putCells id 0 F cur).toList.take F.size=F.toList:=by
 unfold Go.Sort.putCells;refine⟨by simp,?_⟩;apply List.ext_getElem?;intro t;rw[List.getElem?_take]
 by_cases ht:t<F.size
 ·rw[if_pos ht,Array.getElem?_toList,Array.getElem?_toList,Array.getElem?_eq_getElem (by simp;omega),Array.getElem_mapIdx,if_pos (by omega),Nat.sub_zero,Array.getElem?_eq_getElem ht,getElem!_pos F t ht];rfl
 ·rw[if_neg ht,List.getElem?_eq_none (by simpa using ht)]
theorem a0q (w:World) (g m e:Nat) (cur:Array Value) (F:Array Value) (os:Array Obj) (h:hl w g=some (.cells cur e (0,0))):
  hl (Go.Sort.grow (Go.Sort.putRow id (Go.Sort.ahead w m) g 0 F) os) g=some (.cells (Go.Sort.putCells id 0 F cur) e (0,0))/\
  (∀b o,b≠g->hl w b=some o->hl (Go.Sort.grow (Go.Sort.putRow id (Go.Sort.ahead w m) g 0 F) os) b=some o)/\Ext w (Go.Sort.grow (Go.Sort.putRow id (Go.Sort.ahead w m) g 0 F) os):=by
 have hsz:(Go.Sort.putRow id (Go.Sort.ahead w m) g 0 F).heap.size=w.heap.size:=Go.Sort.size_putRow id _ _ _ _;have key:∀b o,w.heap[b]? =some o->(Go.Sort.grow (Go.Sort.putRow id (Go.Sort.ahead w m) g 0 F) os).heap[b]? =(w.heap.modify g (Go.Sort.onCells (Go.Sort.putCells id 0 F)))[b]?:=λb o hb=>by
  have hlt:b<w.heap.size:=(Array.getElem?_eq_some_iff.1 hb).1;show((Go.Sort.putRow id (Go.Sort.ahead w m) g 0 F).heap++os)[b]? =_;rw[Array.getElem?_append_left (by omega)];rfl
 refine⟨?_,λb o hb ho=>?_,rfl,rfl,rfl,?_⟩
 ·show(Go.Sort.grow _ os).heap[g]? =_;rw[key g _ h,Array.getElem?_modify,if_pos rfl,show w.heap[g]? =_ from h];rfl
 ·show(Go.Sort.grow _ os).heap[b]? =_;rw[key b _ ho,Array.getElem?_modify,if_neg (λe=>hb e.symm)];exact ho
 ·show w.heap.size<=((Go.Sort.putRow id (Go.Sort.ahead w m) g 0 F).heap++os).size;rw[Array.size_append];omega
theorem b3Y {w:World} {g e n cap:Nat} {l:List A3} (hl':l.length=n) (h:C9 e 3 (some g) n cap (g6 l) (hl w)):Go.Sort.HoldsK a2C 3 w g 0 l.toArray:=by
 obtain⟨h0,cur,h2,h3,h4,h5,h6⟩:=h;intro j hj;have hF:=a1Y l.toArray;simp only[Go.Sort.size_flatK,List.size_toArray]at hj;have hb:Blk w g e cur:=h2;rw[Nat.zero_add];refine⟨?_,hb.frozen j⟩;rw[hb.cell,<- Array.getElem?_toList];have h7:(g6 l)[j]? =cur.toList[j]?:=by
  rw[<- h6,List.getElem?_take,if_pos (by omega)]
 rw[<- h7,<- hF,Array.getElem?_toList,Array.getElem?_eq_getElem (by simpa using hj),getElem!_pos _ _ (by simpa using hj)];rfl
set_option maxHeartbeats 400000 in
theorem Z5 (a b:Int) (w:World):Calls Tryz.prog 94 #[.int .i64 a, .int .i64 b] w λe w'=>e= .returned (.int .i64 (s4 a b))/\w=w':=by
 rcases Int.lt_trichotomy a b with h | h | h
 ·have h2:s4 a b= -1:=by simp[s4,h]
  go_enter Tryz.func94,Tryz.ntmps94
  go_wp2
  go_ret
  exact⟨a3R h2.symm,rfl⟩
 ·have h2:s4 a b=0:=by simp[s4,h]
  go_enter Tryz.func94,Tryz.ntmps94
  go_wp2
  go_ret
  exact⟨a3R h2.symm,rfl⟩
 ·have h2:s4 a b=1:=by simp[s4];omega
  go_enter Tryz.func94,Tryz.ntmps94
  go_wp2
  go_ret
  exact⟨a3R h2.symm,rfl⟩
set_option maxHeartbeats 800000 in
theorem b5f (g:Nat) (a b c:Int) (w:World) (h0:w.cell? ⟨g,0,none⟩=some (.int .i64 a)) (h1:w.cell? ⟨g,1,none⟩=some (.int .i64 b)) (h2:w.cell? ⟨g,2,none⟩=some (.int .i64 c)):Calls Tryz.prog 189 #[.slice (some ⟨g,0,none⟩) 3 3] w λe w'=>e= .returned (.int .i64 (orI [a,b,c]))/\w=w':=by
 have ho:orI [a,b,c]=if a≠0 then a else if b≠0 then b else if c≠0 then c else 0:=rfl
 go_enter Tryz.func189,Tryz.ntmps189
 go_wp2
 go_loop [8] (λx=>∃k:Nat,k<=3/\x= .int .i64 k/\(0<k->a=0)/\(1<k->b=0)/\(2<k->c=0)) (λx=>3-(intOf x).toNat)
 case atStart=>exact⟨0,by omega,rfl,by omega,by omega,by omega⟩
 case round=>
  obtain⟨k,hk,rfl,z1,z2,z3⟩:=hrel;rcases(by omega:k=0\/k=1\/k=2\/k=3)with rfl | rfl | rfl | rfl
  ·by_cases hz:a=0
   ·subst hz
    go_wp2
    go_round
    case rel=>exact⟨1,by omega,rfl,by simp,by omega,by omega⟩
    case measure=>simp[intOf]
   ·have ho2:=Lib.hid (show orI [a,b,c]=a by rw[ho,if_pos hz]);clear ho
    go_wp2
    go_ret
    exact⟨a3R ho2.out.symm,rfl⟩
  ·have ha:=z1 (by omega);subst ha
   by_cases hz:b=0
   ·subst hz
    go_wp2
    go_round
    case rel=>exact⟨2,by omega,rfl,by simp,by simp,by omega⟩
    case measure=>simp[intOf]
   ·have ho2:=Lib.hid (show orI [0,b,c]=b by rw[ho,if_neg (by simp),if_pos hz]);clear ho
    go_wp2
    go_ret
    exact⟨a3R ho2.out.symm,rfl⟩
  ·have ha:=z1 (by omega);have hb:=z2 (by omega);subst ha hb
   by_cases hz:c=0
   ·subst hz
    go_wp2
    go_round
    case rel=>exact⟨3,by omega,rfl,by simp,by simp,by simp⟩
    case measure=>simp[intOf]
   ·have ho2:=Lib.hid (show orI [0,0,c]=c by rw[ho,if_neg (by simp),if_neg (by simp),if_pos hz]);clear ho
    go_wp2
    go_ret
    exact⟨a3R ho2.out.symm,rfl⟩
  ·have ho2:=Lib.hid (show orI [a,b,c]=0 by rw[z1 (by omega),z2 (by omega),z3 (by omega)];rfl);clear ho z1 z2 z3
   go_wp2
   go_ret
   exact⟨a3R ho2.out.symm,rfl⟩
set_option maxRecDepth 100000 in
set_option maxHeartbeats 800000 in
theorem b1B (x y:A3) (w:World):Calls Tryz.prog 269 #[.agg #[.int .i64 x.1, .int .i64 x.2.1, .int .i64 x.2.2], .agg #[.int .i64 y.1, .int .i64 y.2.1, .int .i64 y.2.2]] w λe w'=>e= .returned (.int .i64 (a0N x y))/\∃q os',w'=Go.Sort.grow (w.drewN q) os':=by
 obtain⟨x0,x1,x2⟩:=x;obtain⟨y0,y1,y2⟩:=y
 go_enter Tryz.func269,Tryz.ntmps269
 go_upto_region 1 with fail
 obtain⟨w0,hw0⟩:∃w0,(w.alloc (.cells #[.int .i64 x0, .int .i64 x1, .int .i64 x2] 33)).alloc (.cells #[.int .i64 y0, .int .i64 y1, .int .i64 y2] 33)=w0:=⟨_,rfl⟩;rw[hw0];have hg:w0=Go.Sort.grow w #[.cells #[.int .i64 x0, .int .i64 x1, .int .i64 x2] 33 (0,0), .cells #[.int .i64 y0, .int .i64 y1, .int .i64 y2] 33 (0,0)]:=by
  rw[<- hw0,Go.Sort.alloc_eq_grow,Go.Sort.alloc_eq_grow,Go.Sort.grow_grow];rfl
 have b0:Blk w0 w.heap.size 33 #[.int .i64 x0, .int .i64 x1, .int .i64 x2]:=by rw[<- hw0];exact(Blk.new w _ _).alloc _
 have b1:Blk w0 (w.heap.size+1) 33 #[.int .i64 y0, .int .i64 y1, .int .i64 y2]:=by rw[<- hw0];simpa using Blk.new (w.alloc (.cells #[.int .i64 x0, .int .i64 x1, .int .i64 x2] 33)) 33 #[.int .i64 y0, .int .i64 y1, .int .i64 y2]
 have c0:=(b0.cell 0).trans rfl;have c1:w0.cell? ⟨w.heap.size,1,none⟩=some (.int .i64 x1):=(b0.cell 1).trans rfl;have c2:w0.cell? ⟨w.heap.size,2,none⟩=some (.int .i64 x2):=(b0.cell 2).trans rfl;have d0:w0.cell? ⟨w.heap.size+1,0,none⟩=some (.int .i64 y0):=(b1.cell 0).trans rfl;have d1:w0.cell? ⟨w.heap.size+1,1,none⟩=some (.int .i64 y1):=(b1.cell 1).trans rfl;have d2:w0.cell? ⟨w.heap.size+1,2,none⟩=some (.int .i64 y2):=(b1.cell 2).trans rfl;have c0:w0.cell? ⟨w.heap.size,0,none⟩=some (.int .i64 x0):=(b0.cell 0).trans rfl;have Hg:=Lib.hid hg;clear hw0 b0 b1 hg;generalize w.heap.size=n at*
 go_still_tail 15,(by kernel_rfl)
 still_call ((Z5 _ _ _).mono λ_ _ h=>⟨h.1,h.2.symm⟩)
 repeat still_step
 still_call ((Z5 _ _ _).mono λ_ _ h=>⟨h.1,h.2.symm⟩)
 repeat still_step
 still_call ((Z5 _ _ _).mono λ_ _ h=>⟨h.1,h.2.symm⟩)
 refine wpStill_nil ?_;have hb:=(Blk.new w0 3 #[.int .i64 (s4 x0 y0), .int .i64 (s4 x1 y1), .int .i64 (s4 x2 y2)]).drew;have e0:=λW h0 h1 h2=>b5f w0.heap.size (s4 x0 y0) (s4 x1 y1) (s4 x2 y2) W h0 h1 h2
 go_wp2_with (go_at_call 189;refine(e0 _ ((hb.cell 0).trans rfl) ((hb.cell 1).trans rfl) ((hb.cell 2).trans rfl)).mono ?_;rintro e w' ⟨rfl,rfl⟩)
 go_ret
 exact⟨rfl,1,_,by rw[Hg.out,Go.Sort.alloc_eq_grow,Go.Sort.grow_grow];rfl⟩
theorem K6 {P : Program} {f : FuncId} {B fn : Func} (h : P.funcs[f]? = some fn) (hn : (fn.name == "runtime.NumGoroutine") = false) (e : fn = { B with name := fn.name }) : Bears P f B := ⟨fn.name, hn, by rw [h, ← e]⟩
def b5h:Go.Shelf.Ren:=⟨λx=>match x with | 6=>268 | 14=>273 | 15=>177 | 28=>219 | 29=>220 | 20=>276 | 21=>277 | 22=>278 | 23=>279 | 24=>280 | 25=>281 | 26=>282 | 27=>283 | 46=>289 | 47=>247 | 48=>248 | 49=>290 | 50=>291 | 57=>296 | n=>n,
 λx=>match x with | 22=>281 | 24=>33 | 25=>326 | 3=>3 | 39=>172 | 53=>277 | 55=>279 | 4=>4 | 46=>270 | 45=>269 | 50=>274 | 5=>5 | 9=>9 | 66=>308 | 70=>306 | 76=>321 | 77=>322 | n=>n,λn=>n⟩
set_option maxRecDepth 100000 in
theorem b5k:SlLaysF0.n6 Tryz.prog b5h:=by
 constructor
 case f6=>exact K6 Tryz.func268 (by kernel_rfl) (by kernel_rfl)
 case f14=>exact K6 Tryz.func273 (by kernel_rfl) (by kernel_rfl)
 case f15=>exact Tryz.func177.trans (congrArg some (by kernel_rfl))
 case f20=>exact K6 Tryz.func276 (by kernel_rfl) (by kernel_rfl)
 case f21=>exact K6 Tryz.func277 (by kernel_rfl) (by kernel_rfl)
 case f22=>exact K6 Tryz.func278 (by kernel_rfl) (by kernel_rfl)
 case f23=>exact K6 Tryz.func279 (by kernel_rfl) (by kernel_rfl)
 case f24=>exact K6 Tryz.func280 (by kernel_rfl) (by kernel_rfl)
 case f25=>exact K6 Tryz.func281 (by kernel_rfl) (by kernel_rfl)
 case f26=>exact K6 Tryz.func282 (by kernel_rfl) (by kernel_rfl)
 case f27=>exact K6 Tryz.func283 (by kernel_rfl) (by kernel_rfl)
 case f28=>exact Tryz.func219.trans (congrArg some (by kernel_rfl))
 case f29=>exact Tryz.func220.trans (congrArg some (by kernel_rfl))
 case f46=>exact K6 Tryz.func289 (by kernel_rfl) (by kernel_rfl)
 case f47=>exact Tryz.func247.trans (congrArg some (by kernel_rfl))
 case f48=>exact Tryz.func248.trans (congrArg some (by kernel_rfl))
 case f49=>exact K6 Tryz.func290 (by kernel_rfl) (by kernel_rfl)
 case f50=>exact K6 Tryz.func291 (by kernel_rfl) (by kernel_rfl)
 case f57=>exact K6 Tryz.func296 (by kernel_rfl) (by kernel_rfl)
 all_goals first | kernel_rfl | (intro w;rfl)
theorem a6h (x y:A3):a0N x y<0↔x.1<y.1\/x.1=y.1/\(x.2.1<y.2.1\/x.2.1=y.2.1/\x.2.2<y.2.2):=by
 simp only[a0N,orI,s4]
 (repeat' split)<;>omega
theorem b2n:Go.Sort.SWO (λx y:A3=>decide (a0N x y<0))where
 irrefl x:=by rw[decide_eq_false_iff_not,a6h];omega
 trans x y z h1 h2:=by
  rw[decide_eq_true_eq,a6h]at*;omega
 ntrans x y z h1 h2:=by
  rw[decide_eq_false_iff_not,a6h]at*;omega
theorem a5Y (a:Option Nat) (n cap:Nat) (l:List A3) (hq:l.length=n) (hn:n<=100000):Fn Tryz.prog 268 [slv a n cap,fnV 269] [c8 33 3 a n cap (g6 l)]
  (λv As=>v= .tuple #[]/\∃l',l'.Perm l/\As=[c8 33 3 a n cap (g6 l')]):=by
 cases a with
 | none=>
  intro F w hs;have h0:n=0:=(hs.get (i:=1) rfl).2.1;refine(a1u 269 a0N (by kernel_rfl) a6O none n cap l hq (by omega) F w hs).mono λe w' ⟨v,As,h1,⟨h2,h3⟩,h4⟩=>⟨v,As,h1,⟨h2,_,D1 _ _,h3⟩,h4⟩
 | some g=>
  intro F w hs;have hown:C9 33 3 (some g) n cap (g6 l) (hl w):=hs.get (i:=1) rfl;obtain⟨h0,cur,h2,h3,h4,h5,h6⟩:=hown;have hH:=b3Y hq ⟨h0,cur,h2,h3,h4,h5,h6⟩;have hlt:g<w.heap.size:=(Array.getElem?_eq_some_iff.1 h2).1;have hcon:=AnyQ.slices_SortFunc b5k 3 (λw=>by kernel_rfl) (λw=>by kernel_rfl) a2C (λ_=>rfl) (λx v hv=>by
   simp only[a2C,List.mem_cons,List.not_mem_nil,or_false]at hv;rcases hv with rfl | rfl | rfl<;>rfl) a0N b2n 269 #[] g 0 cap l.toArray w (enters_of Tryz.func269 (by kernel_rfl) rfl) (λ_ _ _ _ x y=>b1B x y _) hH hlt (by rw[List.size_toArray];omega)
  rw[List.size_toArray,hq]at hcon;refine Calls.mono hcon λe w' ⟨he,d',m,os,hp,_,hw⟩=>⟨.tuple #[],[c8 33 3 (some g) n cap (g6 d'.toList)],he,⟨rfl,d'.toList,?_,rfl⟩,?_,?_⟩
  all_goals have hs':d'.size=n:=by rw[hp.1,List.size_toArray,hq]
  ·have h7:=hp.2.2;have e1:(d'.extract 0 n).toList=d'.toList:=by rw[<- hs'];simp
   have e2:(l.toArray.extract 0 n).toList=l:=by rw[<- hq];simp
   rw[e1,e2]at h7;exact h7
  ·subst hw;obtain⟨k1,k2,_⟩:=a0q w g m 33 cur (Go.Sort.flatK a2C 3 d') os h2;have hF:(Go.Sort.flatK a2C 3 d').size<=cur.size:=by rw[Go.Sort.size_flatK,hs',h5];omega
   obtain⟨p1,p2⟩:=a2y _ cur hF;rw[Go.Sort.size_flatK,hs',a1Y]at p2;obtain⟨own,ho⟩:=hs;obtain⟨_,cur',c1,_⟩:=ho 1 _ rfl;have hg1:=(res_some.1 c1).1;refine⟨own,λi A hA=>?_⟩
   match i,hA with
   | 0,hA=>
    simp at hA;subst hA;exact Atom.up (λb o hb=>res_some.2 ⟨(res_some.1 hb).1,k2 b o (λe=>by subst e;have:=(res_some.1 hb).1;omega) (res_some.1 hb).2⟩) (ho 0 _ rfl)
   | 1,hA=>
    simp at hA;subst hA;exact⟨by rw[l7,Array.length_toList,hs'],_,res_some.2 ⟨hg1,k1⟩,h3,h4,p1.trans h5,p2⟩
   | k+2,hA=>simp at hA
  ·subst hw;exact(a0q w g m 33 cur (Go.Sort.flatK a2C 3 d') os h2).2.2
theorem R7:∀(n:Nat) (is:List Nat),is.Nodup->(∀i∈is,i<n)->is.length<=n
 | 0,is,_,h=>by
  cases is with
  | nil=>simp
  | cons x r=>have:=h x (by simp);omega
 | n+1,is,hn,h=>by
  have h1:=R7 n (is.erase n) (hn.erase n) (λi hi=>by
   rw[hn.mem_erase_iff]at hi;have:=h i hi.2;omega)
  rw[List.length_erase]at h1;split at h1<;>omega
def A9 (l:List A3) (is:List Nat):List A3:=is.map λi=>l.getD i d3
theorem a1D {l:List A3} {is:List Nat} (h:is.Perm (List.range l.length)):(A9 l is).Perm l:=by
 have h1:=h.map λi=>l.getD i d3;have h2:(List.range l.length).map (λi=>l.getD i d3)=l:=by
  apply List.ext_getElem?;intro k;rw[List.getElem?_map]
  by_cases hk:k<l.length
  ·rw[List.getElem?_range hk];simp[hk]
  ·rw[List.getElem?_eq_none (by simpa using hk),List.getElem?_eq_none (by simpa using hk)];rfl
 rwa [h2]at h1
theorem a6e {l:List A3} {is:List Nat} {j:Nat} {y:A3×Value} (hy:(w8 l)[j]? =some y):g6 (A9 l is)++[iI y.1.1,iI y.1.2.1,iI y.1.2.2]=g6 (A9 l (is++[j])):=by
 rw[w8,List.getElem?_map]at hy;cases h:l[j]? with
 | none=>rw[h]at hy;cases hy
 | some x=>
  rw[h]at hy;simp at hy;subst hy;simp[g6,A9,h]
theorem b4I (q:Nat) (l:List A3) (hl:l.length<=1000):FP 252 [pp q] [H4 q l]
  (λv As=>∃a cap l',l'.Perm l/\v=slv a l'.length cap/\As=[H4 q l,c8 33 3 a l'.length cap (g6 l')]):=by
 refine FE [2] Tryz.func252 λX F hX=>?_;refine J.o (α:=Nat) 1 λmr=>?_;refine J.qF λ_=>?_;refine J.q λ_=>?_;refine J.rangeMap hX 2 b1J rfl rfl rfl rfl rfl rfl rfl (λ_=>rfl) (λ_=>rfl) λr=>⟨trivial,?_⟩;refine J.turn1 [] rfl (As:=[c8 33 3 none 0 0 (g6 (A9 l []))]) (λh s=>Sep.one ⟨rfl,rfl,rfl⟩) rfl ?_;refine J.q λ_=>?_;refine J.l (α:=(List Nat×Option Nat×Nat)) (λx=>True) (λx=>[sp 11 r,sv 3 (slv x.2.1 x.1.length x.2.2)]) [2,3] (λx=>[itA mr r a3v (w8 l) x.1,c8 33 3 x.2.1 x.1.length x.2.2 (g6 (A9 l x.1))]) (λx=>l.length-x.1.length) (([],none,0)) (trivial) λx hI=>?_;obtain⟨is,a,cap⟩:=x;dsimp only;refine J.q λ_=>?_;refine J.know (p:=is.Nodup/\∀i∈is,i<l.length) (λh s=>?_) λhk=>?_
 ·obtain⟨_,_,_,_,_,_,_,_,h1,h2,_⟩:=s.get (i:=2) rfl;exact⟨h1,λi hi=>by have:=h2 i hi;simpa[w8]using this⟩
 have hle:=R7 _ _ hk.1 hk.2;refine J.rangeNext hX 2 rfl rfl rfl rfl rfl rfl rfl (λ_=>rfl) (λ_=>rfl) (λhp=>⟨trivial,?_⟩) (λj y hj hy=>⟨trivial,?_⟩)
 ·rw[show(w8 l).length=l.length from by simp[w8]]at hp;refine J.qF λ_=>?_;refine J.qc (a5Y a is.length cap (A9 l is) (by simp[A9]) (by omega)) [3] λ_=>?_;rintro v As ⟨rfl,l',hp',rfl⟩;refine⟨_,rfl,trivial,?_⟩;refine J.turn1 [2] rfl (As:=[s7 mr a3v (w8 l)]) (λh s=>b0w s) rfl ?_;refine J.cl (λmr:Nat=>[.pt q 181 [.map (some mr)],s7 mr a3v (w8 l)]) mr [1,2] ?_;refine J.qr [1,3] λ_=>?_;have hlen:is.length=l'.length:=by rw[hp'.length_eq];simp[A9]
  refine⟨a,cap,l',hp'.trans (a1D hp),?_,?_⟩
  ·rw[<- hlen]
  ·rw[<- hlen];rfl
 ·have hjl:j<l.length:=by have:=(List.getElem?_eq_some_iff.1 hy).1;simpa[w8]using this
  refine J.qT λ_=>?_;refine J.q λ_=>?_;have hlt:(is++[j]).length<=l.length:=R7 _ _ (by
   rw[List.nodup_append];exact⟨hk.1,by simp,λa ha b hb=>by simp at hb;subst hb;rintro rfl;exact hj ha⟩) (λi hi=>by
   rw[List.mem_append]at hi;rcases hi with hi | hi
   ·exact hk.2 i hi
   ·simp at hi;subst hi;exact hjl)
  rw[List.length_append,List.length_singleton]at hlt;refine J.rangeEntry hX 2 rfl rfl rfl rfl rfl rfl rfl hy rfl ⟨trivial,?_⟩;refine J.q λ_=>?_;refine J.append hX tk 3 5 0 rfl rfl rfl rfl rfl rfl rfl rfl rfl rfl rfl rfl rfl rfl rfl rfl ?_ ?_ (λ_=>rfl) λa' cap'=>⟨_,(congrArg (λz=>r8 _ 3 (c8 _ _ _ _ _ z)) (a6e hy)).trans rfl,trivial,?_⟩
  ·simp only[maxLen];omega
  ·omega
  refine J.q λ_=>?_;rw[show is.length+1=(is++[j]).length from by simp];refine J.q λ_=>?_;refine J.n ((is++[j],a',cap')) (trivial) (by dsimp only;rw[List.length_append,List.length_singleton];omega) [0,1,2,3]
theorem Sep.pack {A:Atom} {Pre:List Atom} {h:Hl} (s:Sep (A::Pre) h):Sep [A, .hp (HP.of Pre)] h:=by
 obtain⟨own,hw⟩:=s;refine⟨λb=>min (own b) 1,λi B hB=>?_⟩
 match i,hB with
 | 0,hB=>
  simp at hB;subst hB;refine Atom.up (λb o hb=>?_) (hw 0 A rfl);rw[res_some]at hb ⊢;exact⟨by rw[hb.1];rfl,hb.2⟩
 | 1,hB=>
  simp at hB;subst hB;refine⟨λb=>own b-1,λj B hB=>?_⟩;refine Atom.up (λb o hb=>?_) (hw (j+1) B (by simpa using hB));rw[res_some]at hb ⊢;refine⟨by rw[hb.1];rfl,?_⟩;rw[res_some];exact⟨by rw[hb.1];omega,hb.2⟩
 | k+2,hB=>simp at hB
theorem Sep.unpack {A:Atom} {Pre:List Atom} {h:Hl} (s:Sep [A, .hp (HP.of Pre)] h):Sep (A::Pre) h:=by
 obtain⟨own,hw⟩:=s;obtain⟨own2,hw2⟩:Sep Pre (res h own 1):=hw 1 _ rfl;refine⟨λb=>if own b=1 then own2 b+1 else 0,λi B hB=>?_⟩;cases i with
 | zero=>
  simp at hB;subst hB;refine Atom.up (λb o hb=>?_) (hw 0 A rfl);rw[res_some]at hb ⊢;exact⟨by rw[if_neg (by omega)],hb.2⟩
 | succ j=>
  refine Atom.up (λb o hb=>?_) (hw2 j B (by simpa using hB));rw[res_some]at hb ⊢;have h1:=res_some.1 hb.2;exact⟨by rw[if_pos h1.1,hb.1],h1.2⟩
theorem Fn.pack {P:Program} {f:FuncId} {args:List Value} {Pre:List Atom} {q:Value->Prop} (c:Fn P f args Pre (λv As=>q v/\As=Pre)):Fn P f args [.hp (HP.of Pre)] (λv As=>q v/\As=[.hp (HP.of Pre)]):=by
 intro F w s;refine Calls.mono (c F w (Sep.unpack s)) λe w' ⟨v,As,h1,h2,h3,h4⟩=>?_;obtain⟨h5,rfl⟩:=h2;exact⟨v,_,h1,⟨h5,rfl⟩,Sep.pack h3,h4⟩
section
variable {X : Cx} {P : Program} {T : Tab} {K : List KI} {E : Env} {L : List Atom} {N : Nat} {F : HP} {Post : Value → List Atom → Prop} {rs : List ResultVar}
theorem J.clear (hX:IsCx X P rs N F Post) (hT:TabOK P T) {ops:Array Oper} {C:Cl} {lt:Bool} {i:Nat} {t:PT} {o:Oper} {g:G} {x:Operand} {k1 t1 b off n c st e ty size s1 b1 by_:Nat} {g1:G} {z z1:List Value} {td:TD} {cs:List Value} {E':Value->Env} {L2:List Value->List Atom} (is:Nat)
  (ho:j5 ops.toList i=some o) (hg:gd ops.toList E o=some g) (hgo:g.on=true) (hop:o.op= .call ⟨.builtin .clear,#[x],#[st]⟩) (hx:ev E x=some ⟨k1, .slice (some ⟨b,off,none⟩) n c,t1,g1⟩) (v1:g1.on=true)
  (hst:T.get st=some ⟨.slice e size,s1,z1,b1⟩) (he:T.get e=some ⟨td,size,z,by_⟩) (hz:Nat.beq z.length size=true) (hz1:z.all (·.oneCell')=true) (hL:j5 L is=some (.pt b ty cs)) (hlt:off+n*size<=cs.length)
  (hL2:∀cs',r8 L is (.pt b ty cs')=some (L2 cs')) (hd:∀v,v6 N o.dst v 0 .tt E=some (E' v))
  (hJ:∀cs',cs'.length=cs.length->cs'.take off=cs.take off->Conj (l5 lt C (L2 cs'))/\J X (.reg ops C t::K) (E' (.tuple #[])) (L2 cs')):J X (.reg ops C (.alt lt i t .non)::K) E L:=by
 refine J.op hX (S:=λv' L'=>∃cs',cs'.length=cs.length/\cs'.take off=cs.take off/\v'= .tuple #[]/\L'=L.set is (.pt b ty cs')) 0 ho hg hgo (λa0 w hen hs=>?_) hd (λv L' ⟨cs',q1,q2,e1,e2⟩=>by subst e1;subst e2;rw[<- r7 (hL2 cs')];exact hJ cs' q1 q2);rw[j4]at hL;have ex:=f7 hen hx;simp only[Slot.val,v1]at ex;obtain⟨d,f,zv,ok⟩:=d7 (hT.get hst);obtain⟨fe,rfl,g1',g2'⟩:=ok.slice rfl;obtain⟨d',f',zv',ok'⟩:=d7 (hT.get he);have hzl:zv'.cells.toList=z:=ok'.hzero.symm;have hzn:zv'.cells.size=size:=by rw[<- Array.length_toList,hzl];exact Nat.eq_of_beq_eq_true hz
 have hblk:Blk w b ty cs.toArray:=hs.pt hL;cases n with
 | zero=>
  refine⟨_,L.set is (.pt b ty cs), .value (.tuple #[]),w,⟨cs,rfl,rfl,rfl,rfl⟩,?_, .inl rfl,?_,Ext.refl _⟩
  ·simp[execOp,hop,ex,resolve,invoke,builtin,Builtin.clear_,d4 ok.hd]
  ·have e:L.set is (.pt b ty cs)=L:=by
    apply List.ext_getElem?;intro j;rw[List.getElem?_set];split
    ·rename_i e;subst e;rw[if_pos (List.getElem?_eq_some_iff.1 hL).1,hL]
    ·rfl
   rw[e];exact hs
 | succ n=>
  have hlen:(Builtin.zeroCells zv'.cells (n+1)).toList.length=(n+1)*size:=by rw[Array.length_toList,size_zeroCells,hzn]
  have hall:(Builtin.zeroCells zv'.cells (n+1)).toList.all (·.oneCell')=true:=by
   rw[List.all_eq_true];intro u hu;simp only[Builtin.zeroCells,Array.toList_map,List.mem_map]at hu;obtain⟨k,hk,rfl⟩:=hu;have hk':k<(n+1)*zv'.cells.size:=by simpa using hk
   have hpos:0<zv'.cells.size:=by
    rcases Nat.eq_zero_or_pos zv'.cells.size with h0 | h0
    ·rw[h0]at hk';omega
    ·exact h0
   have hm:=Nat.mod_lt k hpos;rw[getElem!_pos zv'.cells (k % zv'.cells.size) hm];rw[List.all_eq_true]at hz1;apply hz1;rw[<- hzl];simp
  obtain⟨w',r1,r2,r3⟩:=x4 (P:=P) (o:=off) (Builtin.zeroCells zv'.cells (n+1)).toList 0 w cs _ hblk (by rw[Nat.add_zero];exact a1Q cs off _ (by rw[hlen];exact hlt)) hall;have hr:(execOp a0.eval o).run P w= .ok (.value (.tuple #[])) w':=by
   simp[execOp,hop,ex,resolve,invoke,builtin,Builtin.clear_,d4 ok.hd,R1 ok'.hf ok'.hz,r1]
  clear r1;generalize Builtin.zeroCells zv'.cells (n+1)=Z at hlen r2;have k1:(cs.take off++Z.toList++cs.drop (off+Z.toList.length)).length=cs.length:=by
   simp only[List.length_append,List.length_take,List.length_drop,hlen];omega
  have k2:(cs.take off++Z.toList++cs.drop (off+Z.toList.length)).take off=cs.take off:=by
   rw[List.append_assoc,List.take_append_of_le_length (by simp;omega),List.take_take,Nat.min_self]
  refine⟨_,L.set is (.pt b ty (cs.take off++Z.toList++cs.drop (off+Z.toList.length))), .value (.tuple #[]),w',⟨_,k1,k2,rfl,rfl⟩,?_, .inl rfl,?_,r3⟩
  ·exact hr
  ·rw[r2];exact hs.setPt _ hL
end
def fnC (c:Nat) (cs:List Value):Value:= .func (.func c) #[] cs.toArray
def b2E (p:A3->Bool) (l:List A3):Int:=match l.findIdx? p with
 | some k=>k
 | none=> -1
theorem a2k {l:List A3} {k:Nat} {x:A3} (h:l[k]? =some x):((g6 l).drop (k*3)).take 3=[iI x.1,iI x.2.1,iI x.2.2]:=by
 have:=w6 l [] k x h
 rwa [List.append_nil]at this
theorem b0y {p:A3->Bool} {l:List A3} {k:Nat} {x:A3} (h:l[k]? =some x) (h0:∀i<k,p (l.getD i d3)=false) (hp:p x=true):l.findIdx? p=some k:=by
 rw[List.findIdx?_eq_some_iff_getElem];obtain⟨h1,h2⟩:=List.getElem?_eq_some_iff.1 h;refine⟨h1,by rw[h2];exact hp,λj hj=>?_⟩;have:=h0 j hj;rw[List.getD_eq_getElem?_getD,List.getElem?_eq_getElem (by omega),Option.getD_some]at this;simp[this]
theorem b0z {p:A3->Bool} {l:List A3} (h0:∀i<l.length,p (l.getD i d3)=false):l.findIdx? p=none:=by
 rw[List.findIdx?_eq_none_iff];intro x hx;obtain⟨i,hi,rfl⟩:=List.mem_iff_getElem.1 hx;have:=h0 i hi
 rwa [List.getD_eq_getElem?_getD,List.getElem?_eq_getElem hi,Option.getD_some]at this
theorem b1z (c:Nat) (cs:List Value) (p:A3->Bool) (A:Atom) (hcal:j7 Tryz.prog c=true) (hf:∀x,Fn Tryz.prog c (H3 x::cs) [A] (λv As=>v= .bool (p x)/\As=[A]))
  (a:Option Nat) (n cap:Nat) (l:List A3) (hl:l.length=n) (hn:n<=4611686018427387904):FP 267 [slv a n cap,fnC c cs] [c8 33 3 a n cap (g6 l),A]
  (λv As=>v=iI (b2E p l)/\As=[c8 33 3 a n cap (g6 l),A]):=by
 refine FE [0,0] Tryz.func267 λX F hX=>?_;refine J.q λ_=>?_;refine J.l (α:=Nat) (λk=>k<=n/\∀i<k,p (l.getD i d3)=false) (λk=>[si 8 k,si 7 n,sv 0 (slv a n cap),⟨1,fnC c cs,0, .tt⟩]) [] (λk=>[]) (λk=>n-k) (0) (⟨by omega,by omega⟩) λk hI=>?_;refine J.qd (λ_ h1=>?_) λ_ h1=>?_
 ·simp only[decide_eq_true_eq,Int.ofNat_lt]at h1;cases a with
  | none=>
   refine J.know (λh' s=>(s.get (i:=1) rfl).2.1) λhn0=>?_;omega
  | some g=>
   have hk:l[k]? =some (l.getD k d3):=by rw[List.getD_eq_getElem?_getD,List.getElem?_eq_getElem (by omega),Option.getD_some]
   refine J.q λ_=>?_;refine J.v (H3 (l.getD k d3)) rfl rfl (λhg a w he hs=>?_) ?_
   ·exact j6 tk rfl rfl he rfl rfl rfl (hs.get (i:=1) rfl) (by rw[show 0+(k:Int).toNat*3=k*3 from by omega];exact a2k hk) rfl
   refine J.q λ_=>?_;refine J.call hX hcal (hf (l.getD k d3)) [2] 0 rfl rfl rfl rfl (by(repeat' (first | exact Conj.nil | refine Conj.cons ?_ ?_ | omega | exact hq0 | (simpa using hq0) | (exactλh=>h) | exact rfl | (intro hq;have hq0:=hq;try simp only[Bool.and_eq_true,Bool.or_eq_true,decide_eq_true_eq,Bool.not_eq_true',decide_eq_false_iff_not]at hq) | (simp;done) | (simp;omega) | decide))) rfl rfl (λ_=>rfl) ?_;refine cpq ⟨_,rfl,trivial,?_⟩;refine J.qd (λ_ h2=>?_) λ_ h2=>?_
   ·refine J.qr [1,2] λ_=>?_;exact⟨by rw[b2E,b0y hk hI.2 h2],rfl⟩
   ·refine J.q λ_=>?_;refine J.nx (k+1) (⟨by omega,λi hi=>by
     rcases Nat.lt_succ_iff_lt_or_eq.1 hi with h3 | h3
     ·exact hI.2 i h3
     ·rw[h3];exact h2⟩) (by omega) (λ_ s=>s)
 ·simp only[decide_eq_false_iff_not,Int.ofNat_lt]at h1;refine J.qr [1,2] λ_=>?_;exact⟨by rw[b2E,b0z (λi hi=>hI.2 i (by omega))],rfl⟩
def DelI (p:A3->Bool) (l m:List A3) (i j:Nat):Prop:=m.length=l.length/\i<j/\j<=l.length/\m.drop j=l.drop j/\m.take i++(l.drop j).filter (λx=>!p x)=l.filter (λx=>!p x)
theorem DelI.start {p:A3->Bool} {l:List A3} {k:Nat} (h:l.findIdx? p=some k):DelI p l l k (k+1):=by
 rw[List.findIdx?_eq_some_iff_getElem]at h;obtain⟨h1,h2,h3⟩:=h;refine⟨rfl,by omega,by omega,rfl,?_⟩;have e:l=l.take k++l[k]::l.drop (k+1):=by rw[<- List.drop_eq_getElem_cons h1,List.take_append_drop]
 have e2:(l.take k).filter (λx=>!p x)=l.take k:=by
  rw[List.filter_eq_self];intro x hx;obtain⟨i,hi,rfl⟩:=List.mem_iff_getElem.1 hx;rw[List.getElem_take];have:=h3 i (by simp at hi;omega);simpa using this
 conv=>rhs;rw[e]
 rw[List.filter_append,e2,List.filter_cons_of_neg (by simp[h2])]
theorem DelI.skip {p:A3->Bool} {l m:List A3} {i j:Nat} (h:DelI p l m i j) (hj:j<l.length) (hp:p (m.getD j d3)=true):DelI p l m i (j+1):=by
 obtain⟨h1,h2,h3,h4,h5⟩:=h;have e1:m[j]? =l[j]?:=by have:=congrArg (λz=>z[0]?) h4;simpa using this
 have hx:l[j]=m.getD j d3:=by rw[List.getD_eq_getElem?_getD,e1,List.getElem?_eq_getElem hj,Option.getD_some]
 refine⟨h1,by omega,by omega,?_,?_⟩
 ·have:=congrArg (List.drop 1) h4;simpa[List.drop_drop]using this
 ·rw[<- h5,List.drop_eq_getElem_cons hj,List.filter_cons_of_neg (by rw[hx,hp];simp)]
theorem DelI.keep {p:A3->Bool} {l m:List A3} {i j:Nat} (h:DelI p l m i j) (hj:j<l.length) (hp:p (m.getD j d3)=false):DelI p l (m.set i (m.getD j d3)) (i+1) (j+1):=by
 obtain⟨h1,h2,h3,h4,h5⟩:=h;have e1:m[j]? =l[j]?:=by have:=congrArg (λz=>z[0]?) h4;simpa using this
 have hx:l[j]=m.getD j d3:=by rw[List.getD_eq_getElem?_getD,e1,List.getElem?_eq_getElem hj,Option.getD_some]
 refine⟨by simp[h1],by omega,by omega,?_,?_⟩
 ·rw[List.drop_set_of_lt (by omega)];have:=congrArg (List.drop 1) h4;simpa[List.drop_drop]using this
 ·rw[<- h5,List.drop_eq_getElem_cons hj,List.filter_cons_of_pos (by rw[hx,hp];simp),hx,List.take_set,List.take_add_one,List.getElem?_eq_getElem (by omega)];rw[List.set_append_right _ _ (by simp;omega)];simp[List.length_take,Nat.min_eq_left (show i<=m.length by omega)]
theorem a4C (c:Nat) (cs:List Value) (p:A3->Bool) (A:Atom) (hcal:j7 Tryz.prog c=true) (hf:∀x,Fn Tryz.prog c (H3 x::cs) [A] (λv As=>v= .bool (p x)/\As=[A]))
  (a:Option Nat) (n cap:Nat) (l:List A3) (hl:l.length=n) (hn:n<=4611686018427387904):FP 251 [slv a n cap,fnC c cs] [c8 33 3 a n cap (g6 l),A]
  (λv As=>∃l',l'=l.filter (λx=>!p x)/\v=slv a l'.length cap/\As=[c8 33 3 a l'.length cap (g6 l'),A]):=by
 refine FE [0,0] Tryz.func251 λX F hX=>?_;refine J.qp (b1z c cs p A hcal hf a n cap l hl hn) [1,2] λ_=>?_;rw[b2E];cases hx:l.findIdx? p with
 | none=>
  dsimp only;refine J.qT λ_=>?_;refine J.qr [1,2] λ_=>?_;have:l.filter (λx=>!p x)=l:=by
   rw[List.filter_eq_self];intro x hm;rw[List.findIdx?_eq_none_iff]at hx;simp[hx x hm]
  exact⟨l,this.symm,by rw[hl],by rw[hl];rfl⟩
 | some k=>
  dsimp only;refine J.qd (λ_ h0=>?_) λ_ h0=>?_
  ·simp only[beq_iff_eq]at h0;omega
  have hk:k<n:=by rw[List.findIdx?_eq_some_iff_getElem]at hx;obtain⟨h1,_⟩:=hx;omega
  cases a with
  | none=>
   refine J.know (λh' s=>(s.get (i:=1) rfl).2.1) λhn0=>?_;omega
  | some g=>
   refine J.openOwn 1 rfl rfl (λ_=>rfl) λr q1 q2 q3 q4=>?_;refine J.q λ_=>?_;rw[show(k:Int)+1=((k+1:Nat):Int)from by omega];refine J.q λ_=>?_;refine J.l (α:=(Nat×Nat×List A3)) (λx=>DelI p l x.2.2 x.1 x.2.1) (λx=>[si 6 x.2.1,si 5 x.1,sv 0 (slv (some g) n cap),⟨1,fnC c cs,0, .tt⟩]) [1] (λx=>[.pt g 33 (g6 x.2.2++r)]) (λx=>n-x.2.1) ((k,k+1,l)) (DelI.start hx) λx hI=>?_;obtain⟨i,j,m⟩:=x;dsimp only at hI ⊢;have hml:m.length=n:=hI.1.trans hl;have hij:i<j:=hI.2.1;have hjn:j<=n:=by have:=hI.2.2.1;omega
   refine J.qd (λ_ h1=>?_) λ_ h1=>?_
   ·simp only[decide_eq_true_eq,Int.ofNat_lt]at h1;have hget:m[j]? =some (m.getD j d3):=by rw[List.getD_eq_getElem?_getD,List.getElem?_eq_getElem (by omega),Option.getD_some]
    refine J.q λ_=>?_;refine J.v (H3 (m.getD j d3)) rfl rfl (λhg a w he hs=>?_) ?_
    ·exact i4 tk rfl rfl he rfl rfl rfl (hs.get (i:=1) rfl) (by rw[show 0+(j:Int).toNat*3=j*3 from by omega];exact w6 m r _ _ hget) rfl
    refine J.q λ_=>?_;refine J.call hX hcal (hf (m.getD j d3)) [2] 0 rfl rfl rfl rfl (by(repeat' (first | exact Conj.nil | refine Conj.cons ?_ ?_ | omega | exact hq0 | (simpa using hq0) | (exactλh=>h) | exact rfl | (intro hq;have hq0:=hq;try simp only[Bool.and_eq_true,Bool.or_eq_true,decide_eq_true_eq,Bool.not_eq_true',decide_eq_false_iff_not]at hq) | (simp;done) | (simp;omega) | decide))) rfl rfl (λ_=>rfl) ?_;refine cpq ⟨_,rfl,trivial,?_⟩;refine J.qd (λ_ h2=>?_) λ_ h2=>?_
    ·simp only[Bool.not_eq_true']at h2;refine J.q λ_=>?_;refine J.storeN hX tk 1 rfl rfl rfl rfl rfl rfl rfl rfl rfl rfl rfl rfl rfl ?_ (g6 (m.set i (m.getD j d3))++r) ?_ rfl (λ_=>rfl) ⟨trivial,?_⟩
     ·rw[List.length_append,l7];show 0+(i:Int).toNat*3+3<=_;omega
     ·rw[show 0+(i:Int).toNat*3=i*3 from by omega];exact D4 m r i _ (by omega)
     refine J.q λ_=>?_;refine J.n ((i+1,j+1,m.set i (m.getD j d3))) (hI.keep (by omega) h2) (by dsimp only;omega) [0,1,2]
    ·simp only[Bool.not_eq_false']at h2;refine J.q λ_=>?_;refine J.n ((i,j+1,m)) (hI.skip (by omega) h2) (by dsimp only;omega) [0,1,2]
   ·simp only[decide_eq_false_iff_not,Int.ofNat_lt]at h1;obtain rfl:j=n:=by omega
    have hfil:m.take i=l.filter (λx=>!p x):=by
     have h5:=hI.2.2.2.2;rw[List.drop_of_length_le (by omega)]at h5;simpa using h5
    refine J.q λ_=>?_;refine J.clear hX tk 1 rfl rfl rfl rfl rfl rfl rfl rfl rfl rfl rfl ?_ (λ_=>rfl) (λ_=>rfl) λcs' z1 z2=>⟨trivial,?_⟩
    ·rw[List.length_append,l7];rw[l7]at q4;show 0+(i:Int).toNat*3+(j-(i:Int).toNat)*3<=_;have:(i:Int).toNat=i:=by omega
     rw[this];omega
    have hilen:(l.filter (λx=>!p x)).length=i:=by rw[<- hfil,List.length_take];omega
    refine J.closeOwn (e:=33) (size:=3) (n:=i) (cap:=cap) (xs:=g6 (l.filter (λx=>!p x))) 1 rfl rfl (by rw[l7,hilen]) (by omega) q3 (by rw[z1,List.length_append,l7,hml];rw[l7,hl]at q4;exact q4) ?_ rfl ?_
    ·have z3:(0+(i:Int).toNat*3)=i*3:=by omega
     rw[z3]at z2;rw[z2,<- hfil];have e:g6 m=g6 (m.take i)++g6 (m.drop i):=by
      conv=>lhs;rw[<- List.take_append_drop i m]
      simp only[g6,List.flatMap_append]
     rw[e,List.append_assoc,List.take_left' (by rw[l7,List.length_take,Nat.min_eq_left (by omega)])]
    refine J.qr [1,2] λ_=>?_;exact⟨_,rfl,by rw[hilen];rfl,by rw[hilen];rfl⟩
theorem a9r (b4 b5:Nat) (die blk:Int) (x:A3):FP 253 (H3 x::[pp b4,pp b5]) [.pt b4 3 [iI die], .pt b5 3 [iI blk]]
  (Ps (.bool ((x.1 !=die)||(x.2.1 !=blk))) [.pt b4 3 [iI die], .pt b5 3 [iI blk]]):=by
 refine FE [0,2,3] Tryz.func253 λX F hX=>?_;exact J.qx [1,2]
theorem b1V (q:Nat) (l:List A3) (hl:l.length<=1000) (die blk:Int):FP 223 [pp q,iI die,iI blk] [H4 q l]
  (λv As=>∃a cap l',l'.Perm (l.filter λx=>!((x.1 !=die)||(x.2.1 !=blk)))/\v=slv a l'.length cap/\As=[H4 q l,c8 33 3 a l'.length cap (g6 l')]):=by
 refine FE [2,0,0] Tryz.func223 λX F hX=>?_;refine J.q λbb=>?_;refine J.cb (b4I q l hl) [1] ?_;rintro v As ⟨a,cap,l',hp,rfl,rfl⟩;refine⟨_,rfl,trivial,?_⟩;refine J.q λ_=>?_;refine J.turn1 [2,3] rfl (As:=[.hp (HP.of [.pt (bb 0) 3 [iI die], .pt (bb 1) 3 [iI blk]])]) (λh s=>Sep.hpOf.2 s) rfl ?_;refine J.q λ_=>?_;refine J.ca hX (by kernel_rfl) (a4C 253 [pp (bb 0),pp (bb 1)] (λx=>(x.1 !=die)||(x.2.1 !=blk)) _ (by kernel_rfl) (λx=>Fn.pack (a9r (bb 0) (bb 1) die blk x)) a l'.length cap l' rfl (by rw[hp.length_eq];omega)) [4,2] 0 rfl rfl rfl rfl rfl rfl (λ_=>rfl) ?_;rintro v As ⟨l2,rfl,rfl,rfl⟩;refine⟨_,rfl,trivial,?_⟩;refine J.qr [1,4] λ_=>?_;exact⟨a,cap,_,hp.filter _,rfl,rfl⟩
def ext (l:List NCell) (m:Nat):List NCell:=l++List.replicate m Nand.zcell
theorem b1a (l:List NCell) (m:Nat):ext l m++[Nand.zcell]=ext l (m+1):=by simp[ext,List.replicate_succ']
theorem Y6 (l:List NCell) (m:Nat):(ext l m).length=l.length+m:=by simp[ext]
def I3 (l:List NCell) (k:Nat):List NCell:=(l.take k).map (λc=>{c with lost:=true})++l.drop k
theorem a6o (l:List NCell) (k:Nat):(I3 l k).length=l.length:=by simp[I3];omega
theorem a5i {l:List NCell} {k:Nat} (h:k<l.length):(I3 l k).modify k (λc=>{c with lost:=true})=I3 l (k+1):=by
 apply List.ext_getElem?;intro j;rw[List.getElem?_modify];simp only[I3,List.getElem?_append,List.length_map,List.length_take,List.getElem?_map,List.getElem?_take,List.getElem?_drop]
 by_cases e:k=j
 ·subst e;rw[if_neg (by omega),if_pos (by omega),if_pos (by omega),show k+(k-min k l.length)=k from by omega];rw[List.getElem?_eq_getElem h];simp
 ·have e2:(λa:NCell=>if k=j then {a with lost:=true}else a)=id:=by funext a;rw[if_neg e];rfl
  simp only[Option.map_eq_map,e2,Option.map_id_fun,id]
  by_cases h1:j<k
  ·rw[if_pos (show j<min k l.length by omega),if_pos h1,if_pos (show j<min (k+1) l.length by omega),if_pos (show j<k+1 by omega)]
  ·rw[if_neg (show¬j<min k l.length by omega),if_neg (show¬j<min (k+1) l.length by omega),show k+(j-min k l.length)=j from by omega,show k+1+(j-min (k+1) l.length)=j from by omega]
theorem a0y:∀(l' pl:List A3),pl.Nodup->l'.foldl List.erase pl=pl.filter (λx=>decide (x∉l'))
 | [],pl,_=>(List.filter_eq_self.2 (by simp)).symm
 | a::l',pl,h=>by
  rw[List.foldl_cons,a0y l' _ (h.erase a),h.erase_eq_filter,List.filter_filter];apply List.filter_congr;intro x _
  by_cases e:x=a
  ·subst e;simp
  ·simp[e]
theorem a8z {l' pl:List A3} {x y:Int} (h:pl.Nodup) (hp:l'.Perm (pl.filter λa=>!((a.1 !=x)||(a.2.1 !=y)))):l'.foldl List.erase pl=pl.filter λa=>!(decide (a.1=x)&&decide (a.2.1=y)):=by
 rw[a0y l' pl h];apply List.filter_congr;intro a ha;have:a∈l'↔(a.1=x/\a.2.1=y):=by
  rw[hp.mem_iff,List.mem_filter];simp[ha]
 by_cases h1:a.1=x/\a.2.1=y
 ·rw[decide_eq_false (by rw[this];simpa using h1)];simp[h1]
 ·rw[decide_eq_true (by rw[this];exact h1)];simp only[not_and]at h1
  by_cases h2:a.1=x
  ·simp[h2,h1 h2]
  ·simp[h2]
theorem a6x {N:Nand} {x y:Int} (h:N.refuses x y 0=0) (h6:N.cutB=true):N.eraseN x y=N.cutN.setBlk x.toNat y.toNat {N.blk x.toNat y.toNat with cells:=((N.blk x.toNat y.toNat).cells++List.replicate (N.pages-(N.blk x.toNat y.toNat).cells.length) Nand.zcell).map λc=>{c with lost:=true}}:=by
 unfold Nand.eraseN;rw[if_neg (by simp[h]),if_pos h6]
theorem a5A {N:Nand} {x y:Int} (h:N.refuses x y 0=0) (h6:N.cutB=false) (h7:(N.blk x.toNat y.toNat).fails=true):N.eraseN x y=N.cutN.setBlk x.toNat y.toNat {N.blk x.toNat y.toNat with met:=true}:=by
 unfold Nand.eraseN;rw[if_neg (by simp[h]),if_neg (by simp[h6]),if_pos h7]
theorem a8A {N:Nand} {x y:Int} (h:N.refuses x y 0=0) (h6:N.cutB=false) (h7:(N.blk x.toNat y.toNat).fails=false):N.eraseN x y={N.cutN.setBlk x.toNat y.toNat {N.blk x.toNat y.toNat with cells:=[],worn:=(N.blk x.toNat y.toNat).worn+1}with plan:=N.plan.filter λa=>!(decide (a.1=x)&&decide (a.2.1=y))}:=by
 unfold Nand.eraseN;rw[if_neg (by simp[h]),if_neg (by simp[h6]),if_neg (by simp[h7])]
theorem a6Y (p:Nat) (N:Nand) (hN:N.Ok) (hR:N.Room) (hpn:N.plan.Nodup) (hpl:N.plan.length<=1000) (x y:Int):FP 183 [pp p,iI x,iI y] [d8 p N] (Ps (iI (N.eraseE x y)) [d8 p (N.eraseN x y)]):=by
 have hbd:=hN.bd;have hnum:=hN.num;have hr0:=hR.ops;refine FE [2,0,0] Tryz.func183 λX F hX=>?_;refine J.qp (M3 x y) [] λ_=>?_;refine J.qp (a0b p N hN x y 0) [1] λ_=>?_;refine J.qd (λ_ h=>?_) λ_ h=>?_
 ·simp only[bne_iff_ne,ne_eq]at h;refine J.qr [1] λ_=>?_;exact⟨by simp only[Nand.eraseE,ne_eq,h,not_false_eq_true,if_pos],by simp only[Nand.eraseN,ne_eq,h,not_false_eq_true,if_pos];rfl⟩
 simp only[bne_eq_false_iff_eq]at h;obtain⟨hoff,hdd,hr⟩:=Nand.refuses_zero h;obtain⟨i,rfl⟩:=Int.eq_ofNat_of_zero_le hr.1;obtain⟨j,rfl⟩:=Int.eq_ofNat_of_zero_le hr.2.2.1;have hi:i<N.dies:=by omega
 have hj:j<N.blocks:=by omega
 have hlen:=(hN.cells i j hi hj).1;refine J.o (α:=NLoc) 1 λY=>?_;refine J.openAt 5 (i*N.blocks+j) rfl rfl (D6 _ _ _ _ _ (a1O hi hj)) rfl ?_;rw[(z7 hj).1,(z7 hj).2];refine J.o (α:=(Option Nat×Nat)) 6 λc=>?_;refine J.p (.of [0,4,8,13,16,20,26,29,32]) [8] [1,2,3,4,5,6,7] λ_=>?_;refine J.qp (M3 i j) [] λ_=>?_;refine J.q λ_=>?_;refine J.valT hX (pp (Y.bp (i*N.blocks+j))) 7 rfl rfl (λ_ a w he hC=>?_) rfl ?_
 ·refine(i6 (key:=((i:Int),(j:Int),0)) C7 Q1 (z:= .pointer none) (λw=>by kernel_rfl) rfl rfl rfl rfl he rfl rfl (hC rfl _ (f0 (i:=2) rfl))).trans ?_;simp only[G9 hi hj];rfl
 refine J.qp (b3k p N Y hN hR) [1] λ_=>?_;refine J.qd (λ_ h6=>?_) λ_ h6=>?_
 ·refine J.q λ_=>?_;rw[show(N.blk i j).cells=ext (N.blk i j).cells 0 from by simp[ext]];refine J.q λ_=>?_;refine J.l (α:=(Option Nat×Nat×Nat)) (λz=>(ext (N.blk i j).cells z.2.2).length<=N.pages) (λz=>[⟨8,pp (Y.bp (i*N.blocks+j)),7, .tt⟩,⟨0,pp p,2, .tt⟩]) [6,7] (λz=>[.pt (Y.bp (i*N.blocks+j)) 118 [slv z.1 (ext (N.blk i j).cells z.2.2).length z.2.1,iI (N.blk i j).worn, .bool (N.blk i j).fails, .bool (N.blk i j).met],c8 178 34 z.1 (ext (N.blk i j).cells z.2.2).length z.2.1 (m5 (ext (N.blk i j).cells z.2.2))]) (λz=>N.pages-(ext (N.blk i j).cells z.2.2).length) ((c.1,c.2,0)) (by rw[Y6];omega) λz hI=>?_;obtain⟨a,cap,m⟩:=z;dsimp only at hI ⊢;refine J.p (.of [0,4,8,13,16,20,24,28,32,37,40]) [] [1,2,3,4,5,6,7] λ_=>?_;refine J.qd (λ_ h8=>?_) λ_ h8=>?_
  ·simp only[decide_eq_true_eq,Int.ofNat_lt]at h8;rw[show N.cutN.pages=N.pages from rfl]at h8;refine J.q λ_=>?_;refine J.append hX tk 7 8 0 rfl rfl rfl rfl rfl rfl rfl rfl rfl rfl rfl rfl rfl rfl rfl rfl ?_ ?_ (λ_=>rfl) λa' cap'=>⟨_,a9m Nand.zcell rfl rfl,trivial,?_⟩
   ·simp only[maxLen];omega
   ·omega
   refine J.q λ_=>?_;rw[a3M _ Nand.zcell,b1a];refine J.q λ_=>?_;refine J.n ((a',cap',m+1)) (by dsimp only;rw[Y6]at h8 ⊢;omega) (by dsimp only;rw[Y6]at h8 ⊢;rw[Y6];omega) [0,1,2,3,4,5,6,7]
  ·simp only[decide_eq_false_iff_not,Int.ofNat_lt]at h8;rw[show N.cutN.pages=N.pages from rfl]at h8;have hm:(ext (N.blk i j).cells m).length=N.pages:=by omega
   have hm2:m=N.pages-(N.blk i j).cells.length:=by rw[Y6]at hm;omega
   have hext:ext (N.blk i j).cells m=(N.blk i j).cells++List.replicate (N.pages-(N.blk i j).cells.length) Nand.zcell:=by rw[hm2];rfl
   generalize ext (N.blk i j).cells m=B at hm hext;refine J.know (λh' s=>f8 (c:=(a,cap)) (by omega) (s.get (i:=7) rfl)) λhg=>?_;obtain⟨g,hg⟩:=hg;simp only at hg;subst hg;refine J.openOwn 7 rfl rfl (λ_=>rfl) λr q1 q2 q3 q4=>?_;refine J.q λ_=>?_;refine J.l (α:=Nat) (λk=>k<=B.length) (λk=>[si 56 k,si 55 B.length,⟨8,pp (Y.bp (i*N.blocks+j)),7, .tt⟩]) [7] (λk=>[.pt g 178 (m5 (I3 B k)++r)]) (λk=>B.length-k) (0) (Nat.zero_le _) λk hI=>?_;refine J.qd (λ_ h9=>?_) λ_ h9=>?_
   ·simp only[decide_eq_true_eq,Int.ofNat_lt]at h9;refine J.q λ_=>?_;have hbl:(I3 B k).length=B.length:=a6o B k;obtain⟨cl,hcl⟩:∃cl,(I3 B k)[k]? =some cl:=⟨_,List.getElem?_eq_getElem (by omega)⟩;refine J.s1 7 (m5 (I3 B (k+1))++r) ?_ ?_ ?_
    ·rw[List.length_append,i7];show 0+(k:Int).toNat*34+32<_;simp only[Int.toNat_natCast];omega
    ·rw[show 0+(k:Int).toNat*34+32=k*34+32 from by simp,List.set_append_left _ _ (by rw[i7];omega)];rw[J2 _ k 32 _ (λc=>{c with lost:=true}) cl hcl (by omega) rfl,a5i h9]
    refine J.q λ_=>?_;refine J.nx (k+1) (by omega) (by omega) (λ_ s=>s)
   ·simp only[decide_eq_false_iff_not,Int.ofNat_lt]at h9;obtain rfl:k=B.length:=by omega
    have hall:I3 B B.length=B.map λc=>{c with lost:=true}:=by simp[I3]
    rw[hall];have hmb:(B.map λc=>{c with lost:=true}).length=B.length:=by simp
    generalize hB':(B.map λc=>{c with lost:=true})=B' at hmb;refine J.closeOwn (e:=178) (size:=34) (n:=B.length) (cap:=cap) (xs:=m5 B') 7 rfl rfl (by rw[i7,hmb]) q2 q3 (by rw[List.length_append,i7,hmb];rw[i7]at q4;exact q4) (by rw[List.take_left' (by rw[i7,hmb])]) rfl ?_;rw[<- hmb];refine J.q λ_=>?_;refine J.closeN p N (N.cutN.setBlk i j {N.blk i j with cells:=B'}) Y i j hj ({N.blk i j with cells:=B'}) (some g,cap) [1,2,3,4,5,6,7] rfl rfl rfl rfl (rfl) rfl ?_;refine J.qr [1] λ_=>?_;exact⟨by simp[Nand.eraseE,h,h6],by rw[a6x h h6,<- hB',hext];rfl⟩
 refine J.qd (λ_ h7=>?_) λ_ h7=>?_
 ·refine J.q λ_=>?_;refine J.closeN p N (N.cutN.setBlk i j {N.blk i j with met:=true}) Y i j hj ({N.blk i j with met:=true}) _ [1,2,3,4,5,6,7] rfl rfl rfl rfl (rfl) rfl ?_;refine J.qr [1] λ_=>?_;exact⟨by simp[Nand.eraseE,h,h6,h7],by rw[a5A h h6 h7];rfl⟩
 have hw:=(hnum.2.2 i j);refine J.q λ_=>?_;refine J.turn1 [7] rfl (As:=[c8 178 34 none 0 0 (m5 [])]) (λh s=>Sep.one ⟨rfl,rfl,rfl⟩) rfl ?_;refine J.qc (b1V Y.q N.plan hpl i j) [3] λ_=>?_;rintro v As ⟨a,cap,l',hp,rfl,rfl⟩;have hl12:l'.length<=1000:=by rw[hp.length_eq];exact Nat.le_trans (List.length_filter_le _ _) hpl
 refine⟨_,rfl,trivial,?_⟩;refine J.q λ_=>?_;refine J.l (α:=Nat) (λk=>k<=l'.length) (λk=>[si 92 k,si 91 l'.length,sv 90 (slv a l'.length cap),⟨0,pp p,2, .tt⟩]) [3] (λk=>[H4 Y.q ((l'.take k).foldl List.erase N.plan)]) (λk=>l'.length-k) (0) (Nat.zero_le _) λk hI=>?_;refine J.qd (λ_ h9=>?_) λ_ h9=>?_
 ·simp only[decide_eq_true_eq,Int.ofNat_lt]at h9;cases a with
  | none=>
   refine J.know (λh' s=>(s.get (i:=8) rfl).2.1) λhn0=>?_;omega
  | some g=>
   have hk:l'[k]? =some (l'.getD k d3):=by rw[List.getD_eq_getElem?_getD,List.getElem?_eq_getElem h9,Option.getD_some]
   refine J.q λ_=>?_;refine J.v (H3 (l'.getD k d3)) rfl rfl (λhg a w he hs=>?_) ?_
   ·exact j6 tk rfl rfl he rfl rfl rfl (hs.get (i:=8) rfl) (by rw[show 0+(k:Int).toNat*3=k*3 from by omega];exact a2k hk) rfl
   refine J.p (.of [0,4,8,13,17,22]) [] [1,2,4,5,6,7,8,9] λ_=>?_;refine J.qp (a9q Y.q ((l'.take k).foldl List.erase N.plan) (l'.getD k d3).1 (l'.getD k d3).2.1 (l'.getD k d3).2.2) [3] λ_=>?_;refine J.q λ_=>?_;have hst:((l'.take k).foldl List.erase N.plan).erase (l'.getD k d3)=(l'.take (k+1)).foldl List.erase N.plan:=by
    rw[List.take_add_one,hk];simp
   rw[show(((l'.getD k d3).1,(l'.getD k d3).2.1,(l'.getD k d3).2.2):A3)=l'.getD k d3 from rfl,hst];refine J.q λ_=>?_;refine J.n (k+1) (by omega) (by omega) [0,1,2,3,4,5,6,7,8]
 ·simp only[decide_eq_false_iff_not,Int.ofNat_lt]at h9;obtain rfl:k=l'.length:=by omega
  rw[List.take_length,a8z hpn hp];refine J.q λ_=>?_;refine J.closeN p N ({N.cutN.setBlk i j {N.blk i j with cells:=[],worn:=(N.blk i j).worn+1}with plan:=N.plan.filter λa=>!(decide (a.1=(i:Int))&&decide (a.2.1=(j:Int)))}) Y i j hj ({N.blk i j with cells:=[],worn:=(N.blk i j).worn+1}) (none,0) [1,2,3,4,5,6,7] rfl rfl rfl rfl (rfl) rfl ?_;refine J.qr [1] λ_=>?_;exact⟨by simp[Nand.eraseE,h,h6,h7],by rw[a8A h h6 h7];rfl⟩
end Go.Proofs.YtpohajhbfllbbaaGreat
