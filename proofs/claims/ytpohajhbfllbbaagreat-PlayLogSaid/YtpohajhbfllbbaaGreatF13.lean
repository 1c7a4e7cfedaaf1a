/- Helpers. No condition. -/
import Derived.Test.YtpohajhbfllbbaaGreatF06
import Derived.Test.YtpohajhbfllbbaaGreatF11
import Derived.Test.YtpohajhbfllbbaaGreatF12
set_option maxRecDepth 20000
set_option linter.all false
namespace Go.Proofs.YtpohajhbfllbbaaGreat
open Go Go.RowKit
theorem a9L (q:Nat) (t:Tl) (hb:t.b<=1000) (hl:t.l.length=t.b) (r:Nat) (T:Tb) (o:Int):FP 185 [pp q,pp r,iI o] [TlA q t,TbA r T]
  (λv As=>∃a c,v=slv a (g5 (s5 t T) o t.b).length c/\As=[TlA q t,TbA r T,c8 3 1 a (g5 (s5 t T) o t.b).length c (d6 (g5 (s5 t T) o t.b))]):=by
 refine FE [2,3,0] Tryz.func185 λX F hX=>?_;refine J.q λbb=>?_;refine J.turn1 [3,4,2] rfl (As:=[PkE (bb 0) q (bb (0+1)) r T]) (λh s=>PkE_un.2 s) rfl ?_;refine J.qc (a3Y q t hb o 225 [pp (bb 0),pp (bb (0+1))] (s5 t T) (PkE (bb 0) q (bb (0+1)) r T) (by kernel_rfl) (λx=>b2f q t hb hl (bb 0) (bb (0+1)) r T x)) [1,3] λ_=>?_;rintro v As ⟨a,c,rfl,rfl⟩;refine⟨_,rfl,trivial,?_⟩;refine J.turn1 [3] rfl (λh s=>PkE_un.1 s) rfl ?_;refine J.qr [1,7,5] λ_=>?_;exact⟨a,c,rfl,rfl⟩
theorem a9N (q:Nat) (t:Tl) (hb:t.b<=1000) (hl:t.l.length=t.b) (r:Nat) (T:Tb) (o:Int):FP 129 [pp q,pp r,iI o] [TlA q t,TbA r T]
  (λv As=>v=iI (g5 (s5 t T) o t.b).length/\As=[TlA q t,TbA r T]):=by
 refine FE [2,3,0] Tryz.func129 λX F hX=>?_;refine J.qc (a9L q t hb hl r T o) [1,2] λ_=>?_;rintro v As ⟨a,c,rfl,rfl⟩;refine⟨_,rfl,trivial,?_⟩;exact J.qx [1,2]
theorem b2i (q:Nat) (t:Tl) (hb:t.b<=1000) (hl:t.l.length=t.b) (bt:Nat) (x y:Int):FP 228 [iI x,iI y,pp bt] [.pt bt 101 [pp q],TlA q t]
  (λv As=>v=iI (s4 (t.wear x) (t.wear y))/\As=[.pt bt 101 [pp q],TlA q t]):=by
 refine FE [0,0,2] Tryz.func228 λX F hX=>?_;refine J.p (.of [1,4,13,16,10,23,27,28]) [5,6,7] [1,2] λ_=>?_;refine J.qp (W8 q t hb hl x) [2] λ_=>?_;refine J.qp (W8 q t hb hl y) [2] λ_=>?_;refine J.qp (D5 (t.wear x) (t.wear y)) [] λ_=>?_;exact J.qx [1,2]
theorem a6f (q:Nat) (t:Tl) (hb:t.b<=1000) (hl:t.l.length=t.b) (r:Nat) (T:Tb) (o:Int):FP 192 [pp q,pp r,iI o] [TlA q t,TbA r T]
  (λv As=>v=iI (A4 (λx y=>s4 (t.wear x) (t.wear y)) (g5 (s5 t T) o t.b))/\As=[TlA q t,TbA r T]):=by
 have hlen:=A5 (s5 t T) o t.b;refine FE [2,3,0] Tryz.func192 λX F hX=>?_;refine J.q λbb=>?_;refine J.cb (a9L q t hb hl r T o) [1,2] ?_;rintro v As ⟨a,c,rfl,rfl⟩;refine⟨_,rfl,trivial,?_⟩;refine J.q λ_=>?_;refine J.turn1 [3,1] rfl (As:=[.hp (HP.of [.pt (bb 0) 101 [pp q],TlA q t])]) (λh s=>Sep.hpOf.2 s) rfl ?_;refine J.q λ_=>?_;refine J.ca hX (by kernel_rfl) (a6U 228 [pp (bb 0)] (λx y=>s4 (t.wear x) (t.wear y)) _ (by kernel_rfl) (λx y=>Fn.pack (b2i q t hb hl (bb 0) x y)) a c (g5 (s5 t T) o t.b) (by omega)) [4,3] 0 rfl rfl rfl rfl rfl rfl (λ_=>rfl) ?_;refine cpq ⟨_,rfl,trivial,?_⟩;refine J.turn1 [3] rfl (As:=[.pt (bb 0) 101 [pp q],TlA q t]) (λh s=>Sep.hpOf.1 s) rfl ?_;exact J.qx [5,2]
theorem b5c (b:Nat) (x y:Int):FP 189 [.slice (some ⟨b,0,none⟩) 2 2] [.pt b 3 [iI x,iI y]] (λv As=>v=iI (orI [x,y])/\As=[.pt b 3 [iI x,iI y]]):=by
 refine FE [2] Tryz.func189 λX F hX=>?_;refine J.q λ_=>?_;refine J.l (α:=Nat) (λk=>k<=2/\orI ([x,y].drop k)=orI [x,y]) (λk=>[si 8 k,si 7 2,⟨6, .slice (some ⟨b,0,none⟩) 2 2,2, .tt⟩,si 3 0]) [] (λk=>[]) (λk=>2-k) (0) (⟨by omega,rfl⟩) λk hI=>?_;refine J.qd (λ_ h1=>?_) λ_ h1=>?_
 ·simp only[decide_eq_true_eq]at h1;obtain⟨v,hv⟩:∃v,([x,y]:List Int)[k]? =some v:=⟨_,List.getElem?_eq_getElem (by simp;omega)⟩;have hd:([x,y]:List Int).drop k=v::([x,y]:List Int).drop (k+1):=by
   obtain⟨h2,h3⟩:=List.getElem?_eq_some_iff.1 hv;rw[List.drop_eq_getElem_cons h2,h3]
  refine J.q λ_=>?_;refine J.v (iI v) rfl rfl (λhg a w he hs=>?_) ?_
  ·exact f9 tk rfl rfl he rfl rfl rfl (hs.get (i:=1) rfl) (by
    rw[show 0+(k:Int).toNat*1=k from by omega,show([iI x,iI y]:List Value)=([x,y]:List Int).map (.int .i64)from rfl,List.getElem?_map,hv];rfl)
  refine J.qd (λ_ h2=>?_) λ_ h2=>?_
  ·simp only[bne_iff_ne,ne_eq]at h2;refine J.qr [1] λ_=>?_;refine⟨?_,rfl⟩;rw[<- hI.2,hd];simp[orI,h2]
  ·simp only[bne_eq_false_iff_eq]at h2;refine J.q λ_=>?_;refine J.nx (k+1) (⟨by omega,by rw[<- hI.2,hd,orI,if_neg (by simp[h2])]⟩) (by omega) (λ_ s=>s)
 ·simp only[decide_eq_false_iff_not]at h1;refine J.qr [1] λ_=>?_;refine⟨?_,rfl⟩;rw[<- hI.2,List.drop_of_length_le (by simp;omega)];rfl
theorem a7O (q:Nat) (t:Tl) (hb:t.b<=1000) (hl:t.l.length=t.b) (bt bl r:Nat) (T:Tb) (x y:Int):FP 188 [iI x,iI y,pp bl,pp bt] [TlA q t,PkE bt q bl r T]
  (λv As=>v=iI (orI [s4 (T.count x) (T.count y),s4 (t.wear x) (t.wear y)])/\As=[TlA q t,PkE bt q bl r T]):=by
 refine FE [0,0,4,3] Tryz.func188 λX F hX=>?_;refine J.turn1 [2] rfl (λh s=>PkE_un.1 s) rfl ?_;refine J.p (.of [1,4,13,16,29,32,41,44,10,22,26,38,51,55,59,63,64]) [12,13,14,15,16] [1,2,3,4] λ_=>?_;refine J.qp (z8 r T x) [4] λ_=>?_;refine J.qp (z8 r T y) [4] λ_=>?_;refine J.qp (D5 (T.count x) (T.count y)) [] λ_=>?_;refine J.qp (W8 q t hb hl x) [1] λ_=>?_;refine J.qp (W8 q t hb hl y) [1] λ_=>?_;refine J.qp (D5 (t.wear x) (t.wear y)) [] λ_=>?_;refine J.q λbs=>?_;refine J.cb (b5c (bs 0) (s4 (T.count x) (T.count y)) (s4 (t.wear x) (t.wear y))) [5] ?_;refine cpq ⟨_,rfl,stq,?_⟩;refine J.q λ_=>?_;refine J.turn1 [2,3,4] rfl (λh s=>PkE_un.2 s) rfl ?_;exact J.qx [1,2]
theorem a5a (q:Nat) (t:Tl) (hb:t.b<=1000) (hl:t.l.length=t.b) (r:Nat) (T:Tb) (o:Int):FP 130 [pp q,pp r,iI o] [TlA q t,TbA r T]
  (λv As=>v=iI (A4 (λx y=>orI [s4 (T.count x) (T.count y),s4 (t.wear x) (t.wear y)]) (g5 (L4 t T) o t.b))/\As=[TlA q t,TbA r T]):=by
 have hlen:=A5 (L4 t T) o t.b;refine FE [2,3,0] Tryz.func130 λX F hX=>?_;refine J.q λbb=>?_;refine J.turn1 [3,4,2] rfl (As:=[PkE (bb 0) q (bb (0+1)) r T]) (λh s=>PkE_un.2 s) rfl ?_;refine J.qc (a3Y q t hb o 186 [pp (bb (0+1)),pp (bb 0)] (L4 t T) (PkE (bb 0) q (bb (0+1)) r T) (by kernel_rfl) (λx=>b2e q t hb hl (bb 0) (bb (0+1)) r T x)) [1,3] λ_=>?_;rintro v As ⟨a,c,rfl,rfl⟩;refine⟨_,rfl,trivial,?_⟩;refine J.q λ_=>?_;refine J.turn1 [1,3] rfl (As:=[.hp (HP.of [TlA q t,PkE (bb 0) q (bb (0+1)) r T])]) (λh s=>Sep.hpOf.2 s) rfl ?_;refine J.q λ_=>?_;refine J.ca hX (by kernel_rfl) (a6U 188 [pp (bb (0+1)),pp (bb 0)] (λx y=>orI [s4 (T.count x) (T.count y),s4 (t.wear x) (t.wear y)]) _ (by kernel_rfl) (λx y=>Fn.pack (a7O q t hb hl (bb 0) (bb (0+1)) r T x y)) a c (g5 (L4 t T) o t.b) (by omega)) [5,1] 0 rfl rfl rfl rfl rfl rfl (λ_=>rfl) ?_;refine cpq ⟨_,rfl,trivial,?_⟩;refine J.turn1 [1] rfl (As:=[TlA q t,PkE (bb 0) q (bb (0+1)) r T]) (λh s=>Sep.hpOf.1 s) rfl ?_;refine J.turn1 [6] rfl (λh s=>PkE_un.1 s) rfl ?_;exact J.qx [1,8]
theorem a6V (q:Nat) (t:Tl) (hb:t.b<=1000) (hl:t.l.length=t.b) (r:Nat) (T:Tb) (o:Int):FP 127 [pp q,pp r,iI o] [TlA q t,TbA r T]
  (λv As=>∃a c,v=slv a (g5 (s9 t T) o t.b).length c/\As=[TlA q t,TbA r T,c8 3 1 a (g5 (s9 t T) o t.b).length c (d6 (g5 (s9 t T) o t.b))]):=by
 refine FE [2,3,0] Tryz.func127 λX F hX=>?_;refine J.q λbb=>?_;refine J.turn1 [3,4,2] rfl (As:=[PkE (bb 0) q (bb (0+1)) r T]) (λh s=>PkE_un.2 s) rfl ?_;refine J.qc (a3Y q t hb o 179 [pp (bb 0),pp (bb (0+1))] (s9 t T) (PkE (bb 0) q (bb (0+1)) r T) (by kernel_rfl) (λx=>a9K q t hb hl (bb 0) (bb (0+1)) r T x)) [1,3] λ_=>?_;rintro v As ⟨a,c,rfl,rfl⟩;refine⟨_,rfl,trivial,?_⟩;refine J.turn1 [3] rfl (λh s=>PkE_un.1 s) rfl ?_;refine J.qr [1,7,5] λ_=>?_;exact⟨a,c,rfl,rfl⟩
def a6c (t:Tl) (T:Tb) (b i:Int):Bool:=IntKind.i64.wrap ((BitVec.ofInt IntKind.i64.bits ((Tb.look T.at_ i).getD AtV.zero).mask&&& BitVec.ofInt IntKind.i64.bits (Tl.andN (L.all t.d) (t.mask b))).toNat:Int) !=0
theorem b2j (q:Nat) (t:Tl) (hb:t.b<=1000) (hl:t.l.length=t.b) (bt bl bb r:Nat) (T:Tb) (b i:Int):FP 152 [iI i,pp bl,pp bt,pp bb] [TlA q t, .pt bt 101 [pp q], .pt bl 102 [pp r],TbA r T, .pt bb 3 [iI b]]
  (λv As=>v= .bool (a6c t T b i)/\As=[TlA q t, .pt bt 101 [pp q], .pt bl 102 [pp r],TbA r T, .pt bb 3 [iI b]]):=by
 refine FE [0,4,3,6] Tryz.func152 λX F hX=>?_;refine J.qp (Z8 r T i) [4] λ_=>?_;refine J.p (.of [1,17,21,6,8,14,27,28,32]) [6,7,8] [1,2,3,4,5] λ_=>?_;refine J.qp (a1j q t) [1] λ_=>?_;refine J.qp (a5p t.d) [] λ_=>?_;refine J.qp (J6 q t hb hl b) [1] λ_=>?_;exact J.qx [1,2,3,4,5]
def I0 (t:Tl) (T:Tb) (b:Int):Bool:=(T.ins b).any (a6c t T b)
theorem b2k (q:Nat) (t:Tl) (hb:t.b<=1000) (hl:t.l.length=t.b) (bt bl r:Nat) (T:Tb) (n:Nat) (hlog:T.logical=(n:Int)) (hn:n<=65536) (b:Int):FP 149 [iI b,pp bl,pp bt] [TlA q t,PkE bt q bl r T]
  (λv As=>v= .bool (I0 t T b)/\As=[TlA q t,PkE bt q bl r T]):=by
 have hlen:(T.ins b).length<=65536:=by
  unfold Tb.ins;split
  ·simp
  ·refine Nat.le_trans (T.inK_len b _) ?_;rw[hlog];omega
 refine FE [0,4,3] Tryz.func149 λX F hX=>?_;refine J.turn1 [2] rfl (λh s=>PkE_un.1 s) rfl ?_;refine J.q λbb=>?_;refine J.cb (a9g r T n hlog hn b) [4] ?_;rintro v As ⟨a,c,rfl,rfl⟩;refine⟨_,rfl,trivial,?_⟩;refine J.q λ_=>?_;refine J.turn1 [1,2,3,4,5] rfl (As:=[.hp (HP.of [TlA q t, .pt bt 101 [pp q], .pt bl 102 [pp r],TbA r T, .pt (bb 0) 3 [iI b]])]) (λh s=>Sep.hpOf.2 s) rfl ?_;refine J.q λ_=>?_;refine J.ca hX (by kernel_rfl) (a0o 152 [pp bl,pp bt,pp (bb 0)] (a6c t T b) _ (by kernel_rfl) (T.ins b) (λi _=>Fn.pack (b2j q t hb hl bt bl (bb 0) r T b i)) a (T.ins b).length c rfl (by omega)) [6,1] 0 rfl rfl rfl rfl rfl rfl (λ_=>rfl) ?_;refine cpq ⟨_,rfl,trivial,?_⟩;refine J.turn1 [1] rfl (As:=[TlA q t, .pt bt 101 [pp q], .pt bl 102 [pp r],TbA r T, .pt (bb 0) 3 [iI b]]) (λh s=>Sep.hpOf.1 s) rfl ?_;refine J.turn1 [7,8,9] rfl (λh s=>PkE_un.2 s) rfl ?_;exact J.qx [1,7]
theorem a6g (q:Nat) (t:Tl) (hb:t.b<=1000) (hl:t.l.length=t.b) (r:Nat) (T:Tb) (n:Nat) (hlog:T.logical=(n:Int)) (hn:n<=65536):FP 100 [pp q,pp r] [TlA q t,TbA r T]
  (λv As=>∃a c,v=slv a (g5 (I0 t T) (-1) t.b).length c/\As=[TlA q t,TbA r T,c8 3 1 a (g5 (I0 t T) (-1) t.b).length c (d6 (g5 (I0 t T) (-1) t.b))]):=by
 refine FE [2,3] Tryz.func100 λX F hX=>?_;refine J.q λbb=>?_;refine J.turn1 [3,4,2] rfl (As:=[PkE (bb 0) q (bb (0+1)) r T]) (λh s=>PkE_un.2 s) rfl ?_;refine J.qc (a3Y q t hb (-1) 149 [pp (bb (0+1)),pp (bb 0)] (I0 t T) (PkE (bb 0) q (bb (0+1)) r T) (by kernel_rfl) (λx=>b2k q t hb hl (bb 0) (bb (0+1)) r T n hlog hn x)) [1,3] λ_=>?_;rintro v As ⟨a,c,rfl,rfl⟩;refine⟨_,rfl,trivial,?_⟩;refine J.turn1 [3] rfl (λh s=>PkE_un.1 s) rfl ?_;refine J.qr [1,7,5] λ_=>?_;exact⟨a,c,rfl,rfl⟩
end Go.Proofs.YtpohajhbfllbbaaGreat
namespace Go.Proofs.YtpohajhbfllbbaaGreat
namespace Tb
def cntB (l:List (Int×AtV)) (b:Int):Nat:=l.countP λx=>x.2.block==b
structure Ok (t:Tb):Prop where
 keys:(t.at_.map (·.1)).Nodup
 rng:∀x∈t.at_,0<=x.1/\x.1<t.logical
 cnt:∀b,t.count b=(cntB t.at_ b:Int)
 log:0<=t.logical/\t.logical<=65536
theorem look_none {α:Type} {k:Int}:∀{l:List (Int×α)},look l k=none↔k∉l.map (·.1)
 | []=>by simp[look]
 | x::l=>by
  simp only[look,List.map_cons,List.mem_cons,not_or];split
  ·rename_i h;simp[h]
  ·rename_i h;rw[look_none];simp[h]
theorem look_mem {α:Type} {k:Int} {a:α}:∀{l:List (Int×α)},look l k=some a->(k,a)∈l
 | [],h=>by simp[look]at h
 | x::l,h=>by
  simp only[look]at h;split at h
  ·rename_i e;injection h with h;subst h;subst e;exact List.mem_cons_self ..
  ·exact List.mem_cons_of_mem _ (look_mem h)
theorem put1_new {α:Type} {k:Int} {v:α}:∀{l:List (Int×α)},look l k=none->put1 l k v=l++[(k,v)]
 | [],_=>rfl
 | x::l,h=>by
  simp only[look]at h;split at h
  ·cases h
  ·rename_i e;simp only[put1,if_neg e,put1_new h,List.cons_append]
theorem put1_keys {α:Type} {k:Int} {v:α}:∀{l:List (Int×α)},(look l k).isSome=true->(put1 l k v).map (·.1)=l.map (·.1)
 | [],h=>by simp[look]at h
 | x::l,h=>by
  simp only[look]at h;simp only[put1];split
  ·rename_i e;simp[e]
  ·rename_i e;rw[if_neg e]at h;simp only[List.map_cons,put1_keys h]
theorem cntB_put {k:Int} {v:AtV} (b:Int):∀{l:List (Int×AtV)},(l.map (·.1)).Nodup->(cntB (put1 l k v) b:Int)=(cntB l b:Int)-(match look l k with | some a=>if a.block=b then 1 else 0 | none=>0)+(if v.block=b then 1 else 0)
 | [],_=>by simp[put1,look,cntB];split<;>simp_all
 | x::l,h=>by
  simp only[put1,look]
  by_cases e:k=x.1
  ·rw[if_pos e,if_pos e];simp only[cntB,List.countP_cons,beq_iff_eq];split<;>split<;>omega
  ·rw[if_neg e,if_neg e];have:=cntB_put (k:=k) (v:=v) b (l:=l) (by simp only[List.map_cons,List.nodup_cons]at h;exact h.2);simp only[cntB,List.countP_cons]at this ⊢;rw[Int.natCast_add,Int.natCast_add,this];omega
theorem count_put1 (c:List (Int×Int)) (k v b:Int):(look (put1 c k v) b).getD 0=if b=k then v else(look c b).getD 0:=by
 rw[look_put1];split<;>rfl
theorem ok_spec {t:Tb} {e:En} (h:t.ok e=true):0<=e.lpn/\e.lpn<t.logical:=by
 simp only[ok,Bool.not_eq_true',Bool.or_eq_false_iff,decide_eq_false_iff_not]at h;omega
theorem Ok.new (n:Int):(Tb.new n).Ok:=⟨by simp[Tb.new],by simp[Tb.new],λb=>rfl,by simp only[Tb.new];omega⟩
theorem Ok.put {t:Tb} (h:t.Ok) (e:En) (b r s m:Int):(t.put e b r s m).Ok:=by
 unfold Tb.put;split
 ·rename_i hp;simp only[putB,Bool.and_eq_true]at hp;have ho:=ok_spec hp.1;have hk:(put1 t.at_ e.lpn ⟨b,r,s,m,e.seq,e.role⟩).map (·.1)=t.at_.map (·.1)\/look t.at_ e.lpn=none/\(put1 t.at_ e.lpn ⟨b,r,s,m,e.seq,e.role⟩).map (·.1)=t.at_.map (·.1)++[e.lpn]:=by
   cases hl:look t.at_ e.lpn with
   | none=>right;exact⟨rfl,by rw[put1_new hl];simp⟩
   | some a=>left;exact put1_keys (by rw[hl];rfl)
  refine⟨?_,?_,?_,h.log⟩
  ·rcases hk with hk | ⟨hn,hk⟩
   ·show((put1 _ _ _).map _).Nodup;rw[hk];exact h.keys
   ·show((put1 _ _ _).map _).Nodup;rw[hk,List.nodup_append];exact⟨h.keys,by simp,λa ha c hc=>by simp at hc;subst hc;exactλe=>look_none.1 hn (e▸ha)⟩
  ·intro x hx;have hx:x.1∈(put1 t.at_ e.lpn ⟨b,r,s,m,e.seq,e.role⟩).map (·.1):=List.mem_map_of_mem hx;have hr:∀k∈t.at_.map (·.1),0<=k/\k<t.logical:=λk hk=>by
    obtain⟨y,hy,rfl⟩:=List.mem_map.1 hk;exact h.rng y hy
   rcases hk with hk | ⟨_,hk⟩
   ·rw[hk]at hx;exact hr _ hx
   ·rw[hk,List.mem_append]at hx;rcases hx with hx | hx
    ·exact hr _ hx
    ·simp at hx;rw[hx];exact ho
  ·intro c;show(look (cnt2 t e b) c).getD 0=(cntB (put1 t.at_ e.lpn ⟨b,r,s,m,e.seq,e.role⟩) c:Int);rw[cntB_put c h.keys];have h1:∀d,(look (cnt1 t e) d).getD 0=(cntB t.at_ d:Int)-(match look t.at_ e.lpn with | some a=>if a.block=d then 1 else 0 | none=>0):=by
    intro d;have hd:(look t.cnt d).getD 0=(cntB t.at_ d:Int):=h.cnt d;unfold cnt1;cases hl:look t.at_ e.lpn with
    | none=>dsimp only;rw[hd];omega
    | some a=>
     dsimp only;rw[count_put1];split
     ·rename_i e1;subst e1;rw[if_pos rfl,h.cnt]
     ·rename_i e1;rw[if_neg (λe=>e1 e.symm),hd];omega
   unfold cnt2;rw[count_put1,h1 b,h1 c];dsimp only
   by_cases e1:c=b
   ·subst e1;rw[if_pos rfl,if_pos rfl]
   ·rw[if_neg e1,if_neg (λe=>e1 e.symm)];omega
 ·exact h
theorem countP_one {p q:Nat->Bool} {i0:Nat} (h1:∀i,i≠i0->p i=q i) (h2:q i0=false):∀n,(List.range n).countP p=(List.range n).countP q+(if i0<n/\p i0=true then 1 else 0)
 | 0=>by simp
 | n+1=>by
  rw[List.range_succ,List.countP_append,List.countP_append,countP_one h1 h2 n];simp only[List.countP_singleton]
  by_cases e:n=i0
  ·subst e;rw[h2];cases p n<;>simp
  ·rw[h1 n e]
   by_cases e2:i0<n
   ·simp[e2,show i0<n+1 by omega];omega
   ·simp[e2,show¬i0<n+1 by omega]
theorem at_cnt {α:Type} (n:Nat):∀l:List (Int×α),(l.map (·.1)).Nodup->(∀x∈l,0<=x.1/\x.1<(n:Int))->l.length=(List.range n).countP λi:Nat=>(look l (i:Int)).isSome
 | [],_,_=>by simp[look]
 | x::l,h1,h2=>by
  simp only[List.map_cons,List.nodup_cons]at h1;have ih:=at_cnt n l h1.2 (λy hy=>h2 y (List.mem_cons_of_mem _ hy));have hx:=h2 x (List.mem_cons_self ..);have hn:look l x.1=none:=look_none.2 h1.1;rw[countP_one (q:=λi:Nat=>(look l (i:Int)).isSome) (i0:=x.1.toNat)]
  ·rw[<- ih];have:((x.1.toNat:Nat):Int)=x.1:=by omega
   simp only[this,look,if_true,Option.isSome_some,and_true,List.length_cons];rw[if_pos (by omega)]
  ·intro i hi;simp only[look];rw[if_neg (by omega)]
  ·have:((x.1.toNat:Nat):Int)=x.1:=by omega
   simp only[this,hn];rfl
theorem len_le {α:Type} (n:Nat) (l:List (Int×α)) (h1:(l.map (·.1)).Nodup) (h2:∀x∈l,0<=x.1/\x.1<(n:Int)):l.length<=n:=by
 rw[at_cnt n l h1 h2];have:=List.countP_le_length (p:=λi:Nat=>(look l (i:Int)).isSome) (l:=List.range n)
 rwa [List.length_range]at this
theorem Ok.len {t:Tb} (h:t.Ok):t.at_.length<=65536:=by
 have:=len_le t.logical.toNat t.at_ h.keys (λx hx=>by have:=h.rng x hx;omega);have:=h.log;omega
theorem Ok.bd {t:Tb} (h:t.Ok) (k:Int):0<=t.count k/\t.count k<=1000000:=by
 rw[h.cnt];have:cntB t.at_ k<=t.at_.length:=List.countP_le_length;have:=h.len;omega
theorem range_cnt (b:Int) (n:Nat):∀l:List (Int×AtV),(l.map (·.1)).Nodup->(∀x∈l,0<=x.1/\x.1<(n:Int))->(List.range n).countP (λi:Nat=>match look l (i:Int)with | some a=>a.block==b | none=>false)=cntB l b
 | [],_,_=>by simp[look,cntB]
 | x::l,h1,h2=>by
  simp only[List.map_cons,List.nodup_cons]at h1;have ih:=range_cnt b n l h1.2 (λy hy=>h2 y (List.mem_cons_of_mem _ hy));have hx:=h2 x (List.mem_cons_self ..);have hn:look l x.1=none:=look_none.2 h1.1;rw[countP_one (q:=λi:Nat=>match look l (i:Int)with | some a=>a.block==b | none=>false) (i0:=x.1.toNat)]
  ·rw[ih,cntB,cntB,List.countP_cons];have:((x.1.toNat:Nat):Int)=x.1:=by omega
   simp only[this,look,if_true];have hlt:x.1.toNat<n:=by omega
   simp only[hlt,true_and]
  ·intro i hi;simp only[look];rw[if_neg (by omega)]
  ·have:((x.1.toNat:Nat):Int)=x.1:=by omega
   simp only[this,hn]
theorem Ok.inK_len {t:Tb} (h:t.Ok) (b:Int):((inK t b t.logical.toNat).length:Int)=t.count b:=by
 rw[h.cnt,inK,List.length_map,<- List.countP_eq_length_filter,<- range_cnt b t.logical.toNat t.at_ h.keys (λx hx=>by have:=h.rng x hx;omega)];rfl
theorem Ok.ins {t:Tb} (h:t.Ok) (b:Int):t.ins b=inK t b t.logical.toNat:=by
 unfold Tb.ins;split
 ·rename_i h0;have:=h.inK_len b;rw[h0]at this;have:(inK t b t.logical.toNat).length=0:=by omega
  exact(List.eq_nil_of_length_eq_zero this).symm
 ·rfl
theorem Ok.ins_len {t:Tb} (h:t.Ok) (b:Int):((t.ins b).length:Int)=t.count b:=by rw[h.ins,h.inK_len]
theorem put_logical (t:Tb) (e:En) (b r s m:Int):(t.put e b r s m).logical=t.logical:=by unfold Tb.put;split<;>rfl
end Tb
end Go.Proofs.YtpohajhbfllbbaaGreat
namespace Go.Proofs.YtpohajhbfllbbaaGreat
open Go Go.RowKit
def mk0 (N:Nand) (b r:Int) (k:Nat):List Int:=((M.rowN N b r N.dies).take k).filterMap M.maskOf
theorem a6Q (N:Nand) (b r:Int) (n k:Nat) (h:k<n):(M.rowN N b r n)[k]? =some (M.look N (k:Nat) b r):=by simp[M.rowN,h]
theorem a5f (N:Nand) (b r:Int) (k:Nat) (h:k<N.dies):mk0 N b r (k+1)=mk0 N b r k++(M.maskOf (M.look N (k:Nat) b r)).toList:=by
 unfold mk0;rw[List.take_add_one,a6Q N b r _ k h,List.filterMap_append];congr 1
theorem b2r (N:Nand) (b r:Int) (k:Nat):(mk0 N b r k).length<=k:=by
 refine Nat.le_trans (List.length_filterMap_le _ _) ?_;rw[List.length_take];omega
theorem a2g {l:List Int} {k:Nat} {x:Int} (h:l[k]? =some x):(d6 l)[k]? =some (iI x):=by simp[d6,h]
theorem P8 {l:List Sh} {k:Nat} {x:Sh} (h:l[k]? =some x):((j3 l).drop (k*23)).take 23=shL x:=by
 have:=V3 l [] k x h;rwa [List.append_nil]at this
theorem a7b (p:Nat) (N:Nand) (hN:N.Ok) (hR:N.Room) (b r:Int):FP 167 [pp p,iI b,iI r] [d8 p N]
  (λv As=>∃a c,v=slv a (M.masks N b r).length c/\As=[d8 p N,c8 3 1 a (M.masks N b r).length c (d6 (M.masks N b r))]):=by
 have hbd:=hN.bd;refine FE [2,0,0] Tryz.func167 λX F hX=>?_;refine J.qc (b3m p N hN hR b r) [1] λ_=>?_;rintro v As ⟨a1,c1,a2,c2,rfl,rfl⟩;refine⟨_,rfl,trivial,?_⟩;refine J.turn1 [] rfl (As:=[c8 3 1 none 0 0 (d6 (mk0 N b r 0))]) (λh s=>Sep.one ⟨rfl,rfl,rfl⟩) rfl ?_;refine J.q λ_=>?_;refine J.l (α:=(Nat×Option Nat×Nat)) (λz=>z.1<=N.dies) (λz=>[si 21 z.1,si 20 N.dies,sv 19 (slv a1 N.dies c1),sv 9 (slv a2 N.dies c2),sv 7 (slv z.2.1 (mk0 N b r z.1).length z.2.2)]) [4] (λz=>[c8 3 1 z.2.1 (mk0 N b r z.1).length z.2.2 (d6 (mk0 N b r z.1))]) (λz=>N.dies-z.1) ((0,none,0)) (Nat.zero_le _) λz hI=>?_;obtain⟨k,a3,c3⟩:=z;dsimp only at hI ⊢;have hml:=b2r N b r k;refine J.qd (λ_ h1=>?_) λ_ h1=>?_
 ·simp only[decide_eq_true_eq,Int.ofNat_lt]at h1;refine J.know (λh' s=>f8 (c:=(a1,c1)) (by omega) (s.get (i:=2) rfl)) λhg=>?_;obtain⟨g1,rfl⟩:=hg;refine J.know (λh' s=>f8 (c:=(a2,c2)) (by omega) (s.get (i:=3) rfl)) λhg=>?_;obtain⟨g2,rfl⟩:=hg;have hat:=a6Q N b r _ k h1;refine J.q λ_=>?_;refine J.v (shV (M.look N (k:Nat) b r).1) rfl rfl (λhg a w he hs=>?_) ?_
  ·exact j6 tk rfl rfl he rfl rfl rfl (hs.get (i:=2) rfl) (by rw[show 0+(k:Int).toNat*23=k*23 from by omega];exact P8 (by rw[List.getElem?_map,hat];rfl)) rfl
  refine J.q λ_=>?_;refine J.v (iI (M.look N (k:Nat) b r).2) rfl rfl (λhg a w he hs=>?_) ?_
  ·exact i5 tk rfl rfl he rfl rfl rfl (hs.get (i:=3) rfl) (by rw[show 0+(k:Int).toNat*1=k from by omega];exact a2g (by rw[List.getElem?_map,hat];rfl))
  refine J.qd (λ_ h2=>?_) λ_ h2=>?_
  ·simp only[beq_iff_eq]at h2;have hs:mk0 N b r (k+1)=mk0 N b r k++[(M.look N (k:Nat) b r).1.mask]:=by rw[a5f N b r k h1,M.maskOf,if_pos h2];rfl
   have hl:(mk0 N b r k).length+1=(mk0 N b r (k+1)).length:=by rw[hs];simp
   refine J.q λ_=>?_;refine J.ap 4 6 0 ((E8 _ _).symm.trans (congrArg d6 hs.symm)) λa4 c4=>?_;rw[hl];refine J.q λ_=>?_;refine J.n ((k+1,a4,c4)) (by dsimp only;omega) (by dsimp only;omega) [0,1,2,3,4]
  ·simp only[beq_eq_false_iff_ne,ne_eq]at h2;have hs:mk0 N b r k=mk0 N b r (k+1):=by rw[a5f N b r k h1,M.maskOf,if_neg h2];simp
   rw[hs];refine J.q λ_=>?_;refine J.n ((k+1,a3,c3)) (by dsimp only;omega) (by dsimp only;omega) [0,1,2,3,4]
 ·simp only[decide_eq_false_iff_not,Int.ofNat_lt]at h1;obtain rfl:k=N.dies:=by omega
  have hall:mk0 N b r N.dies=(M.rowN N b r N.dies).filterMap M.maskOf:=by
   unfold mk0;rw[List.take_of_length_le (by simp[M.rowN])]
  refine J.qp (a1t a3 (mk0 N b r N.dies).length c3 (mk0 N b r N.dies) rfl (by omega)) [4] λ_=>?_;refine J.q λ_=>?_;refine J.ca hX (by kernel_rfl) (a2H a3 (mk0 N b r N.dies).length c3 (L6 (mk0 N b r N.dies)) (I6 _) (by omega)) [4] 0 rfl rfl rfl rfl rfl rfl (λ_=>rfl) ?_;rintro v As ⟨l',hl',rfl,rfl⟩;refine⟨_,rfl,trivial,?_⟩;have he:l'=M.masks N b r:=by rw[hl',hall];rfl
  subst he;refine J.qr [1,4] λ_=>?_;exact⟨a3,c3,rfl,rfl⟩
end Go.Proofs.YtpohajhbfllbbaaGreat
namespace Go.Proofs.YtpohajhbfllbbaaGreat
structure Nand.Gd (N:Nand) (k m:Nat):Prop where
 ok:N.Ok
 ops:N.ops+k<4611686018427387904
 broken:N.broken+k<4611686018427387904
 nodup:N.plan.Nodup
 few:N.plan.length<=m
namespace Nand
variable {N : Nand} {k m : Nat}
theorem Gd.room (h:N.Gd k m):N.Room:=⟨by have:=h.ops;omega,by have:=h.broken;omega⟩
theorem Gd.less (h:N.Gd k m) {k' m':Nat} (hk:k'<=k) (hm:m<=m'):N.Gd k' m':=⟨h.ok,by have:=h.ops;omega,by have:=h.broken;omega,h.nodup,by have:=h.few;omega⟩
theorem Ok.setBlk (h:N.Ok) (i j:Nat) (B:NBlock) (h1:B.cells.length<=N.pages) (h2:∀c∈B.cells,c.p.length=32) (h3:0<=B.worn/\B.worn<=N.ops):(N.setBlk i j B).Ok:=by
 refine⟨h.geo,h.dead,λa b ha hb=>?_,⟨h.num.1,h.num.2.1,λa b=>?_⟩,h.lft,h.lf2,h.kp⟩
 ·show(if a=i/\b=j then B else N.blk a b).cells.length<=N.pages/\∀c∈(if a=i/\b=j then B else N.blk a b).cells,c.p.length=32;split
  ·exact⟨h1,h2⟩
  ·exact h.cells a b ha hb
 ·show 0<=(if a=i/\b=j then B else N.blk a b).worn/\(if a=i/\b=j then B else N.blk a b).worn<=N.ops;split
  ·exact h3
  ·exact h.num.2.2 a b
theorem Ok.cutN (h:N.Ok):N.cutN.Ok:=by
 have h1:=h.num;have h2:=h.lft;have h3:=h.lf2;refine⟨h.geo,h.dead,h.cells,⟨by show 0<=N.ops+1;omega,h1.2.1,λa b=>⟨(h1.2.2 a b).1,by show _<=N.ops+1;have:=(h1.2.2 a b).2;exact Int.le_trans this (by omega)⟩⟩,λhc=>?_,?_,h.kp⟩
 ·have hc:(if N.cutB then false else N.cuts)=true:=hc;show 0<=(if N.cuts then N.left-1 else N.left)/\(if N.cuts then N.left-1 else N.left)<=9223372036854775807;split at hc
  ·cases hc
  ·rename_i hb;simp[cutB,hc]at hb;have:=h2 hc;rw[if_pos hc];omega
 ·show-9223372036854775808<=(if N.cuts then N.left-1 else N.left)/\(if N.cuts then N.left-1 else N.left)<=9223372036854775807;split
  ·rename_i hc;have:=h2 hc;omega
  ·exact h3
theorem Ok.push (h:N.Ok) (i j:Nat) (c:NCell) (h1:(N.blk i j).cells.length<N.pages) (h2:c.p.length=32) (hi:i<N.dies) (hj:j<N.blocks):(N.push i j c).Ok:=by
 refine h.setBlk i j _ ?_ ?_ (h.num.2.2 i j)
 ·simp;omega
 ·intro x hx;simp only[List.mem_append,List.mem_singleton]at hx;rcases hx with hx | hx
  ·exact(h.cells i j hi hj).2 x hx
  ·rw[hx];exact h2
theorem Ok.plan (h:N.Ok) (l:List A3'):Ok {N with plan:=l}:=⟨h.geo,h.dead,h.cells,h.num,h.lft,h.lf2,h.kp⟩
theorem fillP_len (k:Nat) (p:List UInt8) (h:p.length=32) (hk:k<=32):(fillP k p).length=32:=by simp[fillP,h];omega
theorem Ok.prog (h:N.Ok) (x y z:Int) (pg:List UInt8) (hp:pg.length=32):(N.progN x y z pg).Ok:=by
 unfold progN;split
 ·exact h
 ·rename_i h0;simp only[ne_eq,Decidable.not_not]at h0;obtain⟨_,_,hr⟩:=refuses_zero h0;split
  ·exact⟨h.geo,h.dead,h.cells,⟨h.num.1,by show 0<=N.broken+1;have:=h.num.2.1;omega,h.num.2.2⟩,h.lft,h.lf2,h.kp⟩
  ·rename_i h1;simp only[ne_eq,Decidable.not_not]at h1;have hlt:(N.blk x.toNat y.toNat).cells.length<N.pages:=by omega
   have hi:x.toNat<N.dies:=by omega
   have hj:y.toNat<N.blocks:=by omega
   split
   ·exact h.cutN.push _ _ _ hlt (fillP_len _ _ hp (by have:=h.kp;omega)) hi hj
   ·exact(h.cutN.plan _).push _ _ _ hlt hp hi hj
theorem Gd.prog (h:N.Gd (k+1) m) (x y z:Int) (pg:List UInt8) (hp:pg.length=32):(N.progN x y z pg).Gd k m:=by
 have h1:=h.ops;have h2:=h.broken;refine⟨h.ok.prog x y z pg hp,?_,?_,?_,?_⟩
 ·unfold progN;split
  ·omega
  ·split
   ·show N.ops+_<_;omega
   ·split<;>(show N.ops+1+(k:Int)<_;omega)
 ·unfold progN;split
  ·omega
  ·split
   ·show N.broken+1+(k:Int)<_;omega
   ·split<;>(show N.broken+(k:Int)<_;omega)
 ·unfold progN;split
  ·exact h.nodup
  ·split
   ·exact h.nodup
   ·split
    ·exact h.nodup
    ·exact h.nodup.erase _
 ·have h3:=h.few;unfold progN;split
  ·exact h3
  ·split
   ·exact h3
   ·split
    ·exact h3
    ·show(N.plan.erase _).length<=m;rw[List.length_erase];split<;>omega
theorem Ok.erase (h:N.Ok) (x y:Int):(N.eraseN x y).Ok:=by
 unfold eraseN;dsimp only;split
 ·exact h
 ·rename_i h0;simp only[ne_eq,Decidable.not_not]at h0;obtain⟨_,_,hr⟩:=refuses_zero h0;have hi:x.toNat<N.dies:=by omega
  have hj:y.toNat<N.blocks:=by omega
  have hc:=h.cells _ _ hi hj;split
  ·refine h.cutN.setBlk _ _ _ ?_ ?_ (h.cutN.num.2.2 _ _)
   ·show _<=N.pages;simp;omega
   ·intro c hcm;simp only[List.mem_map,List.mem_append,List.mem_replicate]at hcm;obtain⟨a,ha,rfl⟩:=hcm;rcases ha with ha | ha
    ·exact hc.2 a ha
    ·rw[ha.2];rfl
  ·split
   ·exact h.cutN.setBlk _ _ _ hc.1 hc.2 (h.cutN.num.2.2 _ _)
   ·refine(h.cutN.setBlk _ _ _ (by simp) (by simp) ?_).plan _;show 0<=(N.blk x.toNat y.toNat).worn+1/\(N.blk x.toNat y.toNat).worn+1<=N.ops+1;have:=h.num.2.2 x.toNat y.toNat
    omega
theorem Gd.erase (h:N.Gd (k+1) m) (x y:Int):(N.eraseN x y).Gd k m:=by
 have h1:=h.ops;have h2:=h.broken;refine⟨h.ok.erase x y,?_,?_,?_,?_⟩
 ·unfold eraseN;dsimp only;split
  ·omega
  ·(repeat' split)<;>(show N.ops+1+(k:Int)<_;omega)
 ·unfold eraseN;dsimp only;split
  ·omega
  ·(repeat' split)<;>(show N.broken+(k:Int)<_;omega)
 ·unfold eraseN;dsimp only
  (repeat' split)<;>first | exact h.nodup | exact h.nodup.filter _
 ·have h3:=h.few;unfold eraseN;dsimp only
  (repeat' split)<;>first | exact h3 | exact Nat.le_trans (List.length_filter_le _ _) h3
theorem xorAt_len (p:List UInt8) (n:Nat) (x:UInt8):(xorAt p n x).length=p.length:=by simp[xorAt]
theorem Ok.setCell (h:N.Ok) (x y z:Int) (f:NCell->NCell) (hf:∀c,(f c).p.length=c.p.length) (hi:x.toNat<N.dies) (hj:y.toNat<N.blocks):(N.setCell x y z f).Ok:=by
 have hc:=h.cells _ _ hi hj;refine h.setBlk _ _ _ (by simpa using hc.1) ?_ (h.num.2.2 _ _);intro c hm;obtain⟨i,hi',rfl⟩:=List.mem_iff_getElem.1 hm;simp only[List.length_modify]at hi';rw[List.getElem_modify];split
 ·rw[hf];exact hc.2 _ (List.getElem_mem _)
 ·exact hc.2 _ (List.getElem_mem _)
theorem Ok.fault (h:N.Ok) (kind x y z n xx:Int):(N.fault kind x y z n xx).2.Ok:=by
 unfold Nand.fault;split
 ·exact h
 ·rename_i h0;have hr:0<=x/\x<N.dies/\0<=y/\y<N.blocks:=by simp[x3]at h0;omega
  have hi:x.toNat<N.dies:=by omega
  have hj:y.toNat<N.blocks:=by omega
  have hc:=h.cells _ _ hi hj;split
  ·exact h.plan _
  ·split
   ·exact h.setBlk _ _ _ hc.1 hc.2 (h.num.2.2 _ _)
   ·split
    ·exact h.setCell _ _ _ _ (λ_=>rfl) hi hj
    ·split
     ·exact⟨h.geo,by show(N.dead.set _ _).length=_;rw[List.length_set];exact h.dead,h.cells,h.num,h.lft,h.lf2,h.kp⟩
     ·split
      ·split
       ·exact h
       ·split
        ·exact h
        ·split
         ·exact h
         ·split
          ·exact h
          ·exact h.setCell _ _ _ _ (λc=>xorAt_len _ _ _) hi hj
      ·exact h
theorem Gd.fault (h:N.Gd k m) (kind x y z n xx:Int):(N.fault kind x y z n xx).2.Gd k (m+1):=by
 refine⟨h.ok.fault ..,?_,?_,?_,?_⟩
 ·unfold Nand.fault
  (repeat' split)<;>exact h.ops
 ·unfold Nand.fault
  (repeat' split)<;>exact h.broken
 ·unfold Nand.fault;have h1:∀a,(addP N.plan a).Nodup:=λa=>by
   unfold addP;split
   ·exact h.nodup
   ·rename_i hn;rw[List.nodup_append];exact⟨h.nodup,by simp,λb hb c hc=>by simp at hc;subst hc;rintro rfl;exact hn hb⟩
  (repeat' split)<;>first | exact h.nodup | exact h1 _
 ·unfold Nand.fault;have h3:=h.few;have h1:∀a,(addP N.plan a).length<=m+1:=λa=>by
   unfold addP;split
   ·omega
   ·simp;omega
  (repeat' split)<;>first | exact h1 _ | exact Nat.le_succ_of_le h3
theorem Gd.fault0 (h:N.Gd k m) (kind x y z n xx:Int) (hk:kind≠1):(N.fault kind x y z n xx).2.Gd k m:=by
 have h1:=h.fault kind x y z n xx;refine⟨h1.ok,h1.ops,h1.broken,h1.nodup,?_⟩;unfold Nand.fault;rw[if_neg hk]
 (repeat' split)<;>exact h.few
theorem Gd.cut (h:N.Gd k m) (x kk:Int) (h1: -9223372036854775808<=x) (h2:x<=9223372036854775807):(N.setCut x kk).Gd k m:=by
 unfold setCut;split
 ·exact h
 ·exact⟨⟨h.ok.geo,h.ok.dead,h.ok.cells,h.ok.num,λhc=>by simp at hc;exact⟨hc,h2⟩,⟨h1,h2⟩,by show 0<=min (max kk 0) 32/\min (max kk 0) 32<=32;omega⟩,h.ops,h.broken,h.nodup,h.few⟩
theorem Gd.on (h:N.Gd k m):N.onN.Gd k m:=⟨⟨h.ok.geo,h.ok.dead,h.ok.cells,h.ok.num,λhc=>(by cases hc),h.ok.lf2,h.ok.kp⟩,h.ops,h.broken,h.nodup,h.few⟩
theorem Gd.new (d b p:Nat) (h:m7 d b p=true) (k:Nat) (hk:k<=1000000):(Nand.new d b p).Gd k 0:=
 ⟨⟨h,by simp[Nand.new],λi j _ _=>by simp[Nand.new],⟨by simp[Nand.new],by simp[Nand.new],λi j=>by simp[Nand.new]⟩,λhc=>(by cases hc),by simp[Nand.new],by simp[Nand.new]⟩,by simp[Nand.new];omega,by simp[Nand.new];omega,by simp[Nand.new],by simp[Nand.new]⟩
structure Like (N N':Nand):Prop where
 dies:N'.dies=N.dies
 blocks:N'.blocks=N.blocks
 pages:N'.pages=N.pages
theorem Like.refl (N:Nand):Like N N:=⟨rfl,rfl,rfl⟩
theorem Like.trans {A B C:Nand} (h:Like A B) (h':Like B C):Like A C:=⟨h'.dies.trans h.dies,h'.blocks.trans h.blocks,h'.pages.trans h.pages⟩
theorem like_prog (N:Nand) (x y z:Int) (pg:List UInt8):Like N (N.progN x y z pg):=by
 unfold progN;(repeat' split)<;>exact⟨rfl,rfl,rfl⟩
theorem like_erase (N:Nand) (x y:Int):Like N (N.eraseN x y):=by
 unfold eraseN;dsimp only;(repeat' split)<;>exact⟨rfl,rfl,rfl⟩
theorem like_fault (N:Nand) (kind x y z n xx:Int):Like N (N.fault kind x y z n xx).2:=by
 unfold fault;(repeat' split)<;>exact⟨rfl,rfl,rfl⟩
theorem like_cut (N:Nand) (x kk:Int):Like N (N.setCut x kk):=by
 unfold setCut;(repeat' split)<;>exact⟨rfl,rfl,rfl⟩
end Nand
end Go.Proofs.YtpohajhbfllbbaaGreat
namespace Go.Proofs.YtpohajhbfllbbaaGreat
open Go Go.RowKit
theorem a4f (b r m:Int) (l:List En):(R.job b r m l).length=l.length+1:=by simp[R.job]
theorem b0v (b r m:Int) (l:List En) (k:Nat) (h:k<l.length):(R.job b r m l)[k]? =some (G.die m b r (k:Nat),W.sh b r m (l.getD k En.zero)):=by
 rw[R.job,List.getElem?_append_left (by simpa using h)];simp[h]
theorem a5t (b r m:Int) (l:List En):(R.job b r m l)[l.length]? =some (G.parity m b r,W.parS b r m l):=by
 rw[R.job,List.getElem?_append_right (by simp)];simp
theorem b0t {b r m:Int} {l:List En} {k:Nat} {x:Int×Sh} (h:(R.job b r m l)[k]? =some x):(R.job b r m l).drop k=x::(R.job b r m l).drop (k+1):=by
 obtain⟨h1,h2⟩:=List.getElem?_eq_some_iff.1 h;rw[List.drop_eq_getElem_cons h1,h2]
theorem a0V (p:Nat) (N:Nand) (A:Atom) (b r m:Int) (a:Option Addr) (n cap mm:Nat) (l:List En) (hA:Rd A a 19 n (c9 l)) (hl:l.length=n) (hd:∀s∈l,s.data.length=16) (hG:N.Gd 8 mm):
  FP 161 [pp p,iI b,iI r,iI m, .slice a n cap] [d8 p N,A]
  (λv As=>v= .tuple #[iI (R.write N b r m l).2.1,iI (R.write N b r m l).2.2]/\As=[d8 p (R.write N b r m l).1,A]):=by
 have hsb:=B3 m;refine FE [2,0,0,0,0] Tryz.func161 λX F hX=>?_;refine J.qp (a4G b r m A a n cap l hA hl hd) [2] λ_=>?_;refine J.q λbb=>?_;refine J.cond rfl (λh0=>?_) (λh0=>?_)
 ·simp only[Bool.not_eq_true']at h0;refine J.qr [1,2] λ_=>?_;simp only[R.write,h0];exact⟨rfl,rfl⟩
 simp only[Bool.not_eq_false']at h0;have hw:R.write N b r m l=R.go b r (R.job b r m l) N 0:=by rw[R.write,if_pos h0]
 have hB:=h0;simp only[W.parB,Bool.and_eq_true,decide_eq_true_eq,List.all_eq_true]at hB;have hn:n<=7:=by have:=hB.1.1;omega
 refine J.q λb5=>?_;refine J.l (α:=(Nat×Nand×Int)) (λz=>z.1<=n+1/\z.2.1.Gd (n+1-z.1) mm/\R.go b r ((R.job b r m l).drop z.1) z.2.1 z.2.2=R.write N b r m l) (λz=>[si 33 z.1,⟨32,iI ((n:Int)+1),0, .tt⟩,si 14 z.2.2,⟨12,pp (bb 0),4, .tt⟩,⟨0,pp p,2, .tt⟩,si 1 b,si 2 r,si 3 m,sv 4 (.slice a n cap)]) [1] (λz=>[d8 p z.2.1]) (λz=>n+1-z.1) ((0,N,0)) (⟨Nat.zero_le _,hG.less (by dsimp only;omega) (Nat.le_refl _),hw.symm⟩) λz hI=>?_;obtain⟨k,Nk,f⟩:=z;dsimp only at hI ⊢;obtain⟨hI1,hI2,hI3⟩:=hI;refine J.qd (λ_ h1=>?_) λ_ h1=>?_
 ·simp only[decide_eq_true_eq]at h1;have h1:k<n+1:=by omega
  refine J.p (.take true 0 (.take true 1 (.take true 2 (.take false 4 (.alt false 3 ((.of [22,24,31])) (.alt false 5 ((.of [14,24,31])) .non)))))) [7] [3] λ_=>?_;refine J.join (α:=Nat) (λx=>[si 16 (G.parity m b r),⟨17,pp x,5, .tt⟩,si 15 k,si 33 k,⟨32,iI ((n:Int)+1),0, .tt⟩,si 14 f,⟨12,pp (bb 0),4, .tt⟩,⟨0,pp p,2, .tt⟩,si 1 b,si 2 r,si 3 m,sv 4 (.slice a n cap)]) (λx=>[.hp F,d8 p Nk,A, .pt (bb 0) 219 (shL (W.par b r m l)), .pt x 219 (shL (W.par b r m l))]) (λhj=>?_) (λx=>?_)
  ·skip
   refine J.qn 4 λ_=>?_;refine J.alts ?_ ?_
   ·skip
    refine J.qp (E6 m b r) [] λ_=>?_;refine J.qn 1 λb5=>?_;refine J.qn 3 λ_=>?_;exact J.goto [0,1,2,3,4] (hj (b5 0)) ⟨rfl,rfl,rfl,rfl,rfl,rfl,rfl,rfl,rfl,rfl,rfl,rfl,trivial⟩ rfl rfl
   ·skip
    refine J.qn 1 λb5=>?_;refine J.qp (E6 m b r) [] λ_=>?_;refine J.qn 3 λ_=>?_;exact J.goto [0,1,2,3,4] (hj (b5 0)) ⟨rfl,rfl,rfl,rfl,rfl,rfl,rfl,rfl,rfl,rfl,rfl,rfl,trivial⟩ rfl rfl
  obtain⟨⟨d,s⟩,hjob⟩:∃x,(R.job b r m l)[k]? =some x:=⟨_,List.getElem?_eq_getElem (by rw[a4f];omega)⟩;have hsl:s.data.length=16:=by
   by_cases hk:k<l.length
   ·rw[b0v b r m l k hk]at hjob;injection hjob with hjob;injection hjob with _ hjob;rw[<- hjob];refine hd _ ?_;rw[List.getD_eq_getElem?_getD,List.getElem?_eq_getElem hk];exact List.getElem_mem _
   ·rw[show k=l.length by omega,a5t]at hjob;injection hjob with hjob;injection hjob with _ hjob;rw[<- hjob];exact T3 (λt ht=>by obtain⟨e,he,rfl⟩:=List.mem_map.1 ht;exact hd e he) _ rfl
  refine J.q λ_=>?_;refine J.join (α:=Unit) (λ_=>[si 16 d,⟨17,pp x,5, .tt⟩,si 33 k,⟨32,iI ((n:Int)+1),0, .tt⟩,si 14 f,⟨12,pp (bb 0),4, .tt⟩,⟨0,pp p,2, .tt⟩,si 1 b,si 2 r,si 3 m,sv 4 (.slice a n cap)]) (λ_=>[.hp F,d8 p Nk,A, .pt (bb 0) 219 (shL (W.par b r m l)), .pt x 219 (shL s)]) (λhj=>?_) (λ_=>?_)
  ·refine J.qd (λ_ h2=>?_) λ_ h2=>?_
   ·simp only[decide_eq_true_eq,Int.ofNat_lt]at h2;have hkl:k<l.length:=by omega
    rw[b0v b r m l k hkl]at hjob;simp only[Option.some.injEq,Prod.mk.injEq]at hjob;obtain⟨hd1,hs1⟩:=hjob;have hget:l[k]? =some (l.getD k En.zero):=by rw[List.getD_eq_getElem?_getD,List.getElem?_eq_getElem hkl,Option.getD_some]
    have hel:(l.getD k En.zero).data.length=16:=hd _ (List.mem_of_getElem? hget);have hok:W.ok b r m (l.getD k En.zero)=true:=hB.2 _ (List.mem_of_getElem? hget);refine J.qp (a7f m b r k (by omega) (by omega)) [] λ_=>?_;refine J.know (p:=∃g o,a=some ⟨g,o,none⟩) (λh' s=>Rd.addr (hA _ (s.get (i:=2) rfl)) (by omega)) λhk=>?_;obtain⟨g,o,rfl⟩:=hk;refine J.q λ_=>?_;refine J.v (enV (l.getD k En.zero)) rfl rfl (λhg a w he hw=>?_) ?_
    ·exact O2 tk rfl rfl he rfl rfl rfl (hA _ (hw.get (i:=2) rfl)) (by omega) (j:=k*19) (by omega) (by have:=y9 l [] k _ hget;rwa [List.append_nil]at this) rfl
    refine J.qp (a4H b r m (l.getD k En.zero) hel) [] λ_=>?_;rw[show W.own b r m (l.getD k En.zero)=s from by rw[W.own,if_pos hok,hs1],hd1];refine J.qn 5 λ_=>?_;exact J.goto [0,1,2,3,4] (hj ()) ⟨rfl,rfl,rfl,rfl,rfl,rfl,rfl,rfl,rfl,rfl,rfl,trivial⟩ rfl rfl
   ·simp only[decide_eq_false_iff_not,Int.ofNat_lt]at h2;have hkl:k=l.length:=by omega
    rw[hkl,a5t]at hjob;simp only[Option.some.injEq,Prod.mk.injEq]at hjob;obtain⟨hd1,hs1⟩:=hjob;rw[hd1,show W.par b r m l=s from by rw[W.par,if_pos h0,hs1]]at*;refine J.qn 1 λ_=>?_;exact J.goto [0,1,2,3,4] (hj ()) ⟨rfl,rfl,rfl,rfl,rfl,rfl,rfl,rfl,rfl,rfl,rfl,trivial⟩ rfl rfl
  have hj2:=b0t hjob;rw[hj2]at hI3;rw[R.go]at hI3;have hG0:Nk.Gd (n-k+1) mm:=hI2.less (by omega) (Nat.le_refl _);have hG1:(Nk.progN d b r (H6 s)).Gd (n+1-(k+1)) mm:=(hG0.prog d b r _ (R5 s hsl)).less (by omega) (Nat.le_refl _);refine J.qp (b0K s hsl) [] λ_=>?_;refine J.qp (U5 p Nk hI2.ok hI2.room d b r (H6 s) (R5 s hsl)) [1] λ_=>?_;refine J.qd (λ_ h3=>?_) λ_ h3=>?_
  ·simp only[beq_iff_eq]at h3;rw[if_pos h3]at hI3;refine J.q λ_=>?_;refine J.n ((k+1,Nk.progN d b r (H6 s),f)) (⟨by dsimp only;omega,hG1,hI3⟩) (by dsimp only;omega) [0,1,2,3]
  ·simp only[beq_eq_false_iff_ne,ne_eq]at h3;rw[if_neg h3]at hI3;refine J.qd (λ_ h4=>?_) λ_ h4=>?_
   ·simp only[beq_iff_eq]at h4;rw[if_pos h4]at hI3;refine J.qr [1,2] λ_=>?_;rw[<- hI3];exact⟨rfl,rfl⟩
   ·simp only[beq_eq_false_iff_ne,ne_eq]at h4;rw[if_neg h4]at hI3;refine J.qp (a4e f d) [] λ_=>?_;refine J.q λ_=>?_;refine J.n ((k+1,Nk.progN d b r (H6 s),L.with_ f d)) (⟨by dsimp only;omega,hG1,hI3⟩) (by dsimp only;omega) [0,1,2,3]
 ·simp only[decide_eq_false_iff_not]at h1;have:k=n+1:=by omega
  subst this;rw[List.drop_of_length_le (by rw[a4f];omega),R.go]at hI3;refine J.qd (λ_ h5=>?_) λ_ h5=>?_
  ·simp only[bne_iff_ne,ne_eq]at h5;rw[if_neg h5]at hI3;refine J.qr [1,2] λ_=>?_;rw[<- hI3];exact⟨rfl,rfl⟩
  ·simp only[bne_eq_false_iff_eq]at h5;rw[if_pos h5]at hI3;refine J.qr [1,2] λ_=>?_;rw[<- hI3,h5];exact⟨rfl,rfl⟩
end Go.Proofs.YtpohajhbfllbbaaGreat
