/- Helpers, proved here. No condition. -/
import Derived.Test.YtkdlnfdjjifedaaGreatD05
import Derived.Test.YtkdlnfdjjifedaaGreatD06
import Derived.Test.YtkdlnfdjjifedaaGreatD08
import Derived.Test.YtkdlnfdjjifedaaGreatD12
import Derived.Test.YtkdlnfdjjifedaaGreatD13
set_option maxRecDepth 20000
set_option linter.all false
namespace Go.Proofs.YtkdlnfdjjifedaaGreat
open Go Go.RowKit
def kI (k:Int):Value:= .int .i64 k
theorem keyI:KeyOk Tryz.prog 3 kI where
 now:=⟨_,Tryz.underlying3,λa b=> .inr rfl⟩
 eq:=λa b w=>by kernel_rfl
 check:=λe a w=>by kernel_rfl
 bits:=λa=>by simp[kI,Instr.sameBits]
theorem umapAt:Tryz.prog.underlying 218=some (.map 3 139):=by kernel_rfl
theorem umapC:Tryz.prog.underlying 219=some (.map 3 3):=by kernel_rfl
def atL (a:AtV):List Value:=[.int .i64 a.block, .int .i64 a.row, .int .i64 a.slot, .int .i64 a.mask, .int .i64 a.seq, .int .i64 a.role]
def atV (a:AtV):Value:= .agg (atL a).toArray
def atM (l:List (Int×AtV)):List (Int×Value):=l.map λx=>(x.1,atV x.2)
def cnM (l:List (Int×Int)):List (Int×Value):=l.map λx=>(x.1, .int .i64 x.2)
def plL (b r s:Int):List Value:=[.int .i64 b, .int .i64 r, .int .i64 s]
def plV (b r s:Int):Value:= .agg (plL b r s).toArray
theorem alook_map {α:Type} (f:α->Value) (k:Int):∀l:List (Int×α),alook (l.map λx=>(x.1,f x.2)) k=(Tb.look l k).map f
 | []=>rfl
 | x::l=>by
  simp only[List.map_cons,alook,Tb.look];split
  ·rfl
  ·exact alook_map f k l
theorem aput_map {α:Type} (f:α->Value) (k:Int) (v:α):∀l:List (Int×α),aput (l.map λx=>(x.1,f x.2)) k (f v)=(Tb.put1 l k v).map λx=>(x.1,f x.2)
 | []=>rfl
 | x::l=>by
  simp only[List.map_cons,aput,Tb.put1];split
  ·rfl
  ·rw[aput_map f k v l];rfl
theorem alook_at (l:List (Int×AtV)) (k:Int):alook (atM l) k=(Tb.look l k).map atV:=alook_map atV k l
theorem alook_cn (l:List (Int×Int)) (k:Int):alook (cnM l) k=(Tb.look l k).map (Value.int .i64):=alook_map (Value.int .i64) k l
theorem aput_at (l:List (Int×AtV)) (k:Int) (v:AtV):aput (atM l) k (atV v)=atM (Tb.put1 l k v):=aput_map atV k v l
theorem aput_cn (l:List (Int×Int)) (k v:Int):aput (cnM l) k (Value.int .i64 v)=cnM (Tb.put1 l k v):=aput_map (Value.int .i64) k v l
theorem look_getD (o:Option AtV):(o.map atV).getD (atV AtV.zero)=atV (o.getD AtV.zero):=by cases o<;>rfl
theorem lookc_getD (o:Option Int):(o.map (Value.int .i64)).getD (Value.int .i64 0)=Value.int .i64 (o.getD 0):=by cases o<;>rfl
theorem opt_some {α β:Type} (o:Option α) (f:α->β):(o.map f).isSome=o.isSome:=by cases o<;>rfl
def TbP (q:Nat) (t:Tb) (x:Nat×Nat):List Atom:=[.pt q 221 [.int .i64 t.logical, .map (some x.1), .map (some x.2), .int .i64 t.next],mapA x.1 kI (atM t.at_),mapA x.2 kI (cnM t.cnt)]
def TbA (q:Nat) (t:Tb):Atom:=exA λx:Nat×Nat=>TbP q t x
theorem tb_mm (n:Int):(if(65536:Int)<if(0:Int)>n then 0 else n then 65536 else if(0:Int)>n then 0 else n)=min (max n 0) 65536:=by
 by_cases h:(0:Int)>n
 ·simp only[if_pos h];rw[if_neg (by omega)];omega
 ·simp only[if_neg h];split<;>omega
theorem tb_New (n:Int):Fn Tryz.prog 108 [.int .i64 n] [] (λv As=>∃q,v= .pointer (some ⟨q,0,none⟩)/\As=[TbA q (Tb.new n)]):=by
 refine Fn.enter [0] Tryz.func108 rfl rfl rfl λX F hX=>?_;refine J.q hX λbs=>?_;rw[tb_mm];refine J.turn1 [1] rfl (As:=[mapA (bs 0) kI (atM [])]) (λh s=>?_) rfl ?_
 ·refine⟨λ_=>0,λi A hA=>?_⟩;cases i with
  | zero=>simp at hA;subst hA;exact⟨#[],0,res_some.2 ⟨rfl,s.get (i:=0) rfl⟩,rfl,by simp,by simp⟩
  | succ k=>simp at hA
 refine J.turn1 [2] rfl (As:=[mapA (bs (0+1)) kI (cnM [])]) (λh s=>?_) rfl ?_
 ·refine⟨λ_=>0,λi A hA=>?_⟩;cases i with
  | zero=>simp at hA;subst hA;exact⟨#[],0,res_some.2 ⟨rfl,s.get (i:=0) rfl⟩,rfl,by simp,by simp⟩
  | succ k=>simp at hA
 refine J.close (f:=λx:Nat×Nat=>TbP (bs (0+1+1)) (Tb.new n) x) (bs 0,bs (0+1)) [3,1,2] rfl rfl rfl ?_;refine J.q hX λ_=>?_;refine J.ru hX [3] ?_;exact⟨bs (0+1+1),rfl,rfl⟩
theorem tb_Get (q:Nat) (t:Tb) (k:Int):Fn Tryz.prog 87 [.pointer (some ⟨q,0,none⟩), .int .i64 k] [TbA q t]
  (λv As=>v= .tuple #[atV ((Tb.look t.at_ k).getD AtV.zero), .bool (Tb.look t.at_ k).isSome]/\As=[TbA q t]):=by
 refine Fn.enter [2,0] Tryz.func87 rfl rfl rfl λX F hX=>?_;refine J.open_ (α:=(Nat×Nat)) 1 rfl rfl (λ_=>rfl) λx=>?_;refine J.q hX λ_=>?_;refine J.cF ?_;refine J.q hX λ_=>?_;refine J.val hX (.tuple #[atV ((Tb.look t.at_ k).getD AtV.zero), .bool (Tb.look t.at_ k).isSome]) 0 rfl rfl (λhg a w he hs=>?_) rfl trivial ?_
 ·refine(lookup_run (key:=k) keyI umapAt (z:=atV AtV.zero) (λw=>by kernel_rfl) rfl rfl rfl rfl he rfl rfl (hs.get (i:=2) rfl)).trans ?_;simp only[alook_at,look_getD,opt_some]
 refine J.close (f:=λx:Nat×Nat=>TbP q t x) x [1,2,3] rfl rfl rfl ?_;refine J.q hX λ_=>?_;exact J.ru hX [1] ⟨rfl,rfl⟩
theorem tb_Len (q:Nat) (t:Tb):Fn Tryz.prog 249 [.pointer (some ⟨q,0,none⟩)] [TbA q t]
  (λv As=>v= .int .i64 t.at_.length/\As=[TbA q t]):=by
 refine Fn.enter [2] Tryz.func249 rfl rfl rfl λX F hX=>?_;refine J.open_ (α:=(Nat×Nat)) 1 rfl rfl (λ_=>rfl) λx=>?_;refine J.q hX λ_=>?_;refine J.cF ?_;refine J.q hX λ_=>?_;refine J.val hX (.int .i64 t.at_.length) 0 rfl rfl (λhg a w he hs=>?_) rfl trivial ?_
 ·refine(len_map_run umapAt rfl rfl he rfl (hs.get (i:=2) rfl)).trans ?_;rw[atM,List.length_map]
 refine J.close (f:=λx:Nat×Nat=>TbP q t x) x [1,2,3] rfl rfl rfl ?_;refine J.q hX λ_=>?_;exact J.ru hX [1] ⟨rfl,rfl⟩
theorem tb_Next (q:Nat) (t:Tb):Fn Tryz.prog 284 [.pointer (some ⟨q,0,none⟩)] [TbA q t]
  (λv As=>v= .int .i64 t.next/\As=[TbA q t]):=by
 refine Fn.enter [2] Tryz.func284 rfl rfl rfl λX F hX=>?_;refine J.open_ (α:=(Nat×Nat)) 1 rfl rfl (λ_=>rfl) λx=>?_;refine J.q hX λ_=>?_;refine J.cF ?_;refine J.q hX λ_=>?_;refine J.close (f:=λx:Nat×Nat=>TbP q t x) x [1,2,3] rfl rfl rfl ?_;refine J.q hX λ_=>?_;exact J.ru hX [1] ⟨rfl,rfl⟩
theorem tb_Count (q:Nat) (t:Tb) (k:Int):Fn Tryz.prog 130 [.pointer (some ⟨q,0,none⟩), .int .i64 k] [TbA q t]
  (λv As=>v= .int .i64 (t.count k)/\As=[TbA q t]):=by
 refine Fn.enter [2,0] Tryz.func130 rfl rfl rfl λX F hX=>?_;refine J.open_ (α:=(Nat×Nat)) 1 rfl rfl (λ_=>rfl) λx=>?_;refine J.q hX λ_=>?_;refine J.cF ?_;refine J.q hX λ_=>?_;refine J.val hX (.int .i64 (t.count k)) 0 rfl rfl (λhg a w he hs=>?_) rfl trivial ?_
 ·refine(lookup_run (key:=k) keyI umapC (z:= .int .i64 0) (λw=>by kernel_rfl) rfl rfl rfl rfl he rfl rfl (hs.get (i:=3) rfl)).trans ?_;simp only[alook_cn,lookc_getD];rfl
 refine J.close (f:=λx:Nat×Nat=>TbP q t x) x [1,2,3] rfl rfl rfl ?_;refine J.q hX λ_=>?_;exact J.ru hX [1] ⟨rfl,rfl⟩
theorem tb_Put (q:Nat) (t:Tb) (e:En) (b r s m:Int) (hs: -9223372036854775808<=e.seq/\e.seq<9223372036854775807) (hc:∀k,0<=Tb.count t k/\Tb.count t k<=1000000):Fn Tryz.prog 111 [.pointer (some ⟨q,0,none⟩),enV e,plV b r s, .int .i64 m] [TbA q t]
  (λv As=>v= .bool (Tb.putB t e)/\As=[TbA q (Tb.put t e b r s m)]):=by
 refine Fn.enter [2,0,0,0] Tryz.func111 rfl rfl rfl λX F hX=>?_;refine J.open_ (α:=(Nat×Nat)) 1 rfl rfl (λ_=>rfl) λx=>?_;refine J.q hX λ_=>?_;refine J.plan (.of [0,4,8,12,17,20,24,28,32,37,40,44,48,53,56,60,64,68,73,76,80,84,89,92,96,100,104,109,112,116,120]) [] [1,2,3,4,5] (by rw[hX.hP];kernel_rfl) (by kernel_rfl) ?_;refine J.qn hX 1 λ_=>?_;refine J.run hX tk 400 (λb16=>rfl) (λb16=>?_) (λb16=>?_)
 ·(repeat' (first | exact Conj.nil | refine Conj.cons ?_ ?_ | exact rfl | exact hq | (rw[hq];rfl) | (rw[(Bool.not_eq_true' _).mp hq]) | intro hq | omega | (simp;done) | (simp_all;done)))
 refine J.q hX λ_=>?_;refine J.cond rfl (λh1=>?_) (λh1=>?_)
 ·refine J.close (f:=λx:Nat×Nat=>TbP q t x) x [1,2,3] rfl rfl rfl ?_;refine J.q hX λ_=>?_;refine J.ru hX [1] ?_;have ho:Tb.ok t e=false:=by unfold Tb.ok;rw[Bool.not_eq_false'];exact h1
  have hp:Tb.putB t e=false:=by unfold Tb.putB;rw[ho];rfl
  exact⟨by rw[hp],by rw[Tb.put,if_neg (by rw[hp];simp)];rfl⟩
 have ho:Tb.ok t e=true:=by unfold Tb.ok;rw[Bool.not_eq_true'];exact h1
 refine J.q hX λ_=>?_;refine J.plan (.of [0,4,8,13,16,21,25,28,32,36,42,46,48]) [12] [1,2,3,4,5] (by rw[hX.hP];kernel_rfl) (by kernel_rfl) ?_;refine J.q hX λ_=>?_;refine J.valT hX (.tuple #[atV ((Tb.look t.at_ e.lpn).getD AtV.zero), .bool (Tb.look t.at_ e.lpn).isSome]) 0 rfl rfl (λ_ a w he hC=>?_) rfl ?_
 ·refine(lookup_run (key:=e.lpn) keyI umapAt (z:=atV AtV.zero) (λw=>by kernel_rfl) rfl rfl rfl rfl he rfl rfl (hC rfl _ (cget_mem (i:=2) rfl))).trans ?_;simp only[alook_at,look_getD,opt_some]
 rcases hlk:Tb.look t.at_ e.lpn with _ | a
 ·have hel:Tb.elder t e=false:=by simp[Tb.elder,hlk]
  have hp:Tb.putB t e=true:=by rw[Tb.putB,ho,hel];rfl
  have hc1:Tb.cnt1 t e=t.cnt:=by simp[Tb.cnt1,hlk]
  refine J.q hX λbw=>?_;refine J.cF ?_;refine J.q hX λ_=>?_;refine J.cF ?_;refine J.q hX λ_=>?_;refine J.plan (.of [0,4,8,13,16,21,25,28,35]) [8] [1,2,3,4,5,6] (by rw[hX.hP];kernel_rfl) (by kernel_rfl) ?_;refine J.q hX λ_=>?_;refine J.valT hX (.int .i64 ((Tb.look (t.cnt) b).getD 0)) 0 rfl rfl (λ_ a w he hC=>?_) rfl ?_
  ·refine(lookup_run (key:=b) keyI umapC (z:= .int .i64 0) (λw=>by kernel_rfl) rfl rfl rfl rfl he rfl rfl (hC rfl _ (cget_mem (i:=3) rfl))).trans ?_;simp only[alook_cn,lookc_getD]
  have hb2: -1<=(Tb.look (t.cnt) b).getD 0/\(Tb.look (t.cnt) b).getD 0<=1000000:=⟨by have:=hc b;unfold Tb.count at this;omega,(hc b).2⟩;refine J.q hX λ_=>?_;refine J.mapUpdate hX keyI umapC b 3 rfl rfl rfl rfl rfl rfl rfl rfl rfl rfl rfl rfl (λ_=>rfl) (by rw[aput_cn];rfl) ⟨trivial,?_⟩;refine J.q hX λ_=>?_;refine J.plan (.of [0,4,8,13,16,21,25,28,32,37,40,45,48,55]) [13] [1,2,3,4,5,6] (by rw[hX.hP];kernel_rfl) (by kernel_rfl) ?_;refine J.q hX λ_=>?_;refine J.mapUpdate hX keyI umapAt e.lpn 2 rfl rfl rfl rfl rfl rfl rfl rfl rfl rfl rfl rfl (λ_=>rfl) (show _=some (_::_::mapA _ _ (aput _ _ (atV ⟨b,r,s,m,e.seq,e.role⟩))::_)from rfl) ⟨trivial,?_⟩;rw[aput_at];refine J.q hX λ_=>?_;refine J.plan (.of [0,5,8,12,16,21,24]) [] [1,2,3,4,5,6] (by rw[hX.hP];kernel_rfl) (by kernel_rfl) ?_;refine J.q hX λ_=>?_;have hput:Tb.put t e b r s m=⟨t.logical,Tb.put1 t.at_ e.lpn ⟨b,r,s,m,e.seq,e.role⟩,Tb.put1 (t.cnt) b ((Tb.look (t.cnt) b).getD 0+1),if e.seq>=t.next then e.seq+1 else t.next⟩:=by
   rw[Tb.put,if_pos hp,Tb.cnt2,hc1]
  refine J.q hX λ_=>?_;refine J.cond rfl (λh5=>?_) (λh5=>?_)
  ·refine J.q hX λ_=>?_;refine J.close (f:=λx:Nat×Nat=>TbP q ⟨t.logical,Tb.put1 t.at_ e.lpn ⟨b,r,s,m,e.seq,e.role⟩,Tb.put1 (t.cnt) b ((Tb.look (t.cnt) b).getD 0+1),e.seq+1⟩ x) x [1,2,3] rfl rfl rfl ?_;refine J.q hX λ_=>?_;refine J.ru hX [1] ?_;exact⟨by rw[hp],by rw[hput,if_pos (by simpa only[decide_eq_true_eq,decide_eq_false_iff_not]using h5)];rfl⟩
  ·refine J.close (f:=λx:Nat×Nat=>TbP q ⟨t.logical,Tb.put1 t.at_ e.lpn ⟨b,r,s,m,e.seq,e.role⟩,Tb.put1 (t.cnt) b ((Tb.look (t.cnt) b).getD 0+1),t.next⟩ x) x [1,2,3] rfl rfl rfl ?_;refine J.q hX λ_=>?_;refine J.ru hX [1] ?_;exact⟨by rw[hp],by rw[hput,if_neg (by simpa only[decide_eq_true_eq,decide_eq_false_iff_not]using h5)];rfl⟩
 ·refine J.q hX λbw=>?_;refine J.cond rfl (λh2=>?_) (λh2=>?_)
  ·refine J.close (f:=λx:Nat×Nat=>TbP q t x) x [1,2,3] rfl rfl rfl ?_;refine J.q hX λ_=>?_;refine J.ru hX [1] ?_;have hel:Tb.elder t e=true:=by rw[Tb.elder,hlk];exact h2
   have hp:Tb.putB t e=false:=by rw[Tb.putB,ho,hel];rfl
   exact⟨by rw[hp],by rw[Tb.put,if_neg (by rw[hp];simp)];rfl⟩
  have hel:Tb.elder t e=false:=by rw[Tb.elder,hlk];exact h2
  have hp:Tb.putB t e=true:=by rw[Tb.putB,ho,hel];rfl
  have hc1:Tb.cnt1 t e=Tb.put1 t.cnt a.block (t.count a.block-1):=by simp[Tb.cnt1,hlk]
  have hb1:=hc a.block;refine J.q hX λ_=>?_;refine J.cT ?_;refine J.q hX λ_=>?_;refine J.plan (.of [0,4,8,13,16,20,25,29,32,39]) [9] [1,2,3,4,5,6] (by rw[hX.hP];kernel_rfl) (by kernel_rfl) ?_;refine J.q hX λ_=>?_;refine J.valT hX (.int .i64 (t.count a.block)) 0 rfl rfl (λ_ a' w he hC=>?_) rfl ?_
  ·refine(lookup_run (key:=a.block) keyI umapC (z:= .int .i64 0) (λw=>by kernel_rfl) rfl rfl rfl rfl he rfl rfl (hC rfl _ (cget_mem (i:=3) rfl))).trans ?_;simp only[alook_cn,lookc_getD];rfl
  refine J.q hX λ_=>?_;refine J.mapUpdate hX keyI umapC a.block 3 rfl rfl rfl rfl rfl rfl rfl rfl rfl rfl rfl rfl (λ_=>rfl) (by rw[aput_cn];rfl) ⟨trivial,?_⟩;refine J.q hX λ_=>?_;refine J.plan (.of [0,4,8,13,16,21,25,28,35]) [8] [1,2,3,4,5,6] (by rw[hX.hP];kernel_rfl) (by kernel_rfl) ?_;refine J.q hX λ_=>?_;refine J.valT hX (.int .i64 ((Tb.look (Tb.put1 t.cnt a.block (t.count a.block-1)) b).getD 0)) 0 rfl rfl (λ_ a w he hC=>?_) rfl ?_
  ·refine(lookup_run (key:=b) keyI umapC (z:= .int .i64 0) (λw=>by kernel_rfl) rfl rfl rfl rfl he rfl rfl (hC rfl _ (cget_mem (i:=3) rfl))).trans ?_;simp only[alook_cn,lookc_getD]
  have hb2 : -1 ≤ (Tb.look (Tb.put1 t.cnt a.block (t.count a.block - 1)) b).getD 0 ∧ (Tb.look (Tb.put1 t.cnt a.block (t.count a.block - 1)) b).getD 0 ≤ 1000000 := by
     rw[Tb.look_put1];split
     ·show-1<=t.count a.block-1/\t.count a.block-1<=1000000;omega
     ·have:=hc b;unfold Tb.count at this;omega
  refine J.q hX λ_=>?_;refine J.mapUpdate hX keyI umapC b 3 rfl rfl rfl rfl rfl rfl rfl rfl rfl rfl rfl rfl (λ_=>rfl) (by rw[aput_cn];rfl) ⟨trivial,?_⟩;refine J.q hX λ_=>?_;refine J.plan (.of [0,4,8,13,16,21,25,28,32,37,40,45,48,55]) [13] [1,2,3,4,5,6] (by rw[hX.hP];kernel_rfl) (by kernel_rfl) ?_;refine J.q hX λ_=>?_;refine J.mapUpdate hX keyI umapAt e.lpn 2 rfl rfl rfl rfl rfl rfl rfl rfl rfl rfl rfl rfl (λ_=>rfl) (show _=some (_::_::mapA _ _ (aput _ _ (atV ⟨b,r,s,m,e.seq,e.role⟩))::_)from rfl) ⟨trivial,?_⟩;rw[aput_at];refine J.q hX λ_=>?_;refine J.plan (.of [0,5,8,12,16,21,24]) [] [1,2,3,4,5,6] (by rw[hX.hP];kernel_rfl) (by kernel_rfl) ?_;refine J.q hX λ_=>?_;have hput:Tb.put t e b r s m=⟨t.logical,Tb.put1 t.at_ e.lpn ⟨b,r,s,m,e.seq,e.role⟩,Tb.put1 (Tb.put1 t.cnt a.block (t.count a.block-1)) b ((Tb.look (Tb.put1 t.cnt a.block (t.count a.block-1)) b).getD 0+1),if e.seq>=t.next then e.seq+1 else t.next⟩:=by
   rw[Tb.put,if_pos hp,Tb.cnt2,hc1]
  refine J.q hX λ_=>?_;refine J.cond rfl (λh5=>?_) (λh5=>?_)
  ·refine J.q hX λ_=>?_;refine J.close (f:=λx:Nat×Nat=>TbP q ⟨t.logical,Tb.put1 t.at_ e.lpn ⟨b,r,s,m,e.seq,e.role⟩,Tb.put1 (Tb.put1 t.cnt a.block (t.count a.block-1)) b ((Tb.look (Tb.put1 t.cnt a.block (t.count a.block-1)) b).getD 0+1),e.seq+1⟩ x) x [1,2,3] rfl rfl rfl ?_;refine J.q hX λ_=>?_;refine J.ru hX [1] ?_;exact⟨by rw[hp],by rw[hput,if_pos (by simpa only[decide_eq_true_eq,decide_eq_false_iff_not]using h5)];rfl⟩
  ·refine J.close (f:=λx:Nat×Nat=>TbP q ⟨t.logical,Tb.put1 t.at_ e.lpn ⟨b,r,s,m,e.seq,e.role⟩,Tb.put1 (Tb.put1 t.cnt a.block (t.count a.block-1)) b ((Tb.look (Tb.put1 t.cnt a.block (t.count a.block-1)) b).getD 0+1),t.next⟩ x) x [1,2,3] rfl rfl rfl ?_;refine J.q hX λ_=>?_;refine J.ru hX [1] ?_;exact⟨by rw[hp],by rw[hput,if_neg (by simpa only[decide_eq_true_eq,decide_eq_false_iff_not]using h5)];rfl⟩
theorem tb_In (q:Nat) (t:Tb) (n:Nat) (hlog:t.logical=(n:Int)) (hn:n<=65536) (b:Int):Fn Tryz.prog 191 [.pointer (some ⟨q,0,none⟩), .int .i64 b] [TbA q t]
  (λv As=>∃a c,v=slv a (t.ins b).length c/\As=[TbA q t,ownA 3 1 a (t.ins b).length c (cellsI (t.ins b))]):=by
 refine Fn.enter [2,0] Tryz.func191 rfl rfl rfl λX F hX=>?_;refine J.q hX λ_=>?_;refine J.cb hX (tb_Count q t b) [1] ?_;refine cpq ⟨_,rfl,trivial,?_⟩;refine J.turn1 [] rfl (As:=[ownA 3 1 none 0 0 (cellsI [])]) (λh s=>Sep.one ⟨rfl,rfl,rfl⟩) rfl ?_;refine J.q hX λ_=>?_;refine J.cond rfl (λh1=>?_) (λh1=>?_)
 ·simp only[beq_iff_eq]at h1;refine J.q hX λ_=>?_;refine J.ru hX [1,2] ?_;have:t.ins b=[]:=by unfold Tb.ins;rw[if_pos h1]
  rw[this];exact⟨none,0,rfl,rfl⟩
 simp only[beq_eq_false_iff_ne,ne_eq]at h1;have hins:t.ins b=t.inK b n:=by unfold Tb.ins;rw[if_neg h1,hlog];rfl
 refine J.open_ (α:=(Nat×Nat)) 1 rfl rfl (λ_=>rfl) λx=>?_;refine J.q hX λ_=>?_;refine J.lo (α:=(Nat×Option Nat×Nat)) (λz=>z.1<=n) (λz=>[⟨17, .int .i64 z.1,0, .tt⟩,⟨16, .int .i64 t.logical,0, .tt⟩,⟨5,slv z.2.1 (t.inK b z.1).length z.2.2,0, .tt⟩,⟨0, .pointer (some ⟨q,0,none⟩),2, .tt⟩,⟨1, .int .i64 b,0, .tt⟩]) [2] (λz=>[ownA 3 1 z.2.1 (t.inK b z.1).length z.2.2 (cellsI (t.inK b z.1))]) (λz=>n-z.1) ((0,none,0)) (Nat.zero_le _) rfl ?_ (λ_=>rfl) λz hI=>?_
 ·rfl
 obtain⟨k,a1,c1⟩:=z;dsimp only at hI ⊢;refine J.q hX λ_=>?_;refine J.cond rfl (λh2=>?_) (λh2=>?_)
 ·simp only[decide_eq_true_eq]at h2;have hkl:=t.inK_len b k;refine J.q hX λ_=>?_;refine J.val hX (.tuple #[atV ((Tb.look t.at_ k).getD AtV.zero), .bool (Tb.look t.at_ k).isSome]) 0 rfl rfl (λhg a w he hs=>?_) rfl trivial ?_
  ·refine(lookup_run (key:=(k:Int)) keyI umapAt (z:=atV AtV.zero) (λw=>by kernel_rfl) rfl rfl rfl rfl he rfl rfl (hs.get (i:=3) rfl)).trans ?_;simp only[alook_at,look_getD,opt_some]
  have hin:((Tb.look t.at_ k).isSome&&(((Tb.look t.at_ k).getD AtV.zero).block==b))=t.inB b k:=by
   unfold Tb.inB;cases Tb.look t.at_ k<;>rfl
  refine J.q hX λ_=>?_;refine J.cond rfl (λh3=>?_) (λh3=>?_)
  ·have hs:t.inK b (k+1)=t.inK b k++[(k:Int)]:=by rw[Tb.inK_succ,if_pos (hin.symm.trans h3)]
   refine J.q hX λ_=>?_;refine J.append hX tk 2 6 0 rfl rfl rfl rfl rfl rfl rfl rfl rfl rfl rfl rfl rfl rfl rfl rfl ?_ ?_ (λ_=>rfl) λa3 c3=>⟨_,(congrArg (λz=>lset _ 2 (ownA _ _ _ _ _ z)) (cellsI_snoc _ (k:Int)).symm).trans rfl,trivial,?_⟩
   ·simp only[maxLen];omega
   ·omega
   rw[<- hs,show(t.inK b k).length+1=(t.inK b (k+1)).length from by rw[hs];simp];refine J.q hX λ_=>?_;refine J.nS ((k+1,a3,c3)) (by dsimp only;omega) (by dsimp only;omega) [0,1,2,3,4] rfl rfl
  ·have hs:t.inK b (k+1)=t.inK b k:=by rw[Tb.inK_succ,if_neg (by rw[<- hin,h3];simp)]
   rw[<- hs];refine J.q hX λ_=>?_;refine J.nS ((k+1,a1,c1)) (by dsimp only;omega) (by dsimp only;omega) [0,1,2,3,4] rfl rfl
 ·simp only[decide_eq_false_iff_not]at h2;obtain rfl:k=n:=by omega
  refine J.q hX λ_=>?_;refine J.close (f:=λx:Nat×Nat=>TbP q t x) x [1,3,4] rfl rfl rfl ?_;refine J.q hX λ_=>?_;refine J.ru hX [1,2] ?_;rw[hins];exact⟨a1,c1,rfl,rfl⟩
theorem madeCells_flat (z:Array Value) (n:Nat):(madeCells z (n*z.size)).toList=(List.replicate n z.toList).flatten:=by
 have e0:∀k,(madeCells z k).toList=(List.range k).map λi=>z[i % z.size]!:=λk=>by simp[madeCells]
 induction n with
 | zero=>rw[e0];simp
 | succ n ih=>
  rw[e0]at ih ⊢;rw[Nat.succ_mul,List.range_add,List.map_append,ih,List.replicate_succ',List.flatten_append,List.flatten_singleton];congr 1;apply List.ext_getElem?;intro i;rw[List.map_map,List.getElem?_map]
  by_cases h:i<z.size
  ·rw[List.getElem?_range h,Option.map_some];simp only[Function.comp,Nat.mul_comm n,Nat.mul_add_mod,Nat.mod_eq_of_lt h];rw[Array.getElem?_toList,Array.getElem?_eq_getElem h,getElem!_pos z i h]
  ·rw[List.getElem?_eq_none (by rw[List.length_range];omega),Option.map_none,List.getElem?_eq_none (by rw[Array.length_toList];omega)]
section
variable {X : Cx} {P : Program} {K : List KI} {E : Env} {L : List Atom} {N : Nat} {F : HP} {Post : Value → List Atom → Prop} {rs : List ResultVar}
theorem J.makeMany {T:Tab} (hX:IsCx X P rs N F Post) (hT:TabOK P T) {ops:Array Oper} {C:Cl} {lt:Bool} {i:Nat} {t:PT} {o:Oper} {g:G} {st e by_ size:Nat} {x y:Operand} {k1 k2 t1 t2 n s1 b1:Nat} {kl kc:IntKind} {g1 g2:G} {z1 z:List Value} {td:TD} {E':Value->Env} {L2:Nat->List Atom} (tag:Nat)
  (ho:lget ops.toList i=some o) (hg:gd ops.toList E o=some g) (hgo:g.on=true) (hop:o.op= .makeSlice st x y) (hx:ev E x=some ⟨k1, .int kl n,t1,g1⟩) (v1:g1.on=true) (hy:ev E y=some ⟨k2, .int kc n,t2,g2⟩) (v2:g2.on=true)
  (hst:T.get st=some ⟨.slice e size,s1,z1,b1⟩) (he:T.get e=some ⟨td,size,z,by_⟩) (hzs:Nat.beq z.length size=true) (h63:n<=maxLen) (hbytes:by_*n<=281474976710656)
  (hL2:∀b,lsnoc nums L (.pt b e (List.replicate n z).flatten)=some (L2 b,tag)) (hd:∀v,putE N o.dst v tag .tt E=some (E' v)) (hJ:∀b,Conj (staysL lt C (L2 b))/\J X (.reg ops C t::K) (E' (.slice (some ⟨b,0,none⟩) n n)) (L2 b)):J X (.reg ops C (.alt lt i t .non)::K) E L:=by
 refine J.op hX (S:=λv' L'=>∃b,v'= .slice (some ⟨b,0,none⟩) n n/\L'=L++[.pt b e (List.replicate n z).flatten]) tag ho hg hgo (λa0 w hen hs=>?_) hd (λv L' ⟨b,e1,e2⟩=>by subst e1;subst e2;rw[<- lsnoc_eq (hL2 b)];exact hJ b);have ex:=ev_spec hen hx;have ey:=ev_spec hen hy;simp only[Slot.val,v1,v2]at ex ey;obtain⟨d,f,zv,ok⟩:=tiOf_spec (hT.get hst);obtain⟨fe,rfl,g1',g2'⟩:=ok.slice rfl;obtain⟨d',f',zv',ok'⟩:=tiOf_spec (hT.get he);have hf:fe=f':=by have:=g1'.symm.trans ok'.hf;injection this
 subst hf;have hb2:(fe.bytes:Int)*(n:Int)<=281474976710656:=by
  rw[<- ok'.hbytes];have h:((by_*n:Nat):Int)<=281474976710656:=by omega
  rwa [Int.natCast_mul]at h
 have hr:=run_make (P:=P) w st e fe zv' ok.hd ok'.hf ok'.hz kl kc n n (by omega) (Int.le_refl _) hb2 (by simp[maxLen]at h63;omega);have hz:zv'.cells.toList=z:=ok'.hzero.symm;have hs1:fe.size=size:=ok'.hsize.symm;have hzl:zv'.cells.size=size:=by rw[<- Array.length_toList,hz];exact Nat.eq_of_beq_eq_true hzs
 simp only[Int.toNat_natCast,hs1]at hr;rw[<- hzl]at hr;refine⟨_,_, .value (.slice (some ⟨w.heap.size,0,none⟩) n n),w.alloc (.cells (madeCells zv'.cells (n*zv'.cells.size)) e),⟨w.heap.size,rfl,rfl⟩,?_, .inl rfl,?_,⟨rfl,rfl,rfl,by show w.heap.size<=(w.heap.push _).size;simp⟩⟩
 ·simp only[execOp,hop,ex,ey,hr,Sem.run_bind,Result.andThen_ok,Sem.run_pure]
 ·have e1:Obj.cells (madeCells zv'.cells (n*zv'.cells.size)) e (0,0)=Obj.cells (List.replicate n z).flatten.toArray e (0,0):=by
   congr 1;apply Array.toList_inj.1;rw[madeCells_flat,hz]
  show Sep _ (hl {w with heap:=w.heap.push (Obj.cells (madeCells zv'.cells (n*zv'.cells.size)) e (0,0))});rw[e1,hl_push];exact hs.snoc (hl_none w) (λh' hh=>hh)
end
structure Sb where
 wear:Int
 bad:Int
 used:Bool
 held:Bool
def Sb.zero:Sb:=⟨0,0,false,false⟩
def sbL (s:Sb):List Value:=[.int .i64 s.wear, .int .i64 s.bad, .bool s.used, .bool s.held]
structure Tl where
 d:Nat
 b:Nat
 p:Nat
 l:List Sb
 dead:Int
namespace Tl
def new (d b p:Nat):Tl:=⟨d,b,p,List.replicate b Sb.zero,0⟩
def has (t:Tl) (k:Int):Bool:=decide (0<=k)&&decide (k<t.b)
def at_ (t:Tl) (k:Int):Sb:=t.l.getD k.toNat Sb.zero
def adr (t:Tl) (g:Nat) (k:Int):Option Addr:=if t.has k=true then some ⟨g,k.toNat*4,none⟩else none
def set (t:Tl) (k:Int) (s:Sb):Tl:=if t.has k=true then⟨t.d,t.b,t.p,t.l.set k.toNat s,t.dead⟩else t
def wear (t:Tl) (k:Int):Int:=if t.has k=true then(t.at_ k).wear else 0
def hasDie (t:Tl) (d:Int):Bool:=decide (0<=d)&&decide (d<t.d)
end Tl
def TlP (q:Nat) (t:Tl) (g:Nat):List Atom:=[.pt q 199 [.int .i64 t.d, .int .i64 t.b, .int .i64 t.p, .slice (some ⟨g,0,none⟩) t.b t.b, .int .i64 t.dead], .pt g 210 (t.l.flatMap sbL)]
def TlA (q:Nat) (t:Tl):Atom:=exA λg:Nat=>TlP q t g
theorem flat_cell {α:Type} (f:α->List Value) (w:Nat) (hw:∀x,(f x).length=w):∀{l:List α} {k:Nat} {x:α},l[k]? =some x->∀j,j<w->(l.flatMap f)[k*w+j]? =(f x)[j]?
 | [],k,x,h,j,hj=>by simp at h
 | y::l,0,x,h,j,hj=>by
  simp only[List.getElem?_cons_zero,Option.some.injEq]at h;subst h;rw[Nat.zero_mul,Nat.zero_add,List.flatMap_cons,List.getElem?_append_left (by rw[hw];exact hj)]
 | y::l,k+1,x,h,j,hj=>by
  rw[List.flatMap_cons,List.getElem?_append_right (by rw[hw,Nat.succ_mul];omega),hw,show(k+1)*w+j-w=k*w+j by rw[Nat.succ_mul];omega];exact flat_cell f w hw (by simpa using h) j hj
theorem flat_setc {α:Type} (f:α->List Value) (w:Nat) (hw:∀x,(f x).length=w) (j:Nat) (v:Value):∀{l:List α} {k:Nat} {x y:α},l[k]? =some x->j<w->(f x).set j v=f y->(l.flatMap f).set (k*w+j) v=(l.set k y).flatMap f
 | [],k,x,y,h,hj,e=>by simp at h
 | z::l,0,x,y,h,hj,e=>by
  simp only[List.getElem?_cons_zero,Option.some.injEq]at h;subst h;rw[Nat.zero_mul,Nat.zero_add,List.flatMap_cons,List.set_append_left _ _ (by rw[hw];exact hj),e];rfl
 | z::l,k+1,x,y,h,hj,e=>by
  rw[List.flatMap_cons,List.set_append_right _ _ (by rw[hw,Nat.succ_mul];omega),hw,show(k+1)*w+j-w=k*w+j by rw[Nat.succ_mul];omega,flat_setc f w hw j v (by simpa using h) hj e];rfl
theorem sbL_len (s:Sb):(sbL s).length=4:=rfl
namespace Tl
theorem get_at {t:Tl} (hl:t.l.length=t.b) {k:Int} (h:t.has k=true):t.l[k.toNat]? =some (t.at_ k):=by
 simp only[has,Bool.and_eq_true,decide_eq_true_eq]at h;rw[at_,List.getD_eq_getElem?_getD,List.getElem?_eq_getElem (by omega),Option.getD_some]
theorem cell_at {t:Tl} (hl:t.l.length=t.b) {k:Int} (h:t.has k=true) (j:Nat) (hj:j<4):(t.l.flatMap sbL)[k.toNat*4+j]? =(sbL (t.at_ k))[j]?:=flat_cell sbL 4 sbL_len (get_at hl h) j hj
theorem set_at {t:Tl} (hl:t.l.length=t.b) {k:Int} (h:t.has k=true) (j:Nat) (hj:j<4) (v:Value) (s:Sb) (e:(sbL (t.at_ k)).set j v=sbL s):(t.l.flatMap sbL).set (k.toNat*4+j) v=((t.set k s).l.flatMap sbL):=by
 rw[set,if_pos h];exact flat_setc sbL 4 sbL_len j v (get_at hl h) hj e
end Tl
namespace Tl
theorem len_l (t:Tl):(t.l.flatMap sbL).length=t.l.length*4:=by
 induction t.l with
 | nil=>rfl
 | cons x l ih=>rw[List.flatMap_cons,List.length_append,ih,sbL_len,List.length_cons];omega
theorem set_d (t:Tl) (k:Int) (s:Sb):(t.set k s).d=t.d:=by unfold set;split<;>rfl
theorem set_b (t:Tl) (k:Int) (s:Sb):(t.set k s).b=t.b:=by unfold set;split<;>rfl
theorem set_p (t:Tl) (k:Int) (s:Sb):(t.set k s).p=t.p:=by unfold set;split<;>rfl
theorem set_dead (t:Tl) (k:Int) (s:Sb):(t.set k s).dead=t.dead:=by unfold set;split<;>rfl
def wore (t:Tl) (k n:Int):Tl:=t.set k {t.at_ k with wear:=if n>(t.at_ k).wear then n else(t.at_ k).wear}
def bad (t:Tl) (d k:Int):Tl:=if t.hasDie d=true then t.set k {t.at_ k with bad:=L.with_ (t.at_ k).bad d}else t
def andN (a b:Int):Int:=IntKind.i64.wrap ((BitVec.ofInt IntKind.i64.bits a&&& ~~~BitVec.ofInt IntKind.i64.bits b).toNat:Int)
def alive (t:Tl):Int:=andN (L.all t.d) t.dead
def mask (t:Tl) (k:Int):Int:=if t.has k=true then andN t.alive (t.at_ k).bad else 0
def usable (t:Tl) (k:Int):Bool:=decide (G.slots (t.mask k)>0)
def blank (t:Tl) (k:Int):Bool:=t.has k&& !(t.at_ k).used
def held (t:Tl) (k:Int):Bool:=t.has k&&(t.at_ k).held
end Tl
theorem tl_New (d b p:Nat) (hg:geoMay d b p=true):Fn Tryz.prog 116 [.agg #[.int .i64 d, .int .i64 b, .int .i64 p]] [] (λv As=>∃q,v= .pointer (some ⟨q,0,none⟩)/\As=[TlA q (Tl.new d b p)]):=by
 have hbd:(3<=d/\d<=6)/\(8<=b/\b<=16)/\(2<=p/\p<=8):=by simp[geoMay]at hg;omega
 refine Fn.enter [0] Tryz.func116 rfl rfl rfl λX F hX=>?_;refine J.q hX λ_=>?_;refine J.cb hX (f_May d b p) [] ?_;refine cpq ⟨_,rfl,trivial,?_⟩;rw[hg];refine J.q hX λ_=>?_;refine J.cF ?_;refine J.q hX λ_=>?_;refine J.plan (.of [1,4,9,14,16,23,24]) [4,5,6] [1] (by rw[hX.hP];kernel_rfl) (by kernel_rfl) ?_;refine J.q hX λ_=>?_;refine J.makeMany hX tk 3 rfl rfl rfl rfl rfl rfl rfl rfl rfl rfl rfl ?_ ?_ (λ_=>rfl) (λ_=>rfl) λdd=>⟨⟨rfl,trivial⟩,?_⟩
 ·simp only[maxLen];omega
 ·omega
 refine J.q hX λnn=>?_;rw[show(List.replicate b [Value.int .i64 0,Value.int .i64 0,Value.bool false,Value.bool false]).flatten=(Tl.new d b p).l.flatMap sbL from by rw[Tl.new,List.flatMap_def,List.map_replicate];rfl];refine J.close (f:=λg:Nat=>TlP (nn 0) (Tl.new d b p) g) dd [3,2] rfl rfl rfl ?_;refine J.q hX λ_=>?_;refine J.ru hX [3] ?_;exact⟨nn 0,rfl,rfl⟩
theorem tl_NewZ:Fn Tryz.prog 116 [.agg #[.int .i64 0, .int .i64 0, .int .i64 0]] [] (λv As=>v= .pointer none/\As=[]):=by
 refine Fn.enter [0] Tryz.func116 rfl rfl rfl λX F hX=>?_;refine J.q hX λ_=>?_;refine J.cb hX (f_May 0 0 0) [] ?_;refine cpq ⟨_,rfl,trivial,?_⟩;rw[show geoMay 0 0 0=false from by decide];refine J.q hX λ_=>?_;refine J.cT ?_;refine J.q hX λ_=>?_;exact J.ru hX [] ⟨rfl,rfl⟩
theorem tl_at (q:Nat) (t:Tl) (hb:t.b<=1000) (g:Nat) (k:Int):Fn Tryz.prog 123 [.pointer (some ⟨q,0,none⟩), .int .i64 k] (TlP q t g) (λv As=>v= .pointer (t.adr g k)/\As=TlP q t g):=by
 refine Fn.enter [2,0] Tryz.func123 rfl rfl rfl λX F hX=>?_;refine J.run hX tk 400 (λb9=>rfl) (λb9=>?_) (λb9=>?_)
 ·(repeat' (first | exact Conj.nil | refine Conj.cons ?_ ?_ | exact rfl | exact hq | (rw[hq];rfl) | (rw[(Bool.not_eq_true' _).mp hq]) | intro hq | omega | (simp;done) | (simp_all;done)))
 refine J.q hX λ_=>?_;refine J.cond rfl (λh1=>?_) (λh1=>?_)
 ·have hh:t.has k=false:=by simp[Tl.has]at h1 ⊢;omega
  refine J.q hX λ_=>?_;refine J.ru hX [1,2] ?_;exact⟨by rw[Tl.adr,hh];rfl,rfl⟩
 ·have hh:t.has k=true:=by simp[Tl.has]at h1 ⊢;omega
  have hh2:=hh;simp only[Tl.has,Bool.and_eq_true,decide_eq_true_eq]at hh2;refine J.q hX λ_=>?_;refine J.ru hX [1,2] ?_;exact⟨by rw[Tl.adr,hh,if_pos rfl];simp,rfl⟩
theorem tl_Wear (q:Nat) (t:Tl) (hb:t.b<=1000) (hl:t.l.length=t.b) (k:Int):Fn Tryz.prog 189 [.pointer (some ⟨q,0,none⟩), .int .i64 k] [TlA q t] (λv As=>v= .int .i64 (t.wear k)/\As=[TlA q t]):=by
 refine Fn.enter [2,0] Tryz.func189 rfl rfl rfl λX F hX=>?_;refine J.open_ (α:=Nat) 1 rfl rfl (λ_=>rfl) λg=>?_;refine J.q hX λ_=>?_;refine J.cb hX (tl_at q t hb g k) [1,2] ?_;refine cpq ⟨_,rfl,trivial,?_⟩;cases hh:t.has k with
 | false=>
  rw[Tl.adr,hh,if_neg (by simp)];refine J.q hX λ_=>?_;refine J.cF ?_;refine J.q hX λ_=>?_;refine J.close (f:=λg:Nat=>TlP q t g) g [1,2] rfl rfl rfl ?_;refine J.q hX λ_=>?_;refine J.ru hX [1] ?_;exact⟨by rw[Tl.wear,hh];rfl,rfl⟩
 | true=>
  rw[Tl.adr,hh,if_pos rfl];refine J.q hX λ_=>?_;refine J.cT ?_;refine J.q hX λ_=>?_;refine J.val hX (.int .i64 (t.at_ k).wear) 0 rfl rfl (λhg a w he hs=>?_) rfl trivial ?_
  ·exact load1_run tk rfl rfl he rfl rfl rfl (hs.get (i:=2) rfl) (t.cell_at hl hh 0 (by omega))
  refine J.close (f:=λg:Nat=>TlP q t g) g [1,2] rfl rfl rfl ?_;refine J.q hX λ_=>?_;refine J.ru hX [1] ?_;exact⟨by rw[Tl.wear,hh];rfl,rfl⟩
theorem tl_Wore (q:Nat) (t:Tl) (hb:t.b<=1000) (hl:t.l.length=t.b) (k n:Int):Fn Tryz.prog 117 [.pointer (some ⟨q,0,none⟩), .int .i64 k, .int .i64 n] [TlA q t] (λv As=>v= .tuple #[]/\As=[TlA q (t.wore k n)]):=by
 refine Fn.enter [2,0,0] Tryz.func117 rfl rfl rfl λX F hX=>?_;refine J.open_ (α:=Nat) 1 rfl rfl (λ_=>rfl) λg=>?_;refine J.q hX λ_=>?_;refine J.cb hX (tl_at q t hb g k) [1,2] ?_;refine cpq ⟨_,rfl,trivial,?_⟩;cases hh:t.has k with
 | false=>
  rw[Tl.adr,hh,if_neg (by simp)];refine J.q hX λ_=>?_;refine J.cF ?_;refine J.q hX λ_=>?_;refine J.close (f:=λg:Nat=>TlP q t g) g [1,2] rfl rfl rfl ?_;refine J.q hX λ_=>?_;refine J.fi hX tk [1] rfl rfl rfl ?_;exact⟨rfl,by rw[Tl.wore,Tl.set,hh];rfl⟩
 | true=>
  rw[Tl.adr,hh,if_pos rfl];refine J.q hX λ_=>?_;refine J.cT ?_;refine J.q hX λ_=>?_;refine J.val hX (.int .i64 (t.at_ k).wear) 0 rfl rfl (λhg a w he hs=>?_) rfl trivial ?_
  ·exact load1_run tk rfl rfl he rfl rfl rfl (hs.get (i:=2) rfl) (t.cell_at hl hh 0 (by omega))
  refine J.q hX λ_=>?_;refine J.store1 hX tk 2 rfl rfl rfl rfl rfl rfl rfl rfl rfl rfl rfl rfl rfl ?_ ((t.wore k n).l.flatMap sbL) ?_ rfl (λ_=>rfl) ⟨trivial,?_⟩
  ·rw[t.len_l,hl];simp only[Tl.has,Bool.and_eq_true,decide_eq_true_eq]at hh;omega
  ·exact t.set_at hl hh 0 (by omega) _ _ rfl
  refine J.close (f:=λg:Nat=>TlP q (t.wore k n) g) g [1,2] rfl (by simp only[TlP,Tl.wore,Tl.set_d,Tl.set_b,Tl.set_p,Tl.set_dead];rfl) rfl ?_;refine J.q hX λ_=>?_;refine J.fi hX tk [1] rfl rfl rfl ?_;exact⟨rfl,rfl⟩
theorem tl_die (q:Nat) (t:Tl) (g:Nat) (k:Int):Fn Tryz.prog 144 [.pointer (some ⟨q,0,none⟩), .int .i64 k] (TlP q t g) (λv As=>v= .bool (t.hasDie k)/\As=TlP q t g):=by
 refine Fn.enter [2,0] Tryz.func144 rfl rfl rfl λX F hX=>?_;refine J.run hX tk 400 (λb30=>rfl) (λb30=>?_) (λb30=>?_)
 ·(repeat' (first | exact Conj.nil | refine Conj.cons ?_ ?_ | exact rfl | exact hq | (rw[hq];rfl) | (rw[(Bool.not_eq_true' _).mp hq]) | intro hq | omega | (simp;done) | (simp_all;done)))
 refine J.q hX λ_=>?_;refine J.ru hX [1,2] ?_;exact⟨by simp[Tl.hasDie],rfl⟩
theorem tl_Bad (q:Nat) (t:Tl) (hb:t.b<=1000) (hl:t.l.length=t.b) (d k:Int):Fn Tryz.prog 183 [.pointer (some ⟨q,0,none⟩), .int .i64 d, .int .i64 k] [TlA q t] (λv As=>v= .tuple #[]/\As=[TlA q (t.bad d k)]):=by
 refine Fn.enter [2,0,0] Tryz.func183 rfl rfl rfl λX F hX=>?_;refine J.open_ (α:=Nat) 1 rfl rfl (λ_=>rfl) λg=>?_;refine J.q hX λ_=>?_;refine J.cb hX (tl_at q t hb g k) [1,2] ?_;refine cpq ⟨_,rfl,trivial,?_⟩;cases hh:t.has k with
 | false=>
  rw[Tl.adr,hh,if_neg (by simp)];refine J.q hX λ_=>?_;refine J.val hX (.bool false) 0 rfl rfl (λhg a w he hs=>absurd hg (by simp[G.on])) rfl trivial ?_;refine J.q hX λ_=>?_;refine J.cF ?_;refine J.q hX λ_=>?_;refine J.close (f:=λg:Nat=>TlP q t g) g [1,2] rfl rfl rfl ?_;refine J.q hX λ_=>?_;refine J.fi hX tk [1] rfl rfl rfl ?_;exact⟨rfl,by rw[Tl.bad,Tl.set,hh];simp;rfl⟩
 | true=>
  rw[Tl.adr,hh,if_pos rfl];refine J.q hX λ_=>?_;refine J.cb hX (tl_die q t g d) [1,2] ?_;refine cpq ⟨_,rfl,trivial,?_⟩;refine J.q hX λ_=>?_;refine J.cond rfl (λh2=>?_) (λh2=>?_)
  ·simp only[Bool.not_false,Bool.true_and]at h2;refine J.q hX λ_=>?_;refine J.val hX (.int .i64 (t.at_ k).bad) 0 rfl rfl (λhg a w he hs=>?_) rfl trivial ?_
   ·exact load1_run tk rfl rfl he rfl rfl rfl (hs.get (i:=2) rfl) (t.cell_at hl hh 1 (by omega))
   refine J.q hX λ_=>?_;refine J.cb hX (l_With (t.at_ k).bad d) [] ?_;refine cpq ⟨_,rfl,trivial,?_⟩;refine J.q hX λ_=>?_;have he:t.bad d k=t.set k {t.at_ k with bad:=L.with_ (t.at_ k).bad d}:=by rw[Tl.bad,h2];rfl
   refine J.store1 hX tk 2 rfl rfl rfl rfl rfl rfl rfl rfl rfl rfl rfl rfl rfl ?_ ((t.bad d k).l.flatMap sbL) ?_ rfl (λ_=>rfl) ⟨trivial,?_⟩
   ·rw[t.len_l,hl];simp only[Tl.has,Bool.and_eq_true,decide_eq_true_eq]at hh;omega
   ·rw[he];exact t.set_at hl hh 1 (by omega) _ _ rfl
   refine J.close (f:=λg:Nat=>TlP q (t.bad d k) g) g [1,2] rfl (by simp only[he,TlP,Tl.set_d,Tl.set_b,Tl.set_p,Tl.set_dead];rfl) rfl ?_;refine J.q hX λ_=>?_;refine J.fi hX tk [1] rfl rfl rfl ?_;exact⟨rfl,rfl⟩
  ·simp only[Bool.not_false,Bool.true_and]at h2;refine J.close (f:=λg:Nat=>TlP q t g) g [1,2] rfl rfl rfl ?_;refine J.q hX λ_=>?_;refine J.fi hX tk [1] rfl rfl rfl ?_;exact⟨rfl,by rw[Tl.bad,h2];rfl⟩
theorem tl_AliveP (q:Nat) (t:Tl) (g:Nat):Fn Tryz.prog 171 [.pointer (some ⟨q,0,none⟩)] (TlP q t g) (λv As=>v= .int .i64 t.alive/\As=TlP q t g):=by
 refine Fn.enter [2] Tryz.func171 rfl rfl rfl λX F hX=>?_;refine J.q hX λ_=>?_;refine J.cF ?_;refine J.q hX λ_=>?_;refine J.plan (.of [0,4,8,12,17,24,28,32,37,22,40,44]) [11] [1,2] (by rw[hX.hP];kernel_rfl) (by kernel_rfl) ?_;refine J.q hX λ_=>?_;refine J.cb hX (l_All t.d) [] ?_;refine cpq ⟨_,rfl,⟨rfl,rfl,trivial⟩,?_⟩;refine J.q hX λ_=>?_;exact J.ru hX [1,2] ⟨rfl,rfl⟩
theorem tl_Blank (q:Nat) (t:Tl) (hb:t.b<=1000) (hl:t.l.length=t.b) (k:Int):Fn Tryz.prog 180 [.pointer (some ⟨q,0,none⟩), .int .i64 k] [TlA q t] (λv As=>v= .bool (t.blank k)/\As=[TlA q t]):=by
 refine Fn.enter [2,0] Tryz.func180 rfl rfl rfl λX F hX=>?_;refine J.open_ (α:=Nat) 1 rfl rfl (λ_=>rfl) λg=>?_;refine J.q hX λ_=>?_;refine J.cb hX (tl_at q t hb g k) [1,2] ?_;refine cpq ⟨_,rfl,trivial,?_⟩;cases hh:t.has k with
 | false=>
  rw[Tl.adr,hh,if_neg (by simp)];refine J.q hX λ_=>?_;refine J.val hX (.pointer (some ⟨g,0,none⟩)) 0 rfl rfl (λhg a w he hs=>absurd hg (by simp[G.on])) rfl trivial ?_;refine J.q hX λ_=>?_;refine J.val hX (.bool false) 0 rfl rfl (λhg a w he hs=>absurd hg (by simp[G.on])) rfl trivial ?_;refine J.q hX λ_=>?_;refine J.close (f:=λg:Nat=>TlP q t g) g [1,2] rfl rfl rfl ?_;refine J.q hX λ_=>?_;refine J.ru hX [1] ?_;exact⟨by rw[Tl.blank,hh];rfl,rfl⟩
 | true=>
  rw[Tl.adr,hh,if_pos rfl];refine J.q hX λ_=>?_;refine J.val hX (.bool (t.at_ k).used) 0 rfl rfl (λhg a w he hs=>?_) rfl trivial ?_
  ·exact load1_run tk rfl rfl he rfl rfl rfl (hs.get (i:=2) rfl) (t.cell_at hl hh 2 (by omega))
  refine J.q hX λ_=>?_;refine J.close (f:=λg:Nat=>TlP q t g) g [1,2] rfl rfl rfl ?_;refine J.q hX λ_=>?_;refine J.ru hX [1] ?_;exact⟨by rw[Tl.blank,hh];rfl,rfl⟩
theorem tl_Held (q:Nat) (t:Tl) (hb:t.b<=1000) (hl:t.l.length=t.b) (k:Int):Fn Tryz.prog 181 [.pointer (some ⟨q,0,none⟩), .int .i64 k] [TlA q t] (λv As=>v= .bool (t.held k)/\As=[TlA q t]):=by
 refine Fn.enter [2,0] Tryz.func181 rfl rfl rfl λX F hX=>?_;refine J.open_ (α:=Nat) 1 rfl rfl (λ_=>rfl) λg=>?_;refine J.q hX λ_=>?_;refine J.cb hX (tl_at q t hb g k) [1,2] ?_;refine cpq ⟨_,rfl,trivial,?_⟩;cases hh:t.has k with
 | false=>
  rw[Tl.adr,hh,if_neg (by simp)];refine J.q hX λ_=>?_;refine J.val hX (.pointer (some ⟨g,0,none⟩)) 0 rfl rfl (λhg a w he hs=>absurd hg (by simp[G.on])) rfl trivial ?_;refine J.q hX λ_=>?_;refine J.val hX (.bool false) 0 rfl rfl (λhg a w he hs=>absurd hg (by simp[G.on])) rfl trivial ?_;refine J.q hX λ_=>?_;refine J.close (f:=λg:Nat=>TlP q t g) g [1,2] rfl rfl rfl ?_;refine J.q hX λ_=>?_;refine J.ru hX [1] ?_;exact⟨by rw[Tl.held,hh];rfl,rfl⟩
 | true=>
  rw[Tl.adr,hh,if_pos rfl];refine J.q hX λ_=>?_;refine J.val hX (.bool (t.at_ k).held) 0 rfl rfl (λhg a w he hs=>?_) rfl trivial ?_
  ·exact load1_run tk rfl rfl he rfl rfl rfl (hs.get (i:=2) rfl) (t.cell_at hl hh 3 (by omega))
  refine J.q hX λ_=>?_;refine J.close (f:=λg:Nat=>TlP q t g) g [1,2] rfl rfl rfl ?_;refine J.q hX λ_=>?_;refine J.ru hX [1] ?_;exact⟨by rw[Tl.held,hh];rfl,rfl⟩
theorem tl_Alive (q:Nat) (t:Tl):Fn Tryz.prog 171 [.pointer (some ⟨q,0,none⟩)] [TlA q t] (λv As=>v= .int .i64 t.alive/\As=[TlA q t]):=by
 refine Fn.enter [2] Tryz.func171 rfl rfl rfl λX F hX=>?_;refine J.open_ (α:=Nat) 1 rfl rfl (λ_=>rfl) λg=>?_;refine J.q hX λ_=>?_;refine J.cF ?_;refine J.q hX λ_=>?_;refine J.plan (.of [0,4,8,12,17,24,28,32,37,22,40,44]) [11] [1,2] (by rw[hX.hP];kernel_rfl) (by kernel_rfl) ?_;refine J.q hX λ_=>?_;refine J.cb hX (l_All t.d) [] ?_;refine cpq ⟨_,rfl,⟨rfl,rfl,trivial⟩,?_⟩;refine J.q hX λ_=>?_;refine J.close (f:=λg:Nat=>TlP q t g) g [1,2] rfl rfl rfl ?_;refine J.q hX λ_=>?_;exact J.ru hX [1] ⟨rfl,rfl⟩
theorem tl_Geo (q:Nat) (t:Tl):Fn Tryz.prog 127 [.pointer (some ⟨q,0,none⟩)] [TlA q t] (λv As=>v= .agg #[.int .i64 t.d, .int .i64 t.b, .int .i64 t.p]/\As=[TlA q t]):=by
 refine Fn.enter [2] Tryz.func127 rfl rfl rfl λX F hX=>?_;refine J.open_ (α:=Nat) 1 rfl rfl (λ_=>rfl) λg=>?_;refine J.q hX λ_=>?_;refine J.cF ?_;refine J.q hX λ_=>?_;refine J.close (f:=λg:Nat=>TlP q t g) g [1,2] rfl rfl rfl ?_;refine J.q hX λ_=>?_;exact J.ru hX [1] ⟨rfl,rfl⟩
theorem tl_Mask (q:Nat) (t:Tl) (hb:t.b<=1000) (hl:t.l.length=t.b) (k:Int):Fn Tryz.prog 120 [.pointer (some ⟨q,0,none⟩), .int .i64 k] [TlA q t] (λv As=>v= .int .i64 (t.mask k)/\As=[TlA q t]):=by
 refine Fn.enter [2,0] Tryz.func120 rfl rfl rfl λX F hX=>?_;refine J.open_ (α:=Nat) 1 rfl rfl (λ_=>rfl) λg=>?_;refine J.q hX λ_=>?_;refine J.cb hX (tl_at q t hb g k) [1,2] ?_;refine cpq ⟨_,rfl,trivial,?_⟩;cases hh:t.has k with
 | false=>
  rw[Tl.adr,hh,if_neg (by simp)];refine J.q hX λ_=>?_;refine J.cT ?_;refine J.close (f:=λg:Nat=>TlP q t g) g [1,2] rfl rfl rfl ?_;refine J.q hX λ_=>?_;refine J.ru hX [1] ?_;exact⟨by rw[Tl.mask,hh];rfl,rfl⟩
 | true=>
  rw[Tl.adr,hh,if_pos rfl];refine J.q hX λ_=>?_;refine J.cF ?_;refine J.q hX λ_=>?_;refine J.plan (.of [0,8,12,16,21,6,24,28]) [6,7] [1,2] (by rw[hX.hP];kernel_rfl) (by kernel_rfl) ?_;refine J.q hX λ_=>?_;refine J.valT hX (.int .i64 (t.at_ k).bad) 0 rfl rfl (λhg a w he hC=>?_) rfl ?_
  ·exact load1_run tk rfl rfl he hg rfl rfl (hC rfl _ (cget_mem (i:=2) rfl)) (t.cell_at hl hh 1 (by omega))
  refine J.q hX λ_=>?_;refine J.cb hX (tl_AliveP q t g) [1,2] ?_;refine cpq ⟨_,rfl,⟨rfl,rfl,trivial⟩,?_⟩;refine J.q hX λ_=>?_;refine J.close (f:=λg:Nat=>TlP q t g) g [1,2] rfl rfl rfl ?_;refine J.q hX λ_=>?_;refine J.ru hX [1] ?_;exact⟨by rw[Tl.mask,hh];rfl,rfl⟩
theorem tl_Usable (q:Nat) (t:Tl) (hb:t.b<=1000) (hl:t.l.length=t.b) (k:Int):Fn Tryz.prog 179 [.pointer (some ⟨q,0,none⟩), .int .i64 k] [TlA q t] (λv As=>v= .bool (t.usable k)/\As=[TlA q t]):=by
 refine Fn.enter [2,0] Tryz.func179 rfl rfl rfl λX F hX=>?_;refine J.q hX λ_=>?_;refine J.cb hX (tl_Mask q t hb hl k) [1] ?_;refine cpq ⟨_,rfl,trivial,?_⟩;refine J.q hX λ_=>?_;refine J.cb hX (g_Slots (t.mask k)) [] ?_;refine cpq ⟨_,rfl,trivial,?_⟩;refine J.q hX λ_=>?_;exact J.ru hX [1] ⟨rfl,rfl⟩
end Go.Proofs.YtkdlnfdjjifedaaGreat
