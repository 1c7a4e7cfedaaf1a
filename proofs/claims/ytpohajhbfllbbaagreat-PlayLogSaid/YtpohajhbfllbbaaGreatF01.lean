/- Helpers. No condition. -/
import Derived.Test.YtpohajhbfllbbaaGreatRows
import Derived.WalkKit
import Derived.WalkSpells
import Derived.WalkLawsBesides
import Derived.BigQuiet
import Derived.Deep.QuietTactic
import Derived.Lib.Hide
import Derived.Maps.AppendAt
import Derived.Deep.AppendLies
import Derived.Deep.RegionHeld3
import Derived.Deep.RegionLaw
import Derived.Deep.MidRow
import Derived.StillTailTactics
import Derived.Deep.DrawnRows
import Derived.Deep.Draws
import Derived.Deep.DeepCutAuto
set_option maxRecDepth 20000
set_option linter.all false
namespace Go.Proofs.YtpohajhbfllbbaaGreat
namespace L
def set (m:Int):Bool:=decide (0<=m)&&decide (m<256)
def one (d:Int):Int:=if 0<=d/\d<8 then((2^d.toNat:Nat):Int)else 0
def has (m d:Int):Bool:=set m&&(decide (0<=d)&&decide (d<8))&&m.toNat.testBit d.toNat
def all (n:Int):Int:=if 0<=n/\n<=8 then((2^n.toNat-1:Nat):Int)else 0
def with_ (m d:Int):Int:=if set m then((m.toNat||| (one d).toNat:Nat):Int)else 0
def without (m d:Int):Int:=if set m then((m.toNat&&& (255-(one d).toNat):Nat):Int)else 0
def dies (m:Int):List Nat:=if set m then(List.range 8).filter (λd=>m.toNat.testBit d)else[]
def count (m:Int):Nat:=(dies m).length
def at_ (m i:Int):Int:=if 0<=i then(((dies m)[i.toNat]?).map (λ(d:Nat)=>(d:Int))).getD (-1)else-1
def below (m:Int) (k:Nat):Nat:=((List.range 8).filter (λd=>decide (d<k)&&L.has m d)).length
def spot (m d:Int):Int:=if has m d then(below m d.toNat:Int)else-1
theorem set_iff (m:Int):set m=true↔0<=m/\m<256:=by simp[set]
theorem below_dec:∀m,m<256->∀k,k<8->below (m:Nat) (k+1)=below (m:Nat) k+(if has (m:Nat) (k:Nat)then 1 else 0):=by decide+kernel
theorem at_dec:∀m,m<256->∀k,k<8->has (m:Nat) (k:Nat)=true->at_ (m:Nat) (below (m:Nat) k:Nat)=(k:Nat):=by decide+kernel
theorem count_dec:∀m,m<256->below (m:Nat) 8=count (m:Nat)/\below (m:Nat) 0=0/\count (m:Nat)<=8:=by decide+kernel
theorem has_no (m d:Int) (h:¬(0<=m/\m<256)):has m d=false:=by
 have:set m=false:=by rw[Bool.eq_false_iff,ne_eq,set_iff];exact h
 simp[has,this]
theorem below_succ (m:Int) (k:Nat) (hk:k<8):below m (k+1)=below m k+(if has m k then 1 else 0):=by
 by_cases h:0<=m/\m<256
 ·obtain⟨m,rfl⟩:=Int.eq_ofNat_of_zero_le h.1;exact below_dec m (by omega) k hk
 ·simp[below,has_no _ _ h]
theorem at_below (m:Int) (k:Nat) (hk:k<8) (hh:has m k=true):at_ m (below m k)=k:=by
 by_cases h:0<=m/\m<256
 ·obtain⟨m,rfl⟩:=Int.eq_ofNat_of_zero_le h.1;exact at_dec m (by omega) k hk hh
 ·rw[has_no _ _ h]at hh;cases hh
theorem count_no (m:Int) (h:¬(0<=m/\m<256)):count m=0:=by
 have:set m=false:=by rw[Bool.eq_false_iff,ne_eq,set_iff];exact h
 simp[count,dies,this]
theorem below_zero (m:Int):below m 0=0:=by simp[below]
theorem below_eight (m:Int):below m 8=count m:=by
 by_cases h:0<=m/\m<256
 ·obtain⟨m,rfl⟩:=Int.eq_ofNat_of_zero_le h.1;exact(count_dec m (by omega)).1
 ·rw[count_no m h];simp[below,has_no _ _ h]
theorem count_le (m:Int):count m<=8:=by
 by_cases h:0<=m/\m<256
 ·obtain⟨m,rfl⟩:=Int.eq_ofNat_of_zero_le h.1;exact(count_dec m (by omega)).2.2
 ·rw[count_no m h];omega
theorem at_ge (m i:Int) (h:i<0\/(count m:Int)<=i):at_ m i= -1:=by
 unfold at_;split
 ·rw[List.getElem?_eq_none (by unfold count at h;omega)];rfl
 ·rfl
theorem has_lt (m d:Int) (h:has m d=true):0<=d/\d<8/\0<=m/\m<256:=by
 simp[has,set]at h;omega
end L
namespace G
def parity (mask block row:Int):Int:=if L.count mask<2\/block<0\/row<0 then-1 else L.at_ mask ((block+row) % L.count mask)
def slots (mask:Int):Int:=if L.count mask<2 then 0 else(L.count mask:Int)-1
def die (mask block row slot:Int):Int:=if parity mask block row<0 then-1 else L.at_ (L.without mask (parity mask block row)) slot
def slot (mask block row die:Int):Int:=if parity mask block row<0 then-1 else L.spot (L.without mask (parity mask block row)) die
end G
namespace K
def round (s:Nat):Nat:=if s<2147483648 then s*2 else(s*2 % 4294967296) ^^^ 1947962583
def rounds:Nat->Nat->Nat
 | 0,s=>s
 | n+1,s=>round (rounds n s)
def step (s x:Nat):Nat:=rounds 8 (s ^^^ (x*16777216))
def sum (l:List UInt8):Nat:=l.foldl (λs x=>step s x.toNat) 4294967295
theorem round_lt (s:Nat) (h:s<4294967296):round s<4294967296:=by
 unfold round;split
 ·omega
 ·exact Nat.xor_lt_two_pow (n:=32) (by omega) (by omega)
theorem rounds_lt (n s:Nat) (h:s<4294967296):rounds n s<4294967296:=by
 induction n with
 | zero=>exact h
 | succ n ih=>exact round_lt _ ih
theorem step_lt (s x:Nat) (h:s<4294967296) (hx:x<256):step s x<4294967296:=
 rounds_lt 8 _ (Nat.xor_lt_two_pow (n:=32) (by omega) (by omega))
theorem foldl_lt (l:List UInt8):∀s:Nat,s<4294967296->l.foldl (λs x=>step s x.toNat) s<4294967296:=by
 induction l with
 | nil=>intro s h;exact h
 | cons x l ih=>
  intro s h;have hx:x.toNat<256:=x.toNat_lt;have:=step_lt s x.toNat h hx;rw[List.foldl_cons];exact ih _ this
theorem sum_lt (l:List UInt8):sum l<4294967296:=foldl_lt l _ (by omega)
theorem sum_snoc (b:List UInt8) (k:Nat) (x:UInt8) (hx:b[k]? =some x):sum (b.take (k+1))=step (sum (b.take k)) x.toNat:=by
 rw[List.take_add_one,hx];simp only[sum,List.foldl_append,Option.toList_some,List.foldl_cons,List.foldl_nil]
end K
end Go.Proofs.YtpohajhbfllbbaaGreat
namespace Go.Proofs.YtpohajhbfllbbaaGreat
open Go.RowKit

theorem a3R {k:IntKind} {a b:Int} (h:a=b):Ending.returned (.int k a)=Ending.returned (.int k b):=by rw[h]

def bv (b:UInt8):Value:= .int .u8 (b.toNat:Int)
def Blk (w:World) (g:Nat) (t:TypeId) (cs:Array Value):Prop:=w.heap[g]? =some (.cells cs t (0,0))
section
variable {w w' : World} {g : Nat} {t : TypeId} {cs : Array Value}
theorem Blk.lt (h:Blk w g t cs):g<w.heap.size:=by
 rcases Nat.lt_or_ge g w.heap.size with hlt | hge
 ·exact hlt
 ·unfold Blk at h;rw[Array.getElem?_eq_none hge]at h;cases h
theorem Blk.cell (h:Blk w g t cs) (i:Nat):w.cell? ⟨g,i,none⟩=cs[i]?:=cell_of_row w g i cs t (0,0) h
theorem Blk.frozen (h:Blk w g t cs) (i:Nat):w.frozen? ⟨g,i,none⟩=false:=by
 unfold Blk at h;simp[World.frozen?,h]
theorem Blk.new (w:World) (t:TypeId) (cs:Array Value):Blk (w.alloc (.cells cs t)) w.heap.size t cs:=heap_alloc_new w _
theorem Blk.drew (h:Blk w g t cs):Blk w.drew g t cs:=h
theorem Blk.alloc (h:Blk w g t cs) (o:Obj):Blk (w.alloc o) g t cs:=(Below.heap_alloc w o g h.lt).trans h
theorem Blk.set_ (h:Blk w g t cs) (i:Nat) (u:Value):Blk (w.setCell ⟨g,i,none⟩ u) g t (cs.setIfInBounds i u):=by
 unfold Blk at h ⊢;simp[World.setCell,Array.getElem?_modify,h]
end
end Go.Proofs.YtpohajhbfllbbaaGreat
namespace Go.Proofs.YtpohajhbfllbbaaGreat
open Go

abbrev Hl:=Nat->Option Obj
def hl (w:World):Hl:=λb=>w.heap[b]?
def Hle (h h':Hl):Prop:=∀b o,h b=some o->h' b=some o
theorem Hle.trans {a b c:Hl} (h:Hle a b) (h':Hle b c):Hle a c:=λx o e=>h' x o (h x o e)
structure HP where
 sat:Hl->Prop
 up:∀h h',Hle h h'->sat h->sat h'
inductive Atom where
 | emp
 | pt (b:Nat) (t:TypeId) (cs:List Value)
 | ob (b:Nat) (o:Obj)
 | hp (P:HP)
def Atom.sat:Atom->Hl->Prop
 | .emp,_=>True
 | .pt b t cs,h=>h b=some (.cells cs.toArray t (0,0))
 | .ob b o,h=>h b=some o
 | .hp P,h=>P.sat h
theorem Atom.up {A:Atom} {h h':Hl} (l:Hle h h') (s:A.sat h):A.sat h':=by
 cases A with
 | emp=>trivial
 | pt b t cs=>exact l _ _ s
 | ob b o=>exact l _ _ s
 | hp P=>exact P.up _ _ l s
def res (h:Hl) (own:Nat->Nat) (i:Nat):Hl:=λb=>if own b=i then h b else none
theorem res_some {h:Hl} {own:Nat->Nat} {i b:Nat} {o:Obj}:res h own i b=some o↔own b=i/\h b=some o:=by
 unfold res;split<;>simp_all
def Sep (L:List Atom) (h:Hl):Prop:=∃own:Nat->Nat,∀(i:Nat) (A:Atom),L[i]? =some A->A.sat (res h own i)

theorem Sep.up {L:List Atom} {h h':Hl} (l:Hle h h') (s:Sep L h):Sep L h':=by
 obtain⟨own,hs⟩:=s;refine⟨own,λi A hA=>Atom.up (λb o hb=>?_) (hs i A hA)⟩;rw[res_some]at hb ⊢;exact⟨hb.1,l _ _ hb.2⟩
def HP.of (L:List Atom):HP:=⟨Sep L,λ_ _ l s=>s.up l⟩
theorem Sep.nil (h:Hl):Sep [] h:=⟨λ_=>0,λi A hA=>by simp at hA⟩
theorem Sep.get {L:List Atom} {h:Hl} (s:Sep L h) {i:Nat} {A:Atom} (hA:L[i]? =some A):A.sat h:=by
 obtain⟨own,hs⟩:=s;exact Atom.up (λb o hb=>(res_some.1 hb).2) (hs i A hA)
theorem Sep.pt {L:List Atom} {h:Hl} (s:Sep L h) {i b:Nat} {t:TypeId} {cs:List Value} (hA:L[i]? =some (.pt b t cs)):h b=some (.cells cs.toArray t (0,0)):=s.get hA
def r9 (h:Hl) (b:Nat) (o:Obj):Hl:=λx=>if x=b then some o else h x
theorem Sep.set_ {L:List Atom} {h:Hl} (s:Sep L h) {i b:Nat} {o o':Obj} {A A':Atom} (hA:L[i]? =some A) (hs:∀h',A.sat h'->h' b=some o) (hs':∀h',h' b=some o'->A'.sat h'):Sep (L.set i A') (r9 h b o'):=by
 obtain⟨own,hw⟩:=s;have hb:=res_some.1 (hs _ (hw i A hA));have hi:i<L.length:=(List.getElem?_eq_some_iff.1 hA).1;refine⟨own,λj B hB=>?_⟩;rw[List.getElem?_set]at hB;split at hB
 ·rename_i e;injection hB with hB;subst hB;subst e;exact hs' _ (res_some.2 ⟨hb.1,by simp[r9]⟩)
 ·rename_i e;refine Atom.up (λx u hx=>?_) (hw j B hB);rw[res_some]at hx ⊢;refine⟨hx.1,?_⟩;unfold r9;rw[if_neg]
  ·exact hx.2
  ·rintro rfl;exact e (hb.1.symm.trans hx.1)
theorem Sep.setPt {L:List Atom} {h:Hl} (s:Sep L h) {i b:Nat} {t:TypeId} {cs:List Value} (cs':List Value) (hA:L[i]? =some (.pt b t cs)):Sep (L.set i (.pt b t cs')) (r9 h b (.cells cs'.toArray t (0,0))):=
 s.set_ hA (λ_ e=>e) (λ_ e=>e)
theorem Sep.snoc {L:List Atom} {h:Hl} (s:Sep L h) {n:Nat} {o:Obj} {A:Atom} (hn:h n=none) (hs:∀h',h' n=some o->A.sat h'):Sep (L++[A]) (r9 h n o):=by
 obtain⟨own,hw⟩:=s;refine⟨λb=>if b=n then L.length else own b,λj B hB=>?_⟩;rw[List.getElem?_append]at hB;split at hB
 ·rename_i hj;refine Atom.up (λx u hx=>?_) (hw j B hB);rw[res_some]at hx ⊢;have:x≠n:=by rintro rfl;rw[hn]at hx;cases hx.2
  simp only[this,if_false,r9];exact hx
 ·rename_i hj;have:j-L.length=0/\A=B:=by
   match hk:j-L.length with
   | 0=>rw[hk]at hB;simp at hB;exact⟨rfl,hB⟩
   | k+1=>rw[hk]at hB;simp at hB
  obtain⟨h0,rfl⟩:=this;have hj':j=L.length:=by omega
  subst hj';exact hs _ (res_some.2 ⟨by simp,by simp[r9]⟩)

theorem Sep.place {L L':List Atom} {h:Hl} (s:Sep L h) (f g:Nat->Nat) (hf:∀(j:Nat) (A:Atom),L'[j]? =some A->A= .emp\/(L[f j]? =some A/\g (f j)=j)):Sep L' h:=by
 obtain⟨own,hw⟩:=s;refine⟨λb=>g (own b),λj A hA=>?_⟩;rcases hf j A hA with rfl | ⟨h1,h2⟩
 ·trivial
 ·refine Atom.up (λb o hb=>?_) (hw _ _ h1);rw[res_some]at hb ⊢;exact⟨by show g (own b)=j;rw[hb.1];exact h2,hb.2⟩

def l8 (L:List Atom):List Nat->List Atom
 | []=>[]
 | i::is=>(L[i]?.getD .emp)::l8 L is
def C4:List Atom->List Nat->List Atom
 | L,[]=>L
 | L,i::is=>C4 (L.set i .emp) is
def puts:List Atom->List Nat->List Atom->List Atom
 | L,[],As=>L++As
 | L,_::is,[]=>puts L is []
 | L,i::is,A::As=>puts (L.set i A) is As
theorem a2U (L:List Atom):∀(is:List Nat) (k:Nat) (A:Atom),(l8 L is)[k]? =some A->∃i,is[k]? =some i/\L[i]?.getD .emp=A
 | [],k,A,h=>by simp[l8]at h
 | i::is,0,A,h=>by simp[l8]at h;exact⟨i,rfl,h⟩
 | i::is,k+1,A,h=>by simp only[l8,List.getElem?_cons_succ]at h ⊢;exact a2U L is k A h
theorem a3y:∀(is:List Nat) (L:List Atom) (j:Nat) (A:Atom),(C4 L is)[j]? =some A->A= .emp\/(j∉is/\L[j]? =some A)
 | [],L,j,A,h=> .inr ⟨by simp,h⟩
 | i::is,L,j,A,h=>by
  rcases a3y is (L.set i .emp) j A h with h | ⟨h1,h2⟩
  ·exact .inl h
  ·rw[List.getElem?_set]at h2;split at h2
   ·split at h2
    ·simp at h2;exact .inl h2.symm
    ·cases h2
   ·rename_i e;exact .inr ⟨by simp only[List.mem_cons,not_or];exact⟨λe'=>e e'.symm,h1⟩,h2⟩
theorem a0k:∀(is:List Nat) (L:List Atom) (j:Nat),j∈is->j<L.length->(C4 L is)[j]? =some .emp
 | i::is,L,j,h,hl=>by
  rcases List.mem_cons.1 h with rfl | h
  ·by_cases hj:j∈is
   ·exact a0k is _ j hj (by simpa using hl)
   ·have:∀(is:List Nat) (L:List Atom),j∉is->(C4 L is)[j]? =L[j]?:=by
     intro is
     induction is with
     | nil=>intro L _;rfl
     | cons k ks ih=>
      intro L hn;simp only[List.mem_cons,not_or]at hn;rw[C4,ih _ hn.2,List.getElem?_set,if_neg (λe=>hn.1 e.symm)]
    rw[C4,this is _ hj,List.getElem?_set,if_pos rfl,if_pos hl]
  ·exact a0k is _ j h (by simpa using hl)
theorem Sep.putsOk:∀(is:List Nat) (L As:List Atom) (h:Hl),is.Nodup->(∀i∈is,L[i]? =some .emp)->Sep (L++As) h->Sep (puts L is As) h
 | [],L,As,h,_,_,s=>s
 | i::is,L,[],h,hn,he,s=>Sep.putsOk is L [] h (List.nodup_cons.1 hn).2 (λj hj=>he j (List.mem_cons_of_mem _ hj)) s
 | i::is,L,A::As,h,hn,he,s=>by
  have hil:i<L.length:=(List.getElem?_eq_some_iff.1 (he i (List.mem_cons_self ..))).1;refine Sep.putsOk is (L.set i A) As h (List.nodup_cons.1 hn).2 (λj hj=>?_) ?_
  ·have hne:i≠j:=by rintro rfl;exact(List.nodup_cons.1 hn).1 hj
   rw[List.getElem?_set,if_neg hne];exact he j (List.mem_cons_of_mem _ hj)
  ·refine s.place (λj=>if j=i then L.length else if j<L.length then j else j+1) (λx=>if x=L.length then i else if L.length<x then x-1 else x) (λj B hB=> .inr ?_)
   by_cases hji:j=i
   ·subst hji;simp only[if_pos];refine⟨?_,trivial⟩;rw[List.getElem?_append_left (by simpa using hil),List.getElem?_set,if_pos rfl,if_pos hil]at hB;rw[List.getElem?_append_right (Nat.le_refl _),Nat.sub_self];exact hB
   ·simp only[if_neg hji]
    by_cases hjl:j<L.length
    ·simp only[if_pos hjl];refine⟨?_,by rw[if_neg (by omega),if_neg (by omega)]⟩;rw[List.getElem?_append_left (by simpa using hjl),List.getElem?_set,if_neg (λe=>hji e.symm)]at hB;rw[List.getElem?_append_left hjl];exact hB
    ·simp only[if_neg hjl];refine⟨?_,by rw[if_neg (by omega),if_pos (by omega)];omega⟩;rw[List.getElem?_append_right (by simpa using hjl),List.length_set]at hB;rw[List.getElem?_append_right (by omega),show j+1-L.length=(j-L.length)+1 from by omega,List.getElem?_cons_succ];exact hB
def m9 (L:List Atom) (is:List Nat):Bool:=decide is.Nodup&&is.all (λi=>decide (i<L.length))
theorem A6 {L:List Atom} {is:List Nat} (h:m9 L is=true):is.Nodup/\∀i∈is,i<L.length:=by
 simp only[m9,Bool.and_eq_true,decide_eq_true_eq,List.all_eq_true]at h;exact h
theorem Sep.split {L:List Atom} {h:Hl} (s:Sep L h) {is:List Nat} (ok:m9 L is=true):Sep (.hp (HP.of (C4 L is))::l8 L is) h:=by
 obtain⟨own,hw⟩:=s;obtain⟨hn,hi⟩:=A6 ok;refine⟨λb=>if own b∈is then is.idxOf (own b)+1 else 0,λj A hA=>?_⟩;cases j with
 | zero=>
  simp at hA;subst hA;refine⟨own,λi B hB=>?_⟩;rcases a3y is L i B hB with rfl | ⟨h1,h2⟩
  ·trivial
  ·refine Atom.up (λb o hb=>?_) (hw i B h2);rw[res_some]at hb ⊢;refine⟨hb.1,?_⟩;rw[res_some];exact⟨by rw[if_neg (by rw[hb.1];exact h1)],hb.2⟩
 | succ k=>
  simp only[List.getElem?_cons_succ]at hA;obtain⟨i,h1,h2⟩:=a2U L is k A hA;have him:i∈is:=List.mem_of_getElem? h1;have hil:=hi i him;rw[List.getElem?_eq_getElem hil]at h2;simp at h2;refine Atom.up (λb o hb=>?_) (hw i A (by rw[List.getElem?_eq_getElem hil,h2]));rw[res_some]at hb ⊢;refine⟨?_,hb.2⟩;rw[hb.1,if_pos him];obtain⟨hk,e⟩:=List.getElem?_eq_some_iff.1 h1;rw[<- e,hn.idxOf_getElem]
theorem Sep.flat {L As:List Atom} {h:Hl} (s:Sep (.hp (HP.of L)::As) h):Sep (L++As) h:=by
 obtain⟨own,hw⟩:=s;obtain⟨own2,hw2⟩:=hw 0 _ rfl;refine⟨λb=>if own b=0 then own2 b else L.length+own b-1,λj A hA=>?_⟩;rw[List.getElem?_append]at hA;split at hA
 ·refine Atom.up (λb o hb=>?_) (hw2 j A hA);rw[res_some]at hb ⊢;have:=res_some.1 hb.2;exact⟨by rw[if_pos this.1];exact hb.1,this.2⟩
 ·rename_i hj;refine Atom.up (λb o hb=>?_) (hw (j-L.length+1) A (by simpa using hA));rw[res_some]at hb ⊢;exact⟨by rw[if_neg (by omega),hb.1];omega,hb.2⟩
theorem Sep.back {L As:List Atom} {h:Hl} {is:List Nat} (ok:m9 L is=true) (s:Sep (.hp (HP.of (C4 L is))::As) h):Sep (puts (C4 L is) is As) h:=by
 obtain⟨hn,hi⟩:=A6 ok;exact Sep.putsOk is _ As h hn (λi hm=>a0k is L i hm (hi i hm)) s.flat
theorem Sep.turn {L:List Atom} {h:Hl} (s:Sep L h) (is:List Nat) (ok:m9 L is=true) {α:Type} {As:α->List Atom} (ht:∀h',Sep (l8 L is) h'->∃x,Sep (As x) h'):∃x,Sep (puts (C4 L is) is (As x)) h:=by
 obtain⟨own,hw⟩:=s.split ok;have h1:Sep (l8 L is) (λb=>if own b=0 then none else h b):=by
  refine⟨λb=>own b-1,λj A hA=>Atom.up (λb o hb=>?_) (hw (j+1) A (by simpa using hA))⟩;rw[res_some]at hb ⊢;exact⟨by show own b-1=j;omega,by rw[if_neg (by omega)];exact hb.2⟩
 obtain⟨x,own2,h2⟩:=ht _ h1;refine⟨x,Sep.back ok ⟨λb=>if own b=0 then 0 else own2 b+1,λj A hA=>?_⟩⟩;cases j with
 | zero=>
  simp at hA;subst hA;refine Atom.up (λb o hb=>?_) (hw 0 _ rfl);rw[res_some]at hb ⊢;exact⟨by rw[if_pos hb.1],hb.2⟩
 | succ k=>
  refine Atom.up (λb o hb=>?_) (h2 k A (by simpa using hA));rw[res_some]at hb ⊢
  by_cases e:own b=0
  ·rw[if_pos e]at hb;cases hb.2
  ·rw[if_neg e]at hb ⊢;exact⟨by rw[hb.1],hb.2⟩
theorem Sep.turn1 {L:List Atom} {h:Hl} (s:Sep L h) (is:List Nat) (ok:m9 L is=true) {As:List Atom} (ht:∀h',Sep (l8 L is) h'->Sep As h'):Sep (puts (C4 L is) is As) h:=
 let⟨_,r⟩:=s.turn is ok (α:=Unit) (As:=λ_=>As) (λh' s'=>⟨(),ht h' s'⟩)
 r
def a3h {α:Type}:List α->Option (List α)
 | []=>some []
 | x::r=>match a3h r with
  | some r'=>some (x::r')
  | none=>none
def r8 {α:Type}:List α->Nat->α->Option (List α)
 | [],_,_=>some []
 | x::r,k,y=>match k with
  | 0=>match a3h r with
   | some r'=>some (y::r')
   | none=>none
  | k+1=>match r8 r k y with
   | some r'=>some (x::r')
   | none=>none
def b2x {α:Type}:List α->List α->Option (List α)
 | [],l=>a3h l
 | x::r,l=>match b2x r l with
  | some r'=>some (x::r')
  | none=>none
theorem a1U {α:Type}:∀{l m:List α},a3h l=some m->m=l
 | [],m,h=>by simp only[a3h,Option.some.injEq]at h;exact h.symm
 | x::r,m,h=>by
  simp only[a3h]at h;split at h
  ·rename_i r' hr;injection h with h;subst h;rw[a1U hr]
  ·cases h
theorem r7 {α:Type}:∀{l m:List α} {k:Nat} {y:α},r8 l k y=some m->m=l.set k y
 | [],m,k,y,h=>by simp only[r8,Option.some.injEq]at h;subst h;simp
 | x::r,m,0,y,h=>by
  simp only[r8]at h;split at h
  ·rename_i r' hr;injection h with h;subst h;rw[a1U hr];rfl
  ·cases h
 | x::r,m,k+1,y,h=>by
  simp only[r8]at h;split at h
  ·rename_i r' hr;injection h with h;subst h;rw[r7 hr];rfl
  ·cases h
theorem a7c {α:Type}:∀{l l' m:List α},b2x l l'=some m->m=l++l'
 | [],l',m,h=>a1U h
 | x::r,l',m,h=>by
  simp only[b2x]at h;split at h
  ·rename_i r' hr;injection h with h;subst h;rw[a7c hr];rfl
  ·cases h
def D0:List Atom->List Nat->List Atom->Option (List Atom)
 | L,[],As=>b2x L As
 | L,i::is,[]=>match r8 L i .emp with
  | some L'=>D0 L' is []
  | none=>none
 | L,i::is,A::As=>match r8 L i A with
  | some L'=>D0 L' is As
  | none=>none
theorem a3x:∀(is:List Nat) (L:List Atom) (i:Nat) (A B:Atom),i∉is->(C4 (L.set i B) is).set i A=C4 (L.set i A) is
 | [],L,i,A,B,_=>by simp[C4]
 | j::is,L,i,A,B,h=>by
  simp only[List.mem_cons,not_or]at h;simp only[C4];rw[List.set_comm _ _ h.1,a3x is _ i A B h.2,<- List.set_comm _ _ h.1]
theorem O7:∀{is:List Nat} {L As L':List Atom},is.Nodup->D0 L is As=some L'->L'=puts (C4 L is) is As
 | [],L,As,L',_,h=>by simp only[D0]at h;exact a7c h
 | i::is,L,[],L',hn,h=>by
  obtain⟨h1,h2⟩:=List.nodup_cons.1 hn;simp only[D0]at h;split at h
  ·rename_i L1 hL;rw[r7 hL]at h;have:=O7 h2 h;exact this
  ·cases h
 | i::is,L,A::As,L',hn,h=>by
  obtain⟨h1,h2⟩:=List.nodup_cons.1 hn;simp only[D0]at h;split at h
  ·rename_i L1 hL;rw[r7 hL]at h;simp only[puts,C4];rw[a3x _ _ _ _ _ h1];have:=O7 h2 h;exact this
  ·cases h
theorem Sep.hpOf {L:List Atom} {h:Hl}:Sep [.hp (HP.of L)] h↔Sep L h:=
 ⟨λs=>by have:=s.flat;rwa [List.append_nil]at this,λs=>⟨λ_=>0,λi A hA=>by
  cases i with
  | zero=>simp at hA;subst hA;exact Sep.up (λb o hb=>res_some.2 ⟨rfl,hb⟩) s
  | succ k=>simp at hA⟩⟩

section
variable {P : Program} {ops : Array Oper}
def safe (P:Program) (o:Oper) (a:Act) (K:Act->World->Prop):Result Next->Prop
 | .ok (.value v) w'=>K (a.put o.dst v) w'
 | .ok .skip w'=>K (a.put o.dst undef) w'
 | .ok (.enter f args) w'=>Calls P f args w' λe w''=>∃v,e= .returned v/\K (a.put o.dst v) w''
 | _=>False
def sOp (P:Program) (ops:Array Oper) (o:Oper) (K:Act->World->Prop) (a:Act) (w:World):Prop:=
 if Region.wanted o (yielded ops a.tmps)=true then safe P o a K ((execOp a.eval o).run P w)else K (a.put o.dst undef) w
theorem safe.mono {o:Oper} {a:Act} {K K':Act->World->Prop} (h:∀a w,K a w->K' a w) {r:Result Next} (s:safe P o a K r):safe P o a K' r:=by
 cases r with
 | ok n w=>
  cases n with
  | value v=>exact h _ _ s
  | skip=>exact h _ _ s
  | enter f args=>exact Calls.mono s λe w' ⟨v,he,hk⟩=>⟨v,he,h _ _ hk⟩
  | _=>exact s.elim
 | halt x w=>exact s.elim
theorem sOp.mono {o:Oper} {a:Act} {w:World} {K K':Act->World->Prop} (h:∀a w,K a w->K' a w) (s:sOp P ops o K a w):sOp P ops o K' a w:=by
 unfold sOp at*;split
 ·rename_i hw;rw[if_pos hw]at s;exact s.mono h
 ·rename_i hw;rw[if_neg hw]at s;exact h _ _ s
theorem safe.wp {o:Oper} {a:Act} {w:World} {K:Act->World->Prop} {Q:Exit->Act->World->Prop} (s:safe P o a K ((execOp a.eval o).run P w)):o.wp P a w K Q:=by
 unfold Oper.wp;generalize(execOp a.eval o).run P w=r at*;cases r with
 | ok n w=>
  cases n with
  | value v=>exact s
  | skip=>exact s
  | enter f args=>exact Calls.mono s λe w' ⟨v,he,hk⟩=>by subst he;exact hk
  | _=>exact s.elim
 | halt x w=>exact s.elim
theorem sOp.wpOp {i:Nat} {o:Oper} (hi:ops[i]? =some o) {a:Act} {w:World} {K:Act->World->Prop} {Q:Exit->Act->World->Prop} (s:sOp P ops o K a w):wpOp P ops Q i K a w:=by
 unfold sOp at s;unfold Go.wpOp;simp only[hi];split
 ·rename_i hw;rw[if_pos hw]at s;exact .inl s.wp
 ·rename_i hw;rw[if_neg hw]at s;exact s

def YldIn (P:Program) (ops:Array Oper) (C:World->Prop) (o:Oper) (v:Value) (a:Act):Prop:=
 (Region.wanted o (yielded ops a.tmps)=true/\∀w,C w->(execOp a.eval o).run P w= .ok (.value v) w)\/
 (Region.wanted o (yielded ops a.tmps)=false/\v=undef)
theorem YldIn.sOp {C:World->Prop} {o:Oper} {v:Value} {a:Act} {w:World} {K:Act->World->Prop} (hy:YldIn P ops C o v a) (hC:C w) (h:K (a.put o.dst v) w):sOp P ops o K a w:=by
 unfold Go.Proofs.YtpohajhbfllbbaaGreat.sOp;rcases hy with⟨hw,hv⟩ | ⟨hw,rfl⟩
 ·rw[if_pos hw,hv w hC];exact h
 ·rw[if_neg (by rw[hw];simp)];exact h
theorem YldIn.of_same {C:World->Prop} {o:Oper} {v:Value} {a a':Act} (hy:YldIn P ops C o v a) (he:execOp a'.eval o=execOp a.eval o)
  (hw:Region.wanted o (yielded ops a'.tmps)=Region.wanted o (yielded ops a.tmps)):YldIn P ops C o v a':=by
 unfold YldIn at*;rw[he,hw];exact hy
def waits (ops:Array Oper) (j i:Nat):Bool:=match ops[j]? with
 | some o=>o.after.any λe=>Region.binds .any e&&e.on==i
 | none=>false
theorem b3a {j i:Nat} {listed:Array Bool} (h:waits ops j i=true) (hj:j∈Region.ready .any ops listed):listed.getD i false=true:=by
 obtain⟨_,o,ho,hall⟩:=mem_ready.1 hj;simp only[waits,ho]at h;obtain⟨e,he,hb⟩:=Array.any_eq_true'.1 h;simp only[Bool.and_eq_true,beq_iff_eq]at hb;rw[<- hb.2];exact hall e he hb.1
def Shut (ops:Array Oper) (listed:Array Bool):Prop:=∀(a:Nat) (o:Oper),ops[a]? =some o->listed.getD a false=true->∀e∈o.after,Region.binds .any e=true->listed.getD e.on false=true
def K9 (ops:Array Oper):Nat->Nat->Nat->Bool
 | 0,j,i=>waits ops j i
 | n+1,j,i=>waits ops j i||match ops[j]? with
  | some o=>o.after.any λe=>Region.binds .any e&&K9 ops n e.on i
  | none=>false
theorem a7z {listed:Array Bool} (hs:Shut ops listed) {i:Nat}:∀(n j:Nat),(∀o,ops[j]? =some o->∀e∈o.after,Region.binds .any e=true->listed.getD e.on false=true)->K9 ops n j i=true->listed.getD i false=true:=by
 have h0:∀j,(∀o,ops[j]? =some o->∀e∈o.after,Region.binds .any e=true->listed.getD e.on false=true)->waits ops j i=true->listed.getD i false=true:=λj hj h=>by
  unfold waits at h;split at h
  ·rename_i o ho;obtain⟨e,he,hb⟩:=Array.any_eq_true'.1 h;simp only[Bool.and_eq_true,beq_iff_eq]at hb;rw[<- hb.2];exact hj o ho e he hb.1
  ·cases h
 intro n
 induction n with
 | zero=>exactλj hj h=>h0 j hj h
 | succ n ih=>
  intro j hj h;simp only[K9,Bool.or_eq_true]at h;rcases h with h | h
  ·exact h0 j hj h
  ·split at h
   ·rename_i o ho;obtain⟨e,he,hb⟩:=Array.any_eq_true'.1 h;simp only[Bool.and_eq_true]at hb;exact ih e.on (λo' ho' e' he' hb'=>hs e.on o' ho' (hj o ho e he hb.1) e' he' hb') hb.2
   ·cases h
theorem W7 {j i n:Nat} {listed:Array Bool} (hs:Shut ops listed) (h:K9 ops n j i=true) (hj:j∈Region.ready .any ops listed):listed.getD i false=true:=by
 obtain⟨_,o,ho,hall⟩:=mem_ready.1 hj;refine a7z hs n j (λo' ho' e he hb=>?_) h;have:o'=o:=by rw[ho]at ho';injection ho' with e;exact e.symm
 subst this;exact hall e he hb
theorem b2K {listed:Array Bool} {x:Nat} (j:Nat) (h:listed.getD x false=true):(listed.setIfInBounds j true).getD x false=true:=by
 rcases Nat.lt_or_ge x listed.size with hx | hx
 ·by_cases e:j=x
  ·subst e;simp[hx]
  ·rw[getD_set_ne false e];exact h
 ·simp[Array.getElem?_eq_none hx]at h
theorem Shut.set {listed:Array Bool} (hs:Shut ops listed) {j:Nat} (hj:j∈Region.ready .any ops listed):Shut ops (listed.setIfInBounds j true):=by
 intro a o ho ha e he hb;refine b2K j ?_
 by_cases e1:j=a
 ·subst e1;obtain⟨_,o',ho',hall⟩:=mem_ready.1 hj;have:o'=o:=by rw[ho]at ho';injection ho' with e;exact e.symm
  subst this;exact hall e he hb
 ·rw[getD_set_ne false e1]at ha;exact hs a o ho ha e he hb
theorem Shut.none (n:Nat):Shut ops (Array.replicate n false):=by
 intro a o ho ha;rcases Nat.lt_or_ge a n with h | h
 ·simp[h]at ha
 ·simp[Array.getElem?_eq_none,h]at ha
def sAny (P:Program) (ops:Array Oper) (lt:List Nat) (C:World->Prop) (K:Act->World->Prop):Nat->Array Bool->Act->World->Prop
 | 0,listed,a,w=>Region.ready .any ops listed=[]/\K a w
 | fuel+1,listed,a,w=>
  (Region.ready .any ops listed=[]->K a w)/\
  ∀i∈Region.ready .any ops listed,∃o,ops[i]? =some o/\sOp P ops o (λa' w'=>(i∉lt->C w')/\sAny P ops lt C K fuel (listed.setIfInBounds i true) a' w') a w
theorem sAny.wpAny {lt:List Nat} {C:World->Prop} {K:Act->World->Prop} {Q:Exit->Act->World->Prop} (hK:∀a w,K a w->Q .normal a w):∀(fuel:Nat) (listed:Array Bool) (a:Act) (w:World),sAny P ops lt C K fuel listed a w->wpAny P .any ops Q fuel listed a w:=by
 intro fuel
 induction fuel with
 | zero=>intro listed a w s;exact⟨s.1,hK _ _ s.2⟩
 | succ fuel ih=>
  intro listed a w s;refine⟨λh=>hK _ _ (s.1 h),λi hi=>?_⟩;obtain⟨o,ho,hs⟩:=s.2 i hi;exact(hs.mono (λa' w' h=>ih _ _ _ h.2)).wpOp ho
theorem a6P {oi oj:Oper} {C:World->Prop} {v:Value} (hap:oi.apart ops oj=true)
  (hsi:∀cs b,oi.op≠ .select cs b) (hsj:∀cs b,oj.op≠ .select cs b) {K:Act->World->Prop} {a:Act} {w:World}
  (hy:YldIn P ops C oi v a) (h:sOp P ops oj K (a.put oi.dst v) w):
  sOp P ops oj (λa' w'=>YldIn P ops C oi v a'/\K (a'.put oi.dst v) w') a w:=by
 obtain⟨h1,h2,h3⟩:=Oper.apart_spec hap;have keep:∀(a:Act),YldIn P ops C oi v a->∀u,YldIn P ops C oi v (a.put oj.dst u):=λa hy u=>
  hy.of_same (execOp_put oi hsi a oj.dst u h3) (wanted_put oi a oj.dst u h3)
 unfold sOp at*;rw[wanted_put oj a oi.dst v h1,execOp_put oj hsj a oi.dst v h1]at h;split
 ·rename_i hw;rw[if_pos hw]at h;generalize(execOp a.eval oj).run P w=r at*;cases r with
  | ok n w'=>
   cases n with
   | value u=>exact⟨keep a hy u,by rw[<- Act.put_comm a v u h2];exact h⟩
   | skip=>exact⟨keep a hy _,by rw[<- Act.put_comm a v undef h2];exact h⟩
   | enter f args=>exact Calls.mono h λe w'' ⟨u,he,hk⟩=>⟨u,he,keep a hy u,by rw[<- Act.put_comm a v u h2];exact hk⟩
   | _=>exact h.elim
  | halt x w'=>exact h.elim
 ·rename_i hw;rw[if_neg hw]at h;exact⟨keep a hy _,by rw[<- Act.put_comm a v undef h2];exact h⟩
theorem a1v {lt:List Nat} {C D:World->Prop} {K:Act->World->Prop} {i:Nat} {oi:Oper} {v:Value} (hi:ops[i]? =some oi) (hsel:∀(j:Nat) (o:Oper) cs b,ops[j]? =some o->o.op≠ .select cs b)
  (hD:(i∉lt/\(∀w,C w->D w)/\∀j∈lt,K9 ops 3 j i=true)\/(i∈lt/\∀w,D w)):
  ∀(fuel:Nat) (listed:Array Bool) (a:Act) (w:World),Shut ops listed->
   (∀j oj,ops[j]? =some oj->j≠i->listed.getD j true=false->(∀e∈oj.after,Region.binds .any e=true->e.on≠i)->oi.apart ops oj=true)->
   i∈Region.ready .any ops listed->YldIn P ops D oi v a->D w->(i∉lt->C w)->
   sAny P ops lt C K fuel (listed.setIfInBounds i true) (a.put oi.dst v) w->sAny P ops lt C K (fuel+1) listed a w:=by
 intro fuel
 induction fuel with
 | zero=>
  intro listed a w _ _ hr hy hDw hC H;refine⟨λh=>(by rw[h]at hr;cases hr),λj hj=>?_⟩
  by_cases hji:j=i
  ·subst hji;exact⟨oi,hi,hy.sOp hDw ⟨hC,H⟩⟩
  ·have:=ready_mono hj hji;rw[H.1]at this;cases this
 | succ fuel ih=>
  intro listed a w hsh hfree hr hy hDw hC H;refine⟨λh=>(by rw[h]at hr;cases hr),λj hj=>?_⟩
  by_cases hji:j=i
  ·subst hji;exact⟨oi,hi,hy.sOp hDw ⟨hC,H⟩⟩
  ·obtain⟨oj,hoj,h1⟩:=H.2 j (ready_mono hj hji);obtain⟨hjun,oj',hoj',hall⟩:=mem_ready.1 hj;have:oj'=oj:=by rw[hoj]at hoj';injection hoj' with e;exact e.symm
   subst this;have hiun:listed.getD i false≠true:=λh1=>by
    have h0:=(mem_ready.1 hr).1;rcases Nat.lt_or_ge i listed.size with h' | h'
    ·simp[h']at h0 h1;rw[h0]at h1;cases h1
    ·simp[Array.getElem?_eq_none h']at h1
   have hnot:∀e∈oj'.after,Region.binds .any e=true->e.on≠i:=λe he hb heq=>hiun (heq▸hall e he hb);have h2:=a6P (hfree j oj' hoj hji hjun hnot) (λcs b=>hsel i oi cs b hi) (λcs b=>hsel j oj' cs b hoj) hy h1;have hfree':∀k ok,ops[k]? =some ok->k≠i->(listed.setIfInBounds j true).getD k true=false->
     (∀e∈ok.after,Region.binds .any e=true->e.on≠i)->oi.apart ops ok=true:=λk ok hk hki hun hno=>by
    refine hfree k ok hk hki ?_ hno
    by_cases hjk:j=k
    ·subst hjk;exact hjun
    ·rw[getD_set_ne true hjk]at hun;exact hun
   refine⟨oj',hoj,h2.mono λa' w' ⟨hy',hC',h3⟩=>⟨hC',?_⟩⟩;have hdc:D w'/\(i∉lt->C w'):=by
    rcases hD with⟨hil,hCD,hw⟩ | ⟨hil,hd⟩
    ·have hjl:j∉lt:=λh=>hiun (W7 hsh (hw j h) hj);exact⟨hCD _ (hC' hjl),λ_=>hC' hjl⟩
    ·exact⟨hd _,λh=>absurd hil h⟩
   refine ih (listed.setIfInBounds j true) a' w' (hsh.set hj) hfree' (ready_mono hr (Ne.symm hji)) hy' hdc.1 hdc.2 ?_;rw[Array.setIfInBounds_comm _ _ hji];exact h3
theorem a2O {lt:List Nat} {C:World->Prop} {K:Act->World->Prop} {listed:Array Bool} {a:Act} {w:World} (hr:Region.ready .any ops listed=[]) (h:K a w):
  ∀fuel,sAny P ops lt C K fuel listed a w
 | 0=>⟨hr,h⟩
 | _+1=>⟨λ_=>h,by rw[hr];simp⟩

inductive PT where
 | done
 | take (p:Bool) (i:Nat) (t:PT)
 | alt (l:Bool) (i:Nat) (t more:PT)
 | non
def pT (P:Program) (ops:Array Oper) (C:World->Prop) (K:Act->World->Prop):PT->Act->World->Prop
 | .done,a,w=>K a w
 | .take p i t,a,w=>∃o v,ops[i]? =some o/\YldIn P ops (λw=>p=false->C w) o v a/\pT P ops C K t (a.put o.dst v) w
 | .alt l i t m,a,w=>(∃o,ops[i]? =some o/\sOp P ops o (λa' w'=>(l=false->C w')/\pT P ops C K t a' w') a w)/\pT P ops C K m a w
 | .non,_,_=>True
def PT.heads:PT->List Nat
 | .alt _ i _ m=>i::m.heads
 | _=>[]
def PT.allLt (lt:List Nat):PT->Bool
 | .done=>true
 | .take p i t=>p&&lt.contains i&&t.allLt lt
 | .alt l i t m=>l&&lt.contains i&&t.allLt lt&&m.allLt lt
 | .non=>true
def PT.ok (ops:Array Oper) (lt:List Nat):PT->Bool->Nat->Array Bool->Bool
 | .done,false,_,listed=>(Region.ready .any ops listed).isEmpty
 | .take p i t,false,n+1,listed=>(Region.ready .any ops listed).contains i&&Region.free .any ops listed i&&t.ok ops lt false n (listed.setIfInBounds i true)&&(p|| !lt.contains i)
 | .alt l i t m,fl,n+1,listed=>t.ok ops lt false n (listed.setIfInBounds i true)&&m.ok ops lt true (n+1) listed&&(fl||(!(Region.ready .any ops listed).isEmpty&&(Region.ready .any ops listed).all λj=>(PT.heads (.alt l i t m)).contains j))&&(lt.contains i==l)&&(!l||t.allLt lt)&&(Region.ready .any ops listed).contains i
 | .non,true,_,_=>true
 | _,_,_,_=>false
theorem PT.sound {lt:List Nat} {C:World->Prop} {K:Act->World->Prop} (hs:Region.noSelect ops=true) (hlt:∀j∈lt,∀i,i<ops.size->i∉lt->K9 ops 3 j i=true):∀(t:PT) (fl:Bool) (n:Nat) (listed:Array Bool) (a:Act) (w:World),Shut ops listed->t.ok ops lt fl n listed=true->(t.allLt lt=false->C w)->pT P ops C K t a w->
  (fl=false->sAny P ops lt C K n listed a w)/\(∀i∈t.heads,∃o,ops[i]? =some o/\∃m,n=m+1/\sOp P ops o (λa' w'=>(i∉lt->C w')/\sAny P ops lt C K m (listed.setIfInBounds i true) a' w') a w)
 | .done,fl,n,listed,a,w,hsh,h,hC,hp=>by
  cases fl with
  | true=>simp[PT.ok]at h
  | false=>exact⟨λ_=>a2O (by simpa[PT.ok]using h) hp n,by simp[PT.heads]⟩
 | .take p i t,fl,n,listed,a,w,hsh,h,hC,hp=>by
  cases fl with
  | true=>simp[PT.ok]at h
  | false=>
   cases n with
   | zero=>simp[PT.ok]at h
   | succ n=>
    simp only[PT.ok,Bool.and_eq_true]at h;obtain⟨⟨⟨hr,hf⟩,ht⟩,hp2⟩:=h;refine⟨λ_=>?_,by simp[PT.heads]⟩;obtain⟨o,v,hi,hy,hp⟩:=hp;have hisz:i<ops.size:=(Array.getElem?_eq_some_iff.1 hi).1
    by_cases hil:i∈lt
    ·have hpt:p=true:=by simpa[hil]using hp2
     subst hpt;refine a1v hi (Region.noSelect_spec hs) (.inr ⟨hil,λw h=>by cases h⟩) n listed a w hsh (Region.free_spec hi hf) (by simpa using hr) hy (λh=>by cases h) (λh=>absurd hil h) ((PT.sound hs hlt t false n _ _ w (hsh.set (by simpa using hr)) ht (λhe=>hC ?_) hp).1 rfl);simp[PT.allLt,he]
    ·have hCw:C w:=hC (by simp[PT.allLt,hil]);exact a1v hi (Region.noSelect_spec hs) (.inl ⟨hil,λw h _=>h,λj hj=>hlt j hj i hisz hil⟩) n listed a w hsh (Region.free_spec hi hf) (by simpa using hr) hy (λ_=>hCw) (λ_=>hCw) ((PT.sound hs hlt t false n _ _ w (hsh.set (by simpa using hr)) ht (λ_=>hCw) hp).1 rfl)
 | .alt l i t m,fl,n,listed,a,w,hsh,h,hC,hp=>by
  cases n with
  | zero=>simp[PT.ok]at h
  | succ n=>
   simp only[PT.ok,Bool.and_eq_true]at h;obtain⟨⟨⟨⟨⟨ht,hm⟩,hall⟩,hl⟩,hlate⟩,hrd⟩:=h;obtain⟨⟨o,hi,hp⟩,hpm⟩:=hp;have hl':l=true↔i∈lt:=by
    have:=eq_of_beq hl;rw[<- this];simp
   have hmm:=(PT.sound hs hlt m true (n+1) listed a w hsh hm (λhe=>hC (by simp[PT.allLt,he])) hpm).2;have hheads:∀j∈PT.heads (.alt l i t m),∃o,ops[j]? =some o/\∃m,n+1=m+1/\sOp P ops o (λa' w'=>(j∉lt->C w')/\sAny P ops lt C K m (listed.setIfInBounds j true) a' w') a w:=by
    intro j hj;rcases List.mem_cons.1 hj with rfl | hj
    ·refine⟨o,hi,n,rfl,hp.mono λa' w' hh=>⟨λhn=>hh.1 ?_,(PT.sound hs hlt t false n _ a' w' (hsh.set (by simpa using hrd)) ht (λhe=>hh.1 ?_) hh.2).1 rfl⟩⟩
     ·cases l with
      | false=>rfl
      | true=>exact absurd (hl'.1 rfl) hn
     ·cases l with
      | false=>rfl
      | true=>simp only[Bool.not_true,Bool.false_or]at hlate;rw[hlate]at he;cases he
    ·exact hmm j hj
   refine⟨λhfl=>?_,hheads⟩;subst hfl;simp only[Bool.false_or,Bool.and_eq_true,List.all_eq_true]at hall;refine⟨λh0=>absurd hall.1 (by simp[h0]),λj hj=>?_⟩;obtain⟨o,h1,m',h2,h3⟩:=hheads j (by simpa using hall.2 j hj);have:m'=n:=by omega
   subst this;exact⟨o,h1,h3⟩
 | .non,fl,n,listed,a,w,hsh,h,hC,hp=>by
  cases fl with
  | true=>exact⟨(λh=>by cases h),by simp[PT.heads]⟩
  | false=>simp[PT.ok]at h
def PT.seq:Nat->Nat->PT
 | _,0=> .done
 | k,n+1=> .alt true k (PT.seq (k+1) n) .non
theorem a9O {C:World->Prop} {K:Act->World->Prop} {Q:Exit->Act->World->Prop} (hK:∀a w,K a w->Q .normal a w):∀(n k:Nat) (a:Act) (w:World),pT P ops C K (PT.seq k n) a w->wpOps P ops Q (List.range' k n) a w
 | 0,k,a,w,h=>hK _ _ h
 | n+1,k,a,w,h=>by
  obtain⟨⟨o,hi,hs⟩,_⟩:=h;rw[List.range'_succ,wpOps_cons];exact(hs.mono λa' w' hh=>a9O hK n (k+1) a' w' hh.2).wpOp hi
end
theorem a2s {P:Program} {id:Nat} {ops:Array Oper} {C:World->Prop} {Q:Exit->Act->World->Prop} {a:Act} {w:World} (h:pT P ops C (Q .normal) (PT.seq 0 ops.size) a w):(Code.region id ops false).wp P Q a w:=
 wp_region (by rw[List.range_eq_range'];exact a9O (λ_ _ h=>h) _ _ _ _ h)
def PT.of:List Nat->PT
 | []=> .done
 | x::r=>match x % 4 with
  | 0=> .take true (x/4) (PT.of r)
  | 1=> .take false (x/4) (PT.of r)
  | 2=> .alt false (x/4) (PT.of r) .non
  | _=> .alt true (x/4) (PT.of r) .non
def PT.good (ops:Array Oper) (lt:List Nat) (t:PT):Bool:=Region.noSelect ops&&lt.all (λj=>(List.range ops.size).all λi=>lt.contains i||K9 ops 3 j i)&&t.ok ops lt false ops.size (Array.replicate ops.size false)
theorem a1g {P:Program} {id:Nat} {ops:Array Oper} {C:World->Prop} {Q:Exit->Act->World->Prop} {a:Act} {w:World} (hm:P.follows .mixedOrders=true) (t:PT) (lt:List Nat) (ht:t.good ops lt=true) (hC:C {w with drawn:=w.drawn+1})
  (h:pT P ops C (Q .normal) t a {w with drawn:=w.drawn+1}):(Code.region id ops true).wp P Q a w:=by
 simp only[PT.good,Bool.and_eq_true,List.all_eq_true,List.mem_range]at ht;obtain⟨⟨h1,h2⟩,h3⟩:=ht;refine wp_region_any hm (sAny.wpAny (λ_ _ h=>h) _ _ _ _ ((PT.sound h1 (lt:=lt) (λj hj i hi hn=>?_) t false _ _ a _ (Shut.none _) h3 (λ_=>hC) h).1 rfl));have:=h2 j hj i hi;simpa[hn]using this

inductive G where
 | tt
 | when (b:Bool)
def G.on:G->Bool
 | .tt=>true
 | .when b=>b
structure Slot where
 k:Nat
 v:Value
 tag:Nat
 g:G
def Slot.val (s:Slot):Value:=match s.g.on with
 | true=>s.v
 | false=>undef
abbrev Env:=List Slot
def Env.get:Env->Nat->Option Slot
 | [],_=>none
 | s::r,k=>match Nat.beq s.k k with
  | true=>some s
  | false=>Env.get r k
structure EnvOK (n:Nat) (E:Env) (a:Act):Prop where
 size:a.tmps.size=n
 defers:a.defers=[]
 slot:∀k s,E.get k=some s->a.tmps[k]? =some s.val
theorem EnvOK.put {n:Nat} {E:Env} {a:Act} (h:EnvOK n E a) {d:Nat} (hd:d<n) (v:Value) (tag:Nat) (g:G) (u:Value) (hu:u=Slot.val ⟨d,v,tag,g⟩):EnvOK n (⟨d,v,tag,g⟩::E) (a.put (some d) u):=by
 refine⟨by simp[Act.put,h.size],h.defers,λk s hk=>?_⟩;simp only[Env.get]at hk;split at hk
 ·rename_i e;have:d=k:=Nat.eq_of_beq_eq_true e;subst this;injection hk with hk;subst hk;subst hu;simp[Act.put,h.size,hd]
 ·rename_i e;have:d≠k:=λe'=>by subst e';simp at e
  simp only[Act.put];rw[Array.getElem?_setIfInBounds_ne this];exact h.slot k s hk
def Env.sub (E E':Env):Prop:=∀k s,E'.get k=some s->E.get k=some s
theorem EnvOK.sub {n:Nat} {E E':Env} {a:Act} (h:EnvOK n E a) (hs:E.sub E'):EnvOK n E' a:=⟨h.size,h.defers,λk s hk=>h.slot k s (hs k s hk)⟩
structure Ext (w w':World):Prop where
 os:w'.os=w.os
 tape:w'.tape=w.tape
 output:w'.output=w.output
 size:w.heap.size<=w'.heap.size
theorem Ext.refl (w:World):Ext w w:=⟨rfl,rfl,rfl,Nat.le_refl _⟩
theorem Ext.trans {a b c:World} (h:Ext a b) (h':Ext b c):Ext a c:=⟨h'.os.trans h.os,h'.tape.trans h.tape,h'.output.trans h.output,Nat.le_trans h.size h'.size⟩
theorem Ext.drew {a b:World} (h:Ext a b):Ext a {b with drawn:=b.drawn+1}:=⟨h.os,h.tape,h.output,h.size⟩

def Fn (P:Program) (f:FuncId) (args:List Value) (Pre:List Atom) (Post:Value->List Atom->Prop):Prop:=
 ∀(F:HP) (w:World),Sep (.hp F::Pre) (hl w)->Calls P f args.toArray w λe w'=>∃v As,e= .returned v/\Post v As/\Sep (.hp F::As) (hl w')/\Ext w w'

def exA {α:Type} (f:α->List Atom):Atom:= .hp ⟨λh=>∃x,Sep (f x) h,λ_ _ l ⟨x,s⟩=>⟨x,s.up l⟩⟩
structure Cx where
 P:Program
 fn:Func
 n:Nat
 R:Ending->World->Prop
 w0:World
abbrev Cl:=List (Nat×Atom)
def CAt (C:Cl) (w:World):Prop:=∀p∈C,p.2.sat (hl w)
inductive KI where
 | code (c:Code)
 | reg (ops:Array Oper) (C:Cl) (t:PT)
 | blk (id:Nat)
 | stop (R:Act->World->Prop)
def KW (X:Cx):List KI->Exit->Act->World->Prop
 | []=>bodyPost X.P X.fn X.R
 | .code c::K=>Exit.then (c.wp X.P (KW X K)) (KW X K)
 | .reg ops C t::K=>Exit.then (pT X.P ops (CAt C) (KW X K .normal) t) (KW X K)
 | .blk id::K=>Exit.inBlock id (KW X K)
 | .stop R::K=>Exit.then R (KW X K)
def J (X:Cx) (K:List KI) (E:Env) (L:List Atom):Prop:=∀a w,Ext X.w0 w->EnvOK X.n E a->Sep L (hl w)->KW X K .normal a w

section
variable {X : Cx} {K : List KI} {E : Env} {L : List Atom}
theorem J.seq {x y:Code} (h:J X (.code x:: .code y::K) E L):J X (.code (.seq x y)::K) E L:=
 λa w hx he hs=>wp_seq (wp_mono (h a w hx he hs) λe a' w' q=>by cases e<;>exact q)
theorem J.skip (h:J X K E L):J X (.code .skip::K) E L:=λa w hx he hs=>wp_skip (h a w hx he hs)
theorem J.block {id:Nat} {c:Code} (h:J X (.code c:: .blk id::K) E L):J X (.code (.block id c)::K) E L:=
 λa w hx he hs=>wp_block (wp_mono (h a w hx he hs) λe a' w' q=>by cases e<;>exact q)
theorem J.blk {id:Nat} (h:J X K E L):J X (.blk id::K) E L:=h
def a2c (id:Nat):List KI->Option (List KI)
 | []=>none
 | .blk id'::K=>match Nat.beq id id' with
  | true=>some K
  | false=>a2c id K
 | _::K=>a2c id K
theorem J1 (X:Cx) (id:Nat) (a:Act) (w:World):∀(K K':List KI),a2c id K=some K'->KW X K' .normal a w->KW X K (.exit id) a w
 | [],K',h,q=>by cases h
 | .blk id'::K,K',h,q=>by
  simp only[a2c]at h;simp only[KW,Exit.inBlock];split at h
  ·rename_i e;have:id=id':=Nat.eq_of_beq_eq_true e;rw[if_pos this];injection h with h;rw[h];exact q
  ·rename_i e;rw[if_neg (λe'=>by subst e';simp at e)];exact J1 X id a w K K' h q
 | .code c::K,K',h,q=>J1 X id a w K K' h q
 | .reg o C t::K,K',h,q=>J1 X id a w K K' h q
 | .stop R::K,K',h,q=>J1 X id a w K K' h q
theorem J.exit {id:Nat} {K':List KI} (hk:a2c id K=some K') (h:J X K' E L):J X (.code (.exit id)::K) E L:=
 λa w hx he hs=>wp_exit (J1 X id a w K K' hk (h a w hx he hs))
theorem J.code_reg {id:Nat} {ops:Array Oper} (h:J X (.reg ops [] (PT.seq 0 ops.size)::K) E L):J X (.code (.region id ops false)::K) E L:=
 λa w hx he hs=>a2s (C:=CAt []) (h a w hx he hs)
theorem J.reg_done {ops:Array Oper} {C:Cl} (h:J X K E L):J X (.reg ops C .done::K) E L:=h
def snap (L:List Atom):List Nat->Cl
 | []=>[]
 | i::is=>(i,L[i]?.getD .emp)::snap L is
theorem CAt.snap {L:List Atom} {w:World} (s:Sep L (hl w)):∀is:List Nat,CAt (snap L is) w
 | []=>by intro p hp;cases hp
 | i::is=>by
  intro p hp;rcases List.mem_cons.1 hp with rfl | hp
  ·cases h:L[i]? with
   | none=>simp[h,Atom.sat]
   | some A=>simpa[h]using s.get h
  ·exact CAt.snap s is p hp
theorem J.plan {id:Nat} {ops:Array Oper} (t:PT) (lt ro:List Nat) (hm:X.P.follows .mixedOrders=true) (ht:t.good ops lt=true) (h:J X (.reg ops (snap L ro) t::K) E L):J X (.code (.region id ops true)::K) E L:=
 λa w hx he hs=>a1g hm t lt ht (CAt.snap (w:={w with drawn:=w.drawn+1}) hs ro) (h a _ hx.drew he hs)
theorem J.alts {ops:Array Oper} {C:Cl} {l l':Bool} {i j:Nat} {t t' m:PT} (h1:J X (.reg ops C (.alt l i t .non)::K) E L) (h2:J X (.reg ops C (.alt l' j t' m)::K) E L):J X (.reg ops C (.alt l i t (.alt l' j t' m))::K) E L:=
 λa w hx he hs=>⟨(h1 a w hx he hs).1,h2 a w hx he hs⟩
theorem J.turn (is:List Nat) (ok:m9 L is=true) {α:Type} {As:α->List Atom} {L':α->List Atom} (ht:∀h',Sep (l8 L is) h'->∃x,Sep (As x) h') (hL:∀x,D0 L is (As x)=some (L' x)) (h:∀x,J X K E (L' x)):J X K E L:=by
 intro a w hx he s;obtain⟨x,s'⟩:=s.turn is ok ht;rw[<- O7 (A6 ok).1 (hL x)]at s';exact h x a w hx he s'
theorem J.turn1 (is:List Nat) (ok:m9 L is=true) {As L':List Atom} (ht:∀h',Sep (l8 L is) h'->Sep As h') (hL:D0 L is As=some L') (h:J X K E L'):J X K E L:=
 λa w hx he s=>h a w hx he (by rw[O7 (A6 ok).1 hL];exact s.turn1 is ok ht)
theorem J.open_ {α:Type} {f:α->List Atom} {L':α->List Atom} (i:Nat) (ok:m9 L [i]=true) (hp:l8 L [i]=[exA f]) (hL:∀x,D0 L [i] (f x)=some (L' x)) (h:∀x,J X K E (L' x)):J X K E L:=
 J.turn [i] ok (λh' s=>by rw[hp]at s;exact s.get (i:=0) rfl) hL h
theorem J.close {α:Type} {f:α->List Atom} {L':List Atom} (x:α) (is:List Nat) (ok:m9 L is=true) (hp:l8 L is=f x) (hL:D0 L is [exA f]=some L') (h:J X K E L'):J X K E L:=
 J.turn1 is ok (λh' s=>by
  rw[hp]at s;exact⟨λ_=>0,λi A hA=>by
   cases i with
   | zero=>simp at hA;subst hA;exact⟨x,s.up λb o hb=>res_some.2 ⟨rfl,hb⟩⟩
   | succ k=>simp at hA⟩) hL h
theorem J.know {p:Prop} (hp:∀h,Sep L h->p) (h:p->J X K E L):J X K E L:=λa w hx he s=>h (hp _ s) a w hx he s
def ev (E:Env):Operand->Option Slot
 | .tmp t=>E.get t
 | .const v=>some ⟨0,v,0, .tt⟩
 | .global g=>some ⟨0, .pointer (some ⟨g,0,none⟩),0, .tt⟩
 | .func f=>some ⟨0, .func (.func f) #[] #[],0, .tt⟩
theorem f7 {n:Nat} {a:Act} (he:EnvOK n E a) {x:Operand} {s:Slot} (h:ev E x=some s):a.eval x=s.val:=by
 cases x with
 | tmp t=>
  have:=he.slot t s h;simp[Act.eval,this]
 | const v=>simp only[ev,Option.some.injEq]at h;subst h;rfl
 | global g=>simp only[ev,Option.some.injEq]at h;subst h;rfl
 | func f=>simp only[ev,Option.some.injEq]at h;subst h;rfl
theorem J.cond {c:Operand} {x y:Code} {k tag:Nat} {b:Bool} (hc:ev E c=some ⟨k, .bool b,tag, .tt⟩) (ht:b=true->J X (.code x::K) E L) (hf:b=false->J X (.code y::K) E L):J X (.code (.cond c x y)::K) E L:=by
 intro a w hx he hs;have h:=f7 he hc;exact wp_cond_split (t:=b) h (λe=>ht e a w hx he hs) (λe=>hf e a w hx he hs)
theorem J.loop {c:Code} {α:Type} (I:α->Prop) (Ei:α->Env) (Li:α->List Atom) (μ:α->Nat) (x0:α) (h0:I x0) (hE:E.sub (Ei x0)) (hL:∀h,Sep L h->Sep (Li x0) h)
  (round:∀x,I x->J X (.code c:: .stop (λa w=>Ext X.w0 w/\∃x',I x'/\μ x'<μ x/\EnvOK X.n (Ei x') a/\Sep (Li x') (hl w))::K) (Ei x) (Li x)):J X (.code (.loop c)::K) E L:=by
 intro a w hx he hs b k cs;have key:∀n,∀x,μ x=n->I x->∀a w,Ext X.w0 w->EnvOK X.n (Ei x) a->Sep (Li x) (hl w)->
   ∃e a' w',KW X K e a' w'/\Arrives X.P (lone (b.at a (.code c:: .inLoop c::k)) cs w) b k cs e a' w':=by
  intro n
  induction n using Nat.strongRecOn with
  | _ n ih=>
   intro x hn hI a w hx he hs;have hr:=round x hI a w hx he hs;simp only[KW]at hr;obtain⟨e,a₁,w₁,hq,harr⟩:=hr b (.inLoop c::k) cs;cases e with
   | normal=>
    obtain⟨hx',x',hI',hlt,he',hs'⟩:=hq;obtain⟨e₂,a₂,w₂,hq₂,harr₂⟩:=ih (μ x') (hn▸hlt) x' rfl hI' a₁ w₁ hx' he' hs';exact⟨e₂,a₂,w₂,hq₂, .of_steps (Steps.trans harr (.one step_inLoop)) harr₂⟩
   | exit id=>exact⟨_,a₁,w₁,hq, .pass (x:= .inLoop c) rfl (λ_ _=> .inl (by simp)) harr⟩
   | goto l=>exact⟨_,a₁,w₁,hq, .pass (x:= .inLoop c) rfl (λ_ _=> .inl (by simp)) harr⟩
   | ret=>exact⟨_,a₁,w₁,hq, .pass (x:= .inLoop c) rfl (λ_ _=> .inl (by simp)) harr⟩
   | panic ch=>exact⟨_,a₁,w₁,hq, .pass (x:= .inLoop c) rfl (λ_ _=> .inl (by simp)) harr⟩
   | outgrown=>exact⟨_,a₁,w₁,hq, .pass (x:= .inLoop c) rfl (λ_ _=> .inl (by simp)) harr⟩
 obtain⟨e,a',w',hq,harr⟩:=key _ x0 rfl h0 a w hx (he.sub hE) (hL _ hs);exact⟨e,a',w',hq, .of_steps (.one step_loop) harr⟩
theorem J.stop {α:Type} {I:α->Prop} {Ei:α->Env} {Li:α->List Atom} {μ:α->Nat} {m:Nat} (x:α) (h1:I x) (h2:μ x<m) (h3:E.sub (Ei x)) (h4:∀h,Sep L h->Sep (Li x) h):
  J X (.stop (λa w=>Ext X.w0 w/\∃x',I x'/\μ x'<m/\EnvOK X.n (Ei x') a/\Sep (Li x') (hl w))::K) E L:=
 λ_ _ hx he hs=>⟨hx,x,h1,h2,he.sub h3,h4 _ hs⟩
end
end Go.Proofs.YtpohajhbfllbbaaGreat
