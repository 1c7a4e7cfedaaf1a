/- Helpers. No condition. -/
import Derived.Test.YtmafiplddapokaaGreatRows
import Derived.Test.YtmafiplddapokaaGreatU00
import Derived.WalkKit
import Derived.WalkSpells
import Derived.WalkLawsBesides
import Derived.BigQuiet
import Derived.Deep.QuietTactic
import Derived.Lib.Hide
import Derived.Maps.AppendAt
import Derived.Deep.AppendLies
import Derived.Deep.RegionHeld3
import Derived.Deep.RegionLaw
import Derived.Deep.MidRow
import Derived.StillTailTactics
import Derived.Deep.DrawnRows
import Derived.Deep.Draws
import Derived.Deep.DeepCutAuto
import Derived.Laws.CopyOwn
import Derived.Laws.ResultCell
import Derived.Defers
set_option maxRecDepth 20000
set_option linter.all false
namespace Go.Proofs.YtmafiplddapokaaGreat
section
namespace L
def set (m:Int):Bool:=decide (0<=m)&&decide (m<256)
def one (d:Int):Int:=if 0<=d/\d<8 then((2^d.toNat:Nat):Int)else 0
def has (m d:Int):Bool:=set m&&(decide (0<=d)&&decide (d<8))&&m.toNat.testBit d.toNat
def all (n:Int):Int:=if 0<=n/\n<=8 then((2^n.toNat-1:Nat):Int)else 0
def with_ (m d:Int):Int:=if set m then((m.toNat||| (one d).toNat:Nat):Int)else 0
def without (m d:Int):Int:=if set m then((m.toNat&&& (255-(one d).toNat):Nat):Int)else 0
def dies (m:Int):List Nat:=if set m then(List.range 8).filter (λd=>m.toNat.testBit d)else[]
def count (m:Int):Nat:=(dies m).length
def at_ (m i:Int):Int:=if 0<=i then(((dies m)[i.toNat]?).map (λ(d:Nat)=>(d:Int))).getD (-1)else-1
def below (m:Int) (k:Nat):Nat:=((List.range 8).filter (λd=>decide (d<k)&&L.has m d)).length
def spot (m d:Int):Int:=if has m d then(below m d.toNat:Int)else-1
theorem set_iff (m:Int):set m=true↔0<=m/\m<256:=by simp[set]
theorem below_dec:∀m,m<256->∀k,k<8->below (m:Nat) (k+1)=below (m:Nat) k+(if has (m:Nat) (k:Nat)then 1 else 0):=by decide+kernel
theorem at_dec:∀m,m<256->∀k,k<8->has (m:Nat) (k:Nat)=true->at_ (m:Nat) (below (m:Nat) k:Nat)=(k:Nat):=by decide+kernel
theorem count_dec:∀m,m<256->below (m:Nat) 8=count (m:Nat)/\below (m:Nat) 0=0/\count (m:Nat)<=8:=by decide+kernel
theorem has_no (m d:Int) (h:¬(0<=m/\m<256)):has m d=false:=by
 have:set m=false:=by rw[Bool.eq_false_iff,H5,set_iff];exact h
 simp[has,this]
theorem below_succ (m:Int) (k:Nat) (hk:k<8):below m (k+1)=below m k+(if has m k then 1 else 0):=by
 by_cases h:0<=m/\m<256
 ·obtain⟨m,rfl⟩:=f9 h.1;exact below_dec m (by omega) k hk
 ·simp[below,has_no _ _ h]
theorem at_below (m:Int) (k:Nat) (hk:k<8) (hh:has m k=true):at_ m (below m k)=k:=by
 by_cases h:0<=m/\m<256
 ·obtain⟨m,rfl⟩:=f9 h.1;exact at_dec m (by omega) k hk hh
 ·rw[has_no _ _ h]at hh;cases hh
theorem count_no (m:Int) (h:¬(0<=m/\m<256)):count m=0:=by
 have:set m=false:=by rw[Bool.eq_false_iff,H5,set_iff];exact h
 simp[count,dies,this]
theorem below_zero (m:Int):below m 0=0:=by simp[below]
theorem below_eight (m:Int):below m 8=count m:=by
 by_cases h:0<=m/\m<256
 ·obtain⟨m,rfl⟩:=f9 h.1;exact(count_dec m (by omega)).1
 ·rw[count_no m h];simp[below,has_no _ _ h]
theorem count_le (m:Int):count m<=8:=by
 by_cases h:0<=m/\m<256
 ·obtain⟨m,rfl⟩:=f9 h.1;exact(count_dec m (by omega)).2.2
 ·rw[count_no m h];omega
theorem at_ge (m i:Int) (h:i<0\/(count m:Int)<=i):at_ m i= -1:=by
 unfold at_;split
 ·rw[j5 (by unfold count at h;omega)];rfl
 ·rfl
theorem has_lt (m d:Int) (h:has m d=true):0<=d/\d<8/\0<=m/\m<256:=by
 simp[has,set]at h;omega
end L
namespace G
def parity (mask block row:Int):Int:=if L.count mask<2\/block<0\/row<0 then-1 else L.at_ mask ((block+row) % L.count mask)
def slots (mask:Int):Int:=if L.count mask<2 then 0 else(L.count mask:Int)-1
def die (mask block row slot:Int):Int:=if parity mask block row<0 then-1 else L.at_ (L.without mask (parity mask block row)) slot
def slot (mask block row die:Int):Int:=if parity mask block row<0 then-1 else L.spot (L.without mask (parity mask block row)) die
end G
namespace K
def round (s:Nat):Nat:=if s<2147483648 then s*2 else(s*2 % 4294967296) ^^^ 1947962583
def rounds:Nat->Nat->Nat
 | 0,s=>s
 | n+1,s=>round (rounds n s)
def step (s x:Nat):Nat:=rounds 8 (s ^^^ (x*16777216))
def sum (l:List UInt8):Nat:=l.foldl (λs x=>step s x.toNat) 4294967295
theorem round_lt (s:Nat) (h:s<4294967296):round s<4294967296:=by
 unfold round;split
 ·omega
 ·exact X4 (n:=32) (by omega) (by omega)
theorem rounds_lt (n s:Nat) (h:s<4294967296):rounds n s<4294967296:=by
 induction n with
 | zero=>exact h
 | succ n ih=>exact round_lt _ ih
theorem step_lt (s x:Nat) (h:s<4294967296) (hx:x<256):step s x<4294967296:=
 rounds_lt 8 _ (X4 (n:=32) (by omega) (by omega))
theorem foldl_lt (l:List UInt8):∀s:Nat,s<4294967296->l.foldl (λs x=>step s x.toNat) s<4294967296:=by
 induction l with
 | nil=>intro s h;exact h
 | cons x l ih=>
  intro s h;have hx:x.toNat<256:=x.toNat_lt;have:=step_lt s x.toNat h hx;rw[A6];exact ih _ this
theorem sum_lt (l:List UInt8):sum l<4294967296:=foldl_lt l _ (by omega)
theorem sum_snoc (b:List UInt8) (k:Nat) (x:UInt8) (hx:b[k]? =some x):sum (b.take (k+1))=step (sum (b.take k)) x.toNat:=by
 rw[D3,hx];simp only[sum,B3,K7,A6,List.foldl_nil]
end K
end
section
open Go.RowKit

theorem b0r {k:IntKind} {a b:Int} (h:a=b):Ending.returned (.int k a)=Ending.returned (.int k b):=by rw[h]

def bv (b:UInt8):Value:= .int .u8 (b.toNat:Int)
def Blk (w:World) (g:Nat) (t:TypeId) (cs:Array Value):Prop:=w.heap[g]? =some (.cells cs t (0,0))
section
variable {w w' : World} {g : Nat} {t : TypeId} {cs : Array Value}
theorem Blk.lt (h:Blk w g t cs):g<w.heap.size:=by
 rcases O7 g w.heap.size with hlt | hge
 ·exact hlt
 ·unfold Blk at h;rw[Q1 hge]at h;cases h
theorem Blk.cell (h:Blk w g t cs) (i:Nat):w.cell? ⟨g,i,none⟩=cs[i]?:=cell_of_row w g i cs t (0,0) h
theorem Blk.frozen (h:Blk w g t cs) (i:Nat):w.frozen? ⟨g,i,none⟩=false:=by
 unfold Blk at h;simp[World.frozen?,h]
theorem Blk.new (w:World) (t:TypeId) (cs:Array Value):Blk (w.alloc (.cells cs t)) w.heap.size t cs:=heap_alloc_new w _
theorem Blk.drew (h:Blk w g t cs):Blk w.drew g t cs:=h
theorem Blk.alloc (h:Blk w g t cs) (o:Obj):Blk (w.alloc o) g t cs:=(Below.heap_alloc w o g h.lt).trans h
theorem Blk.set_ (h:Blk w g t cs) (i:Nat) (u:Value):Blk (w.setCell ⟨g,i,none⟩ u) g t (cs.setIfInBounds i u):=by
 unfold Blk at h ⊢;simp[World.setCell,X9,h]
end
end
section
open Go

abbrev Hl:=Nat->Option Obj
def hl (w:World):Hl:=λb=>w.heap[b]?
def Hle (h h':Hl):Prop:=∀b o,h b=some o->h' b=some o
theorem Hle.trans {a b c:Hl} (h:Hle a b) (h':Hle b c):Hle a c:=λx o e=>h' x o (h x o e)
structure HP where
 sat:Hl->Prop
 up:∀h h',Hle h h'->sat h->sat h'
inductive Atom where
 | emp
 | pt (b:Nat) (t:TypeId) (cs:List Value)
 | ob (b:Nat) (o:Obj)
 | hp (P:HP)
def Atom.sat:Atom->Hl->Prop
 | .emp,_=>True
 | .pt b t cs,h=>h b=some (.cells cs.toArray t (0,0))
 | .ob b o,h=>h b=some o
 | .hp P,h=>P.sat h
theorem Atom.up {A:Atom} {h h':Hl} (l:Hle h h') (s:A.sat h):A.sat h':=by
 cases A with
 | emp=>trivial
 | pt b t cs=>exact l _ _ s
 | ob b o=>exact l _ _ s
 | hp P=>exact P.up _ _ l s
def res (h:Hl) (own:Nat->Nat) (i:Nat):Hl:=λb=>if own b=i then h b else none
theorem res_some {h:Hl} {own:Nat->Nat} {i b:Nat} {o:Obj}:res h own i b=some o↔own b=i/\h b=some o:=by
 unfold res;split<;>simp_all
def Sep (L:List Atom) (h:Hl):Prop:=∃own:Nat->Nat,∀(i:Nat) (A:Atom),L[i]? =some A->A.sat (res h own i)

theorem Sep.up {L:List Atom} {h h':Hl} (l:Hle h h') (s:Sep L h):Sep L h':=by
 obtain⟨own,hs⟩:=s;refine⟨own,λi A hA=>Atom.up (λb o hb=>?_) (hs i A hA)⟩;rw[res_some]at hb ⊢;exact⟨hb.1,l _ _ hb.2⟩
def HP.of (L:List Atom):HP:=⟨Sep L,λ_ _ l s=>s.up l⟩
theorem Sep.nil (h:Hl):Sep [] h:=⟨λ_=>0,λi A hA=>by simp at hA⟩
theorem Sep.get {L:List Atom} {h:Hl} (s:Sep L h) {i:Nat} {A:Atom} (hA:L[i]? =some A):A.sat h:=by
 obtain⟨own,hs⟩:=s;exact Atom.up (λb o hb=>(res_some.1 hb).2) (hs i A hA)
theorem Sep.pt {L:List Atom} {h:Hl} (s:Sep L h) {i b:Nat} {t:TypeId} {cs:List Value} (hA:L[i]? =some (.pt b t cs)):h b=some (.cells cs.toArray t (0,0)):=s.get hA
def U4 (h:Hl) (b:Nat) (o:Obj):Hl:=λx=>if x=b then some o else h x
theorem Sep.set_ {L:List Atom} {h:Hl} (s:Sep L h) {i b:Nat} {o o':Obj} {A A':Atom} (hA:L[i]? =some A) (hs:∀h',A.sat h'->h' b=some o) (hs':∀h',h' b=some o'->A'.sat h'):Sep (L.set i A') (U4 h b o'):=by
 obtain⟨own,hw⟩:=s;have hb:=res_some.1 (hs _ (hw i A hA));have hi:i<L.length:=(List.getElem?_eq_some_iff.1 hA).1;refine⟨own,λj B hB=>?_⟩;rw[z8]at hB;split at hB
 ·rename_i e;injection hB with hB;subst hB;subst e;exact hs' _ (res_some.2 ⟨hb.1,by simp[U4]⟩)
 ·rename_i e;refine Atom.up (λx u hx=>?_) (hw j B hB);rw[res_some]at hx ⊢;refine⟨hx.1,?_⟩;unfold U4;rw[d6]
  ·exact hx.2
  ·rintro rfl;exact e (hb.1.symm.trans hx.1)
theorem Sep.setPt {L:List Atom} {h:Hl} (s:Sep L h) {i b:Nat} {t:TypeId} {cs:List Value} (cs':List Value) (hA:L[i]? =some (.pt b t cs)):Sep (L.set i (.pt b t cs')) (U4 h b (.cells cs'.toArray t (0,0))):=
 s.set_ hA (λ_ e=>e) (λ_ e=>e)
theorem Sep.snoc {L:List Atom} {h:Hl} (s:Sep L h) {n:Nat} {o:Obj} {A:Atom} (hn:h n=none) (hs:∀h',h' n=some o->A.sat h'):Sep (L++[A]) (U4 h n o):=by
 obtain⟨own,hw⟩:=s;refine⟨λb=>if b=n then L.length else own b,λj B hB=>?_⟩;rw[I9]at hB;split at hB
 ·rename_i hj;refine Atom.up (λx u hx=>?_) (hw j B hB);rw[res_some]at hx ⊢;have:x≠n:=by rintro rfl;rw[hn]at hx;cases hx.2
  simp only[this,W0,U4];exact hx
 ·rename_i hj;have:j-L.length=0/\A=B:=by
   match hk:j-L.length with
   | 0=>rw[hk]at hB;simp at hB;exact⟨rfl,hB⟩
   | k+1=>rw[hk]at hB;simp at hB
  obtain⟨h0,rfl⟩:=this;have hj':j=L.length:=by omega
  subst hj';exact hs _ (res_some.2 ⟨by simp,by simp[U4]⟩)

theorem Sep.place {L L':List Atom} {h:Hl} (s:Sep L h) (f g:Nat->Nat) (hf:∀(j:Nat) (A:Atom),L'[j]? =some A->A= .emp\/(L[f j]? =some A/\g (f j)=j)):Sep L' h:=by
 obtain⟨own,hw⟩:=s;refine⟨λb=>g (own b),λj A hA=>?_⟩;rcases hf j A hA with rfl | ⟨h1,h2⟩
 ·trivial
 ·refine Atom.up (λb o hb=>?_) (hw _ _ h1);rw[res_some]at hb ⊢;exact⟨by show g (own b)=j;rw[hb.1];exact h2,hb.2⟩

def N9 (L:List Atom):List Nat->List Atom
 | []=>[]
 | i::is=>(L[i]?.getD .emp)::N9 L is
def a0O:List Atom->List Nat->List Atom
 | L,[]=>L
 | L,i::is=>a0O (L.set i .emp) is
def puts:List Atom->List Nat->List Atom->List Atom
 | L,[],As=>L++As
 | L,_::is,[]=>puts L is []
 | L,i::is,A::As=>puts (L.set i A) is As
theorem a9q (L:List Atom):∀(is:List Nat) (k:Nat) (A:Atom),(N9 L is)[k]? =some A->∃i,is[k]? =some i/\L[i]?.getD .emp=A
 | [],k,A,h=>by simp[N9]at h
 | i::is,0,A,h=>by simp[N9]at h;exact⟨i,rfl,h⟩
 | i::is,k+1,A,h=>by simp only[N9,V5]at h ⊢;exact a9q L is k A h
theorem a9S:∀(is:List Nat) (L:List Atom) (j:Nat) (A:Atom),(a0O L is)[j]? =some A->A= .emp\/(j∉is/\L[j]? =some A)
 | [],L,j,A,h=> .inr ⟨by simp,h⟩
 | i::is,L,j,A,h=>by
  rcases a9S is (L.set i .emp) j A h with h | ⟨h1,h2⟩
  ·exact .inl h
  ·rw[z8]at h2;split at h2
   ·split at h2
    ·simp at h2;exact .inl h2.symm
    ·cases h2
   ·rename_i e;exact .inr ⟨by simp only[H7,not_or];exact⟨λe'=>e e'.symm,h1⟩,h2⟩
theorem a6f:∀(is:List Nat) (L:List Atom) (j:Nat),j∈is->j<L.length->(a0O L is)[j]? =some .emp
 | i::is,L,j,h,hl=>by
  rcases List.mem_cons.1 h with rfl | h
  ·by_cases hj:j∈is
   ·exact a6f is _ j hj (by simpa using hl)
   ·have:∀(is:List Nat) (L:List Atom),j∉is->(a0O L is)[j]? =L[j]?:=by
     intro is
     induction is with
     | nil=>intro L _;rfl
     | cons k ks ih=>
      intro L hn;simp only[H7,not_or]at hn;rw[a0O,ih _ hn.2,z8,d6 (λe=>hn.1 e.symm)]
    rw[a0O,this is _ hj,z8,d8 rfl,d8 hl]
  ·exact a6f is _ j h (by simpa using hl)
theorem Sep.putsOk:∀(is:List Nat) (L As:List Atom) (h:Hl),is.Nodup->(∀i∈is,L[i]? =some .emp)->Sep (L++As) h->Sep (puts L is As) h
 | [],L,As,h,_,_,s=>s
 | i::is,L,[],h,hn,he,s=>Sep.putsOk is L [] h (List.nodup_cons.1 hn).2 (λj hj=>he j (E8 _ hj)) s
 | i::is,L,A::As,h,hn,he,s=>by
  have hil:i<L.length:=(List.getElem?_eq_some_iff.1 (he i (H1 ..))).1;refine Sep.putsOk is (L.set i A) As h (List.nodup_cons.1 hn).2 (λj hj=>?_) ?_
  ·have hne:i≠j:=by rintro rfl;exact(List.nodup_cons.1 hn).1 hj
   rw[z8,d6 hne];exact he j (E8 _ hj)
  ·refine s.place (λj=>if j=i then L.length else if j<L.length then j else j+1) (λx=>if x=L.length then i else if L.length<x then x-1 else x) (λj B hB=> .inr ?_)
   by_cases hji:j=i
   ·subst hji;simp only[d8];refine⟨?_,trivial⟩;rw[D8 (by simpa using hil),z8,d8 rfl,d8 hil]at hB;rw[B2 (i7 _),Z7];exact hB
   ·simp only[d6 hji]
    by_cases hjl:j<L.length
    ·simp only[d8 hjl];refine⟨?_,by rw[d6 (by omega),d6 (by omega)]⟩;rw[D8 (by simpa using hjl),z8,d6 (λe=>hji e.symm)]at hB;rw[D8 hjl];exact hB
    ·simp only[d6 hjl];refine⟨?_,by rw[d6 (by omega),d8 (by omega)];omega⟩;rw[B2 (by simpa using hjl),A7]at hB;rw[B2 (by omega),show j+1-L.length=(j-L.length)+1 from by omega,V5];exact hB
def P4 (L:List Atom) (is:List Nat):Bool:=decide is.Nodup&&is.all (λi=>decide (i<L.length))
theorem a0s {L:List Atom} {is:List Nat} (h:P4 L is=true):is.Nodup/\∀i∈is,i<L.length:=by
 simp only[P4,f7,d5,D9]at h;exact h
theorem Sep.split {L:List Atom} {h:Hl} (s:Sep L h) {is:List Nat} (ok:P4 L is=true):Sep (.hp (HP.of (a0O L is))::N9 L is) h:=by
 obtain⟨own,hw⟩:=s;obtain⟨hn,hi⟩:=a0s ok;refine⟨λb=>if own b∈is then is.idxOf (own b)+1 else 0,λj A hA=>?_⟩;cases j with
 | zero=>
  simp at hA;subst hA;refine⟨own,λi B hB=>?_⟩;rcases a9S is L i B hB with rfl | ⟨h1,h2⟩
  ·trivial
  ·refine Atom.up (λb o hb=>?_) (hw i B h2);rw[res_some]at hb ⊢;refine⟨hb.1,?_⟩;rw[res_some];exact⟨by rw[d6 (by rw[hb.1];exact h1)],hb.2⟩
 | succ k=>
  simp only[V5]at hA;obtain⟨i,h1,h2⟩:=a9q L is k A hA;have him:i∈is:=j8 h1;have hil:=hi i him;rw[c9 hil]at h2;simp at h2;refine Atom.up (λb o hb=>?_) (hw i A (by rw[c9 hil,h2]));rw[res_some]at hb ⊢;refine⟨?_,hb.2⟩;rw[hb.1,d8 him];obtain⟨hk,e⟩:=List.getElem?_eq_some_iff.1 h1;rw[<- e,hn.idxOf_getElem]
theorem Sep.flat {L As:List Atom} {h:Hl} (s:Sep (.hp (HP.of L)::As) h):Sep (L++As) h:=by
 obtain⟨own,hw⟩:=s;obtain⟨own2,hw2⟩:=hw 0 _ rfl;refine⟨λb=>if own b=0 then own2 b else L.length+own b-1,λj A hA=>?_⟩;rw[I9]at hA;split at hA
 ·refine Atom.up (λb o hb=>?_) (hw2 j A hA);rw[res_some]at hb ⊢;have:=res_some.1 hb.2;exact⟨by rw[d8 this.1];exact hb.1,this.2⟩
 ·rename_i hj;refine Atom.up (λb o hb=>?_) (hw (j-L.length+1) A (by simpa using hA));rw[res_some]at hb ⊢;exact⟨by rw[d6 (by omega),hb.1];omega,hb.2⟩
theorem Sep.back {L As:List Atom} {h:Hl} {is:List Nat} (ok:P4 L is=true) (s:Sep (.hp (HP.of (a0O L is))::As) h):Sep (puts (a0O L is) is As) h:=by
 obtain⟨hn,hi⟩:=a0s ok;exact Sep.putsOk is _ As h hn (λi hm=>a6f is L i hm (hi i hm)) s.flat
theorem Sep.turn {L:List Atom} {h:Hl} (s:Sep L h) (is:List Nat) (ok:P4 L is=true) {α:Type} {As:α->List Atom} (ht:∀h',Sep (N9 L is) h'->∃x,Sep (As x) h'):∃x,Sep (puts (a0O L is) is (As x)) h:=by
 obtain⟨own,hw⟩:=s.split ok;have h1:Sep (N9 L is) (λb=>if own b=0 then none else h b):=by
  refine⟨λb=>own b-1,λj A hA=>Atom.up (λb o hb=>?_) (hw (j+1) A (by simpa using hA))⟩;rw[res_some]at hb ⊢;exact⟨by show own b-1=j;omega,by rw[d6 (by omega)];exact hb.2⟩
 obtain⟨x,own2,h2⟩:=ht _ h1;refine⟨x,Sep.back ok ⟨λb=>if own b=0 then 0 else own2 b+1,λj A hA=>?_⟩⟩;cases j with
 | zero=>
  simp at hA;subst hA;refine Atom.up (λb o hb=>?_) (hw 0 _ rfl);rw[res_some]at hb ⊢;exact⟨by rw[d8 hb.1],hb.2⟩
 | succ k=>
  refine Atom.up (λb o hb=>?_) (h2 k A (by simpa using hA));rw[res_some]at hb ⊢
  by_cases e:own b=0
  ·rw[d8 e]at hb;cases hb.2
  ·rw[d6 e]at hb ⊢;exact⟨by rw[hb.1],hb.2⟩
theorem Sep.turn1 {L:List Atom} {h:Hl} (s:Sep L h) (is:List Nat) (ok:P4 L is=true) {As:List Atom} (ht:∀h',Sep (N9 L is) h'->Sep As h'):Sep (puts (a0O L is) is As) h:=
 let⟨_,r⟩:=s.turn is ok (α:=Unit) (As:=λ_=>As) (λh' s'=>⟨(),ht h' s'⟩)
 r
def a9B {α:Type}:List α->Option (List α)
 | []=>some []
 | x::r=>match a9B r with
  | some r'=>some (x::r')
  | none=>none
def U3 {α:Type}:List α->Nat->α->Option (List α)
 | [],_,_=>some []
 | x::r,k,y=>match k with
  | 0=>match a9B r with
   | some r'=>some (y::r')
   | none=>none
  | k+1=>match U3 r k y with
   | some r'=>some (x::r')
   | none=>none
def b9A {α:Type}:List α->List α->Option (List α)
 | [],l=>a9B l
 | x::r,l=>match b9A r l with
  | some r'=>some (x::r')
  | none=>none
theorem a8g {α:Type}:∀{l m:List α},a9B l=some m->m=l
 | [],m,h=>by simp only[a9B,l6]at h;exact h.symm
 | x::r,m,h=>by
  simp only[a9B]at h;split at h
  ·rename_i r' hr;injection h with h;subst h;rw[a8g hr]
  ·cases h
theorem T8 {α:Type}:∀{l m:List α} {k:Nat} {y:α},U3 l k y=some m->m=l.set k y
 | [],m,k,y,h=>by simp only[U3,l6]at h;subst h;simp
 | x::r,m,0,y,h=>by
  simp only[U3]at h;split at h
  ·rename_i r' hr;injection h with h;subst h;rw[a8g hr];rfl
  ·cases h
 | x::r,m,k+1,y,h=>by
  simp only[U3]at h;split at h
  ·rename_i r' hr;injection h with h;subst h;rw[T8 hr];rfl
  ·cases h
theorem b3S {α:Type}:∀{l l' m:List α},b9A l l'=some m->m=l++l'
 | [],l',m,h=>a8g h
 | x::r,l',m,h=>by
  simp only[b9A]at h;split at h
  ·rename_i r' hr;injection h with h;subst h;rw[b3S hr];rfl
  ·cases h
def a0W:List Atom->List Nat->List Atom->Option (List Atom)
 | L,[],As=>b9A L As
 | L,i::is,[]=>match U3 L i .emp with
  | some L'=>a0W L' is []
  | none=>none
 | L,i::is,A::As=>match U3 L i A with
  | some L'=>a0W L' is As
  | none=>none
theorem a9R:∀(is:List Nat) (L:List Atom) (i:Nat) (A B:Atom),i∉is->(a0O (L.set i B) is).set i A=a0O (L.set i A) is
 | [],L,i,A,B,_=>by simp[a0O]
 | j::is,L,i,A,B,h=>by
  simp only[H7,not_or]at h;simp only[a0O];rw[List.set_comm _ _ h.1,a9R is _ i A B h.2,<- List.set_comm _ _ h.1]
theorem a2W:∀{is:List Nat} {L As L':List Atom},is.Nodup->a0W L is As=some L'->L'=puts (a0O L is) is As
 | [],L,As,L',_,h=>by simp only[a0W]at h;exact b3S h
 | i::is,L,[],L',hn,h=>by
  obtain⟨h1,h2⟩:=List.nodup_cons.1 hn;simp only[a0W]at h;split at h
  ·rename_i L1 hL;rw[T8 hL]at h;have:=a2W h2 h;exact this
  ·cases h
 | i::is,L,A::As,L',hn,h=>by
  obtain⟨h1,h2⟩:=List.nodup_cons.1 hn;simp only[a0W]at h;split at h
  ·rename_i L1 hL;rw[T8 hL]at h;simp only[puts,a0O];rw[a9R _ _ _ _ _ h1];have:=a2W h2 h;exact this
  ·cases h
theorem Sep.hpOf {L:List Atom} {h:Hl}:Sep [.hp (HP.of L)] h↔Sep L h:=
 ⟨λs=>by have:=s.flat;rwa [m6]at this,λs=>⟨λ_=>0,λi A hA=>by
  cases i with
  | zero=>simp at hA;subst hA;exact Sep.up (λb o hb=>res_some.2 ⟨rfl,hb⟩) s
  | succ k=>simp at hA⟩⟩

section
variable {P : Program} {ops : Array Oper}
def safe (P:Program) (o:Oper) (a:Act) (K:Act->World->Prop):Result Next->Prop
 | .ok (.value v) w'=>K (a.put o.dst v) w'
 | .ok .skip w'=>K (a.put o.dst undef) w'
 | .ok (.enter f args) w'=>Calls P f args w' λe w''=>∃v,e= .returned v/\K (a.put o.dst v) w''
 | _=>False
def sOp (P:Program) (ops:Array Oper) (o:Oper) (K:Act->World->Prop) (a:Act) (w:World):Prop:=
 if Region.wanted o (yielded ops a.tmps)=true then safe P o a K ((execOp a.eval o).run P w)else K (a.put o.dst undef) w
theorem safe.mono {o:Oper} {a:Act} {K K':Act->World->Prop} (h:∀a w,K a w->K' a w) {r:Result Next} (s:safe P o a K r):safe P o a K' r:=by
 cases r with
 | ok n w=>
  cases n with
  | value v=>exact h _ _ s
  | skip=>exact h _ _ s
  | enter f args=>exact Calls.mono s λe w' ⟨v,he,hk⟩=>⟨v,he,h _ _ hk⟩
  | _=>exact s.elim
 | halt x w=>exact s.elim
theorem sOp.mono {o:Oper} {a:Act} {w:World} {K K':Act->World->Prop} (h:∀a w,K a w->K' a w) (s:sOp P ops o K a w):sOp P ops o K' a w:=by
 unfold sOp at*;split
 ·rename_i hw;rw[d8 hw]at s;exact s.mono h
 ·rename_i hw;rw[d6 hw]at s;exact h _ _ s
theorem safe.wp {o:Oper} {a:Act} {w:World} {K:Act->World->Prop} {Q:Exit->Act->World->Prop} (s:safe P o a K ((execOp a.eval o).run P w)):o.wp P a w K Q:=by
 unfold Oper.wp;generalize(execOp a.eval o).run P w=r at*;cases r with
 | ok n w=>
  cases n with
  | value v=>exact s
  | skip=>exact s
  | enter f args=>exact Calls.mono s λe w' ⟨v,he,hk⟩=>by subst he;exact hk
  | _=>exact s.elim
 | halt x w=>exact s.elim
theorem sOp.wpOp {i:Nat} {o:Oper} (hi:ops[i]? =some o) {a:Act} {w:World} {K:Act->World->Prop} {Q:Exit->Act->World->Prop} (s:sOp P ops o K a w):wpOp P ops Q i K a w:=by
 unfold sOp at s;unfold Go.wpOp;simp only[hi];split
 ·rename_i hw;rw[d8 hw]at s;exact .inl s.wp
 ·rename_i hw;rw[d6 hw]at s;exact s

def YldIn (P:Program) (ops:Array Oper) (C:World->Prop) (o:Oper) (v:Value) (a:Act):Prop:=
 (Region.wanted o (yielded ops a.tmps)=true/\∀w,C w->(execOp a.eval o).run P w= .ok (.value v) w)\/
 (Region.wanted o (yielded ops a.tmps)=false/\v=undef)
theorem YldIn.sOp {C:World->Prop} {o:Oper} {v:Value} {a:Act} {w:World} {K:Act->World->Prop} (hy:YldIn P ops C o v a) (hC:C w) (h:K (a.put o.dst v) w):sOp P ops o K a w:=by
 unfold Go.Proofs.YtmafiplddapokaaGreat.sOp;rcases hy with⟨hw,hv⟩ | ⟨hw,rfl⟩
 ·rw[d8 hw,hv w hC];exact h
 ·rw[d6 (by rw[hw];simp)];exact h
theorem YldIn.of_same {C:World->Prop} {o:Oper} {v:Value} {a a':Act} (hy:YldIn P ops C o v a) (he:execOp a'.eval o=execOp a.eval o)
  (hw:Region.wanted o (yielded ops a'.tmps)=Region.wanted o (yielded ops a.tmps)):YldIn P ops C o v a':=by
 unfold YldIn at*;rw[he,hw];exact hy
def waits (ops:Array Oper) (j i:Nat):Bool:=match ops[j]? with
 | some o=>o.after.any λe=>Region.binds .any e&&e.on==i
 | none=>false
theorem c0e {j i:Nat} {listed:Array Bool} (h:waits ops j i=true) (hj:j∈Region.ready .any ops listed):listed.getD i false=true:=by
 obtain⟨_,o,ho,hall⟩:=mem_ready.1 hj;simp only[waits,ho]at h;obtain⟨e,he,hb⟩:=Array.any_eq_true'.1 h;simp only[f7,A4]at hb;rw[<- hb.2];exact hall e he hb.1
def Shut (ops:Array Oper) (listed:Array Bool):Prop:=∀(a:Nat) (o:Oper),ops[a]? =some o->listed.getD a false=true->∀e∈o.after,Region.binds .any e=true->listed.getD e.on false=true
def a2r (ops:Array Oper):Nat->Nat->Nat->Bool
 | 0,j,i=>waits ops j i
 | n+1,j,i=>waits ops j i||match ops[j]? with
  | some o=>o.after.any λe=>Region.binds .any e&&a2r ops n e.on i
  | none=>false
theorem b4r {listed:Array Bool} (hs:Shut ops listed) {i:Nat}:∀(n j:Nat),(∀o,ops[j]? =some o->∀e∈o.after,Region.binds .any e=true->listed.getD e.on false=true)->a2r ops n j i=true->listed.getD i false=true:=by
 have h0:∀j,(∀o,ops[j]? =some o->∀e∈o.after,Region.binds .any e=true->listed.getD e.on false=true)->waits ops j i=true->listed.getD i false=true:=λj hj h=>by
  unfold waits at h;split at h
  ·rename_i o ho;obtain⟨e,he,hb⟩:=Array.any_eq_true'.1 h;simp only[f7,A4]at hb;rw[<- hb.2];exact hj o ho e he hb.1
  ·cases h
 intro n
 induction n with
 | zero=>exactλj hj h=>h0 j hj h
 | succ n ih=>
  intro j hj h;simp only[a2r,j6]at h;rcases h with h | h
  ·exact h0 j hj h
  ·split at h
   ·rename_i o ho;obtain⟨e,he,hb⟩:=Array.any_eq_true'.1 h;simp only[f7]at hb;exact ih e.on (λo' ho' e' he' hb'=>hs e.on o' ho' (hj o ho e he hb.1) e' he' hb') hb.2
   ·cases h
theorem a4O {j i n:Nat} {listed:Array Bool} (hs:Shut ops listed) (h:a2r ops n j i=true) (hj:j∈Region.ready .any ops listed):listed.getD i false=true:=by
 obtain⟨_,o,ho,hall⟩:=mem_ready.1 hj;refine b4r hs n j (λo' ho' e he hb=>?_) h;have:o'=o:=by rw[ho]at ho';injection ho' with e;exact e.symm
 subst this;exact hall e he hb
theorem b9N {listed:Array Bool} {x:Nat} (j:Nat) (h:listed.getD x false=true):(listed.setIfInBounds j true).getD x false=true:=by
 rcases O7 x listed.size with hx | hx
 ·by_cases e:j=x
  ·subst e;simp[hx]
  ·rw[getD_set_ne false e];exact h
 ·simp[Q1 hx]at h
theorem Shut.set {listed:Array Bool} (hs:Shut ops listed) {j:Nat} (hj:j∈Region.ready .any ops listed):Shut ops (listed.setIfInBounds j true):=by
 intro a o ho ha e he hb;refine b9N j ?_
 by_cases e1:j=a
 ·subst e1;obtain⟨_,o',ho',hall⟩:=mem_ready.1 hj;have:o'=o:=by rw[ho]at ho';injection ho' with e;exact e.symm
  subst this;exact hall e he hb
 ·rw[getD_set_ne false e1]at ha;exact hs a o ho ha e he hb
theorem Shut.none (n:Nat):Shut ops (Array.replicate n false):=by
 intro a o ho ha;rcases O7 a n with h | h
 ·simp[h]at ha
 ·simp[Q1,h]at ha
def sAny (P:Program) (ops:Array Oper) (lt:List Nat) (C:World->Prop) (K:Act->World->Prop):Nat->Array Bool->Act->World->Prop
 | 0,listed,a,w=>Region.ready .any ops listed=[]/\K a w
 | fuel+1,listed,a,w=>
  (Region.ready .any ops listed=[]->K a w)/\
  ∀i∈Region.ready .any ops listed,∃o,ops[i]? =some o/\sOp P ops o (λa' w'=>(i∉lt->C w')/\sAny P ops lt C K fuel (listed.setIfInBounds i true) a' w') a w
theorem sAny.wpAny {lt:List Nat} {C:World->Prop} {K:Act->World->Prop} {Q:Exit->Act->World->Prop} (hK:∀a w,K a w->Q .normal a w):∀(fuel:Nat) (listed:Array Bool) (a:Act) (w:World),sAny P ops lt C K fuel listed a w->wpAny P .any ops Q fuel listed a w:=by
 intro fuel
 induction fuel with
 | zero=>intro listed a w s;exact⟨s.1,hK _ _ s.2⟩
 | succ fuel ih=>
  intro listed a w s;refine⟨λh=>hK _ _ (s.1 h),λi hi=>?_⟩;obtain⟨o,ho,hs⟩:=s.2 i hi;exact(hs.mono (λa' w' h=>ih _ _ _ h.2)).wpOp ho
theorem b3A {oi oj:Oper} {C:World->Prop} {v:Value} (hap:oi.apart ops oj=true)
  (hsi:∀cs b,oi.op≠ .select cs b) (hsj:∀cs b,oj.op≠ .select cs b) {K:Act->World->Prop} {a:Act} {w:World}
  (hy:YldIn P ops C oi v a) (h:sOp P ops oj K (a.put oi.dst v) w):
  sOp P ops oj (λa' w'=>YldIn P ops C oi v a'/\K (a'.put oi.dst v) w') a w:=by
 obtain⟨h1,h2,h3⟩:=Oper.apart_spec hap;have keep:∀(a:Act),YldIn P ops C oi v a->∀u,YldIn P ops C oi v (a.put oj.dst u):=λa hy u=>
  hy.of_same (execOp_put oi hsi a oj.dst u h3) (wanted_put oi a oj.dst u h3)
 unfold sOp at*;rw[wanted_put oj a oi.dst v h1,execOp_put oj hsj a oi.dst v h1]at h;split
 ·rename_i hw;rw[d8 hw]at h;generalize(execOp a.eval oj).run P w=r at*;cases r with
  | ok n w'=>
   cases n with
   | value u=>exact⟨keep a hy u,by rw[<- Act.put_comm a v u h2];exact h⟩
   | skip=>exact⟨keep a hy _,by rw[<- Act.put_comm a v undef h2];exact h⟩
   | enter f args=>exact Calls.mono h λe w'' ⟨u,he,hk⟩=>⟨u,he,keep a hy u,by rw[<- Act.put_comm a v u h2];exact hk⟩
   | _=>exact h.elim
  | halt x w'=>exact h.elim
 ·rename_i hw;rw[d6 hw]at h;exact⟨keep a hy _,by rw[<- Act.put_comm a v undef h2];exact h⟩
theorem a7D {lt:List Nat} {C D:World->Prop} {K:Act->World->Prop} {i:Nat} {oi:Oper} {v:Value} (hi:ops[i]? =some oi) (hsel:∀(j:Nat) (o:Oper) cs b,ops[j]? =some o->o.op≠ .select cs b)
  (hD:(i∉lt/\(∀w,C w->D w)/\∀j∈lt,a2r ops 3 j i=true)\/(i∈lt/\∀w,D w)):
  ∀(fuel:Nat) (listed:Array Bool) (a:Act) (w:World),Shut ops listed->
   (∀j oj,ops[j]? =some oj->j≠i->listed.getD j true=false->(∀e∈oj.after,Region.binds .any e=true->e.on≠i)->oi.apart ops oj=true)->
   i∈Region.ready .any ops listed->YldIn P ops D oi v a->D w->(i∉lt->C w)->
   sAny P ops lt C K fuel (listed.setIfInBounds i true) (a.put oi.dst v) w->sAny P ops lt C K (fuel+1) listed a w:=by
 intro fuel
 induction fuel with
 | zero=>
  intro listed a w _ _ hr hy hDw hC H;refine⟨λh=>(by rw[h]at hr;cases hr),λj hj=>?_⟩
  by_cases hji:j=i
  ·subst hji;exact⟨oi,hi,hy.sOp hDw ⟨hC,H⟩⟩
  ·have:=ready_mono hj hji;rw[H.1]at this;cases this
 | succ fuel ih=>
  intro listed a w hsh hfree hr hy hDw hC H;refine⟨λh=>(by rw[h]at hr;cases hr),λj hj=>?_⟩
  by_cases hji:j=i
  ·subst hji;exact⟨oi,hi,hy.sOp hDw ⟨hC,H⟩⟩
  ·obtain⟨oj,hoj,h1⟩:=H.2 j (ready_mono hj hji);obtain⟨hjun,oj',hoj',hall⟩:=mem_ready.1 hj;have:oj'=oj:=by rw[hoj]at hoj';injection hoj' with e;exact e.symm
   subst this;have hiun:listed.getD i false≠true:=λh1=>by
    have h0:=(mem_ready.1 hr).1;rcases O7 i listed.size with h' | h'
    ·simp[h']at h0 h1;rw[h0]at h1;cases h1
    ·simp[Q1 h']at h1
   have hnot:∀e∈oj'.after,Region.binds .any e=true->e.on≠i:=λe he hb heq=>hiun (heq▸hall e he hb);have h2:=b3A (hfree j oj' hoj hji hjun hnot) (λcs b=>hsel i oi cs b hi) (λcs b=>hsel j oj' cs b hoj) hy h1;have hfree':∀k ok,ops[k]? =some ok->k≠i->(listed.setIfInBounds j true).getD k true=false->
     (∀e∈ok.after,Region.binds .any e=true->e.on≠i)->oi.apart ops ok=true:=λk ok hk hki hun hno=>by
    refine hfree k ok hk hki ?_ hno
    by_cases hjk:j=k
    ·subst hjk;exact hjun
    ·rw[getD_set_ne true hjk]at hun;exact hun
   refine⟨oj',hoj,h2.mono λa' w' ⟨hy',hC',h3⟩=>⟨hC',?_⟩⟩;have hdc:D w'/\(i∉lt->C w'):=by
    rcases hD with⟨hil,hCD,hw⟩ | ⟨hil,hd⟩
    ·have hjl:j∉lt:=λh=>hiun (a4O hsh (hw j h) hj);exact⟨hCD _ (hC' hjl),λ_=>hC' hjl⟩
    ·exact⟨hd _,λh=>absurd hil h⟩
   refine ih (listed.setIfInBounds j true) a' w' (hsh.set hj) hfree' (ready_mono hr (Ne.symm hji)) hy' hdc.1 hdc.2 ?_;rw[Array.setIfInBounds_comm _ _ hji];exact h3
theorem a9j {lt:List Nat} {C:World->Prop} {K:Act->World->Prop} {listed:Array Bool} {a:Act} {w:World} (hr:Region.ready .any ops listed=[]) (h:K a w):
  ∀fuel,sAny P ops lt C K fuel listed a w
 | 0=>⟨hr,h⟩
 | _+1=>⟨λ_=>h,by rw[hr];simp⟩

inductive PT where
 | done
 | take (p:Bool) (i:Nat) (t:PT)
 | alt (l:Bool) (i:Nat) (t more:PT)
 | non
def pT (P:Program) (ops:Array Oper) (C:World->Prop) (K:Act->World->Prop):PT->Act->World->Prop
 | .done,a,w=>K a w
 | .take p i t,a,w=>∃o v,ops[i]? =some o/\YldIn P ops (λw=>p=false->C w) o v a/\pT P ops C K t (a.put o.dst v) w
 | .alt l i t m,a,w=>(∃o,ops[i]? =some o/\sOp P ops o (λa' w'=>(l=false->C w')/\pT P ops C K t a' w') a w)/\pT P ops C K m a w
 | .non,_,_=>True
def PT.heads:PT->List Nat
 | .alt _ i _ m=>i::m.heads
 | _=>[]
def PT.allLt (lt:List Nat):PT->Bool
 | .done=>true
 | .take p i t=>p&&lt.contains i&&t.allLt lt
 | .alt l i t m=>l&&lt.contains i&&t.allLt lt&&m.allLt lt
 | .non=>true
def PT.ok (ops:Array Oper) (lt:List Nat):PT->Bool->Nat->Array Bool->Bool
 | .done,false,_,listed=>(Region.ready .any ops listed).isEmpty
 | .take p i t,false,n+1,listed=>(Region.ready .any ops listed).contains i&&Region.free .any ops listed i&&t.ok ops lt false n (listed.setIfInBounds i true)&&(p|| !lt.contains i)
 | .alt l i t m,fl,n+1,listed=>t.ok ops lt false n (listed.setIfInBounds i true)&&m.ok ops lt true (n+1) listed&&(fl||(!(Region.ready .any ops listed).isEmpty&&(Region.ready .any ops listed).all λj=>(PT.heads (.alt l i t m)).contains j))&&(lt.contains i==l)&&(!l||t.allLt lt)&&(Region.ready .any ops listed).contains i
 | .non,true,_,_=>true
 | _,_,_,_=>false
theorem PT.sound {lt:List Nat} {C:World->Prop} {K:Act->World->Prop} (hs:Region.noSelect ops=true) (hlt:∀j∈lt,∀i,i<ops.size->i∉lt->a2r ops 3 j i=true):∀(t:PT) (fl:Bool) (n:Nat) (listed:Array Bool) (a:Act) (w:World),Shut ops listed->t.ok ops lt fl n listed=true->(t.allLt lt=false->C w)->pT P ops C K t a w->
  (fl=false->sAny P ops lt C K n listed a w)/\(∀i∈t.heads,∃o,ops[i]? =some o/\∃m,n=m+1/\sOp P ops o (λa' w'=>(i∉lt->C w')/\sAny P ops lt C K m (listed.setIfInBounds i true) a' w') a w)
 | .done,fl,n,listed,a,w,hsh,h,hC,hp=>by
  cases fl with
  | true=>simp[PT.ok]at h
  | false=>exact⟨λ_=>a9j (by simpa[PT.ok]using h) hp n,by simp[PT.heads]⟩
 | .take p i t,fl,n,listed,a,w,hsh,h,hC,hp=>by
  cases fl with
  | true=>simp[PT.ok]at h
  | false=>
   cases n with
   | zero=>simp[PT.ok]at h
   | succ n=>
    simp only[PT.ok,f7]at h;obtain⟨⟨⟨hr,hf⟩,ht⟩,hp2⟩:=h;refine⟨λ_=>?_,by simp[PT.heads]⟩;obtain⟨o,v,hi,hy,hp⟩:=hp;have hisz:i<ops.size:=(Array.getElem?_eq_some_iff.1 hi).1
    by_cases hil:i∈lt
    ·have hpt:p=true:=by simpa[hil]using hp2
     subst hpt;refine a7D hi (Region.noSelect_spec hs) (.inr ⟨hil,λw h=>by cases h⟩) n listed a w hsh (Region.free_spec hi hf) (by simpa using hr) hy (λh=>by cases h) (λh=>absurd hil h) ((PT.sound hs hlt t false n _ _ w (hsh.set (by simpa using hr)) ht (λhe=>hC ?_) hp).1 rfl);simp[PT.allLt,he]
    ·have hCw:C w:=hC (by simp[PT.allLt,hil]);exact a7D hi (Region.noSelect_spec hs) (.inl ⟨hil,λw h _=>h,λj hj=>hlt j hj i hisz hil⟩) n listed a w hsh (Region.free_spec hi hf) (by simpa using hr) hy (λ_=>hCw) (λ_=>hCw) ((PT.sound hs hlt t false n _ _ w (hsh.set (by simpa using hr)) ht (λ_=>hCw) hp).1 rfl)
 | .alt l i t m,fl,n,listed,a,w,hsh,h,hC,hp=>by
  cases n with
  | zero=>simp[PT.ok]at h
  | succ n=>
   simp only[PT.ok,f7]at h;obtain⟨⟨⟨⟨⟨ht,hm⟩,hall⟩,hl⟩,hlate⟩,hrd⟩:=h;obtain⟨⟨o,hi,hp⟩,hpm⟩:=hp;have hl':l=true↔i∈lt:=by
    have:=a4m hl;rw[<- this];simp
   have hmm:=(PT.sound hs hlt m true (n+1) listed a w hsh hm (λhe=>hC (by simp[PT.allLt,he])) hpm).2;have hheads:∀j∈PT.heads (.alt l i t m),∃o,ops[j]? =some o/\∃m,n+1=m+1/\sOp P ops o (λa' w'=>(j∉lt->C w')/\sAny P ops lt C K m (listed.setIfInBounds j true) a' w') a w:=by
    intro j hj;rcases List.mem_cons.1 hj with rfl | hj
    ·refine⟨o,hi,n,rfl,hp.mono λa' w' hh=>⟨λhn=>hh.1 ?_,(PT.sound hs hlt t false n _ a' w' (hsh.set (by simpa using hrd)) ht (λhe=>hh.1 ?_) hh.2).1 rfl⟩⟩
     ·cases l with
      | false=>rfl
      | true=>exact absurd (hl'.1 rfl) hn
     ·cases l with
      | false=>rfl
      | true=>simp only[a1Z,D2]at hlate;rw[hlate]at he;cases he
    ·exact hmm j hj
   refine⟨λhfl=>?_,hheads⟩;subst hfl;simp only[D2,f7,D9]at hall;refine⟨λh0=>absurd hall.1 (by simp[h0]),λj hj=>?_⟩;obtain⟨o,h1,m',h2,h3⟩:=hheads j (by simpa using hall.2 j hj);have:m'=n:=by omega
   subst this;exact⟨o,h1,h3⟩
 | .non,fl,n,listed,a,w,hsh,h,hC,hp=>by
  cases fl with
  | true=>exact⟨(λh=>by cases h),by simp[PT.heads]⟩
  | false=>simp[PT.ok]at h
def PT.seq:Nat->Nat->PT
 | _,0=> .done
 | k,n+1=> .alt true k (PT.seq (k+1) n) .non
theorem b6N {C:World->Prop} {K:Act->World->Prop} {Q:Exit->Act->World->Prop} (hK:∀a w,K a w->Q .normal a w):∀(n k:Nat) (a:Act) (w:World),pT P ops C K (PT.seq k n) a w->wpOps P ops Q (List.range' k n) a w
 | 0,k,a,w,h=>hK _ _ h
 | n+1,k,a,w,h=>by
  obtain⟨⟨o,hi,hs⟩,_⟩:=h;rw[List.range'_succ,wpOps_cons];exact(hs.mono λa' w' hh=>b6N hK n (k+1) a' w' hh.2).wpOp hi
end
theorem a8H {P:Program} {id:Nat} {ops:Array Oper} {C:World->Prop} {Q:Exit->Act->World->Prop} {a:Act} {w:World} (h:pT P ops C (Q .normal) (PT.seq 0 ops.size) a w):(Code.region id ops false).wp P Q a w:=
 wp_region (by rw[List.range_eq_range'];exact b6N (λ_ _ h=>h) _ _ _ _ h)
def PT.of:List Nat->PT
 | []=> .done
 | x::r=>match x % 4 with
  | 0=> .take true (x/4) (PT.of r)
  | 1=> .take false (x/4) (PT.of r)
  | 2=> .alt false (x/4) (PT.of r) .non
  | _=> .alt true (x/4) (PT.of r) .non
def PT.good (ops:Array Oper) (lt:List Nat) (t:PT):Bool:=Region.noSelect ops&&lt.all (λj=>(List.range ops.size).all λi=>lt.contains i||a2r ops 3 j i)&&t.ok ops lt false ops.size (Array.replicate ops.size false)
theorem a7m {P:Program} {id:Nat} {ops:Array Oper} {C:World->Prop} {Q:Exit->Act->World->Prop} {a:Act} {w:World} (hm:P.follows .mixedOrders=true) (t:PT) (lt:List Nat) (ht:t.good ops lt=true) (hC:C {w with drawn:=w.drawn+1})
  (h:pT P ops C (Q .normal) t a {w with drawn:=w.drawn+1}):(Code.region id ops true).wp P Q a w:=by
 simp only[PT.good,f7,D9,J5]at ht;obtain⟨⟨h1,h2⟩,h3⟩:=ht;refine wp_region_any hm (sAny.wpAny (λ_ _ h=>h) _ _ _ _ ((PT.sound h1 (lt:=lt) (λj hj i hi hn=>?_) t false _ _ a _ (Shut.none _) h3 (λ_=>hC) h).1 rfl));have:=h2 j hj i hi;simpa[hn]using this

inductive G where
 | tt
 | when (b:Bool)
def G.on:G->Bool
 | .tt=>true
 | .when b=>b
structure Slot where
 k:Nat
 v:Value
 tag:Nat
 g:G
def Slot.val (s:Slot):Value:=match s.g.on with
 | true=>s.v
 | false=>undef
abbrev Env:=List Slot
def Env.get:Env->Nat->Option Slot
 | [],_=>none
 | s::r,k=>match Nat.beq s.k k with
  | true=>some s
  | false=>Env.get r k
structure EnvOK (n:Nat) (E:Env) (a:Act):Prop where
 size:a.tmps.size=n
 defers:a.defers=[]
 slot:∀k s,E.get k=some s->a.tmps[k]? =some s.val
theorem EnvOK.put {n:Nat} {E:Env} {a:Act} (h:EnvOK n E a) {d:Nat} (hd:d<n) (v:Value) (tag:Nat) (g:G) (u:Value) (hu:u=Slot.val ⟨d,v,tag,g⟩):EnvOK n (⟨d,v,tag,g⟩::E) (a.put (some d) u):=by
 refine⟨by simp[Act.put,h.size],h.defers,λk s hk=>?_⟩;simp only[Env.get]at hk;split at hk
 ·rename_i e;have:d=k:=C8 e;subst this;injection hk with hk;subst hk;subst hu;simp[Act.put,h.size,hd]
 ·rename_i e;have:d≠k:=λe'=>by subst e';simp at e
  simp only[Act.put];rw[Array.getElem?_setIfInBounds_ne this];exact h.slot k s hk
def Env.sub (E E':Env):Prop:=∀k s,E'.get k=some s->E.get k=some s
theorem EnvOK.sub {n:Nat} {E E':Env} {a:Act} (h:EnvOK n E a) (hs:E.sub E'):EnvOK n E' a:=⟨h.size,h.defers,λk s hk=>h.slot k s (hs k s hk)⟩
structure Ext (w w':World):Prop where
 os:w'.os=w.os
 tape:w'.tape=w.tape
 output:w'.output=w.output
 size:w.heap.size<=w'.heap.size
theorem Ext.refl (w:World):Ext w w:=⟨rfl,rfl,rfl,i7 _⟩
theorem Ext.trans {a b c:World} (h:Ext a b) (h':Ext b c):Ext a c:=⟨h'.os.trans h.os,h'.tape.trans h.tape,h'.output.trans h.output,I7 h.size h'.size⟩
theorem Ext.drew {a b:World} (h:Ext a b):Ext a {b with drawn:=b.drawn+1}:=⟨h.os,h.tape,h.output,h.size⟩

def Fn (P:Program) (f:FuncId) (args:List Value) (Pre:List Atom) (Post:Value->List Atom->Prop):Prop:=
 ∀(F:HP) (w:World),Sep (.hp F::Pre) (hl w)->Calls P f args.toArray w λe w'=>∃v As,e= .returned v/\Post v As/\Sep (.hp F::As) (hl w')/\Ext w w'

def exA {α:Type} (f:α->List Atom):Atom:= .hp ⟨λh=>∃x,Sep (f x) h,λ_ _ l ⟨x,s⟩=>⟨x,s.up l⟩⟩
structure Cx where
 P:Program
 fn:Func
 n:Nat
 R:Ending->World->Prop
 w0:World
abbrev Cl:=List (Nat×Atom)
def CAt (C:Cl) (w:World):Prop:=∀p∈C,p.2.sat (hl w)
inductive KI where
 | code (c:Code)
 | reg (ops:Array Oper) (C:Cl) (t:PT)
 | blk (id:Nat)
 | stop (R:Act->World->Prop)
def KW (X:Cx):List KI->Exit->Act->World->Prop
 | []=>bodyPost X.P X.fn X.R
 | .code c::K=>Exit.then (c.wp X.P (KW X K)) (KW X K)
 | .reg ops C t::K=>Exit.then (pT X.P ops (CAt C) (KW X K .normal) t) (KW X K)
 | .blk id::K=>Exit.inBlock id (KW X K)
 | .stop R::K=>Exit.then R (KW X K)
def J (X:Cx) (K:List KI) (E:Env) (L:List Atom):Prop:=∀a w,Ext X.w0 w->EnvOK X.n E a->Sep L (hl w)->KW X K .normal a w

section
variable {X : Cx} {K : List KI} {E : Env} {L : List Atom}
theorem J.seq {x y:Code} (h:J X (.code x:: .code y::K) E L):J X (.code (.seq x y)::K) E L:=
 λa w hx he hs=>wp_seq (wp_mono (h a w hx he hs) λe a' w' q=>by cases e<;>exact q)
theorem J.skip (h:J X K E L):J X (.code .skip::K) E L:=λa w hx he hs=>wp_skip (h a w hx he hs)
theorem J.block {id:Nat} {c:Code} (h:J X (.code c:: .blk id::K) E L):J X (.code (.block id c)::K) E L:=
 λa w hx he hs=>wp_block (wp_mono (h a w hx he hs) λe a' w' q=>by cases e<;>exact q)
theorem J.blk {id:Nat} (h:J X K E L):J X (.blk id::K) E L:=h
def a8p (id:Nat):List KI->Option (List KI)
 | []=>none
 | .blk id'::K=>match Nat.beq id id' with
  | true=>some K
  | false=>a8p id K
 | _::K=>a8p id K
theorem a1S (X:Cx) (id:Nat) (a:Act) (w:World):∀(K K':List KI),a8p id K=some K'->KW X K' .normal a w->KW X K (.exit id) a w
 | [],K',h,q=>by cases h
 | .blk id'::K,K',h,q=>by
  simp only[a8p]at h;simp only[KW,Exit.inBlock];split at h
  ·rename_i e;have:id=id':=C8 e;rw[d8 this];injection h with h;rw[h];exact q
  ·rename_i e;rw[d6 (λe'=>by subst e';simp at e)];exact a1S X id a w K K' h q
 | .code c::K,K',h,q=>a1S X id a w K K' h q
 | .reg o C t::K,K',h,q=>a1S X id a w K K' h q
 | .stop R::K,K',h,q=>a1S X id a w K K' h q
theorem J.exit {id:Nat} {K':List KI} (hk:a8p id K=some K') (h:J X K' E L):J X (.code (.exit id)::K) E L:=
 λa w hx he hs=>wp_exit (a1S X id a w K K' hk (h a w hx he hs))
theorem J.code_reg {id:Nat} {ops:Array Oper} (h:J X (.reg ops [] (PT.seq 0 ops.size)::K) E L):J X (.code (.region id ops false)::K) E L:=
 λa w hx he hs=>a8H (C:=CAt []) (h a w hx he hs)
theorem J.reg_done {ops:Array Oper} {C:Cl} (h:J X K E L):J X (.reg ops C .done::K) E L:=h
def snap (L:List Atom):List Nat->Cl
 | []=>[]
 | i::is=>(i,L[i]?.getD .emp)::snap L is
theorem CAt.snap {L:List Atom} {w:World} (s:Sep L (hl w)):∀is:List Nat,CAt (snap L is) w
 | []=>by intro p hp;cases hp
 | i::is=>by
  intro p hp;rcases List.mem_cons.1 hp with rfl | hp
  ·cases h:L[i]? with
   | none=>simp[h,Atom.sat]
   | some A=>simpa[h]using s.get h
  ·exact CAt.snap s is p hp
theorem J.plan {id:Nat} {ops:Array Oper} (t:PT) (lt ro:List Nat) (hm:X.P.follows .mixedOrders=true) (ht:t.good ops lt=true) (h:J X (.reg ops (snap L ro) t::K) E L):J X (.code (.region id ops true)::K) E L:=
 λa w hx he hs=>a7m hm t lt ht (CAt.snap (w:={w with drawn:=w.drawn+1}) hs ro) (h a _ hx.drew he hs)
theorem J.alts {ops:Array Oper} {C:Cl} {l l':Bool} {i j:Nat} {t t' m:PT} (h1:J X (.reg ops C (.alt l i t .non)::K) E L) (h2:J X (.reg ops C (.alt l' j t' m)::K) E L):J X (.reg ops C (.alt l i t (.alt l' j t' m))::K) E L:=
 λa w hx he hs=>⟨(h1 a w hx he hs).1,h2 a w hx he hs⟩
theorem J.turn (is:List Nat) (ok:P4 L is=true) {α:Type} {As:α->List Atom} {L':α->List Atom} (ht:∀h',Sep (N9 L is) h'->∃x,Sep (As x) h') (hL:∀x,a0W L is (As x)=some (L' x)) (h:∀x,J X K E (L' x)):J X K E L:=by
 intro a w hx he s;obtain⟨x,s'⟩:=s.turn is ok ht;rw[<- a2W (a0s ok).1 (hL x)]at s';exact h x a w hx he s'
theorem J.turn1 (is:List Nat) (ok:P4 L is=true) {As L':List Atom} (ht:∀h',Sep (N9 L is) h'->Sep As h') (hL:a0W L is As=some L') (h:J X K E L'):J X K E L:=
 λa w hx he s=>h a w hx he (by rw[a2W (a0s ok).1 hL];exact s.turn1 is ok ht)
theorem J.open_ {α:Type} {f:α->List Atom} {L':α->List Atom} (i:Nat) (ok:P4 L [i]=true) (hp:N9 L [i]=[exA f]) (hL:∀x,a0W L [i] (f x)=some (L' x)) (h:∀x,J X K E (L' x)):J X K E L:=
 J.turn [i] ok (λh' s=>by rw[hp]at s;exact s.get (i:=0) rfl) hL h
theorem J.close {α:Type} {f:α->List Atom} {L':List Atom} (x:α) (is:List Nat) (ok:P4 L is=true) (hp:N9 L is=f x) (hL:a0W L is [exA f]=some L') (h:J X K E L'):J X K E L:=
 J.turn1 is ok (λh' s=>by
  rw[hp]at s;exact⟨λ_=>0,λi A hA=>by
   cases i with
   | zero=>simp at hA;subst hA;exact⟨x,s.up λb o hb=>res_some.2 ⟨rfl,hb⟩⟩
   | succ k=>simp at hA⟩) hL h
theorem J.know {p:Prop} (hp:∀h,Sep L h->p) (h:p->J X K E L):J X K E L:=λa w hx he s=>h (hp _ s) a w hx he s
def ev (E:Env):Operand->Option Slot
 | .tmp t=>E.get t
 | .const v=>some ⟨0,v,0, .tt⟩
 | .global g=>some ⟨0, .pointer (some ⟨g,0,none⟩),0, .tt⟩
 | .func f=>some ⟨0, .func (.func f) #[] #[],0, .tt⟩
theorem C5 {n:Nat} {a:Act} (he:EnvOK n E a) {x:Operand} {s:Slot} (h:ev E x=some s):a.eval x=s.val:=by
 cases x with
 | tmp t=>
  have:=he.slot t s h;simp[Act.eval,this]
 | const v=>simp only[ev,l6]at h;subst h;rfl
 | global g=>simp only[ev,l6]at h;subst h;rfl
 | func f=>simp only[ev,l6]at h;subst h;rfl
theorem J.cond {c:Operand} {x y:Code} {k tag:Nat} {b:Bool} (hc:ev E c=some ⟨k, .bool b,tag, .tt⟩) (ht:b=true->J X (.code x::K) E L) (hf:b=false->J X (.code y::K) E L):J X (.code (.cond c x y)::K) E L:=by
 intro a w hx he hs;have h:=C5 he hc;exact wp_cond_split (t:=b) h (λe=>ht e a w hx he hs) (λe=>hf e a w hx he hs)
theorem J.loop {c:Code} {α:Type} (I:α->Prop) (Ei:α->Env) (Li:α->List Atom) (μ:α->Nat) (x0:α) (h0:I x0) (hE:E.sub (Ei x0)) (hL:∀h,Sep L h->Sep (Li x0) h)
  (round:∀x,I x->J X (.code c:: .stop (λa w=>Ext X.w0 w/\∃x',I x'/\μ x'<μ x/\EnvOK X.n (Ei x') a/\Sep (Li x') (hl w))::K) (Ei x) (Li x)):J X (.code (.loop c)::K) E L:=by
 intro a w hx he hs b k cs;have key:∀n,∀x,μ x=n->I x->∀a w,Ext X.w0 w->EnvOK X.n (Ei x) a->Sep (Li x) (hl w)->
   ∃e a' w',KW X K e a' w'/\Arrives X.P (lone (b.at a (.code c:: .inLoop c::k)) cs w) b k cs e a' w':=by
  intro n
  induction n using Nat.strongRecOn with
  | _ n ih=>
   intro x hn hI a w hx he hs;have hr:=round x hI a w hx he hs;simp only[KW]at hr;obtain⟨e,a₁,w₁,hq,harr⟩:=hr b (.inLoop c::k) cs;cases e with
   | normal=>
    obtain⟨hx',x',hI',hlt,he',hs'⟩:=hq;obtain⟨e₂,a₂,w₂,hq₂,harr₂⟩:=ih (μ x') (hn▸hlt) x' rfl hI' a₁ w₁ hx' he' hs';exact⟨e₂,a₂,w₂,hq₂, .of_steps (Steps.trans harr (.one step_inLoop)) harr₂⟩
   | exit id=>exact⟨_,a₁,w₁,hq, .pass (x:= .inLoop c) rfl (λ_ _=> .inl (by simp)) harr⟩
   | goto l=>exact⟨_,a₁,w₁,hq, .pass (x:= .inLoop c) rfl (λ_ _=> .inl (by simp)) harr⟩
   | ret=>exact⟨_,a₁,w₁,hq, .pass (x:= .inLoop c) rfl (λ_ _=> .inl (by simp)) harr⟩
   | panic ch=>exact⟨_,a₁,w₁,hq, .pass (x:= .inLoop c) rfl (λ_ _=> .inl (by simp)) harr⟩
   | outgrown=>exact⟨_,a₁,w₁,hq, .pass (x:= .inLoop c) rfl (λ_ _=> .inl (by simp)) harr⟩
 obtain⟨e,a',w',hq,harr⟩:=key _ x0 rfl h0 a w hx (he.sub hE) (hL _ hs);exact⟨e,a',w',hq, .of_steps (.one step_loop) harr⟩
theorem J.stop {α:Type} {I:α->Prop} {Ei:α->Env} {Li:α->List Atom} {μ:α->Nat} {m:Nat} (x:α) (h1:I x) (h2:μ x<m) (h3:E.sub (Ei x)) (h4:∀h,Sep L h->Sep (Li x) h):
  J X (.stop (λa w=>Ext X.w0 w/\∃x',I x'/\μ x'<m/\EnvOK X.n (Ei x') a/\Sep (Li x') (hl w))::K) E L:=
 λ_ _ hx he hs=>⟨hx,x,h1,h2,he.sub h3,h4 _ hs⟩
end

inductive TD where
 | int (k:IntKind)
 | bool
 | row (fs:List (Nat×Nat×Bool))
 | arr (len esz:Nat)
 | slice (elem esz:Nat)
 | ptr
 | map
 | other
structure TI where
 d:TD
 size:Nat
 zero:List Value
 bytes:Nat
abbrev Tab:=List (Nat×TI)
def Tab.get:Tab->Nat->Option TI
 | [],_=>none
 | (j,i)::r,k=>match Nat.beq j k with
  | true=>some i
  | false=>Tab.get r k
def a0i:TypeDesc->Bool
 | .struct _ | .array _ _=>true
 | _=>false
def fieldsOf (P:Program):List Field->Option (List (Nat×Nat×Bool))
 | []=>some []
 | f::r=>match P.info? f.type,P.underlying f.type,fieldsOf P r with
  | some i,some d,some l=>some ((f.offset,i.size,a0i d)::l)
  | _,_,_=>none
def a6O (P:Program):TypeDesc->Option TD
 | .int k=>some (.int k)
 | .bool=>some .bool
 | .struct fs=>(fieldsOf P fs.toList).map .row
 | .array n e=>(P.info? e).map λi=> .arr n i.size
 | .slice e=>(P.info? e).map λi=> .slice e i.size
 | .pointer _=>some .ptr
 | .map _ _=>some .map
 | _=>some .other
def b6f (P:Program) (t:TypeId):Option TI:=
 match P.underlying t,P.info? t with
 | some d,some i=>match i.zero,a6O P d with
  | some z,some td=>some ⟨td,i.size,z.cells.toList,i.bytes⟩
  | _,_=>none
 | _,_=>none
def TabOK (P:Program) (T:Tab):Prop:=∀p∈T,b6f P p.1=some p.2
theorem TabOK.mk {P:Program} {T:Tab} (h:T.map (λp=>b6f P p.1)=T.map (λp=>some p.2)):TabOK P T:=by
 induction T with
 | nil=>intro p hp;cases hp
 | cons q r ih=>
  simp only[n4,Z6]at h;intro p hp;rcases List.mem_cons.1 hp with rfl | hp
  ·exact h.1
  ·exact ih h.2 p hp
theorem TabOK.get {P:Program}:∀{T:Tab},TabOK P T->∀{t:Nat} {i:TI},T.get t=some i->b6f P t=some i
 | [],_,t,i,h=>by cases h
 | (j,x)::r,hT,t,i,h=>by
  simp only[Tab.get]at h;split at h
  ·rename_i e;have:j=t:=C8 e;subst this;injection h with h;subst h;exact hT _ (H1 ..)
  ·exact TabOK.get (λp hp=>hT p (E8 _ hp)) h
structure TIOK (P:Program) (t:TypeId) (i:TI) (d:TypeDesc) (f:TypeInfo) (z:Value):Prop where
 hd:P.underlying t=some d
 hf:P.info? t=some f
 hz:f.zero=some z
 htd:a6O P d=some i.d
 hsize:i.size=f.size
 hzero:i.zero=z.cells.toList
 hbytes:i.bytes=f.bytes
theorem B4 {P:Program} {t:TypeId} {i:TI} (h:b6f P t=some i):∃d f z,TIOK P t i d f z:=by
 unfold b6f at h;split at h
 ·rename_i d f hd hf;split at h
  ·rename_i z td hz htd;injection h with h;subst h;exact⟨d,f,z,hd,hf,hz,htd,rfl,rfl,rfl⟩
  ·cases h
 ·cases h
section
variable {P : Program} {t : TypeId} {i : TI} {d : TypeDesc} {f : TypeInfo} {z : Value}
theorem TIOK.int (h:TIOK P t i d f z) {k:IntKind} (e:i.d= .int k):d= .int k:=by
 have:=h.htd;rw[e]at this;cases d<;>simp[a6O]at this
 ·rw[this]
theorem TIOK.bool (h:TIOK P t i d f z) (e:i.d= .bool):d= .bool:=by
 have:=h.htd;rw[e]at this;cases d<;>simp[a6O]at this
 ·rfl
theorem TIOK.ptr (h:TIOK P t i d f z) (e:i.d= .ptr):∃x,d= .pointer x:=by
 have:=h.htd;rw[e]at this;cases d<;>simp[a6O]at this
 ·exact⟨_,rfl⟩
theorem TIOK.map (h:TIOK P t i d f z) (e:i.d= .map):∃x y,d= .map x y:=by
 have:=h.htd;rw[e]at this;cases d<;>simp[a6O]at this
 ·exact⟨_,_,rfl⟩
theorem TIOK.arr (h:TIOK P t i d f z) {n s:Nat} (e:i.d= .arr n s):∃x fx,d= .array n x/\P.info? x=some fx/\fx.size=s:=by
 have:=h.htd;rw[e]at this;cases d<;>simp[a6O]at this
 ·obtain⟨g,h1,rfl,h2⟩:=this;exact⟨_,g,rfl,h1,h2⟩
theorem TIOK.slice (h:TIOK P t i d f z) {x s:Nat} (e:i.d= .slice x s):∃fx,d= .slice x/\P.info? x=some fx/\fx.size=s:=by
 have:=h.htd;rw[e]at this;cases d<;>simp[a6O]at this
 ·obtain⟨g,h1,rfl,h2⟩:=this;exact⟨g,rfl,h1,h2⟩
theorem TIOK.row (h:TIOK P t i d f z) {l:List (Nat×Nat×Bool)} (e:i.d= .row l):∃fs,d= .struct fs/\fieldsOf P fs.toList=some l:=by
 have:=h.htd;rw[e]at this;cases d<;>simp[a6O]at this
 ·exact⟨_,rfl,this⟩
end
def J3 {α:Type}:List α->Nat->Option α
 | [],_=>none
 | x::r,k=>match k with
  | 0=>some x
  | k+1=>J3 r k
theorem J2 {α:Type}:∀(l:List α) (k:Nat),J3 l k=l[k]?
 | [],_=>rfl
 | x::r,0=>rfl
 | x::r,k+1=>by rw[J3,J2 r k];simp
theorem a1D {P:Program}:∀{fs:List Field} {l:List (Nat×Nat×Bool)},fieldsOf P fs=some l->∀{k o s:Nat} {b:Bool},J3 l k=some (o,s,b)->
  ∃g fi gd,fs[k]? =some g/\P.info? g.type=some fi/\P.underlying g.type=some gd/\g.offset=o/\fi.size=s/\a0i gd=b
 | [],l,h,k,o,s,b,hk=>by simp only[fieldsOf,l6]at h;subst h;cases hk
 | g::r,l,h,k,o,s,b,hk=>by
  simp only[fieldsOf]at h;split at h
  ·rename_i i d l' h1 h2 h3;injection h with h;subst h;cases k with
   | zero=>
    simp only[J3,l6,C4]at hk;exact⟨g,i,d,rfl,h1,h2,hk.1,hk.2.1,hk.2.2⟩
   | succ k=>
    simp only[J3]at hk;obtain⟨g',fi,gd,e1,e2⟩:=a1D h3 hk;exact⟨g',fi,gd,by simpa using e1,e2⟩
  ·cases h
def a7X {α:Type}:List α->Nat->Option (List α)
 | _,0=>some []
 | [],_+1=>none
 | x::r,n+1=>match a7X r n with
  | some l=>some (x::l)
  | none=>none
def b0F {α:Type}:List α->Nat->Nat->Option (List α)
 | l,0,n=>a7X l n
 | [],_+1,n=>a7X [] n
 | _::r,o+1,n=>b0F r o n
theorem a4A {α:Type}:∀{l:List α} {n:Nat} {m:List α},a7X l n=some m->m=l.take n/\m.length=n
 | l,0,m,h=>by simp[a7X]at h;subst h;simp
 | [],n+1,m,h=>by simp[a7X]at h
 | x::r,n+1,m,h=>by
  simp only[a7X]at h;split at h
  ·rename_i l hl;injection h with h;subst h;obtain⟨h1,h2⟩:=a4A hl;exact⟨by simp[h1],by simp[h2]⟩
  ·cases h
theorem a5V {α:Type}:∀{l:List α} {o n:Nat} {m:List α},b0F l o n=some m->m=(l.drop o).take n/\m.length=n
 | l,0,n,m,h=>by rw[a1t];cases l<;>exact a4A h
 | [],o+1,n,m,h=>by simp only[b0F]at h;simpa using a4A h
 | x::r,o+1,n,m,h=>by simp only[b0F]at h;simpa using a5V h
def a3o {α:Type}:List α->List α->Option (List α)
 | l,[]=>some l
 | [],_::_=>none
 | _::r,x::xs=>match a3o r xs with
  | some l=>some (x::l)
  | none=>none
def a1L {α:Type}:List α->Nat->List α->Option (List α)
 | l,0,xs=>a3o l xs
 | [],_+1,_=>none
 | y::r,o+1,xs=>match a1L r o xs with
  | some l=>some (y::l)
  | none=>none
theorem a7Z {α:Type}:∀{l xs m:List α},a3o l xs=some m->m=xs++l.drop xs.length/\xs.length<=l.length
 | l,[],m,h=>by cases l<;>simp only[a3o,l6]at h<;>subst h<;>simp
 | [],x::xs,m,h=>by simp[a3o]at h
 | y::r,x::xs,m,h=>by
  simp only[a3o]at h;split at h
  ·rename_i l hl;injection h with h;subst h;obtain⟨h1,h2⟩:=a7Z hl;exact⟨by simp[h1],by simp;omega⟩
  ·cases h
theorem a2C {α:Type}:∀{l:List α} {o:Nat} {xs m:List α},a1L l o xs=some m->m=l.take o++xs++l.drop (o+xs.length)/\o+xs.length<=l.length
 | l,0,xs,m,h=>by
  have h':a3o l xs=some m:=by cases l<;>exact h
  obtain⟨h1,h2⟩:=a7Z h';exact⟨by simp[h1],by omega⟩
 | [],o+1,xs,m,h=>by simp[a1L]at h
 | y::r,o+1,xs,m,h=>by
  simp only[a1L]at h;split at h
  ·rename_i l hl;injection h with h;subst h;obtain⟨h1,h2⟩:=a2C hl;refine⟨?_,by simp;omega⟩;rw[h1,show o+1+xs.length=(o+xs.length)+1 from by omega];simp
  ·cases h

def Conj:List Prop->Prop
 | []=>True
 | p::r=>p/\Conj r
theorem Conj.nil:Conj []:=trivial
theorem Conj.cons {p:Prop} {r:List Prop} (h:p) (h':Conj r):Conj (p::r):=⟨h,h'⟩
theorem Conj.app:∀{l m:List Prop},Conj (l++m)->Conj l/\Conj m
 | [],m,h=>⟨trivial,h⟩
 | p::r,m,h=>⟨⟨h.1,(Conj.app (l:=r) h.2).1⟩,(Conj.app (l:=r) h.2).2⟩
def O4:G->List Prop
 | .tt=>[]
 | .when c=>[c=true]
def a1k:Slot->List Prop
 | ⟨_,_,_,g⟩=>O4 g
theorem a4u {s:Slot} (h:Conj (a1k s)):s.val=s.v:=by
 obtain⟨k,v,t,g⟩:=s;unfold Slot.val;cases g with
 | tt=>rfl
 | when c=>simp only[a1k,O4]at h;simp only[G.on];rw[h.1]
def ikN:IntKind->Nat
 | .i8=>0 | .i16=>1 | .i32=>2 | .i64=>3 | .u8=>4 | .u16=>5 | .u32=>6 | .u64=>7
theorem b9G {a b:IntKind} (h:Nat.beq (ikN a) (ikN b)=true):a=b:=by
 cases a<;>cases b<;>first | rfl | cases h
def inR:IntKind->Int->List Prop
 | .i8,z=>[-128<=z,z<=127] | .i16,z=>[-32768<=z,z<=32767] | .i32,z=>[-2147483648<=z,z<=2147483647]
 | .i64,z=>[-9223372036854775808<=z,z<=9223372036854775807]
 | .u8,z=>[0<=z,z<=255] | .u16,z=>[0<=z,z<=65535] | .u32,z=>[0<=z,z<=4294967295] | .u64,z=>[0<=z,z<=18446744073709551615]
theorem a1Q {k:IntKind} {z:Int} (h:Conj (inR k z)):k.wrap z=z:=by
 have p7:(2:Int)^7=128:=rfl;have p8:(2:Int)^8=256:=rfl;have p15:(2:Int)^15=32768:=rfl;have p16:(2:Int)^16=65536:=rfl;have p31:(2:Int)^31=2147483648:=rfl;have p32:(2:Int)^32=4294967296:=rfl;have p63:(2:Int)^63=9223372036854775808:=rfl;have p64:(2:Int)^64=18446744073709551616:=rfl;cases k<;>simp only[inR,Conj]at h<;>simp[IntKind.wrap,IntKind.bits,IntKind.signed]<;>(try split)<;>omega
def c1v:BinOp->IntKind->Int->Int->Option (Value×List Prop)
 | .add,k,m,n=>some (.int k (m+n),inR k (m+n))
 | .sub,k,m,n=>some (.int k (m-n),inR k (m-n))
 | .mul,k,m,n=>some (.int k (m*n),inR k (m*n))
 | .quo,k,m,n=>some (.int k (m.tdiv n),(n≠0)::inR k (m.tdiv n))
 | .rem,k,m,n=>some (.int k (m.tmod n),[n≠0])
 | .and,k,m,n=>some (.int k (k.wrap (BitVec.ofInt k.bits m&&& BitVec.ofInt k.bits n).toNat),[])
 | .or,k,m,n=>some (.int k (k.wrap (BitVec.ofInt k.bits m||| BitVec.ofInt k.bits n).toNat),[])
 | .xor,k,m,n=>some (.int k (k.wrap (BitVec.ofInt k.bits m ^^^ BitVec.ofInt k.bits n).toNat),[])
 | .andNot,k,m,n=>some (.int k (k.wrap (BitVec.ofInt k.bits m&&& ~~~ BitVec.ofInt k.bits n).toNat),[])
 | .eql,_,m,n=>some (.bool (m==n),[])
 | .neq,_,m,n=>some (.bool (m !=n),[])
 | .lss,_,m,n=>some (.bool (decide (m<n)),[])
 | .leq,_,m,n=>some (.bool (decide (m<=n)),[])
 | .gtr,_,m,n=>some (.bool (decide (m>n)),[])
 | .geq,_,m,n=>some (.bool (decide (m>=n)),[])
 | _,_,_,_=>none
def shI:BinOp->IntKind->Int->Int->Option (Value×List Prop)
 | .shl,k,m,n=>some (.int k (m*2^(min n.toNat k.bits)),(0<=n)::inR k (m*2^(min n.toNat k.bits)))
 | .shr,k,m,n=>some (.int k (m.fdiv (2^(min n.toNat k.bits))),[0<=n])
 | _,_,_,_=>none
def b0R:Option TD->Value->Value->Option Bool
 | some .bool, .bool a, .bool b=>some (a==b)
 | some .ptr, .pointer none, .pointer none=>some true
 | some .ptr, .pointer (some _), .pointer none=>some false
 | some .ptr, .pointer none, .pointer (some _)=>some false
 | some (.slice _ _), .slice none _ _, .slice none _ _=>some true
 | some (.slice _ _), .slice none _ _, .slice (some _) _ _=>some false
 | some (.slice _ _), .slice (some _) _ _, .slice none _ _=>some false
 | some .map, .map none, .map none=>some true
 | some .map, .map none, .map (some _)=>some false
 | some .map, .map (some _), .map none=>some false
 | _,_,_=>none
def c1u (T:Tab) (op:BinOp) (t:TypeId):Value->Value->Option (Value×List Prop)
 | .int k m, .int k' n=>match shI op k m n with
  | some r=>some r
  | none=>match Nat.beq (ikN k) (ikN k')with
   | true=>c1v op k m n
   | false=>none
 | x,y=>match op with
  | .eql=>match b0R ((T.get t).map (·.d)) x y with
   | some b=>some (.bool b,[])
   | none=>none
  | .neq=>match b0R ((T.get t).map (·.d)) x y with
   | some b=>some (.bool (!b),[])
   | none=>none
  | _=>none
def unV:UnOp->Value->Option (Value×List Prop)
 | .neg, .int k n=>some (.int k (0-n),inR k (0-n))
 | .not, .bool b=>some (.bool (!b),[])
 | _,_=>none

section
variable {P : Program} {w : World}
theorem b8m {op:BinOp} {k:IntKind} {m n:Int} {v:Value} {ob:List Prop} (h:c1v op k m n=some (v,ob)) (hob:Conj ob) (t:TypeId):(binOp op t (.int k m) (.int k n)).run P w= .ok v w:=by
 cases op<;>simp only[c1v,l6,C4,reduceCtorEq]at h<;>obtain⟨rfl,rfl⟩:=h
 case add=>simp[binOp,Op.intArith,a1Q hob]
 case sub=>simp[binOp,Op.intArith,a1Q hob]
 case mul=>simp[binOp,Op.intArith,a1Q hob]
 case quo=>simp[binOp,Op.intDiv,hob.1,a1Q hob.2]
 case rem=>simp[binOp,Op.intDiv,hob.1]
 all_goals first | (simp[binOp,Op.intBits];done) | (simp[binOp,Op.intCmp];done)
theorem b8U {op:BinOp} {k k':IntKind} {m n:Int} {v:Value} {ob:List Prop} (h:shI op k m n=some (v,ob)) (hob:Conj ob) (t:TypeId):(binOp op t (.int k m) (.int k' n)).run P w= .ok v w:=by
 cases op<;>simp only[shI,l6,C4,reduceCtorEq]at h<;>obtain⟨rfl,rfl⟩:=h
 case shl=>simp[binOp,Op.shift,Int.not_lt.2 hob.1,a1Q hob.2]
 case shr=>simp[binOp,Op.shift,Int.not_lt.2 hob.1]
theorem s8 {t:TypeId} {d:TypeDesc} (h:P.underlying t=some d):(underlying t).run P w= .ok d w:=by simp[underlying,h]
theorem b0Q (d:Nat) {t:TypeId} (h:P.underlying t=some .bool) (a b:Bool):(Op.equalIn (d+1) t (.bool a) (.bool b)).run P w= .ok (a==b) w:=by simp[Op.equalIn,s8 h]
theorem a5r (d:Nat) {t x:TypeId} (h:P.underlying t=some (.pointer x)) (b:Option Addr):(Op.equalIn (d+1) t (.pointer none) (.pointer b)).run P w= .ok b.isNone w:=by simp[Op.equalIn,s8 h]
theorem b0O (d:Nat) {t x:TypeId} (h:P.underlying t=some (.pointer x)) (b:Addr):(Op.equalIn (d+1) t (.pointer (some b)) (.pointer none)).run P w= .ok false w:=by simp[Op.equalIn,s8 h]
theorem a6G (d:Nat) {t x:TypeId} (h:P.underlying t=some (.slice x)) (b:Option Addr) (m n m' n':Nat):(Op.equalIn (d+1) t (.slice none m n) (.slice b m' n')).run P w= .ok b.isNone w:=by simp[Op.equalIn,s8 h]
theorem b2e (d:Nat) {t x:TypeId} (h:P.underlying t=some (.slice x)) (b:Addr) (m n m' n':Nat):(Op.equalIn (d+1) t (.slice (some b) m n) (.slice none m' n')).run P w= .ok false w:=by simp[Op.equalIn,s8 h]
theorem a5s (d:Nat) {t x y:TypeId} (h:P.underlying t=some (.map x y)) (b:Option Nat):(Op.equalIn (d+1) t (.map none) (.map b)).run P w= .ok b.isNone w:=by simp[Op.equalIn,s8 h]
theorem b0P (d:Nat) {t x y:TypeId} (h:P.underlying t=some (.map x y)) (b:Nat):(Op.equalIn (d+1) t (.map (some b)) (.map none)).run P w= .ok false w:=by simp[Op.equalIn,s8 h]
theorem a8r (t:TypeId) (x y:Value):Op.equal t x y=Op.equalIn (9999+1) t x y:=rfl
theorem b2f {T:Tab} (hT:TabOK P T) {t:TypeId} {x y:Value} {b:Bool} (h:b0R ((T.get t).map (·.d)) x y=some b):(Op.equal t x y).run P w= .ok b w/\∀op o1 o2,(eqGuard op t o1 o2 x y).run P w= .ok () w:=by
 rw[a8r];generalize 9999=n;cases hg:T.get t with
 | none=>rw[hg]at h;simp[b0R]at h
 | some i=>
  rw[hg]at h;obtain⟨d,f,z,ok⟩:=B4 (hT.get hg);simp only[C6]at h;generalize hd:i.d=td at h;unfold b0R at h;split at h<;>simp only[l6,reduceCtorEq]at h<;>subst h<;>rename_i e<;>injection e with e<;>subst e
  ·have:=ok.bool hd;subst this;exact⟨b0Q n ok.hd _ _,λop o1 o2=>by cases op<;>rfl⟩
  ·obtain⟨x',e⟩:=ok.ptr hd;subst e;exact⟨a5r n ok.hd _,λop o1 o2=>by cases op<;>rfl⟩
  ·obtain⟨x',e⟩:=ok.ptr hd;subst e;exact⟨b0O n ok.hd _,λop o1 o2=>by cases op<;>rfl⟩
  ·obtain⟨x',e⟩:=ok.ptr hd;subst e;exact⟨a5r n ok.hd _,λop o1 o2=>by cases op<;>rfl⟩
  ·obtain⟨fx,e,_⟩:=ok.slice hd;subst e;exact⟨a6G n ok.hd _ _ _ _ _,λop o1 o2=>by cases op<;>rfl⟩
  ·obtain⟨fx,e,_⟩:=ok.slice hd;subst e;exact⟨a6G n ok.hd _ _ _ _ _,λop o1 o2=>by cases op<;>rfl⟩
  ·obtain⟨fx,e,_⟩:=ok.slice hd;subst e;exact⟨b2e n ok.hd _ _ _ _ _,λop o1 o2=>by cases op<;>rfl⟩
  ·obtain⟨x',y',e⟩:=ok.map hd;subst e;exact⟨a5s n ok.hd _,λop o1 o2=>by cases op<;>rfl⟩
  ·obtain⟨x',y',e⟩:=ok.map hd;subst e;exact⟨a5s n ok.hd _,λop o1 o2=>by cases op<;>rfl⟩
  ·obtain⟨x',y',e⟩:=ok.map hd;subst e;exact⟨b0P n ok.hd _,λop o1 o2=>by cases op<;>rfl⟩
theorem b8l {T:Tab} (hT:TabOK P T) {op:BinOp} {t:TypeId} {x y v:Value} {ob:List Prop} (h:c1u T op t x y=some (v,ob)) (hob:Conj ob) (o1 o2:Operand):
  (do eqGuard op t o1 o2 x y;binOp op t x y:Sem Value).run P w= .ok v w:=by
 unfold c1u at h;split at h
 ·rename_i k m k' n;have hg:(eqGuard op t o1 o2 (.int k m) (.int k' n)).run P w= .ok () w:=by cases op<;>simp[eqGuard]
  simp only[Sem.run_bind,hg,Result.andThen_ok];split at h
  ·rename_i r hr;injection h with h;subst h;exact b8U hr hob t
  ·split at h
   ·rename_i e;have:=b9G e;subst this;exact b8m h hob t
   ·cases h
 ·rename_i hne;split at h
  ·split at h
   ·rename_i b hb;injection h with h;simp only[C4]at h;obtain⟨rfl,rfl⟩:=h;obtain⟨h1,h2⟩:=b2f (w:=w) hT hb;simp only[Sem.run_bind,h2,Result.andThen_ok];have:binOp .eql t x y=(do pure (.bool (<- Op.equal t x y)):Sem Value):=by
     cases x<;>cases y<;>first | rfl | (exact(hne _ _ _ _ rfl rfl).elim) | (revert hb;cases(T.get t).map (·.d)with
      | none=>simp[b0R]
      | some d=>cases d<;>simp[b0R])
    simp[this,h1]
   ·cases h
  ·split at h
   ·rename_i b hb;injection h with h;simp only[C4]at h;obtain⟨rfl,rfl⟩:=h;obtain⟨h1,h2⟩:=b2f (w:=w) hT hb;simp only[Sem.run_bind,h2,Result.andThen_ok];have:binOp .neq t x y=(do pure (.bool (!(<- Op.equal t x y))):Sem Value):=by
     cases x<;>cases y<;>first | rfl | (exact(hne _ _ _ _ rfl rfl).elim) | (revert hb;cases(T.get t).map (·.d)with
      | none=>simp[b0R]
      | some d=>cases d<;>simp[b0R])
    simp[this,h1]
   ·cases h
  ·cases h
theorem b8H {op:UnOp} {x v:Value} {ob:List Prop} (h:unV op x=some (v,ob)) (hob:Conj ob):(Op.unary op x).run P w= .ok v w:=by
 unfold unV at h;split at h<;>simp only[l6,C4,reduceCtorEq]at h<;>obtain⟨rfl,rfl⟩:=h
 ·simp only[Op.unary,Op.intArith,a1Q hob];rfl
 ·rfl
end

structure LR where
 v:Value
 tag:Nat
 ob:List Prop
 rd:Nat
def a6V (p:Prop):Slot->List Prop
 | ⟨_,_,_, .tt⟩=>[]
 | ⟨_,_,_, .when c⟩=>[p->c=true]
def a2g (T:Tab) (st f:Nat):Slot->Option LR
 | ⟨_, .pointer (some ⟨b,o,none⟩),tag,g⟩=>match T.get st with
  | some ⟨.row fs,_,_,_⟩=>match J3 fs f with
   | some (off,_+1,_)=>some ⟨.pointer (some ⟨b,o+off,none⟩),tag,O4 g,0⟩
   | _=>none
  | _=>none
 | _=>none
def a7e (T:Tab) (t f:Nat):Slot->Option LR
 | ⟨_, .agg cs,_,g⟩=>match T.get t with
  | some ⟨.row fs,_,_,_⟩=>match J3 fs f with
   | some (off,sz,true)=>match b0F cs.toList off sz with
    | some l=>some ⟨.agg l.toArray,0,O4 g,0⟩
    | none=>none
   | some (off,_,false)=>match J3 cs.toList off with
    | some v=>some ⟨v,0,O4 g,0⟩
    | none=>none
   | none=>none
  | _=>none
 | _=>none
def a0z (T:Tab) (t:Nat):Slot->Slot->Option LR
 | ⟨_, .pointer (some ⟨b,o,none⟩),tag,g⟩,⟨_, .int _ n,_,g'⟩=>match T.get t with
  | some ⟨.arr len esz,_,_,_⟩=>some ⟨.pointer (some ⟨b,o+n.toNat*esz,none⟩),tag,(0<=n)::(n<(len:Int))::(O4 g++O4 g'),0⟩
  | _=>none
 | ⟨_, .slice (some ⟨b,o,none⟩) len _,tag,g⟩,⟨_, .int _ n,_,g'⟩=>match T.get t with
  | some ⟨.slice _ esz,_,_,_⟩=>some ⟨.pointer (some ⟨b,o+n.toNat*esz,none⟩),tag,(0<=n)::(n<(len:Int))::(O4 g++O4 g'),0⟩
  | _=>none
 | _,_=>none
def b2T (E:Env) (c a b:Operand):Option LR:=match ev E c with
 | some ⟨kc, .bool cb,tc,gc⟩=>match b with
  | .const (.bool false)=>match ev E a with
   | some ⟨ka, .bool va,ta,ga⟩=>some ⟨.bool (cb&&va),0,O4 gc++a6V (cb=true) ⟨ka, .bool va,ta,ga⟩,0⟩
   | _=>none
  | _=>match a with
   | .const (.bool true)=>match ev E b with
    | some ⟨kb, .bool vb,tb,gb⟩=>some ⟨.bool (cb||vb),0,O4 gc++a6V (cb=false) ⟨kb, .bool vb,tb,gb⟩,0⟩
    | _=>none
   | _=>none
 | _=>none
def a4B (T:Tab) (L:List Atom) (t:Nat):Slot->Option LR
 | ⟨_, .pointer (some ⟨b,o,none⟩),i+1,g⟩=>match J3 L i with
  | some (.pt b' _ cs)=>match T.get t with
   | some ⟨.row _,sz,_,_⟩=>match b0F cs o sz with
    | some l=>some ⟨.agg l.toArray,0,(b=b')::O4 g,i+1⟩
    | none=>none
   | some ⟨.arr _ _,sz,_,_⟩=>match b0F cs o sz with
    | some l=>some ⟨.agg l.toArray,0,(b=b')::O4 g,i+1⟩
    | none=>none
   | some _=>match J3 cs o with
    | some v=>some ⟨v,0,(b=b')::O4 g,i+1⟩
    | none=>none
   | none=>none
  | _=>none
 | _=>none
def a2h (E:Env):Option Operand->Nat->Option (Nat×List Prop)
 | none,d=>some (d,[])
 | some x,_=>match ev E x with
  | some ⟨_, .int _ n,_,g⟩=>some (n.toNat,(0<=n)::O4 g)
  | _=>none
def a7d (T:Tab) (E:Env) (t:Nat) (lo hi:Option Operand):Slot->Option LR
 | ⟨_, .pointer (some ⟨b,o,none⟩),tag,g⟩=>match T.get t with
  | some ⟨.arr n esz,_,_,_⟩=>match a2h E lo 0,a2h E hi n with
   | some (l,ol),some (h,oh)=>some ⟨.slice (some ⟨b,o+l*esz,none⟩) (h-l) (n-l),tag,O4 g++ol++oh++[l<=h,h<=n,l=0\/l<n],0⟩
   | _,_=>none
  | _=>none
 | ⟨_, .slice (some ⟨b,o,none⟩) len cap,tag,g⟩=>match T.get t with
  | some ⟨.slice _ esz,_,_,_⟩=>match a2h E lo 0,a2h E hi len with
   | some (l,ol),some (h,oh)=>some ⟨.slice (some ⟨b,o+l*esz,none⟩) (h-l) (cap-l),tag,O4 g++ol++oh++[l<=h,h<=cap,l=0\/l<cap],0⟩
   | _,_=>none
  | _=>none
 | _=>none
def slots (E:Env):List Operand->Option (List Slot)
 | []=>some []
 | x::r=>match ev E x,slots E r with
  | some s,some l=>some (s::l)
  | _,_=>none
def a1H:List Slot->List Prop
 | []=>[]
 | s::r=>a1k s++a1H r
def vals:List Slot->List Value
 | []=>[]
 | ⟨_,v,_,_⟩::r=>v::vals r
def a8m (place:Nat->Option (Nat×Nat)):List Value->List (Nat×Value)->Option (List Value)
 | cs,[]=>some cs
 | cs,(i,v)::r=>match place i with
  | some (off,sz)=>match Nat.beq v.cells.toList.length sz,a1L cs off v.cells.toList with
   | true,some cs'=>a8m place cs' r
   | _,_=>none
  | none=>none
def a4y:List (Nat×Operand)->List Slot->List (Nat×Value)
 | (i,_)::r,⟨_,v,_,_⟩::l=>(i,v)::a4y r l
 | _,_=>[]
def a7J (fs:List (Nat×Nat×Bool)) (i:Nat):Option (Nat×Nat):=match J3 fs i with
 | some (off,sz,_)=>some (off,sz)
 | none=>none
def b0G (T:Tab) (E:Env) (t:Nat) (parts:List (Nat×Operand)):Option LR:=match T.get t,slots E (parts.map (·.2))with
 | some ⟨.row fs,_,z,_⟩,some l=>match a8m (a7J fs) z (a4y parts l)with
  | some cs=>some ⟨.agg cs.toArray,0,a1H l,0⟩
  | none=>none
 | some ⟨.arr _ esz,_,z,_⟩,some l=>match a8m (λi=>some (i*esz,esz)) z (a4y parts l)with
  | some cs=>some ⟨.agg cs.toArray,0,a1H l,0⟩
  | none=>none
 | _,_=>none
def b2V (T:Tab) (E:Env) (b:Builtin) (ts:List TypeId) (xs:List Operand):Option LR:=match b,ts,slots E xs with
 | .len,t::_,some (⟨_, .slice _ n _,_,g⟩::_)=>match T.get t with
  | some ⟨.slice _ _,_,_,_⟩=>some ⟨.int .i64 (n:Int),0,O4 g,0⟩
  | _=>none
 | .cap,t::_,some (⟨_, .slice _ _ n,_,g⟩::_)=>match T.get t with
  | some ⟨.slice _ _,_,_,_⟩=>some ⟨.int .i64 (n:Int),0,O4 g,0⟩
  | _=>none
 | .min,_,some [⟨_, .int k x,_,g⟩,⟨_, .int _ y,_,g'⟩]=>some ⟨.int k (if y<x then y else x),0,O4 g++O4 g',0⟩
 | .max,_,some [⟨_, .int k x,_,g⟩,⟨_, .int _ y,_,g'⟩]=>some ⟨.int k (if y>x then y else x),0,O4 g++O4 g',0⟩
 | _,_,_=>none
def look (T:Tab) (E:Env) (L:List Atom):Op->Option LR
 | .move x | .assign x=>match ev E x with
  | some ⟨_,v,t,g⟩=>some ⟨v,t,O4 g,0⟩
  | none=>none
 | .pick c a b=>b2T E c a b
 | .nilCheck x=>match ev E x with
  | some ⟨_, .pointer (some a),t,g⟩=>some ⟨.pointer (some a),t,O4 g,0⟩
  | _=>none
 | .binOp op t x y _=>match ev E x,ev E y with
  | some ⟨_,v,_,g⟩,some ⟨_,v',_,g'⟩=>match c1u T op t v v' with
   | some (u,ob)=>some ⟨u,0,ob++O4 g++O4 g',0⟩
   | none=>none
  | _,_=>none
 | .unOp op _ x=>match ev E x with
  | some ⟨_,v,_,g⟩=>match unV op v with
   | some (u,ob)=>some ⟨u,0,ob++O4 g,0⟩
   | none=>none
  | none=>none
 | .convert src dst x=>match ev E x,T.get dst,T.get src with
  | some ⟨_, .int _ n,_,g⟩,some ⟨.int k',_,_,_⟩,some _=>some ⟨.int k' n,0,inR k' n++O4 g,0⟩
  | _,_,_=>none
 | .fieldAddr st x f=>match ev E x with
  | some s=>a2g T st f s
  | none=>none
 | .field t x f=>match ev E x with
  | some s=>a7e T t f s
  | none=>none
 | .indexAddr t x (.const i)=>match ev E x with
  | some s=>a0z T t s ⟨0,i,0, .tt⟩
  | none=>none
 | .indexAddr t x i=>match ev E x,ev E i with
  | some ⟨k,v,_,g⟩,some s'=>a0z T t ⟨k,v,0,g⟩ s'
  | _,_=>none
 | .extract x i=>match ev E x with
  | some ⟨_, .tuple vs,_,g⟩=>match J3 vs.toList i with
   | some v=>some ⟨v,0,O4 g,0⟩
   | none=>none
  | _=>none
 | .slice t x lo hi none=>match ev E x with
  | some s=>a7d T E t lo hi s
  | none=>none
 | .build t parts=>b0G T E t parts.toList
 | .makeFunc fn first captured=>match slots E first.toList,slots E captured.toList with
  | some l,some l'=>some ⟨.func fn (vals l).toArray (vals l').toArray,0,a1H l++a1H l',0⟩
  | _,_=>none
 | .load t x=>match ev E x with
  | some s=>a4B T L t s
  | none=>none
 | .call ⟨.builtin b,args,ts⟩=>b2V T E b ts.toList args.toList
 | _=>none

section
variable {P : Program} {T : Tab} {E : Env} {L : List Atom} {n : Nat} {a : Act} {w : World}
theorem Addr.add_none (b o k:Nat):(⟨b,o,none⟩:Addr).add k=⟨b,o+k,none⟩:=by
 unfold Addr.add;split
 ·rename_i h;subst h;rfl
 ·rfl
theorem evs {x:Operand} {s:Slot} (he:EnvOK n E a) (h:ev E x=some s) (hv:Conj (a1k s)):a.eval x=s.v:=(C5 he h).trans (a4u hv)
theorem a5Y {t:TypeId} {d:TypeDesc} (h:P.underlying t=some d):(isAgg t).run P w= .ok (a0i d) w:=by
 cases d<;>simp[isAgg,s8 h,a0i]
theorem J0 {t:TypeId} {f:TypeInfo} (h:P.info? t=some f):(sizeOf t).run P w= .ok f.size w:=by simp[sizeOf,typeInfo,h]
theorem a3y {t:TypeId} {f:TypeInfo} {z:Value} (h:P.info? t=some f) (hz:f.zero=some z):(zeroValue t).run P w= .ok z w:=by simp[zeroValue,typeInfo,h,hz]
def c0V (P:Program) (w:World) (t:TypeId) (cs:Array Value) (off:Nat):=(part t cs off).run P w
theorem a7L {t:TypeId} {f:TypeInfo} {d:TypeDesc} (hd:P.underlying t=some d) (hf:P.info? t=some f) (cs:Array Value) (off:Nat):
  (part t cs off).run P w=if a0i d then .ok (.agg (cs.extract off (off+f.size))) w else match cs[off]? with
   | some v=> .ok v w
   | none=>c0V P w t cs off:=by
 cases hb:a0i d
 ·cases hc:cs[off]? with
  | none=>rfl
  | some v=>simp only[part,Sem.run_bind,a5Y hd,Result.andThen_ok,hb,H2,W0,hc];rfl
 ·simp[part,a5Y hd,hb,J0 hf]
theorem a6S (hT:TabOK P T) {st f:Nat} {s:Slot} {r:LR} (h:a2g T st f s=some r):(Instr.fieldAt st s.v f).run P w= .ok r.v w:=by
 unfold a2g at h;split at h
 ·rename_i kk b o tg gg;split at h
  ·rename_i fs sz z bb hg;split at h
   ·rename_i off k ag hl;injection h with h;subst h;obtain⟨d,fi,zv,ok⟩:=B4 (hT.get hg);obtain⟨fl,e,hfl⟩:=ok.row rfl;subst e;obtain⟨g,gi,gd,h1,h2,h3,h4,h5,h6⟩:=a1D hfl hl;have h1':fl[f]? =some g:=by simpa using h1
    have hne:gi.size≠0:=by omega
    simp only[Instr.fieldAt,Sem.run_bind,s8 ok.hd,Result.andThen_ok,h1',Instr.sureAddr,Sem.run_pure,fieldPlace,J0 h2];simp[hne,Addr.add_none,h4]
   ·cases h
  ·cases h
 ·cases h
theorem b0E {cs:Array Value} {o n:Nat} {l:List Value} (h:b0F cs.toList o n=some l):cs.extract o (o+n)=l.toArray:=by
 obtain⟨h1,h2⟩:=a5V h;apply Array.toList_inj.1;subst h1;simp[List.extract_eq_take_drop]
theorem b1N (hT:TabOK P T) {t f:Nat} {s:Slot} {r:LR} (h:a7e T t f s=some r):(Instr.field t s.v f).run P w= .ok r.v w:=by
 unfold a7e at h;split at h
 ·rename_i kk cs tg gg;split at h
  ·rename_i fs sz z bb hg;obtain⟨d,fi,zv,ok⟩:=B4 (hT.get hg);obtain⟨fl,e,hfl⟩:=ok.row rfl;subst e;split at h
   ·rename_i off k hl;obtain⟨g,gi,gd,h1,h2,h3,h4,h5,h6⟩:=a1D hfl hl;have h1':fl[f]? =some g:=by simpa using h1
    split at h
    ·rename_i l hl2;injection h with h;subst h;simp only[Instr.field,Sem.run_bind,s8 ok.hd,Result.andThen_ok,h1',asAgg,Sem.run_pure,a7L h3 h2,h6,X7,h4,h5,b0E hl2]
    ·cases h
   ·rename_i off k hl;obtain⟨g,gi,gd,h1,h2,h3,h4,h5,h6⟩:=a1D hfl hl;have h1':fl[f]? =some g:=by simpa using h1
    split at h
    ·rename_i v hl2;injection h with h;subst h;rw[J2]at hl2;have hl3:cs[off]? =some v:=by simpa using hl2
     simp only[Instr.field,Sem.run_bind,s8 ok.hd,Result.andThen_ok,h1',asAgg,Sem.run_pure,a7L h3 h2,h6,H2,W0,h4,hl3]
    ·cases h
   ·cases h
  ·cases h
 ·cases h
theorem a3p (hT:TabOK P T) {t:Nat} {s i:Slot} {r:LR} (h:a0z T t s i=some r) (hob:Conj r.ob):(Instr.indexAt t s.v i.v).run P w= .ok r.v w:=by
 unfold a0z at h;split at h
 ·rename_i kk b o tg gg kk' k x tg' gg';split at h
  ·rename_i len esz sz z bb hg;injection h with h;subst h;obtain⟨d,fi,zv,ok⟩:=B4 (hT.get hg);obtain⟨e,fe,rfl,h1,h2⟩:=ok.arr rfl;simp only[Instr.indexAt,asIntOf,Sem.run_bind,Sem.run_pure,Result.andThen_ok,s8 ok.hd,Instr.sureAddr];rw[d8 ⟨hob.1,hob.2.1⟩];simp[J0 h1,h2,Addr.add_none]
  ·cases h
 ·rename_i kk b o len cap tg gg kk' k x tg' gg';split at h
  ·rename_i el esz sz z bb hg;injection h with h;subst h;obtain⟨d,fi,zv,ok⟩:=B4 (hT.get hg);obtain⟨fe,rfl,h1,h2⟩:=ok.slice rfl;simp only[Instr.indexAt,asIntOf,Sem.run_bind,Sem.run_pure,Result.andThen_ok,s8 ok.hd];rw[d8 ⟨hob.1,hob.2.1⟩];simp[J0 h1,h2,Addr.add_none]
  ·cases h
 ·cases h
end
end
section
open Go.RowKit

section
variable {P : Program} {ops : Array Oper} {rest : List Oper} {dst : Option Tmp} {ty : TypeId} {pos : String} {after : Array Edge} {a : Act} {w : World} {Q : Exit → Act → World → Prop}

end

theorem b0J (w:World) (g:Nat) (C:Array Value):w.grownBy (w.setRow g C) (some g):=
 ⟨rfl,rfl,rfl,by simp,λk _ hk=>setRow_other w g k C (λe=>hk (by simp[e]))⟩
section
variable {P : Program} {ops : Array Oper} {rest : List Oper} {dst : Option Tmp} {ty : TypeId} {pos : String} {after : Array Edge} {a : Act} {w : World} {Q : Exit → Act → World → Prop}
end

theorem a6p {w:World} {b:Nat} {T:TypeId} {C:Array Value} (hb:Blk w b T C) (o:Nat) (cs:List Value) (h:(C.toList.drop o).take cs.length=cs):w.rangeAt b o cs:=by
 intro j v hv;rw[hb.cell];have hj:j<cs.length:=(List.getElem?_eq_some_iff.1 hv).1;rw[<- h,C2,d8 hj,K8]at hv;simpa using hv
end
end Go.Proofs.YtmafiplddapokaaGreat
