/- Helpers. No condition. -/
import Derived.Test.YtgkpkpbnonmopaaGreatD01
import Derived.Laws.CopyOwn
import Derived.Laws.ResultCell
import Derived.Defers
set_option maxRecDepth 20000
set_option linter.all false
namespace Go.Proofs.YtgkpkpbnonmopaaGreat
open Go

inductive TD where
 | int (k:IntKind)
 | bool
 | row (fs:List (Nat×Nat×Bool))
 | arr (len esz:Nat)
 | slice (elem esz:Nat)
 | ptr
 | map
 | other
structure TI where
 d:TD
 size:Nat
 zero:List Value
 bytes:Nat
abbrev Tab:=List (Nat×TI)
def Tab.get:Tab->Nat->Option TI
 | [],_=>none
 | (j,i)::r,k=>match Nat.beq j k with
  | true=>some i
  | false=>Tab.get r k
def A6:TypeDesc->Bool
 | .struct _ | .array _ _=>true
 | _=>false
def fieldsOf (P:Program):List Field->Option (List (Nat×Nat×Bool))
 | []=>some []
 | f::r=>match P.info? f.type,P.underlying f.type,fieldsOf P r with
  | some i,some d,some l=>some ((f.offset,i.size,A6 d)::l)
  | _,_,_=>none
def a1G (P:Program):TypeDesc->Option TD
 | .int k=>some (.int k)
 | .bool=>some .bool
 | .struct fs=>(fieldsOf P fs.toList).map .row
 | .array n e=>(P.info? e).map λi=> .arr n i.size
 | .slice e=>(P.info? e).map λi=> .slice e i.size
 | .pointer _=>some .ptr
 | .map _ _=>some .map
 | _=>some .other
def b0r (P:Program) (t:TypeId):Option TI:=
 match P.underlying t,P.info? t with
 | some d,some i=>match i.zero,a1G P d with
  | some z,some td=>some ⟨td,i.size,z.cells.toList,i.bytes⟩
  | _,_=>none
 | _,_=>none
def TabOK (P:Program) (T:Tab):Prop:=∀p∈T,b0r P p.1=some p.2
theorem TabOK.mk {P:Program} {T:Tab} (h:T.map (λp=>b0r P p.1)=T.map (λp=>some p.2)):TabOK P T:=by
 induction T with
 | nil=>intro p hp;cases hp
 | cons q r ih=>
  simp only[List.map_cons,List.cons.injEq]at h;intro p hp;rcases List.mem_cons.1 hp with rfl | hp
  ·exact h.1
  ·exact ih h.2 p hp
theorem TabOK.get {P:Program}:∀{T:Tab},TabOK P T->∀{t:Nat} {i:TI},T.get t=some i->b0r P t=some i
 | [],_,t,i,h=>by cases h
 | (j,x)::r,hT,t,i,h=>by
  simp only[Tab.get]at h;split at h
  ·rename_i e;have:j=t:=Nat.eq_of_beq_eq_true e;subst this;injection h with h;subst h;exact hT _ (List.mem_cons_self ..)
  ·exact TabOK.get (λp hp=>hT p (List.mem_cons_of_mem _ hp)) h
structure TIOK (P:Program) (t:TypeId) (i:TI) (d:TypeDesc) (f:TypeInfo) (z:Value):Prop where
 hd:P.underlying t=some d
 hf:P.info? t=some f
 hz:f.zero=some z
 htd:a1G P d=some i.d
 hsize:i.size=f.size
 hzero:i.zero=z.cells.toList
 hbytes:i.bytes=f.bytes
theorem d8 {P:Program} {t:TypeId} {i:TI} (h:b0r P t=some i):∃d f z,TIOK P t i d f z:=by
 unfold b0r at h;split at h
 ·rename_i d f hd hf;split at h
  ·rename_i z td hz htd;injection h with h;subst h;exact⟨d,f,z,hd,hf,hz,htd,rfl,rfl,rfl⟩
  ·cases h
 ·cases h
section
variable {P : Program} {t : TypeId} {i : TI} {d : TypeDesc} {f : TypeInfo} {z : Value}
theorem TIOK.int (h:TIOK P t i d f z) {k:IntKind} (e:i.d= .int k):d= .int k:=by
 have:=h.htd;rw[e]at this;cases d<;>simp[a1G]at this
 ·rw[this]
theorem TIOK.bool (h:TIOK P t i d f z) (e:i.d= .bool):d= .bool:=by
 have:=h.htd;rw[e]at this;cases d<;>simp[a1G]at this
 ·rfl
theorem TIOK.ptr (h:TIOK P t i d f z) (e:i.d= .ptr):∃x,d= .pointer x:=by
 have:=h.htd;rw[e]at this;cases d<;>simp[a1G]at this
 ·exact⟨_,rfl⟩
theorem TIOK.map (h:TIOK P t i d f z) (e:i.d= .map):∃x y,d= .map x y:=by
 have:=h.htd;rw[e]at this;cases d<;>simp[a1G]at this
 ·exact⟨_,_,rfl⟩
theorem TIOK.arr (h:TIOK P t i d f z) {n s:Nat} (e:i.d= .arr n s):∃x fx,d= .array n x/\P.info? x=some fx/\fx.size=s:=by
 have:=h.htd;rw[e]at this;cases d<;>simp[a1G]at this
 ·obtain⟨g,h1,rfl,h2⟩:=this;exact⟨_,g,rfl,h1,h2⟩
theorem TIOK.slice (h:TIOK P t i d f z) {x s:Nat} (e:i.d= .slice x s):∃fx,d= .slice x/\P.info? x=some fx/\fx.size=s:=by
 have:=h.htd;rw[e]at this;cases d<;>simp[a1G]at this
 ·obtain⟨g,h1,rfl,h2⟩:=this;exact⟨g,rfl,h1,h2⟩
theorem TIOK.row (h:TIOK P t i d f z) {l:List (Nat×Nat×Bool)} (e:i.d= .row l):∃fs,d= .struct fs/\fieldsOf P fs.toList=some l:=by
 have:=h.htd;rw[e]at this;cases d<;>simp[a1G]at this
 ·exact⟨_,rfl,this⟩
end
def m6 {α:Type}:List α->Nat->Option α
 | [],_=>none
 | x::r,k=>match k with
  | 0=>some x
  | k+1=>m6 r k
theorem l9 {α:Type}:∀(l:List α) (k:Nat),m6 l k=l[k]?
 | [],_=>rfl
 | x::r,0=>rfl
 | x::r,k+1=>by rw[m6,l9 r k];simp
theorem I8 {P:Program}:∀{fs:List Field} {l:List (Nat×Nat×Bool)},fieldsOf P fs=some l->∀{k o s:Nat} {b:Bool},m6 l k=some (o,s,b)->
  ∃g fi gd,fs[k]? =some g/\P.info? g.type=some fi/\P.underlying g.type=some gd/\g.offset=o/\fi.size=s/\A6 gd=b
 | [],l,h,k,o,s,b,hk=>by simp only[fieldsOf,Option.some.injEq]at h;subst h;cases hk
 | g::r,l,h,k,o,s,b,hk=>by
  simp only[fieldsOf]at h;split at h
  ·rename_i i d l' h1 h2 h3;injection h with h;subst h;cases k with
   | zero=>
    simp only[m6,Option.some.injEq,Prod.mk.injEq]at hk;exact⟨g,i,d,rfl,h1,h2,hk.1,hk.2.1,hk.2.2⟩
   | succ k=>
    simp only[m6]at hk;obtain⟨g',fi,gd,e1,e2⟩:=I8 h3 hk;exact⟨g',fi,gd,by simpa using e1,e2⟩
  ·cases h
def a2G {α:Type}:List α->Nat->Option (List α)
 | _,0=>some []
 | [],_+1=>none
 | x::r,n+1=>match a2G r n with
  | some l=>some (x::l)
  | none=>none
def a4Z {α:Type}:List α->Nat->Nat->Option (List α)
 | l,0,n=>a2G l n
 | [],_+1,n=>a2G [] n
 | _::r,o+1,n=>a4Z r o n
theorem Z9 {α:Type}:∀{l:List α} {n:Nat} {m:List α},a2G l n=some m->m=l.take n/\m.length=n
 | l,0,m,h=>by simp[a2G]at h;subst h;simp
 | [],n+1,m,h=>by simp[a2G]at h
 | x::r,n+1,m,h=>by
  simp only[a2G]at h;split at h
  ·rename_i l hl;injection h with h;subst h;obtain⟨h1,h2⟩:=Z9 hl;exact⟨by simp[h1],by simp[h2]⟩
  ·cases h
theorem a0V {α:Type}:∀{l:List α} {o n:Nat} {m:List α},a4Z l o n=some m->m=(l.drop o).take n/\m.length=n
 | l,0,n,m,h=>by rw[List.drop_zero];cases l<;>exact Z9 h
 | [],o+1,n,m,h=>by simp only[a4Z]at h;simpa using Z9 h
 | x::r,o+1,n,m,h=>by simp only[a4Z]at h;simpa using a0V h
def T6 {α:Type}:List α->List α->Option (List α)
 | l,[]=>some l
 | [],_::_=>none
 | _::r,x::xs=>match T6 r xs with
  | some l=>some (x::l)
  | none=>none
def J3 {α:Type}:List α->Nat->List α->Option (List α)
 | l,0,xs=>T6 l xs
 | [],_+1,_=>none
 | y::r,o+1,xs=>match J3 r o xs with
  | some l=>some (y::l)
  | none=>none
theorem a2I {α:Type}:∀{l xs m:List α},T6 l xs=some m->m=xs++l.drop xs.length/\xs.length<=l.length
 | l,[],m,h=>by cases l<;>simp only[T6,Option.some.injEq]at h<;>subst h<;>simp
 | [],x::xs,m,h=>by simp[T6]at h
 | y::r,x::xs,m,h=>by
  simp only[T6]at h;split at h
  ·rename_i l hl;injection h with h;subst h;obtain⟨h1,h2⟩:=a2I hl;exact⟨by simp[h1],by simp;omega⟩
  ·cases h
theorem O8 {α:Type}:∀{l:List α} {o:Nat} {xs m:List α},J3 l o xs=some m->m=l.take o++xs++l.drop (o+xs.length)/\o+xs.length<=l.length
 | l,0,xs,m,h=>by
  have h':T6 l xs=some m:=by cases l<;>exact h
  obtain⟨h1,h2⟩:=a2I h';exact⟨by simp[h1],by omega⟩
 | [],o+1,xs,m,h=>by simp[J3]at h
 | y::r,o+1,xs,m,h=>by
  simp only[J3]at h;split at h
  ·rename_i l hl;injection h with h;subst h;obtain⟨h1,h2⟩:=O8 hl;refine⟨?_,by simp;omega⟩;rw[h1,show o+1+xs.length=(o+xs.length)+1 from by omega];simp
  ·cases h

def Conj:List Prop->Prop
 | []=>True
 | p::r=>p/\Conj r
theorem Conj.nil:Conj []:=trivial
theorem Conj.cons {p:Prop} {r:List Prop} (h:p) (h':Conj r):Conj (p::r):=⟨h,h'⟩
theorem Conj.app:∀{l m:List Prop},Conj (l++m)->Conj l/\Conj m
 | [],m,h=>⟨trivial,h⟩
 | p::r,m,h=>⟨⟨h.1,(Conj.app (l:=r) h.2).1⟩,(Conj.app (l:=r) h.2).2⟩
def n7:G->List Prop
 | .tt=>[]
 | .when c=>[c=true]
def H1:Slot->List Prop
 | ⟨_,_,_,g⟩=>n7 g
theorem Z0 {s:Slot} (h:Conj (H1 s)):s.val=s.v:=by
 obtain⟨k,v,t,g⟩:=s;unfold Slot.val;cases g with
 | tt=>rfl
 | when c=>simp only[H1,n7]at h;simp only[G.on];rw[h.1]
def ikN:IntKind->Nat
 | .i8=>0 | .i16=>1 | .i32=>2 | .i64=>3 | .u8=>4 | .u16=>5 | .u32=>6 | .u64=>7
theorem b3G {a b:IntKind} (h:Nat.beq (ikN a) (ikN b)=true):a=b:=by
 cases a<;>cases b<;>first | rfl | cases h
def inR:IntKind->Int->List Prop
 | .i8,z=>[-128<=z,z<=127] | .i16,z=>[-32768<=z,z<=32767] | .i32,z=>[-2147483648<=z,z<=2147483647]
 | .i64,z=>[-9223372036854775808<=z,z<=9223372036854775807]
 | .u8,z=>[0<=z,z<=255] | .u16,z=>[0<=z,z<=65535] | .u32,z=>[0<=z,z<=4294967295] | .u64,z=>[0<=z,z<=18446744073709551615]
theorem J8 {k:IntKind} {z:Int} (h:Conj (inR k z)):k.wrap z=z:=by
 have p7:(2:Int)^7=128:=rfl;have p8:(2:Int)^8=256:=rfl;have p15:(2:Int)^15=32768:=rfl;have p16:(2:Int)^16=65536:=rfl;have p31:(2:Int)^31=2147483648:=rfl;have p32:(2:Int)^32=4294967296:=rfl;have p63:(2:Int)^63=9223372036854775808:=rfl;have p64:(2:Int)^64=18446744073709551616:=rfl;cases k<;>simp only[inR,Conj]at h<;>simp[IntKind.wrap,IntKind.bits,IntKind.signed]<;>(try split)<;>omega
def b5t:BinOp->IntKind->Int->Int->Option (Value×List Prop)
 | .add,k,m,n=>some (.int k (m+n),inR k (m+n))
 | .sub,k,m,n=>some (.int k (m-n),inR k (m-n))
 | .mul,k,m,n=>some (.int k (m*n),inR k (m*n))
 | .quo,k,m,n=>some (.int k (m.tdiv n),(n≠0)::inR k (m.tdiv n))
 | .rem,k,m,n=>some (.int k (m.tmod n),[n≠0])
 | .and,k,m,n=>some (.int k (k.wrap (BitVec.ofInt k.bits m&&& BitVec.ofInt k.bits n).toNat),[])
 | .or,k,m,n=>some (.int k (k.wrap (BitVec.ofInt k.bits m||| BitVec.ofInt k.bits n).toNat),[])
 | .xor,k,m,n=>some (.int k (k.wrap (BitVec.ofInt k.bits m ^^^ BitVec.ofInt k.bits n).toNat),[])
 | .andNot,k,m,n=>some (.int k (k.wrap (BitVec.ofInt k.bits m&&& ~~~ BitVec.ofInt k.bits n).toNat),[])
 | .eql,_,m,n=>some (.bool (m==n),[])
 | .neq,_,m,n=>some (.bool (m !=n),[])
 | .lss,_,m,n=>some (.bool (decide (m<n)),[])
 | .leq,_,m,n=>some (.bool (decide (m<=n)),[])
 | .gtr,_,m,n=>some (.bool (decide (m>n)),[])
 | .geq,_,m,n=>some (.bool (decide (m>=n)),[])
 | _,_,_,_=>none
def shI:BinOp->IntKind->Int->Int->Option (Value×List Prop)
 | .shl,k,m,n=>some (.int k (m*2^(min n.toNat k.bits)),(0<=n)::inR k (m*2^(min n.toNat k.bits)))
 | .shr,k,m,n=>some (.int k (m.fdiv (2^(min n.toNat k.bits))),[0<=n])
 | _,_,_,_=>none
def a5t:Option TD->Value->Value->Option Bool
 | some .bool, .bool a, .bool b=>some (a==b)
 | some .ptr, .pointer none, .pointer none=>some true
 | some .ptr, .pointer (some _), .pointer none=>some false
 | some .ptr, .pointer none, .pointer (some _)=>some false
 | some (.slice _ _), .slice none _ _, .slice none _ _=>some true
 | some (.slice _ _), .slice none _ _, .slice (some _) _ _=>some false
 | some (.slice _ _), .slice (some _) _ _, .slice none _ _=>some false
 | some .map, .map none, .map none=>some true
 | some .map, .map none, .map (some _)=>some false
 | some .map, .map (some _), .map none=>some false
 | _,_,_=>none
def b5s (T:Tab) (op:BinOp) (t:TypeId):Value->Value->Option (Value×List Prop)
 | .int k m, .int k' n=>match shI op k m n with
  | some r=>some r
  | none=>match Nat.beq (ikN k) (ikN k')with
   | true=>b5t op k m n
   | false=>none
 | x,y=>match op with
  | .eql=>match a5t ((T.get t).map (·.d)) x y with
   | some b=>some (.bool b,[])
   | none=>none
  | .neq=>match a5t ((T.get t).map (·.d)) x y with
   | some b=>some (.bool (!b),[])
   | none=>none
  | _=>none
def unV:UnOp->Value->Option (Value×List Prop)
 | .neg, .int k n=>some (.int k (0-n),inR k (0-n))
 | .not, .bool b=>some (.bool (!b),[])
 | _,_=>none

section
variable {P : Program} {w : World}
theorem b2x {op:BinOp} {k:IntKind} {m n:Int} {v:Value} {ob:List Prop} (h:b5t op k m n=some (v,ob)) (hob:Conj ob) (t:TypeId):(binOp op t (.int k m) (.int k n)).run P w= .ok v w:=by
 cases op<;>simp only[b5t,Option.some.injEq,Prod.mk.injEq,reduceCtorEq]at h<;>obtain⟨rfl,rfl⟩:=h
 case add=>simp[binOp,Op.intArith,J8 hob]
 case sub=>simp[binOp,Op.intArith,J8 hob]
 case mul=>simp[binOp,Op.intArith,J8 hob]
 case quo=>simp[binOp,Op.intDiv,hob.1,J8 hob.2]
 case rem=>simp[binOp,Op.intDiv,hob.1]
 all_goals first | (simp[binOp,Op.intBits];done) | (simp[binOp,Op.intCmp];done)
theorem b2Z {op:BinOp} {k k':IntKind} {m n:Int} {v:Value} {ob:List Prop} (h:shI op k m n=some (v,ob)) (hob:Conj ob) (t:TypeId):(binOp op t (.int k m) (.int k' n)).run P w= .ok v w:=by
 cases op<;>simp only[shI,Option.some.injEq,Prod.mk.injEq,reduceCtorEq]at h<;>obtain⟨rfl,rfl⟩:=h
 case shl=>simp[binOp,Op.shift,Int.not_lt.2 hob.1,J8 hob.2]
 case shr=>simp[binOp,Op.shift,Int.not_lt.2 hob.1]
theorem d4 {t:TypeId} {d:TypeDesc} (h:P.underlying t=some d):(underlying t).run P w= .ok d w:=by simp[underlying,h]
theorem a5s (d:Nat) {t:TypeId} (h:P.underlying t=some .bool) (a b:Bool):(Op.equalIn (d+1) t (.bool a) (.bool b)).run P w= .ok (a==b) w:=by simp[Op.equalIn,d4 h]
theorem a0D (d:Nat) {t x:TypeId} (h:P.underlying t=some (.pointer x)) (b:Option Addr):(Op.equalIn (d+1) t (.pointer none) (.pointer b)).run P w= .ok b.isNone w:=by simp[Op.equalIn,d4 h]
theorem a5q (d:Nat) {t x:TypeId} (h:P.underlying t=some (.pointer x)) (b:Addr):(Op.equalIn (d+1) t (.pointer (some b)) (.pointer none)).run P w= .ok false w:=by simp[Op.equalIn,d4 h]
theorem a1A (d:Nat) {t x:TypeId} (h:P.underlying t=some (.slice x)) (b:Option Addr) (m n m' n':Nat):(Op.equalIn (d+1) t (.slice none m n) (.slice b m' n')).run P w= .ok b.isNone w:=by simp[Op.equalIn,d4 h]
theorem a6N (d:Nat) {t x:TypeId} (h:P.underlying t=some (.slice x)) (b:Addr) (m n m' n':Nat):(Op.equalIn (d+1) t (.slice (some b) m n) (.slice none m' n')).run P w= .ok false w:=by simp[Op.equalIn,d4 h]
theorem a0E (d:Nat) {t x y:TypeId} (h:P.underlying t=some (.map x y)) (b:Option Nat):(Op.equalIn (d+1) t (.map none) (.map b)).run P w= .ok b.isNone w:=by simp[Op.equalIn,d4 h]
theorem a5r (d:Nat) {t x y:TypeId} (h:P.underlying t=some (.map x y)) (b:Nat):(Op.equalIn (d+1) t (.map (some b)) (.map none)).run P w= .ok false w:=by simp[Op.equalIn,d4 h]
theorem a2X (t:TypeId) (x y:Value):Op.equal t x y=Op.equalIn (9999+1) t x y:=rfl
theorem a6O {T:Tab} (hT:TabOK P T) {t:TypeId} {x y:Value} {b:Bool} (h:a5t ((T.get t).map (·.d)) x y=some b):(Op.equal t x y).run P w= .ok b w/\∀op o1 o2,(eqGuard op t o1 o2 x y).run P w= .ok () w:=by
 rw[a2X];generalize 9999=n;cases hg:T.get t with
 | none=>rw[hg]at h;simp[a5t]at h
 | some i=>
  rw[hg]at h;obtain⟨d,f,z,ok⟩:=d8 (hT.get hg);simp only[Option.map_some]at h;generalize hd:i.d=td at h;unfold a5t at h;split at h<;>simp only[Option.some.injEq,reduceCtorEq]at h<;>subst h<;>rename_i e<;>injection e with e<;>subst e
  ·have:=ok.bool hd;subst this;exact⟨a5s n ok.hd _ _,λop o1 o2=>by cases op<;>rfl⟩
  ·obtain⟨x',e⟩:=ok.ptr hd;subst e;exact⟨a0D n ok.hd _,λop o1 o2=>by cases op<;>rfl⟩
  ·obtain⟨x',e⟩:=ok.ptr hd;subst e;exact⟨a5q n ok.hd _,λop o1 o2=>by cases op<;>rfl⟩
  ·obtain⟨x',e⟩:=ok.ptr hd;subst e;exact⟨a0D n ok.hd _,λop o1 o2=>by cases op<;>rfl⟩
  ·obtain⟨fx,e,_⟩:=ok.slice hd;subst e;exact⟨a1A n ok.hd _ _ _ _ _,λop o1 o2=>by cases op<;>rfl⟩
  ·obtain⟨fx,e,_⟩:=ok.slice hd;subst e;exact⟨a1A n ok.hd _ _ _ _ _,λop o1 o2=>by cases op<;>rfl⟩
  ·obtain⟨fx,e,_⟩:=ok.slice hd;subst e;exact⟨a6N n ok.hd _ _ _ _ _,λop o1 o2=>by cases op<;>rfl⟩
  ·obtain⟨x',y',e⟩:=ok.map hd;subst e;exact⟨a0E n ok.hd _,λop o1 o2=>by cases op<;>rfl⟩
  ·obtain⟨x',y',e⟩:=ok.map hd;subst e;exact⟨a0E n ok.hd _,λop o1 o2=>by cases op<;>rfl⟩
  ·obtain⟨x',y',e⟩:=ok.map hd;subst e;exact⟨a5r n ok.hd _,λop o1 o2=>by cases op<;>rfl⟩
theorem b2w {T:Tab} (hT:TabOK P T) {op:BinOp} {t:TypeId} {x y v:Value} {ob:List Prop} (h:b5s T op t x y=some (v,ob)) (hob:Conj ob) (o1 o2:Operand):
  (do eqGuard op t o1 o2 x y;binOp op t x y:Sem Value).run P w= .ok v w:=by
 unfold b5s at h;split at h
 ·rename_i k m k' n;have hg:(eqGuard op t o1 o2 (.int k m) (.int k' n)).run P w= .ok () w:=by cases op<;>simp[eqGuard]
  simp only[Sem.run_bind,hg,Result.andThen_ok];split at h
  ·rename_i r hr;injection h with h;subst h;exact b2Z hr hob t
  ·split at h
   ·rename_i e;have:=b3G e;subst this;exact b2x h hob t
   ·cases h
 ·rename_i hne;split at h
  ·split at h
   ·rename_i b hb;injection h with h;simp only[Prod.mk.injEq]at h;obtain⟨rfl,rfl⟩:=h;obtain⟨h1,h2⟩:=a6O (w:=w) hT hb;simp only[Sem.run_bind,h2,Result.andThen_ok];have:binOp .eql t x y=(do pure (.bool (<- Op.equal t x y)):Sem Value):=by
     cases x<;>cases y<;>first | rfl | (exact(hne _ _ _ _ rfl rfl).elim) | (revert hb;cases(T.get t).map (·.d)with
      | none=>simp[a5t]
      | some d=>cases d<;>simp[a5t])
    simp[this,h1]
   ·cases h
  ·split at h
   ·rename_i b hb;injection h with h;simp only[Prod.mk.injEq]at h;obtain⟨rfl,rfl⟩:=h;obtain⟨h1,h2⟩:=a6O (w:=w) hT hb;simp only[Sem.run_bind,h2,Result.andThen_ok];have:binOp .neq t x y=(do pure (.bool (!(<- Op.equal t x y))):Sem Value):=by
     cases x<;>cases y<;>first | rfl | (exact(hne _ _ _ _ rfl rfl).elim) | (revert hb;cases(T.get t).map (·.d)with
      | none=>simp[a5t]
      | some d=>cases d<;>simp[a5t])
    simp[this,h1]
   ·cases h
  ·cases h
theorem b2O {op:UnOp} {x v:Value} {ob:List Prop} (h:unV op x=some (v,ob)) (hob:Conj ob):(Op.unary op x).run P w= .ok v w:=by
 unfold unV at h;split at h<;>simp only[Option.some.injEq,Prod.mk.injEq,reduceCtorEq]at h<;>obtain⟨rfl,rfl⟩:=h
 ·simp only[Op.unary,Op.intArith,J8 hob];rfl
 ·rfl
end

structure LR where
 v:Value
 tag:Nat
 ob:List Prop
 rd:Nat
def a1K (p:Prop):Slot->List Prop
 | ⟨_,_,_, .tt⟩=>[]
 | ⟨_,_,_, .when c⟩=>[p->c=true]
def L5 (T:Tab) (st f:Nat):Slot->Option LR
 | ⟨_, .pointer (some ⟨b,o,none⟩),tag,g⟩=>match T.get st with
  | some ⟨.row fs,_,_,_⟩=>match m6 fs f with
   | some (off,_+1,_)=>some ⟨.pointer (some ⟨b,o+off,none⟩),tag,n7 g,0⟩
   | _=>none
  | _=>none
 | _=>none
def a1Q (T:Tab) (t f:Nat):Slot->Option LR
 | ⟨_, .agg cs,_,g⟩=>match T.get t with
  | some ⟨.row fs,_,_,_⟩=>match m6 fs f with
   | some (off,sz,true)=>match a4Z cs.toList off sz with
    | some l=>some ⟨.agg l.toArray,0,n7 g,0⟩
    | none=>none
   | some (off,_,false)=>match m6 cs.toList off with
    | some v=>some ⟨v,0,n7 g,0⟩
    | none=>none
   | none=>none
  | _=>none
 | _=>none
def C5 (T:Tab) (t:Nat):Slot->Slot->Option LR
 | ⟨_, .pointer (some ⟨b,o,none⟩),tag,g⟩,⟨_, .int _ n,_,g'⟩=>match T.get t with
  | some ⟨.arr len esz,_,_,_⟩=>some ⟨.pointer (some ⟨b,o+n.toNat*esz,none⟩),tag,(0<=n)::(n<(len:Int))::(n7 g++n7 g'),0⟩
  | _=>none
 | ⟨_, .slice (some ⟨b,o,none⟩) len _,tag,g⟩,⟨_, .int _ n,_,g'⟩=>match T.get t with
  | some ⟨.slice _ esz,_,_,_⟩=>some ⟨.pointer (some ⟨b,o+n.toNat*esz,none⟩),tag,(0<=n)::(n<(len:Int))::(n7 g++n7 g'),0⟩
  | _=>none
 | _,_=>none
def a7A (E:Env) (c a b:Operand):Option LR:=match ev E c with
 | some ⟨kc, .bool cb,tc,gc⟩=>match b with
  | .const (.bool false)=>match ev E a with
   | some ⟨ka, .bool va,ta,ga⟩=>some ⟨.bool (cb&&va),0,n7 gc++a1K (cb=true) ⟨ka, .bool va,ta,ga⟩,0⟩
   | _=>none
  | _=>match a with
   | .const (.bool true)=>match ev E b with
    | some ⟨kb, .bool vb,tb,gb⟩=>some ⟨.bool (cb||vb),0,n7 gc++a1K (cb=false) ⟨kb, .bool vb,tb,gb⟩,0⟩
    | _=>none
   | _=>none
 | _=>none
def a0a (T:Tab) (L:List Atom) (t:Nat):Slot->Option LR
 | ⟨_, .pointer (some ⟨b,o,none⟩),i+1,g⟩=>match m6 L i with
  | some (.pt b' _ cs)=>match T.get t with
   | some ⟨.row _,sz,_,_⟩=>match a4Z cs o sz with
    | some l=>some ⟨.agg l.toArray,0,(b=b')::n7 g,i+1⟩
    | none=>none
   | some ⟨.arr _ _,sz,_,_⟩=>match a4Z cs o sz with
    | some l=>some ⟨.agg l.toArray,0,(b=b')::n7 g,i+1⟩
    | none=>none
   | some _=>match m6 cs o with
    | some v=>some ⟨v,0,(b=b')::n7 g,i+1⟩
    | none=>none
   | none=>none
  | _=>none
 | _=>none
def L6 (E:Env):Option Operand->Nat->Option (Nat×List Prop)
 | none,d=>some (d,[])
 | some x,_=>match ev E x with
  | some ⟨_, .int _ n,_,g⟩=>some (n.toNat,(0<=n)::n7 g)
  | _=>none
def a1P (T:Tab) (E:Env) (t:Nat) (lo hi:Option Operand):Slot->Option LR
 | ⟨_, .pointer (some ⟨b,o,none⟩),tag,g⟩=>match T.get t with
  | some ⟨.arr n esz,_,_,_⟩=>match L6 E lo 0,L6 E hi n with
   | some (l,ol),some (h,oh)=>some ⟨.slice (some ⟨b,o+l*esz,none⟩) (h-l) (n-l),tag,n7 g++ol++oh++[l<=h,h<=n,l=0\/l<n],0⟩
   | _,_=>none
  | _=>none
 | ⟨_, .slice (some ⟨b,o,none⟩) len cap,tag,g⟩=>match T.get t with
  | some ⟨.slice _ esz,_,_,_⟩=>match L6 E lo 0,L6 E hi len with
   | some (l,ol),some (h,oh)=>some ⟨.slice (some ⟨b,o+l*esz,none⟩) (h-l) (cap-l),tag,n7 g++ol++oh++[l<=h,h<=cap,l=0\/l<cap],0⟩
   | _,_=>none
  | _=>none
 | _=>none
def slots (E:Env):List Operand->Option (List Slot)
 | []=>some []
 | x::r=>match ev E x,slots E r with
  | some s,some l=>some (s::l)
  | _,_=>none
def J0:List Slot->List Prop
 | []=>[]
 | s::r=>H1 s++J0 r
def vals:List Slot->List Value
 | []=>[]
 | ⟨_,v,_,_⟩::r=>v::vals r
def a2U (place:Nat->Option (Nat×Nat)):List Value->List (Nat×Value)->Option (List Value)
 | cs,[]=>some cs
 | cs,(i,v)::r=>match place i with
  | some (off,sz)=>match Nat.beq v.cells.toList.length sz,J3 cs off v.cells.toList with
   | true,some cs'=>a2U place cs' r
   | _,_=>none
  | none=>none
def Z6:List (Nat×Operand)->List Slot->List (Nat×Value)
 | (i,_)::r,⟨_,v,_,_⟩::l=>(i,v)::Z6 r l
 | _,_=>[]
def a2r (fs:List (Nat×Nat×Bool)) (i:Nat):Option (Nat×Nat):=match m6 fs i with
 | some (off,sz,_)=>some (off,sz)
 | none=>none
def a5a (T:Tab) (E:Env) (t:Nat) (parts:List (Nat×Operand)):Option LR:=match T.get t,slots E (parts.map (·.2))with
 | some ⟨.row fs,_,z,_⟩,some l=>match a2U (a2r fs) z (Z6 parts l)with
  | some cs=>some ⟨.agg cs.toArray,0,J0 l,0⟩
  | none=>none
 | some ⟨.arr _ esz,_,z,_⟩,some l=>match a2U (λi=>some (i*esz,esz)) z (Z6 parts l)with
  | some cs=>some ⟨.agg cs.toArray,0,J0 l,0⟩
  | none=>none
 | _,_=>none
def a7C (T:Tab) (E:Env) (b:Builtin) (ts:List TypeId) (xs:List Operand):Option LR:=match b,ts,slots E xs with
 | .len,t::_,some (⟨_, .slice _ n _,_,g⟩::_)=>match T.get t with
  | some ⟨.slice _ _,_,_,_⟩=>some ⟨.int .i64 (n:Int),0,n7 g,0⟩
  | _=>none
 | .cap,t::_,some (⟨_, .slice _ _ n,_,g⟩::_)=>match T.get t with
  | some ⟨.slice _ _,_,_,_⟩=>some ⟨.int .i64 (n:Int),0,n7 g,0⟩
  | _=>none
 | .min,_,some [⟨_, .int k x,_,g⟩,⟨_, .int _ y,_,g'⟩]=>some ⟨.int k (if y<x then y else x),0,n7 g++n7 g',0⟩
 | .max,_,some [⟨_, .int k x,_,g⟩,⟨_, .int _ y,_,g'⟩]=>some ⟨.int k (if y>x then y else x),0,n7 g++n7 g',0⟩
 | _,_,_=>none
def look (T:Tab) (E:Env) (L:List Atom):Op->Option LR
 | .move x | .assign x=>match ev E x with
  | some ⟨_,v,t,g⟩=>some ⟨v,t,n7 g,0⟩
  | none=>none
 | .pick c a b=>a7A E c a b
 | .nilCheck x=>match ev E x with
  | some ⟨_, .pointer (some a),t,g⟩=>some ⟨.pointer (some a),t,n7 g,0⟩
  | _=>none
 | .binOp op t x y _=>match ev E x,ev E y with
  | some ⟨_,v,_,g⟩,some ⟨_,v',_,g'⟩=>match b5s T op t v v' with
   | some (u,ob)=>some ⟨u,0,ob++n7 g++n7 g',0⟩
   | none=>none
  | _,_=>none
 | .unOp op _ x=>match ev E x with
  | some ⟨_,v,_,g⟩=>match unV op v with
   | some (u,ob)=>some ⟨u,0,ob++n7 g,0⟩
   | none=>none
  | none=>none
 | .convert src dst x=>match ev E x,T.get dst,T.get src with
  | some ⟨_, .int _ n,_,g⟩,some ⟨.int k',_,_,_⟩,some _=>some ⟨.int k' n,0,inR k' n++n7 g,0⟩
  | _,_,_=>none
 | .fieldAddr st x f=>match ev E x with
  | some s=>L5 T st f s
  | none=>none
 | .field t x f=>match ev E x with
  | some s=>a1Q T t f s
  | none=>none
 | .indexAddr t x (.const i)=>match ev E x with
  | some s=>C5 T t s ⟨0,i,0, .tt⟩
  | none=>none
 | .indexAddr t x i=>match ev E x,ev E i with
  | some ⟨k,v,_,g⟩,some s'=>C5 T t ⟨k,v,0,g⟩ s'
  | _,_=>none
 | .extract x i=>match ev E x with
  | some ⟨_, .tuple vs,_,g⟩=>match m6 vs.toList i with
   | some v=>some ⟨v,0,n7 g,0⟩
   | none=>none
  | _=>none
 | .slice t x lo hi none=>match ev E x with
  | some s=>a1P T E t lo hi s
  | none=>none
 | .build t parts=>a5a T E t parts.toList
 | .makeFunc fn first captured=>match slots E first.toList,slots E captured.toList with
  | some l,some l'=>some ⟨.func fn (vals l).toArray (vals l').toArray,0,J0 l++J0 l',0⟩
  | _,_=>none
 | .load t x=>match ev E x with
  | some s=>a0a T L t s
  | none=>none
 | .call ⟨.builtin b,args,ts⟩=>a7C T E b ts.toList args.toList
 | _=>none

section
variable {P : Program} {T : Tab} {E : Env} {L : List Atom} {n : Nat} {a : Act} {w : World}
theorem Addr.add_none (b o k:Nat):(⟨b,o,none⟩:Addr).add k=⟨b,o+k,none⟩:=by
 unfold Addr.add;split
 ·rename_i h;subst h;rfl
 ·rfl
theorem evs {x:Operand} {s:Slot} (he:EnvOK n E a) (h:ev E x=some s) (hv:Conj (H1 s)):a.eval x=s.v:=(i7 he h).trans (Z0 hv)
theorem a1a {t:TypeId} {d:TypeDesc} (h:P.underlying t=some d):(isAgg t).run P w= .ok (A6 d) w:=by
 cases d<;>simp[isAgg,d4 h,A6]
theorem l6 {t:TypeId} {f:TypeInfo} (h:P.info? t=some f):(sizeOf t).run P w= .ok f.size w:=by simp[sizeOf,typeInfo,h]
theorem U5 {t:TypeId} {f:TypeInfo} {z:Value} (h:P.info? t=some f) (hz:f.zero=some z):(zeroValue t).run P w= .ok z w:=by simp[zeroValue,typeInfo,h,hz]
def b4V (P:Program) (w:World) (t:TypeId) (cs:Array Value) (off:Nat):=(part t cs off).run P w
theorem a2u {t:TypeId} {f:TypeInfo} {d:TypeDesc} (hd:P.underlying t=some d) (hf:P.info? t=some f) (cs:Array Value) (off:Nat):
  (part t cs off).run P w=if A6 d then .ok (.agg (cs.extract off (off+f.size))) w else match cs[off]? with
   | some v=> .ok v w
   | none=>b4V P w t cs off:=by
 cases hb:A6 d
 ·cases hc:cs[off]? with
  | none=>rfl
  | some v=>simp only[part,Sem.run_bind,a1a hd,Result.andThen_ok,hb,Bool.false_eq_true,if_false,hc];rfl
 ·simp[part,a1a hd,hb,l6 hf]
theorem a1I (hT:TabOK P T) {st f:Nat} {s:Slot} {r:LR} (h:L5 T st f s=some r):(Instr.fieldAt st s.v f).run P w= .ok r.v w:=by
 unfold L5 at h;split at h
 ·rename_i kk b o tg gg;split at h
  ·rename_i fs sz z bb hg;split at h
   ·rename_i off k ag hl;injection h with h;subst h;obtain⟨d,fi,zv,ok⟩:=d8 (hT.get hg);obtain⟨fl,e,hfl⟩:=ok.row rfl;subst e;obtain⟨g,gi,gd,h1,h2,h3,h4,h5,h6⟩:=I8 hfl hl;have h1':fl[f]? =some g:=by simpa using h1
    have hne:gi.size≠0:=by omega
    simp only[Instr.fieldAt,Sem.run_bind,d4 ok.hd,Result.andThen_ok,h1',Instr.sureAddr,Sem.run_pure,fieldPlace,l6 h2];simp[hne,Addr.add_none,h4]
   ·cases h
  ·cases h
 ·cases h
theorem a4Y {cs:Array Value} {o n:Nat} {l:List Value} (h:a4Z cs.toList o n=some l):cs.extract o (o+n)=l.toArray:=by
 obtain⟨h1,h2⟩:=a0V h;apply Array.toList_inj.1;subst h1;simp[List.extract_eq_take_drop]
theorem a6v (hT:TabOK P T) {t f:Nat} {s:Slot} {r:LR} (h:a1Q T t f s=some r):(Instr.field t s.v f).run P w= .ok r.v w:=by
 unfold a1Q at h;split at h
 ·rename_i kk cs tg gg;split at h
  ·rename_i fs sz z bb hg;obtain⟨d,fi,zv,ok⟩:=d8 (hT.get hg);obtain⟨fl,e,hfl⟩:=ok.row rfl;subst e;split at h
   ·rename_i off k hl;obtain⟨g,gi,gd,h1,h2,h3,h4,h5,h6⟩:=I8 hfl hl;have h1':fl[f]? =some g:=by simpa using h1
    split at h
    ·rename_i l hl2;injection h with h;subst h;simp only[Instr.field,Sem.run_bind,d4 ok.hd,Result.andThen_ok,h1',asAgg,Sem.run_pure,a2u h3 h2,h6,if_true,h4,h5,a4Y hl2]
    ·cases h
   ·rename_i off k hl;obtain⟨g,gi,gd,h1,h2,h3,h4,h5,h6⟩:=I8 hfl hl;have h1':fl[f]? =some g:=by simpa using h1
    split at h
    ·rename_i v hl2;injection h with h;subst h;rw[l9]at hl2;have hl3:cs[off]? =some v:=by simpa using hl2
     simp only[Instr.field,Sem.run_bind,d4 ok.hd,Result.andThen_ok,h1',asAgg,Sem.run_pure,a2u h3 h2,h6,Bool.false_eq_true,if_false,h4,hl3]
    ·cases h
   ·cases h
  ·cases h
 ·cases h
theorem T7 (hT:TabOK P T) {t:Nat} {s i:Slot} {r:LR} (h:C5 T t s i=some r) (hob:Conj r.ob):(Instr.indexAt t s.v i.v).run P w= .ok r.v w:=by
 unfold C5 at h;split at h
 ·rename_i kk b o tg gg kk' k x tg' gg';split at h
  ·rename_i len esz sz z bb hg;injection h with h;subst h;obtain⟨d,fi,zv,ok⟩:=d8 (hT.get hg);obtain⟨e,fe,rfl,h1,h2⟩:=ok.arr rfl;simp only[Instr.indexAt,asIntOf,Sem.run_bind,Sem.run_pure,Result.andThen_ok,d4 ok.hd,Instr.sureAddr];rw[if_pos ⟨hob.1,hob.2.1⟩];simp[l6 h1,h2,Addr.add_none]
  ·cases h
 ·rename_i kk b o len cap tg gg kk' k x tg' gg';split at h
  ·rename_i el esz sz z bb hg;injection h with h;subst h;obtain⟨d,fi,zv,ok⟩:=d8 (hT.get hg);obtain⟨fe,rfl,h1,h2⟩:=ok.slice rfl;simp only[Instr.indexAt,asIntOf,Sem.run_bind,Sem.run_pure,Result.andThen_ok,d4 ok.hd];rw[if_pos ⟨hob.1,hob.2.1⟩];simp[l6 h1,h2,Addr.add_none]
  ·cases h
 ·cases h
end
end Go.Proofs.YtgkpkpbnonmopaaGreat
namespace Go.Proofs.YtgkpkpbnonmopaaGreat
open Go.RowKit

structure AggT (P:Program) (T:TypeId) (n:Nat):Prop where
 desc:∃d,P.underlying T=some d/\d.isRow=true
 size:(P.info? T).map (·.size)=some n

section
variable {P : Program} {ops : Array Oper} {rest : List Oper} {dst : Option Tmp} {ty : TypeId} {pos : String} {after : Array Edge} {a : Act} {w : World} {Q : Exit → Act → World → Prop}

theorem x5 (T:TypeId) (cs:List Value) (b o:Nat) {p:Tmp} (hA:AggT P T cs.length) (hc:w.rangeAt b o cs) (hx:a.eval (.tmp p)= .pointer (some ⟨b,o,none⟩))
  (h:wpList P ops Q rest (a.put dst (.agg cs.toArray)) w):wpList P ops Q (⟨dst, .load T (.tmp p),ty,pos,after,none⟩::rest) a w:=by
 obtain⟨d,h1,h2⟩:=hA.desc;exact wpList_load_mid rfl T (.tmp p) rfl b o hx cs d hc h1 h2 hA.size h

theorem M9 (T:TypeId) (cs:List Value) (b o:Nat) {p:Tmp} {gd:Nat×Bool} (hA:AggT P T cs.length) (hc:w.rangeAt b o cs) (hx:a.eval (.tmp p)= .pointer (some ⟨b,o,none⟩)) (hg:(yielded ops a.tmps gd.1==some gd.2)=true)
  (h:wpList P ops Q rest (a.put dst (.agg cs.toArray)) w):wpList P ops Q (⟨dst, .load T (.tmp p),ty,pos,after,some gd⟩::rest) a w:=by
 obtain⟨d,h1,h2⟩:=hA.desc;refine wpList_step λK hK=>?_;have hw:Region.wanted (⟨dst, .load T (.tmp p),ty,pos,after,some gd⟩:Oper) (yielded ops a.tmps)=true:=hg;rw[if_pos hw];exact wp_load_mid T (.tmp p) rfl b o hx cs d hc h1 h2 hA.size (hK _ _ h)

theorem a0p (W:World) (T:TypeId):∀(cs:List Value) (pre Z:List Value),Z.length=cs.length->(W.alloc (.cells (pre++Z).toArray T)).setCells W.heap.size pre.length cs=W.alloc (.cells (pre++cs).toArray T)
 | [],pre,Z,h=>by
  have:Z=[]:=List.eq_nil_of_length_eq_zero (by simpa using h);subst this;rfl
 | c::cs,pre,z::Z,h=>by
  rw[World.setCells];have e:(W.alloc (.cells (pre++z::Z).toArray T)).setCell ⟨W.heap.size,pre.length,none⟩ c=W.alloc (.cells ((pre++[c])++Z).toArray T):=by
   simp only[World.setCell,World.alloc];congr 1;apply Array.ext_getElem?;intro i;rw[Array.getElem?_modify,Array.getElem?_push,Array.getElem?_push]
   by_cases hi:i=W.heap.size
   ·subst hi;simp
   ·simp[hi,Ne.symm hi]
  rw[e];have:=a0p W T cs (pre++[c]) Z (by simpa using h);simpa using this
 | c::cs,pre,[],h=>by simp at h

theorem Q3 (T:TypeId) (W:World) (Z C:Array Value) (T':TypeId) {p q:Tmp} (hA:AggT P T C.size) (hZ:Z.size=C.size) (h1:C.all (·.oneCell')=true) (hx:a.eval (.tmp p)= .pointer (some ⟨W.heap.size,0,none⟩)) (hy:a.eval (.tmp q)= .agg C)
  (h:wpList P ops Q rest (a.put dst undef) (W.alloc (.cells C T'))):wpList P ops Q (⟨dst, .store T (.tmp p) (.tmp q),ty,pos,after,none⟩::rest) a (W.alloc (.cells Z T')):=by
 have ht:(W.alloc (.cells Z T')).there W.heap.size 0 C.size:=by
  intro j hj;have hb:=Blk.new W T' Z;refine⟨?_,hb.frozen _⟩;rw[hb.cell,Nat.zero_add,Array.getElem?_eq_getElem (by omega)];rfl
 refine wpList_store_mid rfl T (.tmp p) (.tmp q) rfl W.heap.size 0 C hx hy ht hA.size h1 ?_;have:=a0p W T' C.toList [] Z.toList (by simp[hZ]);simp only[List.nil_append,List.length_nil,Array.toArray_toList]at this;rw[this];exact h
end

theorem a7G (w:World) (r:Option Nat):w.grownBy w r:=⟨rfl,rfl,rfl,Nat.le_refl _,λ_ _ _=>rfl⟩
theorem t6 (w:World) (p:Addr) (u:Value):w.grownBy (w.setCell p u) (some p.block):=
 ⟨rfl,rfl,rfl,by simp[World.setCell],λk _ hk=>heap_setCell_other _ _ _ _ (λe=>hk (by simp[e]))⟩
theorem a0x (w:World) (g:Nat) (C:Array Value):w.grownBy (w.setRow g C) (some g):=
 ⟨rfl,rfl,rfl,by simp,λk _ hk=>setRow_other w g k C (λe=>hk (by simp[e]))⟩
theorem Blk.setRow {w:World} {g:Nat} {t:TypeId} {old:Array Value} (h:Blk w g t old) (C:Array Value):Blk (w.setRow g C) g t C:=setRow_heap w g old C t (0,0) h

theorem a0q (b:Nat) (t:TypeId):∀(cs pre Z post:List Value) (w:World),Blk w b t (pre++Z++post).toArray->Z.length=cs.length->
  Blk (w.setCells b pre.length cs) b t (pre++cs++post).toArray/\w.grownBy (w.setCells b pre.length cs) (some b)/\(w.setCells b pre.length cs).heap.size=w.heap.size
 | [],pre,Z,post,w,h,hl=>by
  have:Z=[]:=List.eq_nil_of_length_eq_zero (by simpa using hl);subst this;exact⟨h,a7G _ _,rfl⟩
 | c::cs,pre,z::Z,post,w,h,hl=>by
  have h1:=h.set_ pre.length c;have e:(pre++z::Z++post).toArray.setIfInBounds pre.length c=((pre++[c])++Z++post).toArray:=by simp
  rw[e]at h1;have:=a0q b t cs (pre++[c]) Z post _ h1 (by simpa using hl);simp only[List.length_append,List.length_cons,List.length_nil,Nat.zero_add]at this;rw[World.setCells];refine⟨by simpa using this.1,(t6 w ⟨b,pre.length,none⟩ c).trans this.2.1,this.2.2.trans (by simp[World.setCell])⟩
 | c::cs,pre,[],post,w,h,hl=>by simp at hl

section
variable {P : Program} {ops : Array Oper} {rest : List Oper} {dst : Option Tmp} {ty : TypeId} {pos : String} {after : Array Edge} {a : Act} {w : World} {Q : Exit → Act → World → Prop}
theorem U7 (T:TypeId) (b o:Nat) (t:TypeId) (old:List Value) (C:Array Value) {p q:Tmp} (hA:AggT P T C.size) (hb:Blk w b t old.toArray) (hfit:o+C.size<=old.length) (h1:C.all (·.oneCell')=true)
  (hx:a.eval (.tmp p)= .pointer (some ⟨b,o,none⟩)) (hy:a.eval (.tmp q)= .agg C)
  (h:∀w',Blk w' b t (splice old o C.toList).toArray->w.grownBy w' (some b)->w'.heap.size=w.heap.size->wpList P ops Q rest (a.put dst undef) w'):wpList P ops Q (⟨dst, .store T (.tmp p) (.tmp q),ty,pos,after,none⟩::rest) a w:=by
 have ht:w.there b o C.size:=by
  intro j hj;refine⟨?_,hb.frozen _⟩;rw[hb.cell,Array.getElem?_eq_getElem (by simp;omega)];rfl
 have e1:old.take o++(old.drop o).take C.size++old.drop (o+C.size)=old:=by
  rw[List.append_assoc,<- List.drop_drop,List.take_append_drop,List.take_append_drop]
 have h2:=a0q b t C.toList (old.take o) ((old.drop o).take C.size) (old.drop (o+C.size)) w (by rw[e1];exact hb) (by simp;omega);rw[show(old.take o).length=o from by simp;omega]at h2;refine wpList_store_mid rfl T (.tmp p) (.tmp q) rfl b o C hx hy ht hA.size h1 (h _ ?_ h2.2.1 h2.2.2);have:=h2.1;simpa[splice]using this

theorem a7X {p q:Tmp} (dT sT:TypeId) (elem:TypeId) (hu:P.underlying dT=some (.slice elem)) (hsz:(P.info? elem).map (·.size)=some 1)
  (g off dLen dCap:Nat) (ad:Addr) (sLen sCap:Nat) (t:TypeId) (old cs:List Value) (hb:Blk w g t old.toArray) (hn:cs.length=Nat.min sLen dLen)
  (hsrc:∀j v,cs[j]? =some v->w.cell? (ad.add j)=some v) (hfit:off+cs.length<=old.length) (h1:∀v∈cs,v.oneCell'=true)
  (hd:a.eval (.tmp p)= .slice (some ⟨g,off,none⟩) dLen dCap) (hs:a.eval (.tmp q)= .slice (some ad) sLen sCap)
  (h:∀w',Blk w' g t (splice old off cs).toArray->w.grownBy w' (some g)->w'.heap.size=w.heap.size->wpList P ops Q rest (a.put dst (goInt cs.length)) w'):
  wpList P ops Q (⟨dst, .call {callee:= .builtin .copy,args:= #[.tmp p, .tmp q],argTypes:= #[dT,sT]},ty,pos,after,none⟩::rest) a w:=by
 refine wpList_copy_own rfl (.tmp p) (.tmp q) dT sT rfl elem hu hsz g off dLen dCap ad sLen sCap hd hs old.toArray t hb cs hn hsrc (by simpa using hfit) h1 (h _ ?_ (a0x _ _ _) (by simp));have:=Blk.setRow hb (splice old off cs).toArray;simpa[splice]using this

theorem a7V {p q:Tmp} {K:Act->World->Prop} {E:Prop} (dT sT:TypeId) (elem:TypeId) (hu:P.underlying dT=some (.slice elem)) (hsz:(P.info? elem).map (·.size)=some 1)
  (g off dLen dCap:Nat) (ad:Addr) (sLen sCap:Nat) (t:TypeId) (old cs:List Value) (hb:Blk w g t old.toArray) (hn:cs.length=Nat.min sLen dLen)
  (hsrc:∀j v,cs[j]? =some v->w.cell? (ad.add j)=some v) (hfit:off+cs.length<=old.length) (h1:∀v∈cs,v.oneCell'=true)
  (hd:a.eval (.tmp p)= .slice (some ⟨g,off,none⟩) dLen dCap) (hs:a.eval (.tmp q)= .slice (some ad) sLen sCap)
  (h:∀w',Blk w' g t (splice old off cs).toArray->w.grownBy w' (some g)->w'.heap.size=w.heap.size->K (a.put dst (goInt cs.length)) w'):
  if Region.wanted (⟨dst, .call {callee:= .builtin .copy,args:= #[.tmp p, .tmp q],argTypes:= #[dT,sT]},ty,pos,after,none⟩:Oper) (yielded ops a.tmps)=true then
   Oper.wp P ⟨dst, .call {callee:= .builtin .copy,args:= #[.tmp p, .tmp q],argTypes:= #[dT,sT]},ty,pos,after,none⟩ a w K Q else E:=by
 have hw:Region.wanted (⟨dst, .call {callee:= .builtin .copy,args:= #[.tmp p, .tmp q],argTypes:= #[dT,sT]},ty,pos,after,none⟩:Oper) (yielded ops a.tmps)=true:=rfl;rw[if_pos hw];have hrun:=run_copy_row (P:=P) w dT sT ty elem g off dLen dCap ad sLen sCap old.toArray t cs hu hsz hb hn hsrc (by simpa using hfit) h1;unfold Oper.wp;simp only[execOp,resolve,invoke,builtin,Sem.run_bind,Sem.run_pure,Result.andThen_ok,List.map_toArray,List.map_cons,List.map_nil,hd,hs,hrun];refine h _ ?_ (a0x _ _ _) (by simp);have:=Blk.setRow hb (splice old off cs).toArray;simpa[splice]using this
end

theorem n8 {w:World} {b:Nat} {T:TypeId} {C:Array Value} (hb:Blk w b T C) (o:Nat) (cs:List Value) (h:(C.toList.drop o).take cs.length=cs):w.rangeAt b o cs:=by
 intro j v hv;rw[hb.cell];have hj:j<cs.length:=(List.getElem?_eq_some_iff.1 hv).1;rw[<- h,List.getElem?_take,if_pos hj,List.getElem?_drop]at hv;simpa using hv
theorem b0F {P:Program} {T:TypeId} (w:World) (g:Nat) (t:TypeId) (C:Array Value) (hb:Blk w g t C) (hA:AggT P T C.size):(loadVar T ⟨g,0,none⟩).run P w= .ok (.agg C) w:=by
 obtain⟨d,h1,h2⟩:=hA.desc;have:=run_loadVar_mid (P:=P) w g 0 T C.toList d (n8 hb 0 _ (by rw[List.drop_zero];exact List.take_length)) h1 h2 hA.size;simpa using this
theorem D3 {P:Program} {fn:Func} {p u:Tmp} {T:TypeId} (h:fn.results= #[.cell p T, .tmp u]) (tmps:Array Value) (w:World) (g:Nat) (t:TypeId) (C:Array Value)
  (hb:Blk w g t C) (hA:AggT P T C.size) (hp:tmps.getD p undef= .pointer (some ⟨g,0,none⟩)):(results fn tmps).run P w= .ok (.tuple #[.agg C,tmps.getD u undef]) w:=by
 rw[results_cell_tmp h,hp];simp[asAddr,b0F w g t C hb hA]

theorem a1m (w:World) (C:Array Value) (T:TypeId) (o:Nat) (cs:List Value) (h:(C.toList.drop o).take cs.length=cs):(w.alloc (.cells C T)).rangeAt w.heap.size o cs:=n8 (Blk.new w T C) o cs h
theorem M4 (w:World) (C:Array Value) (T:TypeId):(w.alloc (.cells C T)).rangeAt w.heap.size 0 C.toList:=a1m w C T 0 _ (by rw[List.drop_zero];exact List.take_length)
end Go.Proofs.YtgkpkpbnonmopaaGreat
namespace Go.Proofs.YtgkpkpbnonmopaaGreat
open Go
section
variable {P : Program} {T : Tab} {E : Env} {L : List Atom} {n : Nat} {a : Act} {w : World}
theorem b6m {x:Operand} {s:Slot} {p:Prop} (he:EnvOK n E a) (h:ev E x=some s) (hv:Conj (a1K p s)) (hp:p):a.eval x=s.v:=by
 rw[i7 he h];obtain⟨k,v,t,g⟩:=s;unfold Slot.val;cases g with
 | tt=>rfl
 | when c=>simp only[a1K]at hv;simp only[G.on];rw[hv.1 hp]
theorem a7z {c x y:Operand} {r:LR} (he:EnvOK n E a) (h:a7A E c x y=some r) (hob:Conj r.ob):(do pure (if<- asBool (a.eval c)then a.eval x else a.eval y):Sem Value).run P w= .ok r.v w:=by
 unfold a7A at h;split at h
 ·rename_i kc cb tc gc hc;split at h
  ·split at h
   ·rename_i ka va ta ga ha;injection h with h;subst h;obtain⟨o1,o2⟩:=Conj.app hob;rw[evs he hc o1];cases cb
    ·simp[asBool,Act.eval]
    ·simp[asBool,b6m he ha o2 rfl]
   ·cases h
  ·split at h
   ·split at h
    ·rename_i kb vb tb gb hb;injection h with h;subst h;obtain⟨o1,o2⟩:=Conj.app hob;rw[evs he hc o1];cases cb
     ·simp[asBool,b6m he hb o2 rfl]
     ·simp[asBool,Act.eval]
    ·cases h
   ·cases h
 ·cases h
theorem a2Z {b:Nat} {t:TypeId} {cs:List Value} (h:hl w b=some (.cells cs.toArray t (0,0))):Blk w b t cs.toArray:=h
theorem J6 {t:TypeId} {d:TypeDesc} (hd:P.underlying t=some d) (hb:A6 d=false) {b o:Nat} {v:Value} (hc:w.cell? ⟨b,o,none⟩=some v):(loadVar t ⟨b,o,none⟩).run P w= .ok v w:=by
 simp[loadVar,a1a hd,hb,load,Sem.run,hc]
theorem a1n {t:TypeId} {d:TypeDesc} {f:TypeInfo} (hd:P.underlying t=some d) (hb:A6 d=true) (hf:P.info? t=some f) {b o:Nat} {ty:TypeId} {cs l:List Value} (hc:Blk w b ty cs.toArray) (hl:a4Z cs o f.size=some l):(loadVar t ⟨b,o,none⟩).run P w= .ok (.agg l.toArray) w:=by
 obtain⟨h1,h2⟩:=a0V hl;refine run_loadVar_mid w b o t l d (n8 hc o l ?_) hd (by cases d<;>simp_all [A6,TypeDesc.isRow]) (by rw[hf];simp[h2]);rw[h2,h1]
theorem a2L (hT:TabOK P T) {t:Nat} {s:Slot} {r:LR} (h:a0a T L t s=some r) (hob:Conj r.ob) (hr:∀i A,r.rd=i+1->L[i]? =some A->A.sat (hl w)):(Instr.loadAt t s.v).run P w= .ok r.v w:=by
 unfold a0a at h;split at h
 ·rename_i kk b o i gg;split at h
  ·rename_i b' ty cs hL;rw[l9]at hL;split at h
   ·rename_i fs sz z bb hg;obtain⟨d,fi,zv,ok⟩:=d8 (hT.get hg);obtain⟨fl,rfl,_⟩:=ok.row rfl;split at h
    ·rename_i l hl2;injection h with h;subst h;have hb:=hob.1;subst hb;have hA:=a2Z (hr i _ rfl hL);have hsz:sz=fi.size:=ok.hsize;rw[hsz]at hl2;simp[Instr.loadAt,Instr.sureAddr,a1n ok.hd rfl ok.hf hA hl2]
    ·cases h
   ·rename_i x y sz z bb hg;obtain⟨d,fi,zv,ok⟩:=d8 (hT.get hg);obtain⟨e,fe,rfl,_⟩:=ok.arr rfl;split at h
    ·rename_i l hl2;injection h with h;subst h;have hb:=hob.1;subst hb;have hA:=a2Z (hr i _ rfl hL);have hsz:sz=fi.size:=ok.hsize;rw[hsz]at hl2;simp[Instr.loadAt,Instr.sureAddr,a1n ok.hd rfl ok.hf hA hl2]
    ·cases h
   ·rename_i ti hn1 hn2 hg;obtain⟨d,fi,zv,ok⟩:=d8 (hT.get hg);split at h
    ·rename_i v hl2;injection h with h;subst h;have hb:=hob.1;subst hb;have hA:=a2Z (hr i _ rfl hL);rw[l9]at hl2;have hagg:A6 d=false:=by
      have htd:=ok.htd;cases d<;>simp[A6]<;>simp[a1G]at htd
      ·obtain⟨g,h1,h2⟩:=htd;obtain⟨td,sz,zz,bb⟩:=ti;simp at h2;subst h2;exact hn2 _ _ _ _ _ rfl
      ·obtain⟨g,h1,h2⟩:=htd;obtain⟨td,sz,zz,bb⟩:=ti;simp at h2;subst h2;exact hn1 _ _ _ _ rfl
     have hc:w.cell? ⟨b,o,none⟩=some v:=by rw[hA.cell];simpa using hl2
     simp[Instr.loadAt,Instr.sureAddr,J6 ok.hd hagg hc]
    ·cases h
   ·cases h
  ·cases h
 ·cases h
theorem a1o {x:Option Operand} {d k:Nat} {ob:List Prop} (he:EnvOK n E a) (h:L6 E x d=some (k,ob)) (hob:Conj ob):
  (x=none/\k=d)\/∃y ik z,x=some y/\a.eval y= .int ik z/\0<=z/\z.toNat=k:=by
 unfold L6 at h;split at h
 ·simp only[Option.some.injEq,Prod.mk.injEq]at h;exact .inl ⟨rfl,h.1.symm⟩
 ·rename_i y;split at h
  ·rename_i ks ik z t g hy;simp only[Option.some.injEq,Prod.mk.injEq]at h;obtain⟨rfl,rfl⟩:=h;exact .inr ⟨y,ik,z,rfl,evs he hy hob.2,hob.1,rfl⟩
  ·cases h
theorem D2 {x:Value} {ik:IntKind} {z:Int} (hx:x= .int ik z) (h0:0<=z) {y:Nat} (hy:z.toNat<=y) (c:BoundsCode):(Instr.sliceBound x y c).run P w= .ok z.toNat w:=by
 subst hx;simp only[Instr.sliceBound,asIntOf,Sem.run_bind,Sem.run_pure,Result.andThen_ok];rw[if_pos ⟨h0,by omega⟩];rfl
theorem T5 {isS:Bool} {len cap l h dl:Nat} {lo hi:Option Operand} {ol oh:List Prop} (he:EnvOK n E a) (h1:L6 E lo 0=some (l,ol)) (h2:L6 E hi len=some (h,oh)) (o1:Conj ol) (o2:Conj oh) (hlh:l<=h) (hhc:h<=cap) (hd:dl=cap):
  (Instr.sliceBounds isS len dl (lo.map a.eval) (hi.map a.eval) none).run P w= .ok (l,h,cap) w:=by
 subst hd;rcases a1o he h1 o1 with⟨rfl,rfl⟩ | ⟨y,ik,z,rfl,e1,e2,e3⟩<;>rcases a1o he h2 o2 with⟨rfl,rfl⟩ | ⟨y',ik',z',rfl,e1',e2',e3'⟩
 ·simp[Instr.sliceBounds]
 ·simp[Instr.sliceBounds,D2 (P:=P) (w:=w) e1' e2' (by rw[e3'];exact hhc),e3']
 ·simp[Instr.sliceBounds,D2 (P:=P) (w:=w) e1 e2 (by rw[e3];exact hlh),e3]
 ·subst e3';simp[Instr.sliceBounds,D2 (P:=P) (w:=w) e1' e2' hhc,D2 (P:=P) (w:=w) e1 e2 (by rw[e3];exact hlh),e3]
theorem a6u (hT:TabOK P T) {t:Nat} {s:Slot} {lo hi:Option Operand} {r:LR} (he:EnvOK n E a) (h:a1P T E t lo hi s=some r) (hob:Conj r.ob):(Instr.sliceAt t s.v (lo.map a.eval) (hi.map a.eval) none).run P w= .ok r.v w:=by
 unfold a1P at h;split at h
 ·rename_i kk b o tg gg;split at h
  ·rename_i m esz sz z bb hg;split at h
   ·rename_i l ol hh oh h1 h2;injection h with h;subst h;obtain⟨oo,hlh,hhc,hlc,_⟩:=Conj.app hob;obtain⟨oo,o2⟩:=Conj.app oo;obtain⟨_,o1⟩:=Conj.app oo;obtain⟨d,fi,zv,ok⟩:=d8 (hT.get hg);obtain⟨e,fe,rfl,g1,g2⟩:=ok.arr rfl;simp only[Instr.sliceAt,Sem.run_bind,d4 ok.hd,Result.andThen_ok,Instr.sureAddr,Sem.run_pure,T5 (P:=P) (w:=w) (isS:=false) he h1 h2 o1 o2 hlh hhc rfl,l6 g1,g2]
    by_cases hm:m=l
    ·rcases hlc with rfl | hlc
     ·subst hm;simp
     ·omega
    ·simp[hm,Addr.add_none]
   ·cases h
  ·cases h
 ·rename_i kk b o len cap tg gg;split at h
  ·rename_i el esz sz z bb hg;split at h
   ·rename_i l ol hh oh h1 h2;injection h with h;subst h;obtain⟨oo,hlh,hhc,hlc,_⟩:=Conj.app hob;obtain⟨oo,o2⟩:=Conj.app oo;obtain⟨_,o1⟩:=Conj.app oo;obtain⟨d,fi,zv,ok⟩:=d8 (hT.get hg);obtain⟨fe,rfl,g1,g2⟩:=ok.slice rfl;simp only[Instr.sliceAt,Sem.run_bind,d4 ok.hd,Result.andThen_ok,Instr.slice,Sem.run_pure,T5 (P:=P) (w:=w) (isS:=true) he h1 h2 o1 o2 hlh hhc rfl,l6 g1,g2]
    by_cases hm:cap=l
    ·rcases hlc with rfl | hlc
     ·subst hm;simp
     ·omega
    ·simp[hm,Addr.add_none]
   ·cases h
  ·cases h
 ·cases h
theorem y4 (he:EnvOK n E a):∀{xs:List Operand} {l:List Slot},slots E xs=some l->Conj (J0 l)->xs.map a.eval=vals l
 | [],l,h,_=>by simp only[slots,Option.some.injEq]at h;subst h;rfl
 | x::r,l,h,hv=>by
  simp only[slots]at h;split at h
  ·rename_i s l' h1 h2;injection h with h;subst h;obtain⟨v1,v2⟩:=Conj.app hv;simp only[List.map_cons,vals,evs he h1 v1,y4 he h2 v2]
  ·cases h
theorem a3Z {α:Type} (l xs:List α):J3 l 0 xs=T6 l xs:=by cases l<;>rfl
theorem a0W {α:Type}:∀{l:List α} {o:Nat} {x:α} {xs m:List α},J3 l o (x::xs)=some m->J3 (l.set o x) (o+1) xs=some m
 | [],0,x,xs,m,h=>by simp[J3,T6]at h
 | [],o+1,x,xs,m,h=>by simp[J3]at h
 | y::r,0,x,xs,m,h=>by
  rw[a3Z]at h;simpa only[T6,List.set_cons_zero,J3,a3Z]using h
 | y::r,o+1,x,xs,m,h=>by
  simp only[J3]at h;split at h
  ·rename_i l hl;simp only[List.set_cons_succ,J3,a0W hl];exact h
  ·cases h
theorem a4j (off:Nat):∀(xs:List Value) (k:Nat) (cs:Array Value) (m:List Value),J3 cs.toList (off+k) xs=some m->(xs.zipIdx k).foldl (λcs (c,j)=>cs.setIfInBounds (off+j) c) cs=m.toArray
 | [],k,cs,m,h=>by
  obtain⟨h1,h2⟩:=O8 h;simp at h1;subst h1;simp
 | x::xs,k,cs,m,h=>by
  rw[List.zipIdx_cons,List.foldl_cons];exact a4j off xs (k+1) _ m (by rw[<- Nat.add_assoc];simpa using a0W h)
theorem Y3 {place place':Nat->Option (Nat×Nat)} (hp:∀i r,place i=some r->place' i=some r):∀{parts:List (Nat×Value)} {cs:Array Value} {m:List Value},a2U place cs.toList parts=some m->Instr.fill place' cs parts=some m.toArray
 | [],cs,m,h=>by simp only[a2U,Option.some.injEq]at h;subst h;simp[Instr.fill]
 | (i,v)::r,cs,m,h=>by
  simp only[a2U]at h;split at h
  ·rename_i off sz hpl;split at h
   ·rename_i cs' e1 e2;have e3:=Nat.eq_of_beq_eq_true e1;obtain⟨e4,e5⟩:=O8 e2;simp only[Instr.fill,hp _ _ hpl];have:v.cells.size=sz:=by simpa using e3
    have hb:(decide (v.cells.size≠sz)||decide (off+v.cells.size>cs.size))=false:=by
     simp at e5;simp;omega
    have hb':¬(v.cells.size≠sz\/off+v.cells.size>cs.size):=by
     simp at e5;omega
    have hf:=a4j off v.cells.toList 0 cs cs' e2;have hf':Array.foldl (λcs x=>match x with | (c,j)=>cs.setIfInBounds (off+j) c) cs v.cells.zipIdx=cs'.toArray:=by
     rw[<- hf,<- Array.foldl_toList,Array.toList_zipIdx]
    simp only[this,ne_eq,not_true_eq_false,decide_false,Bool.false_or];rw[if_neg (by simp at e5 ⊢;omega)];rw[hf'];exact Y3 hp (by simpa using h)
   ·cases h
  ·cases h
theorem X0:∀{parts:List (Nat×Operand)} {l:List Slot},(parts.map (·.2)).map a.eval=vals l->parts.map (λ(i,x)=>(i,a.eval x))=Z6 parts l
 | [],l,h=>by simp[Z6]
 | (i,x)::r,[],h=>by simp[vals]at h
 | (i,x)::r,s::l,h=>by
  simp only[List.map_cons,vals,List.cons.injEq]at h;simp only[List.map_cons,Z6,h.1,X0 h.2]
theorem a2q:∀{fl:List Field} {fs:List (Nat×Nat×Bool)},fieldsOf P fl=some fs->(fl.mapM (λf=>do pure (f.offset,<- sizeOf f.type)):Sem (List (Nat×Nat))).run P w= .ok (fs.map λx=>(x.1,x.2.1)) w
 | [],fs,h=>by simp only[fieldsOf,Option.some.injEq]at h;subst h;simp
 | f::r,fs,h=>by
  simp only[fieldsOf]at h;split at h
  ·rename_i i d l h1 h2 h3;injection h with h;subst h;have:=a2q h3;simp only[List.mapM_cons,Sem.run_bind,l6 h1,Result.andThen_ok,Sem.run_pure,this,List.map_cons]
  ·cases h
theorem a6k (fs:List (Nat×Nat×Bool)) (i:Nat) (r:Nat×Nat) (h:a2r fs i=some r):((fs.map λx=>(x.1,x.2.1)).toArray[i]?)=some r:=by
 unfold a2r at h;rw[l9]at h;split at h
 ·rename_i off sz b e;simp[e,h]
 ·cases h
theorem a6w (hT:TabOK P T) {t:Nat} {parts:Array (Nat×Operand)} {r:LR} (he:EnvOK n E a) (h:a5a T E t parts.toList=some r) (hob:Conj r.ob):(Instr.build t (parts.map λ(i,x)=>(i,a.eval x))).run P w= .ok r.v w:=by
 unfold a5a at h;split at h
 ·rename_i fs sz z bb l hg hl;split at h
  ·rename_i cs hf;injection h with h;subst h;have hp:=X0 (y4 he hl hob);obtain⟨d,fi,zv,ok⟩:=d8 (hT.get hg);obtain⟨fl,rfl,hfl⟩:=ok.row rfl;have hz:z=zv.cells.toList:=ok.hzero;subst hz;have hr:=Y3 (place':=((fs.map λx=>(x.1,x.2.1)).toArray[·]?)) (a6k fs) hf;have hpl:(fl.mapM (λf=>do pure (f.offset,<- sizeOf f.type)):Sem (Array (Nat×Nat))).run P w= .ok (fs.map λx=>(x.1,x.2.1)).toArray w:=by
    rw[Array.mapM_eq_mapM_toList];simp only[map_eq_pure_bind,Sem.run_bind,a2q hfl,Result.andThen_ok,Sem.run_pure]
   simp only[Instr.build,Sem.run_bind,U5 ok.hf ok.hz,Result.andThen_ok,d4 ok.hd,hpl,Sem.run_pure,Array.toList_map,hp,hr]
  ·cases h
 ·rename_i m esz sz z bb l hg hl;split at h
  ·rename_i cs hf;injection h with h;subst h;have hp:=X0 (y4 he hl hob);obtain⟨d,fi,zv,ok⟩:=d8 (hT.get hg);obtain⟨e,fe,rfl,g1,g2⟩:=ok.arr rfl;have hz:z=zv.cells.toList:=ok.hzero;subst hz;have hr:=Y3 (place':=λi=>some (i*esz,esz)) (λ_ _ h=>h) hf;simp only[Instr.build,Sem.run_bind,U5 ok.hf ok.hz,Result.andThen_ok,d4 ok.hd,l6 g1,g2,Array.toList_map,hp,hr,Sem.run_pure]
  ·cases h
 ·cases h
end
end Go.Proofs.YtgkpkpbnonmopaaGreat
