/- Helpers. No condition. -/
import Derived.Test.YtpohajhbfllbbaaGreatF01
import Derived.Laws.CopyOwn
import Derived.Laws.ResultCell
import Derived.Defers
set_option maxRecDepth 20000
set_option linter.all false
namespace Go.Proofs.YtpohajhbfllbbaaGreat
open Go

inductive TD where
 | int (k:IntKind)
 | bool
 | row (fs:List (Nat×Nat×Bool))
 | arr (len esz:Nat)
 | slice (elem esz:Nat)
 | ptr
 | map
 | other
structure TI where
 d:TD
 size:Nat
 zero:List Value
 bytes:Nat
abbrev Tab:=List (Nat×TI)
def Tab.get:Tab->Nat->Option TI
 | [],_=>none
 | (j,i)::r,k=>match Nat.beq j k with
  | true=>some i
  | false=>Tab.get r k
def z6:TypeDesc->Bool
 | .struct _ | .array _ _=>true
 | _=>false
def fieldsOf (P:Program):List Field->Option (List (Nat×Nat×Bool))
 | []=>some []
 | f::r=>match P.info? f.type,P.underlying f.type,fieldsOf P r with
  | some i,some d,some l=>some ((f.offset,i.size,z6 d)::l)
  | _,_,_=>none
def a0L (P:Program):TypeDesc->Option TD
 | .int k=>some (.int k)
 | .bool=>some .bool
 | .struct fs=>(fieldsOf P fs.toList).map .row
 | .array n e=>(P.info? e).map λi=> .arr n i.size
 | .slice e=>(P.info? e).map λi=> .slice e i.size
 | .pointer _=>some .ptr
 | .map _ _=>some .map
 | _=>some .other
def a9c (P:Program) (t:TypeId):Option TI:=
 match P.underlying t,P.info? t with
 | some d,some i=>match i.zero,a0L P d with
  | some z,some td=>some ⟨td,i.size,z.cells.toList,i.bytes⟩
  | _,_=>none
 | _,_=>none
def TabOK (P:Program) (T:Tab):Prop:=∀p∈T,a9c P p.1=some p.2
theorem TabOK.mk {P:Program} {T:Tab} (h:T.map (λp=>a9c P p.1)=T.map (λp=>some p.2)):TabOK P T:=by
 induction T with
 | nil=>intro p hp;cases hp
 | cons q r ih=>
  simp only[List.map_cons,List.cons.injEq]at h;intro p hp;rcases List.mem_cons.1 hp with rfl | hp
  ·exact h.1
  ·exact ih h.2 p hp
theorem TabOK.get {P:Program}:∀{T:Tab},TabOK P T->∀{t:Nat} {i:TI},T.get t=some i->a9c P t=some i
 | [],_,t,i,h=>by cases h
 | (j,x)::r,hT,t,i,h=>by
  simp only[Tab.get]at h;split at h
  ·rename_i e;have:j=t:=Nat.eq_of_beq_eq_true e;subst this;injection h with h;subst h;exact hT _ (List.mem_cons_self ..)
  ·exact TabOK.get (λp hp=>hT p (List.mem_cons_of_mem _ hp)) h
structure TIOK (P:Program) (t:TypeId) (i:TI) (d:TypeDesc) (f:TypeInfo) (z:Value):Prop where
 hd:P.underlying t=some d
 hf:P.info? t=some f
 hz:f.zero=some z
 htd:a0L P d=some i.d
 hsize:i.size=f.size
 hzero:i.zero=z.cells.toList
 hbytes:i.bytes=f.bytes
theorem d7 {P:Program} {t:TypeId} {i:TI} (h:a9c P t=some i):∃d f z,TIOK P t i d f z:=by
 unfold a9c at h;split at h
 ·rename_i d f hd hf;split at h
  ·rename_i z td hz htd;injection h with h;subst h;exact⟨d,f,z,hd,hf,hz,htd,rfl,rfl,rfl⟩
  ·cases h
 ·cases h
section
variable {P : Program} {t : TypeId} {i : TI} {d : TypeDesc} {f : TypeInfo} {z : Value}
theorem TIOK.int (h:TIOK P t i d f z) {k:IntKind} (e:i.d= .int k):d= .int k:=by
 have:=h.htd;rw[e]at this;cases d<;>simp[a0L]at this
 ·rw[this]
theorem TIOK.bool (h:TIOK P t i d f z) (e:i.d= .bool):d= .bool:=by
 have:=h.htd;rw[e]at this;cases d<;>simp[a0L]at this
 ·rfl
theorem TIOK.ptr (h:TIOK P t i d f z) (e:i.d= .ptr):∃x,d= .pointer x:=by
 have:=h.htd;rw[e]at this;cases d<;>simp[a0L]at this
 ·exact⟨_,rfl⟩
theorem TIOK.map (h:TIOK P t i d f z) (e:i.d= .map):∃x y,d= .map x y:=by
 have:=h.htd;rw[e]at this;cases d<;>simp[a0L]at this
 ·exact⟨_,_,rfl⟩
theorem TIOK.arr (h:TIOK P t i d f z) {n s:Nat} (e:i.d= .arr n s):∃x fx,d= .array n x/\P.info? x=some fx/\fx.size=s:=by
 have:=h.htd;rw[e]at this;cases d<;>simp[a0L]at this
 ·obtain⟨g,h1,rfl,h2⟩:=this;exact⟨_,g,rfl,h1,h2⟩
theorem TIOK.slice (h:TIOK P t i d f z) {x s:Nat} (e:i.d= .slice x s):∃fx,d= .slice x/\P.info? x=some fx/\fx.size=s:=by
 have:=h.htd;rw[e]at this;cases d<;>simp[a0L]at this
 ·obtain⟨g,h1,rfl,h2⟩:=this;exact⟨g,rfl,h1,h2⟩
theorem TIOK.row (h:TIOK P t i d f z) {l:List (Nat×Nat×Bool)} (e:i.d= .row l):∃fs,d= .struct fs/\fieldsOf P fs.toList=some l:=by
 have:=h.htd;rw[e]at this;cases d<;>simp[a0L]at this
 ·exact⟨_,rfl,this⟩
end
def j5 {α:Type}:List α->Nat->Option α
 | [],_=>none
 | x::r,k=>match k with
  | 0=>some x
  | k+1=>j5 r k
theorem j4 {α:Type}:∀(l:List α) (k:Nat),j5 l k=l[k]?
 | [],_=>rfl
 | x::r,0=>rfl
 | x::r,k+1=>by rw[j5,j4 r k];simp
theorem H7 {P:Program}:∀{fs:List Field} {l:List (Nat×Nat×Bool)},fieldsOf P fs=some l->∀{k o s:Nat} {b:Bool},j5 l k=some (o,s,b)->
  ∃g fi gd,fs[k]? =some g/\P.info? g.type=some fi/\P.underlying g.type=some gd/\g.offset=o/\fi.size=s/\z6 gd=b
 | [],l,h,k,o,s,b,hk=>by simp only[fieldsOf,Option.some.injEq]at h;subst h;cases hk
 | g::r,l,h,k,o,s,b,hk=>by
  simp only[fieldsOf]at h;split at h
  ·rename_i i d l' h1 h2 h3;injection h with h;subst h;cases k with
   | zero=>
    simp only[j5,Option.some.injEq,Prod.mk.injEq]at hk;exact⟨g,i,d,rfl,h1,h2,hk.1,hk.2.1,hk.2.2⟩
   | succ k=>
    simp only[j5]at hk;obtain⟨g',fi,gd,e1,e2⟩:=H7 h3 hk;exact⟨g',fi,gd,by simpa using e1,e2⟩
  ·cases h
def a1N {α:Type}:List α->Nat->Option (List α)
 | _,0=>some []
 | [],_+1=>none
 | x::r,n+1=>match a1N r n with
  | some l=>some (x::l)
  | none=>none
def a4c {α:Type}:List α->Nat->Nat->Option (List α)
 | l,0,n=>a1N l n
 | [],_+1,n=>a1N [] n
 | _::r,o+1,n=>a4c r o n
theorem V9 {α:Type}:∀{l:List α} {n:Nat} {m:List α},a1N l n=some m->m=l.take n/\m.length=n
 | l,0,m,h=>by simp[a1N]at h;subst h;simp
 | [],n+1,m,h=>by simp[a1N]at h
 | x::r,n+1,m,h=>by
  simp only[a1N]at h;split at h
  ·rename_i l hl;injection h with h;subst h;obtain⟨h1,h2⟩:=V9 hl;exact⟨by simp[h1],by simp[h2]⟩
  ·cases h
theorem a0d {α:Type}:∀{l:List α} {o n:Nat} {m:List α},a4c l o n=some m->m=(l.drop o).take n/\m.length=n
 | l,0,n,m,h=>by rw[List.drop_zero];cases l<;>exact V9 h
 | [],o+1,n,m,h=>by simp only[a4c]at h;simpa using V9 h
 | x::r,o+1,n,m,h=>by simp only[a4c]at h;simpa using a0d h
def Q5 {α:Type}:List α->List α->Option (List α)
 | l,[]=>some l
 | [],_::_=>none
 | _::r,x::xs=>match Q5 r xs with
  | some l=>some (x::l)
  | none=>none
def I2 {α:Type}:List α->Nat->List α->Option (List α)
 | l,0,xs=>Q5 l xs
 | [],_+1,_=>none
 | y::r,o+1,xs=>match I2 r o xs with
  | some l=>some (y::l)
  | none=>none
theorem a1P {α:Type}:∀{l xs m:List α},Q5 l xs=some m->m=xs++l.drop xs.length/\xs.length<=l.length
 | l,[],m,h=>by cases l<;>simp only[Q5,Option.some.injEq]at h<;>subst h<;>simp
 | [],x::xs,m,h=>by simp[Q5]at h
 | y::r,x::xs,m,h=>by
  simp only[Q5]at h;split at h
  ·rename_i l hl;injection h with h;subst h;obtain⟨h1,h2⟩:=a1P hl;exact⟨by simp[h1],by simp;omega⟩
  ·cases h
theorem M5 {α:Type}:∀{l:List α} {o:Nat} {xs m:List α},I2 l o xs=some m->m=l.take o++xs++l.drop (o+xs.length)/\o+xs.length<=l.length
 | l,0,xs,m,h=>by
  have h':Q5 l xs=some m:=by cases l<;>exact h
  obtain⟨h1,h2⟩:=a1P h';exact⟨by simp[h1],by omega⟩
 | [],o+1,xs,m,h=>by simp[I2]at h
 | y::r,o+1,xs,m,h=>by
  simp only[I2]at h;split at h
  ·rename_i l hl;injection h with h;subst h;obtain⟨h1,h2⟩:=M5 hl;refine⟨?_,by simp;omega⟩;rw[h1,show o+1+xs.length=(o+xs.length)+1 from by omega];simp
  ·cases h

def Conj:List Prop->Prop
 | []=>True
 | p::r=>p/\Conj r
theorem Conj.nil:Conj []:=trivial
theorem Conj.cons {p:Prop} {r:List Prop} (h:p) (h':Conj r):Conj (p::r):=⟨h,h'⟩
theorem Conj.app:∀{l m:List Prop},Conj (l++m)->Conj l/\Conj m
 | [],m,h=>⟨trivial,h⟩
 | p::r,m,h=>⟨⟨h.1,(Conj.app (l:=r) h.2).1⟩,(Conj.app (l:=r) h.2).2⟩
def l9:G->List Prop
 | .tt=>[]
 | .when c=>[c=true]
def E5:Slot->List Prop
 | ⟨_,_,_,g⟩=>l9 g
theorem V5 {s:Slot} (h:Conj (E5 s)):s.val=s.v:=by
 obtain⟨k,v,t,g⟩:=s;unfold Slot.val;cases g with
 | tt=>rfl
 | when c=>simp only[E5,l9]at h;simp only[G.on];rw[h.1]
def ikN:IntKind->Nat
 | .i8=>0 | .i16=>1 | .i32=>2 | .i64=>3 | .u8=>4 | .u16=>5 | .u32=>6 | .u64=>7
theorem b2D {a b:IntKind} (h:Nat.beq (ikN a) (ikN b)=true):a=b:=by
 cases a<;>cases b<;>first | rfl | cases h
def inR:IntKind->Int->List Prop
 | .i8,z=>[-128<=z,z<=127] | .i16,z=>[-32768<=z,z<=32767] | .i32,z=>[-2147483648<=z,z<=2147483647]
 | .i64,z=>[-9223372036854775808<=z,z<=9223372036854775807]
 | .u8,z=>[0<=z,z<=255] | .u16,z=>[0<=z,z<=65535] | .u32,z=>[0<=z,z<=4294967295] | .u64,z=>[0<=z,z<=18446744073709551615]
theorem I7 {k:IntKind} {z:Int} (h:Conj (inR k z)):k.wrap z=z:=by
 have p7:(2:Int)^7=128:=rfl;have p8:(2:Int)^8=256:=rfl;have p15:(2:Int)^15=32768:=rfl;have p16:(2:Int)^16=65536:=rfl;have p31:(2:Int)^31=2147483648:=rfl;have p32:(2:Int)^32=4294967296:=rfl;have p63:(2:Int)^63=9223372036854775808:=rfl;have p64:(2:Int)^64=18446744073709551616:=rfl;cases k<;>simp only[inR,Conj]at h<;>simp[IntKind.wrap,IntKind.bits,IntKind.signed]<;>(try split)<;>omega
def b4o:BinOp->IntKind->Int->Int->Option (Value×List Prop)
 | .add,k,m,n=>some (.int k (m+n),inR k (m+n))
 | .sub,k,m,n=>some (.int k (m-n),inR k (m-n))
 | .mul,k,m,n=>some (.int k (m*n),inR k (m*n))
 | .quo,k,m,n=>some (.int k (m.tdiv n),(n≠0)::inR k (m.tdiv n))
 | .rem,k,m,n=>some (.int k (m.tmod n),[n≠0])
 | .and,k,m,n=>some (.int k (k.wrap (BitVec.ofInt k.bits m&&& BitVec.ofInt k.bits n).toNat),[])
 | .or,k,m,n=>some (.int k (k.wrap (BitVec.ofInt k.bits m||| BitVec.ofInt k.bits n).toNat),[])
 | .xor,k,m,n=>some (.int k (k.wrap (BitVec.ofInt k.bits m ^^^ BitVec.ofInt k.bits n).toNat),[])
 | .andNot,k,m,n=>some (.int k (k.wrap (BitVec.ofInt k.bits m&&& ~~~ BitVec.ofInt k.bits n).toNat),[])
 | .eql,_,m,n=>some (.bool (m==n),[])
 | .neq,_,m,n=>some (.bool (m !=n),[])
 | .lss,_,m,n=>some (.bool (decide (m<n)),[])
 | .leq,_,m,n=>some (.bool (decide (m<=n)),[])
 | .gtr,_,m,n=>some (.bool (decide (m>n)),[])
 | .geq,_,m,n=>some (.bool (decide (m>=n)),[])
 | _,_,_,_=>none
def shI:BinOp->IntKind->Int->Int->Option (Value×List Prop)
 | .shl,k,m,n=>some (.int k (m*2^(min n.toNat k.bits)),(0<=n)::inR k (m*2^(min n.toNat k.bits)))
 | .shr,k,m,n=>some (.int k (m.fdiv (2^(min n.toNat k.bits))),[0<=n])
 | _,_,_,_=>none
def a4q:Option TD->Value->Value->Option Bool
 | some .bool, .bool a, .bool b=>some (a==b)
 | some .ptr, .pointer none, .pointer none=>some true
 | some .ptr, .pointer (some _), .pointer none=>some false
 | some .ptr, .pointer none, .pointer (some _)=>some false
 | some (.slice _ _), .slice none _ _, .slice none _ _=>some true
 | some (.slice _ _), .slice none _ _, .slice (some _) _ _=>some false
 | some (.slice _ _), .slice (some _) _ _, .slice none _ _=>some false
 | some .map, .map none, .map none=>some true
 | some .map, .map none, .map (some _)=>some false
 | some .map, .map (some _), .map none=>some false
 | _,_,_=>none
def b4n (T:Tab) (op:BinOp) (t:TypeId):Value->Value->Option (Value×List Prop)
 | .int k m, .int k' n=>match shI op k m n with
  | some r=>some r
  | none=>match Nat.beq (ikN k) (ikN k')with
   | true=>b4o op k m n
   | false=>none
 | x,y=>match op with
  | .eql=>match a4q ((T.get t).map (·.d)) x y with
   | some b=>some (.bool b,[])
   | none=>none
  | .neq=>match a4q ((T.get t).map (·.d)) x y with
   | some b=>some (.bool (!b),[])
   | none=>none
  | _=>none
def unV:UnOp->Value->Option (Value×List Prop)
 | .neg, .int k n=>some (.int k (0-n),inR k (0-n))
 | .not, .bool b=>some (.bool (!b),[])
 | _,_=>none

section
variable {P : Program} {w : World}
theorem b1j {op:BinOp} {k:IntKind} {m n:Int} {v:Value} {ob:List Prop} (h:b4o op k m n=some (v,ob)) (hob:Conj ob) (t:TypeId):(binOp op t (.int k m) (.int k n)).run P w= .ok v w:=by
 cases op<;>simp only[b4o,Option.some.injEq,Prod.mk.injEq,reduceCtorEq]at h<;>obtain⟨rfl,rfl⟩:=h
 case add=>simp[binOp,Op.intArith,I7 hob]
 case sub=>simp[binOp,Op.intArith,I7 hob]
 case mul=>simp[binOp,Op.intArith,I7 hob]
 case quo=>simp[binOp,Op.intDiv,hob.1,I7 hob.2]
 case rem=>simp[binOp,Op.intDiv,hob.1]
 all_goals first | (simp[binOp,Op.intBits];done) | (simp[binOp,Op.intCmp];done)
theorem b1U {op:BinOp} {k k':IntKind} {m n:Int} {v:Value} {ob:List Prop} (h:shI op k m n=some (v,ob)) (hob:Conj ob) (t:TypeId):(binOp op t (.int k m) (.int k' n)).run P w= .ok v w:=by
 cases op<;>simp only[shI,Option.some.injEq,Prod.mk.injEq,reduceCtorEq]at h<;>obtain⟨rfl,rfl⟩:=h
 case shl=>simp[binOp,Op.shift,Int.not_lt.2 hob.1,I7 hob.2]
 case shr=>simp[binOp,Op.shift,Int.not_lt.2 hob.1]
theorem d4 {t:TypeId} {d:TypeDesc} (h:P.underlying t=some d):(underlying t).run P w= .ok d w:=by simp[underlying,h]
theorem a4p (d:Nat) {t:TypeId} (h:P.underlying t=some .bool) (a b:Bool):(Op.equalIn (d+1) t (.bool a) (.bool b)).run P w= .ok (a==b) w:=by simp[Op.equalIn,d4 h]
theorem Y7 (d:Nat) {t x:TypeId} (h:P.underlying t=some (.pointer x)) (b:Option Addr):(Op.equalIn (d+1) t (.pointer none) (.pointer b)).run P w= .ok b.isNone w:=by simp[Op.equalIn,d4 h]
theorem a4n (d:Nat) {t x:TypeId} (h:P.underlying t=some (.pointer x)) (b:Addr):(Op.equalIn (d+1) t (.pointer (some b)) (.pointer none)).run P w= .ok false w:=by simp[Op.equalIn,d4 h]
theorem a0E (d:Nat) {t x:TypeId} (h:P.underlying t=some (.slice x)) (b:Option Addr) (m n m' n':Nat):(Op.equalIn (d+1) t (.slice none m n) (.slice b m' n')).run P w= .ok b.isNone w:=by simp[Op.equalIn,d4 h]
theorem a5B (d:Nat) {t x:TypeId} (h:P.underlying t=some (.slice x)) (b:Addr) (m n m' n':Nat):(Op.equalIn (d+1) t (.slice (some b) m n) (.slice none m' n')).run P w= .ok false w:=by simp[Op.equalIn,d4 h]
theorem Y8 (d:Nat) {t x y:TypeId} (h:P.underlying t=some (.map x y)) (b:Option Nat):(Op.equalIn (d+1) t (.map none) (.map b)).run P w= .ok b.isNone w:=by simp[Op.equalIn,d4 h]
theorem a4o (d:Nat) {t x y:TypeId} (h:P.underlying t=some (.map x y)) (b:Nat):(Op.equalIn (d+1) t (.map (some b)) (.map none)).run P w= .ok false w:=by simp[Op.equalIn,d4 h]
theorem a2d (t:TypeId) (x y:Value):Op.equal t x y=Op.equalIn (9999+1) t x y:=rfl
theorem a5C {T:Tab} (hT:TabOK P T) {t:TypeId} {x y:Value} {b:Bool} (h:a4q ((T.get t).map (·.d)) x y=some b):(Op.equal t x y).run P w= .ok b w/\∀op o1 o2,(eqGuard op t o1 o2 x y).run P w= .ok () w:=by
 rw[a2d];generalize 9999=n;cases hg:T.get t with
 | none=>rw[hg]at h;simp[a4q]at h
 | some i=>
  rw[hg]at h;obtain⟨d,f,z,ok⟩:=d7 (hT.get hg);simp only[Option.map_some]at h;generalize hd:i.d=td at h;unfold a4q at h;split at h<;>simp only[Option.some.injEq,reduceCtorEq]at h<;>subst h<;>rename_i e<;>injection e with e<;>subst e
  ·have:=ok.bool hd;subst this;exact⟨a4p n ok.hd _ _,λop o1 o2=>by cases op<;>rfl⟩
  ·obtain⟨x',e⟩:=ok.ptr hd;subst e;exact⟨Y7 n ok.hd _,λop o1 o2=>by cases op<;>rfl⟩
  ·obtain⟨x',e⟩:=ok.ptr hd;subst e;exact⟨a4n n ok.hd _,λop o1 o2=>by cases op<;>rfl⟩
  ·obtain⟨x',e⟩:=ok.ptr hd;subst e;exact⟨Y7 n ok.hd _,λop o1 o2=>by cases op<;>rfl⟩
  ·obtain⟨fx,e,_⟩:=ok.slice hd;subst e;exact⟨a0E n ok.hd _ _ _ _ _,λop o1 o2=>by cases op<;>rfl⟩
  ·obtain⟨fx,e,_⟩:=ok.slice hd;subst e;exact⟨a0E n ok.hd _ _ _ _ _,λop o1 o2=>by cases op<;>rfl⟩
  ·obtain⟨fx,e,_⟩:=ok.slice hd;subst e;exact⟨a5B n ok.hd _ _ _ _ _,λop o1 o2=>by cases op<;>rfl⟩
  ·obtain⟨x',y',e⟩:=ok.map hd;subst e;exact⟨Y8 n ok.hd _,λop o1 o2=>by cases op<;>rfl⟩
  ·obtain⟨x',y',e⟩:=ok.map hd;subst e;exact⟨Y8 n ok.hd _,λop o1 o2=>by cases op<;>rfl⟩
  ·obtain⟨x',y',e⟩:=ok.map hd;subst e;exact⟨a4o n ok.hd _,λop o1 o2=>by cases op<;>rfl⟩
theorem b1i {T:Tab} (hT:TabOK P T) {op:BinOp} {t:TypeId} {x y v:Value} {ob:List Prop} (h:b4n T op t x y=some (v,ob)) (hob:Conj ob) (o1 o2:Operand):
  (do eqGuard op t o1 o2 x y;binOp op t x y:Sem Value).run P w= .ok v w:=by
 unfold b4n at h;split at h
 ·rename_i k m k' n;have hg:(eqGuard op t o1 o2 (.int k m) (.int k' n)).run P w= .ok () w:=by cases op<;>simp[eqGuard]
  simp only[Sem.run_bind,hg,Result.andThen_ok];split at h
  ·rename_i r hr;injection h with h;subst h;exact b1U hr hob t
  ·split at h
   ·rename_i e;have:=b2D e;subst this;exact b1j h hob t
   ·cases h
 ·rename_i hne;split at h
  ·split at h
   ·rename_i b hb;injection h with h;simp only[Prod.mk.injEq]at h;obtain⟨rfl,rfl⟩:=h;obtain⟨h1,h2⟩:=a5C (w:=w) hT hb;simp only[Sem.run_bind,h2,Result.andThen_ok];have:binOp .eql t x y=(do pure (.bool (<- Op.equal t x y)):Sem Value):=by
     cases x<;>cases y<;>first | rfl | (exact(hne _ _ _ _ rfl rfl).elim) | (revert hb;cases(T.get t).map (·.d)with
      | none=>simp[a4q]
      | some d=>cases d<;>simp[a4q])
    simp[this,h1]
   ·cases h
  ·split at h
   ·rename_i b hb;injection h with h;simp only[Prod.mk.injEq]at h;obtain⟨rfl,rfl⟩:=h;obtain⟨h1,h2⟩:=a5C (w:=w) hT hb;simp only[Sem.run_bind,h2,Result.andThen_ok];have:binOp .neq t x y=(do pure (.bool (!(<- Op.equal t x y))):Sem Value):=by
     cases x<;>cases y<;>first | rfl | (exact(hne _ _ _ _ rfl rfl).elim) | (revert hb;cases(T.get t).map (·.d)with
      | none=>simp[a4q]
      | some d=>cases d<;>simp[a4q])
    simp[this,h1]
   ·cases h
  ·cases h
theorem b1I {op:UnOp} {x v:Value} {ob:List Prop} (h:unV op x=some (v,ob)) (hob:Conj ob):(Op.unary op x).run P w= .ok v w:=by
 unfold unV at h;split at h<;>simp only[Option.some.injEq,Prod.mk.injEq,reduceCtorEq]at h<;>obtain⟨rfl,rfl⟩:=h
 ·simp only[Op.unary,Op.intArith,I7 hob];rfl
 ·rfl
end

structure LR where
 v:Value
 tag:Nat
 ob:List Prop
 rd:Nat
def a0Q (p:Prop):Slot->List Prop
 | ⟨_,_,_, .tt⟩=>[]
 | ⟨_,_,_, .when c⟩=>[p->c=true]
def J9 (T:Tab) (st f:Nat):Slot->Option LR
 | ⟨_, .pointer (some ⟨b,o,none⟩),tag,g⟩=>match T.get st with
  | some ⟨.row fs,_,_,_⟩=>match j5 fs f with
   | some (off,_+1,_)=>some ⟨.pointer (some ⟨b,o+off,none⟩),tag,l9 g,0⟩
   | _=>none
  | _=>none
 | _=>none
def a0Y (T:Tab) (t f:Nat):Slot->Option LR
 | ⟨_, .agg cs,_,g⟩=>match T.get t with
  | some ⟨.row fs,_,_,_⟩=>match j5 fs f with
   | some (off,sz,true)=>match a4c cs.toList off sz with
    | some l=>some ⟨.agg l.toArray,0,l9 g,0⟩
    | none=>none
   | some (off,_,false)=>match j5 cs.toList off with
    | some v=>some ⟨v,0,l9 g,0⟩
    | none=>none
   | none=>none
  | _=>none
 | _=>none
def B2 (T:Tab) (t:Nat):Slot->Slot->Option LR
 | ⟨_, .pointer (some ⟨b,o,none⟩),tag,g⟩,⟨_, .int _ n,_,g'⟩=>match T.get t with
  | some ⟨.arr len esz,_,_,_⟩=>some ⟨.pointer (some ⟨b,o+n.toNat*esz,none⟩),tag,(0<=n)::(n<(len:Int))::(l9 g++l9 g'),0⟩
  | _=>none
 | ⟨_, .slice (some ⟨b,o,none⟩) len _,tag,g⟩,⟨_, .int _ n,_,g'⟩=>match T.get t with
  | some ⟨.slice _ esz,_,_,_⟩=>some ⟨.pointer (some ⟨b,o+n.toNat*esz,none⟩),tag,(0<=n)::(n<(len:Int))::(l9 g++l9 g'),0⟩
  | _=>none
 | _,_=>none
def a6r (E:Env) (c a b:Operand):Option LR:=match ev E c with
 | some ⟨kc, .bool cb,tc,gc⟩=>match b with
  | .const (.bool false)=>match ev E a with
   | some ⟨ka, .bool va,ta,ga⟩=>some ⟨.bool (cb&&va),0,l9 gc++a0Q (cb=true) ⟨ka, .bool va,ta,ga⟩,0⟩
   | _=>none
  | _=>match a with
   | .const (.bool true)=>match ev E b with
    | some ⟨kb, .bool vb,tb,gb⟩=>some ⟨.bool (cb||vb),0,l9 gc++a0Q (cb=false) ⟨kb, .bool vb,tb,gb⟩,0⟩
    | _=>none
   | _=>none
 | _=>none
def W0 (T:Tab) (L:List Atom) (t:Nat):Slot->Option LR
 | ⟨_, .pointer (some ⟨b,o,none⟩),i+1,g⟩=>match j5 L i with
  | some (.pt b' _ cs)=>match T.get t with
   | some ⟨.row _,sz,_,_⟩=>match a4c cs o sz with
    | some l=>some ⟨.agg l.toArray,0,(b=b')::l9 g,i+1⟩
    | none=>none
   | some ⟨.arr _ _,sz,_,_⟩=>match a4c cs o sz with
    | some l=>some ⟨.agg l.toArray,0,(b=b')::l9 g,i+1⟩
    | none=>none
   | some _=>match j5 cs o with
    | some v=>some ⟨v,0,(b=b')::l9 g,i+1⟩
    | none=>none
   | none=>none
  | _=>none
 | _=>none
def K0 (E:Env):Option Operand->Nat->Option (Nat×List Prop)
 | none,d=>some (d,[])
 | some x,_=>match ev E x with
  | some ⟨_, .int _ n,_,g⟩=>some (n.toNat,(0<=n)::l9 g)
  | _=>none
def a0X (T:Tab) (E:Env) (t:Nat) (lo hi:Option Operand):Slot->Option LR
 | ⟨_, .pointer (some ⟨b,o,none⟩),tag,g⟩=>match T.get t with
  | some ⟨.arr n esz,_,_,_⟩=>match K0 E lo 0,K0 E hi n with
   | some (l,ol),some (h,oh)=>some ⟨.slice (some ⟨b,o+l*esz,none⟩) (h-l) (n-l),tag,l9 g++ol++oh++[l<=h,h<=n,l=0\/l<n],0⟩
   | _,_=>none
  | _=>none
 | ⟨_, .slice (some ⟨b,o,none⟩) len cap,tag,g⟩=>match T.get t with
  | some ⟨.slice _ esz,_,_,_⟩=>match K0 E lo 0,K0 E hi len with
   | some (l,ol),some (h,oh)=>some ⟨.slice (some ⟨b,o+l*esz,none⟩) (h-l) (cap-l),tag,l9 g++ol++oh++[l<=h,h<=cap,l=0\/l<cap],0⟩
   | _,_=>none
  | _=>none
 | _=>none
def slots (E:Env):List Operand->Option (List Slot)
 | []=>some []
 | x::r=>match ev E x,slots E r with
  | some s,some l=>some (s::l)
  | _,_=>none
def H9:List Slot->List Prop
 | []=>[]
 | s::r=>E5 s++H9 r
def vals:List Slot->List Value
 | []=>[]
 | ⟨_,v,_,_⟩::r=>v::vals r
def a2a (place:Nat->Option (Nat×Nat)):List Value->List (Nat×Value)->Option (List Value)
 | cs,[]=>some cs
 | cs,(i,v)::r=>match place i with
  | some (off,sz)=>match Nat.beq v.cells.toList.length sz,I2 cs off v.cells.toList with
   | true,some cs'=>a2a place cs' r
   | _,_=>none
  | none=>none
def V7:List (Nat×Operand)->List Slot->List (Nat×Value)
 | (i,_)::r,⟨_,v,_,_⟩::l=>(i,v)::V7 r l
 | _,_=>[]
def a1B (fs:List (Nat×Nat×Bool)) (i:Nat):Option (Nat×Nat):=match j5 fs i with
 | some (off,sz,_)=>some (off,sz)
 | none=>none
def a4d (T:Tab) (E:Env) (t:Nat) (parts:List (Nat×Operand)):Option LR:=match T.get t,slots E (parts.map (·.2))with
 | some ⟨.row fs,_,z,_⟩,some l=>match a2a (a1B fs) z (V7 parts l)with
  | some cs=>some ⟨.agg cs.toArray,0,H9 l,0⟩
  | none=>none
 | some ⟨.arr _ esz,_,z,_⟩,some l=>match a2a (λi=>some (i*esz,esz)) z (V7 parts l)with
  | some cs=>some ⟨.agg cs.toArray,0,H9 l,0⟩
  | none=>none
 | _,_=>none
def a6t (T:Tab) (E:Env) (b:Builtin) (ts:List TypeId) (xs:List Operand):Option LR:=match b,ts,slots E xs with
 | .len,t::_,some (⟨_, .slice _ n _,_,g⟩::_)=>match T.get t with
  | some ⟨.slice _ _,_,_,_⟩=>some ⟨.int .i64 (n:Int),0,l9 g,0⟩
  | _=>none
 | .cap,t::_,some (⟨_, .slice _ _ n,_,g⟩::_)=>match T.get t with
  | some ⟨.slice _ _,_,_,_⟩=>some ⟨.int .i64 (n:Int),0,l9 g,0⟩
  | _=>none
 | .min,_,some [⟨_, .int k x,_,g⟩,⟨_, .int _ y,_,g'⟩]=>some ⟨.int k (if y<x then y else x),0,l9 g++l9 g',0⟩
 | .max,_,some [⟨_, .int k x,_,g⟩,⟨_, .int _ y,_,g'⟩]=>some ⟨.int k (if y>x then y else x),0,l9 g++l9 g',0⟩
 | _,_,_=>none
def look (T:Tab) (E:Env) (L:List Atom):Op->Option LR
 | .move x | .assign x=>match ev E x with
  | some ⟨_,v,t,g⟩=>some ⟨v,t,l9 g,0⟩
  | none=>none
 | .pick c a b=>a6r E c a b
 | .nilCheck x=>match ev E x with
  | some ⟨_, .pointer (some a),t,g⟩=>some ⟨.pointer (some a),t,l9 g,0⟩
  | _=>none
 | .binOp op t x y _=>match ev E x,ev E y with
  | some ⟨_,v,_,g⟩,some ⟨_,v',_,g'⟩=>match b4n T op t v v' with
   | some (u,ob)=>some ⟨u,0,ob++l9 g++l9 g',0⟩
   | none=>none
  | _,_=>none
 | .unOp op _ x=>match ev E x with
  | some ⟨_,v,_,g⟩=>match unV op v with
   | some (u,ob)=>some ⟨u,0,ob++l9 g,0⟩
   | none=>none
  | none=>none
 | .convert src dst x=>match ev E x,T.get dst,T.get src with
  | some ⟨_, .int _ n,_,g⟩,some ⟨.int k',_,_,_⟩,some _=>some ⟨.int k' n,0,inR k' n++l9 g,0⟩
  | _,_,_=>none
 | .fieldAddr st x f=>match ev E x with
  | some s=>J9 T st f s
  | none=>none
 | .field t x f=>match ev E x with
  | some s=>a0Y T t f s
  | none=>none
 | .indexAddr t x (.const i)=>match ev E x with
  | some s=>B2 T t s ⟨0,i,0, .tt⟩
  | none=>none
 | .indexAddr t x i=>match ev E x,ev E i with
  | some ⟨k,v,_,g⟩,some s'=>B2 T t ⟨k,v,0,g⟩ s'
  | _,_=>none
 | .extract x i=>match ev E x with
  | some ⟨_, .tuple vs,_,g⟩=>match j5 vs.toList i with
   | some v=>some ⟨v,0,l9 g,0⟩
   | none=>none
  | _=>none
 | .slice t x lo hi none=>match ev E x with
  | some s=>a0X T E t lo hi s
  | none=>none
 | .build t parts=>a4d T E t parts.toList
 | .makeFunc fn first captured=>match slots E first.toList,slots E captured.toList with
  | some l,some l'=>some ⟨.func fn (vals l).toArray (vals l').toArray,0,H9 l++H9 l',0⟩
  | _,_=>none
 | .load t x=>match ev E x with
  | some s=>W0 T L t s
  | none=>none
 | .call ⟨.builtin b,args,ts⟩=>a6t T E b ts.toList args.toList
 | _=>none

section
variable {P : Program} {T : Tab} {E : Env} {L : List Atom} {n : Nat} {a : Act} {w : World}
theorem Addr.add_none (b o k:Nat):(⟨b,o,none⟩:Addr).add k=⟨b,o+k,none⟩:=by
 unfold Addr.add;split
 ·rename_i h;subst h;rfl
 ·rfl
theorem evs {x:Operand} {s:Slot} (he:EnvOK n E a) (h:ev E x=some s) (hv:Conj (E5 s)):a.eval x=s.v:=(f7 he h).trans (V5 hv)
theorem a0g {t:TypeId} {d:TypeDesc} (h:P.underlying t=some d):(isAgg t).run P w= .ok (z6 d) w:=by
 cases d<;>simp[isAgg,d4 h,z6]
theorem i9 {t:TypeId} {f:TypeInfo} (h:P.info? t=some f):(sizeOf t).run P w= .ok f.size w:=by simp[sizeOf,typeInfo,h]
theorem R1 {t:TypeId} {f:TypeInfo} {z:Value} (h:P.info? t=some f) (hz:f.zero=some z):(zeroValue t).run P w= .ok z w:=by simp[zeroValue,typeInfo,h,hz]
def b3O (P:Program) (w:World) (t:TypeId) (cs:Array Value) (off:Nat):=(part t cs off).run P w
theorem a1E {t:TypeId} {f:TypeInfo} {d:TypeDesc} (hd:P.underlying t=some d) (hf:P.info? t=some f) (cs:Array Value) (off:Nat):
  (part t cs off).run P w=if z6 d then .ok (.agg (cs.extract off (off+f.size))) w else match cs[off]? with
   | some v=> .ok v w
   | none=>b3O P w t cs off:=by
 cases hb:z6 d
 ·cases hc:cs[off]? with
  | none=>rfl
  | some v=>simp only[part,Sem.run_bind,a0g hd,Result.andThen_ok,hb,Bool.false_eq_true,if_false,hc];rfl
 ·simp[part,a0g hd,hb,i9 hf]
theorem a0O (hT:TabOK P T) {st f:Nat} {s:Slot} {r:LR} (h:J9 T st f s=some r):(Instr.fieldAt st s.v f).run P w= .ok r.v w:=by
 unfold J9 at h;split at h
 ·rename_i kk b o tg gg;split at h
  ·rename_i fs sz z bb hg;split at h
   ·rename_i off k ag hl;injection h with h;subst h;obtain⟨d,fi,zv,ok⟩:=d7 (hT.get hg);obtain⟨fl,e,hfl⟩:=ok.row rfl;subst e;obtain⟨g,gi,gd,h1,h2,h3,h4,h5,h6⟩:=H7 hfl hl;have h1':fl[f]? =some g:=by simpa using h1
    have hne:gi.size≠0:=by omega
    simp only[Instr.fieldAt,Sem.run_bind,d4 ok.hd,Result.andThen_ok,h1',Instr.sureAddr,Sem.run_pure,fieldPlace,i9 h2];simp[hne,Addr.add_none,h4]
   ·cases h
  ·cases h
 ·cases h
theorem a4b {cs:Array Value} {o n:Nat} {l:List Value} (h:a4c cs.toList o n=some l):cs.extract o (o+n)=l.toArray:=by
 obtain⟨h1,h2⟩:=a0d h;apply Array.toList_inj.1;subst h1;simp[List.extract_eq_take_drop]
theorem a5k (hT:TabOK P T) {t f:Nat} {s:Slot} {r:LR} (h:a0Y T t f s=some r):(Instr.field t s.v f).run P w= .ok r.v w:=by
 unfold a0Y at h;split at h
 ·rename_i kk cs tg gg;split at h
  ·rename_i fs sz z bb hg;obtain⟨d,fi,zv,ok⟩:=d7 (hT.get hg);obtain⟨fl,e,hfl⟩:=ok.row rfl;subst e;split at h
   ·rename_i off k hl;obtain⟨g,gi,gd,h1,h2,h3,h4,h5,h6⟩:=H7 hfl hl;have h1':fl[f]? =some g:=by simpa using h1
    split at h
    ·rename_i l hl2;injection h with h;subst h;simp only[Instr.field,Sem.run_bind,d4 ok.hd,Result.andThen_ok,h1',asAgg,Sem.run_pure,a1E h3 h2,h6,if_true,h4,h5,a4b hl2]
    ·cases h
   ·rename_i off k hl;obtain⟨g,gi,gd,h1,h2,h3,h4,h5,h6⟩:=H7 hfl hl;have h1':fl[f]? =some g:=by simpa using h1
    split at h
    ·rename_i v hl2;injection h with h;subst h;rw[j4]at hl2;have hl3:cs[off]? =some v:=by simpa using hl2
     simp only[Instr.field,Sem.run_bind,d4 ok.hd,Result.andThen_ok,h1',asAgg,Sem.run_pure,a1E h3 h2,h6,Bool.false_eq_true,if_false,h4,hl3]
    ·cases h
   ·cases h
  ·cases h
 ·cases h
theorem Q6 (hT:TabOK P T) {t:Nat} {s i:Slot} {r:LR} (h:B2 T t s i=some r) (hob:Conj r.ob):(Instr.indexAt t s.v i.v).run P w= .ok r.v w:=by
 unfold B2 at h;split at h
 ·rename_i kk b o tg gg kk' k x tg' gg';split at h
  ·rename_i len esz sz z bb hg;injection h with h;subst h;obtain⟨d,fi,zv,ok⟩:=d7 (hT.get hg);obtain⟨e,fe,rfl,h1,h2⟩:=ok.arr rfl;simp only[Instr.indexAt,asIntOf,Sem.run_bind,Sem.run_pure,Result.andThen_ok,d4 ok.hd,Instr.sureAddr];rw[if_pos ⟨hob.1,hob.2.1⟩];simp[i9 h1,h2,Addr.add_none]
  ·cases h
 ·rename_i kk b o len cap tg gg kk' k x tg' gg';split at h
  ·rename_i el esz sz z bb hg;injection h with h;subst h;obtain⟨d,fi,zv,ok⟩:=d7 (hT.get hg);obtain⟨fe,rfl,h1,h2⟩:=ok.slice rfl;simp only[Instr.indexAt,asIntOf,Sem.run_bind,Sem.run_pure,Result.andThen_ok,d4 ok.hd];rw[if_pos ⟨hob.1,hob.2.1⟩];simp[i9 h1,h2,Addr.add_none]
  ·cases h
 ·cases h
end
end Go.Proofs.YtpohajhbfllbbaaGreat
namespace Go.Proofs.YtpohajhbfllbbaaGreat
open Go.RowKit

section
variable {P : Program} {ops : Array Oper} {rest : List Oper} {dst : Option Tmp} {ty : TypeId} {pos : String} {after : Array Edge} {a : Act} {w : World} {Q : Exit → Act → World → Prop}

end

theorem a4h (w:World) (g:Nat) (C:Array Value):w.grownBy (w.setRow g C) (some g):=
 ⟨rfl,rfl,rfl,by simp,λk _ hk=>setRow_other w g k C (λe=>hk (by simp[e]))⟩
section
variable {P : Program} {ops : Array Oper} {rest : List Oper} {dst : Option Tmp} {ty : TypeId} {pos : String} {after : Array Edge} {a : Act} {w : World} {Q : Exit → Act → World → Prop}
end

theorem a0s {w:World} {b:Nat} {T:TypeId} {C:Array Value} (hb:Blk w b T C) (o:Nat) (cs:List Value) (h:(C.toList.drop o).take cs.length=cs):w.rangeAt b o cs:=by
 intro j v hv;rw[hb.cell];have hj:j<cs.length:=(List.getElem?_eq_some_iff.1 hv).1;rw[<- h,List.getElem?_take,if_pos hj,List.getElem?_drop]at hv;simpa using hv
end Go.Proofs.YtpohajhbfllbbaaGreat
namespace Go.Proofs.YtpohajhbfllbbaaGreat
open Go
section
variable {P : Program} {T : Tab} {E : Env} {L : List Atom} {n : Nat} {a : Act} {w : World}
theorem b4Z {x:Operand} {s:Slot} {p:Prop} (he:EnvOK n E a) (h:ev E x=some s) (hv:Conj (a0Q p s)) (hp:p):a.eval x=s.v:=by
 rw[f7 he h];obtain⟨k,v,t,g⟩:=s;unfold Slot.val;cases g with
 | tt=>rfl
 | when c=>simp only[a0Q]at hv;simp only[G.on];rw[hv.1 hp]
theorem a6q {c x y:Operand} {r:LR} (he:EnvOK n E a) (h:a6r E c x y=some r) (hob:Conj r.ob):(do pure (if<- asBool (a.eval c)then a.eval x else a.eval y):Sem Value).run P w= .ok r.v w:=by
 unfold a6r at h;split at h
 ·rename_i kc cb tc gc hc;split at h
  ·split at h
   ·rename_i ka va ta ga ha;injection h with h;subst h;obtain⟨o1,o2⟩:=Conj.app hob;rw[evs he hc o1];cases cb
    ·simp[asBool,Act.eval]
    ·simp[asBool,b4Z he ha o2 rfl]
   ·cases h
  ·split at h
   ·split at h
    ·rename_i kb vb tb gb hb;injection h with h;subst h;obtain⟨o1,o2⟩:=Conj.app hob;rw[evs he hc o1];cases cb
     ·simp[asBool,b4Z he hb o2 rfl]
     ·simp[asBool,Act.eval]
    ·cases h
   ·cases h
 ·cases h
theorem a2f {b:Nat} {t:TypeId} {cs:List Value} (h:hl w b=some (.cells cs.toArray t (0,0))):Blk w b t cs.toArray:=h
theorem I5 {t:TypeId} {d:TypeDesc} (hd:P.underlying t=some d) (hb:z6 d=false) {b o:Nat} {v:Value} (hc:w.cell? ⟨b,o,none⟩=some v):(loadVar t ⟨b,o,none⟩).run P w= .ok v w:=by
 simp[loadVar,a0g hd,hb,load,Sem.run,hc]
theorem a0t {t:TypeId} {d:TypeDesc} {f:TypeInfo} (hd:P.underlying t=some d) (hb:z6 d=true) (hf:P.info? t=some f) {b o:Nat} {ty:TypeId} {cs l:List Value} (hc:Blk w b ty cs.toArray) (hl:a4c cs o f.size=some l):(loadVar t ⟨b,o,none⟩).run P w= .ok (.agg l.toArray) w:=by
 obtain⟨h1,h2⟩:=a0d hl;refine run_loadVar_mid w b o t l d (a0s hc o l ?_) hd (by cases d<;>simp_all [z6,TypeDesc.isRow]) (by rw[hf];simp[h2]);rw[h2,h1]
theorem a1S (hT:TabOK P T) {t:Nat} {s:Slot} {r:LR} (h:W0 T L t s=some r) (hob:Conj r.ob) (hr:∀i A,r.rd=i+1->L[i]? =some A->A.sat (hl w)):(Instr.loadAt t s.v).run P w= .ok r.v w:=by
 unfold W0 at h;split at h
 ·rename_i kk b o i gg;split at h
  ·rename_i b' ty cs hL;rw[j4]at hL;split at h
   ·rename_i fs sz z bb hg;obtain⟨d,fi,zv,ok⟩:=d7 (hT.get hg);obtain⟨fl,rfl,_⟩:=ok.row rfl;split at h
    ·rename_i l hl2;injection h with h;subst h;have hb:=hob.1;subst hb;have hA:=a2f (hr i _ rfl hL);have hsz:sz=fi.size:=ok.hsize;rw[hsz]at hl2;simp[Instr.loadAt,Instr.sureAddr,a0t ok.hd rfl ok.hf hA hl2]
    ·cases h
   ·rename_i x y sz z bb hg;obtain⟨d,fi,zv,ok⟩:=d7 (hT.get hg);obtain⟨e,fe,rfl,_⟩:=ok.arr rfl;split at h
    ·rename_i l hl2;injection h with h;subst h;have hb:=hob.1;subst hb;have hA:=a2f (hr i _ rfl hL);have hsz:sz=fi.size:=ok.hsize;rw[hsz]at hl2;simp[Instr.loadAt,Instr.sureAddr,a0t ok.hd rfl ok.hf hA hl2]
    ·cases h
   ·rename_i ti hn1 hn2 hg;obtain⟨d,fi,zv,ok⟩:=d7 (hT.get hg);split at h
    ·rename_i v hl2;injection h with h;subst h;have hb:=hob.1;subst hb;have hA:=a2f (hr i _ rfl hL);rw[j4]at hl2;have hagg:z6 d=false:=by
      have htd:=ok.htd;cases d<;>simp[z6]<;>simp[a0L]at htd
      ·obtain⟨g,h1,h2⟩:=htd;obtain⟨td,sz,zz,bb⟩:=ti;simp at h2;subst h2;exact hn2 _ _ _ _ _ rfl
      ·obtain⟨g,h1,h2⟩:=htd;obtain⟨td,sz,zz,bb⟩:=ti;simp at h2;subst h2;exact hn1 _ _ _ _ rfl
     have hc:w.cell? ⟨b,o,none⟩=some v:=by rw[hA.cell];simpa using hl2
     simp[Instr.loadAt,Instr.sureAddr,I5 ok.hd hagg hc]
    ·cases h
   ·cases h
  ·cases h
 ·cases h
theorem a0u {x:Option Operand} {d k:Nat} {ob:List Prop} (he:EnvOK n E a) (h:K0 E x d=some (k,ob)) (hob:Conj ob):
  (x=none/\k=d)\/∃y ik z,x=some y/\a.eval y= .int ik z/\0<=z/\z.toNat=k:=by
 unfold K0 at h;split at h
 ·simp only[Option.some.injEq,Prod.mk.injEq]at h;exact .inl ⟨rfl,h.1.symm⟩
 ·rename_i y;split at h
  ·rename_i ks ik z t g hy;simp only[Option.some.injEq,Prod.mk.injEq]at h;obtain⟨rfl,rfl⟩:=h;exact .inr ⟨y,ik,z,rfl,evs he hy hob.2,hob.1,rfl⟩
  ·cases h
theorem C1 {x:Value} {ik:IntKind} {z:Int} (hx:x= .int ik z) (h0:0<=z) {y:Nat} (hy:z.toNat<=y) (c:BoundsCode):(Instr.sliceBound x y c).run P w= .ok z.toNat w:=by
 subst hx;simp only[Instr.sliceBound,asIntOf,Sem.run_bind,Sem.run_pure,Result.andThen_ok];rw[if_pos ⟨h0,by omega⟩];rfl
theorem Q2 {isS:Bool} {len cap l h dl:Nat} {lo hi:Option Operand} {ol oh:List Prop} (he:EnvOK n E a) (h1:K0 E lo 0=some (l,ol)) (h2:K0 E hi len=some (h,oh)) (o1:Conj ol) (o2:Conj oh) (hlh:l<=h) (hhc:h<=cap) (hd:dl=cap):
  (Instr.sliceBounds isS len dl (lo.map a.eval) (hi.map a.eval) none).run P w= .ok (l,h,cap) w:=by
 subst hd;rcases a0u he h1 o1 with⟨rfl,rfl⟩ | ⟨y,ik,z,rfl,e1,e2,e3⟩<;>rcases a0u he h2 o2 with⟨rfl,rfl⟩ | ⟨y',ik',z',rfl,e1',e2',e3'⟩
 ·simp[Instr.sliceBounds]
 ·simp[Instr.sliceBounds,C1 (P:=P) (w:=w) e1' e2' (by rw[e3'];exact hhc),e3']
 ·simp[Instr.sliceBounds,C1 (P:=P) (w:=w) e1 e2 (by rw[e3];exact hlh),e3]
 ·subst e3';simp[Instr.sliceBounds,C1 (P:=P) (w:=w) e1' e2' hhc,C1 (P:=P) (w:=w) e1 e2 (by rw[e3];exact hlh),e3]
theorem a5j (hT:TabOK P T) {t:Nat} {s:Slot} {lo hi:Option Operand} {r:LR} (he:EnvOK n E a) (h:a0X T E t lo hi s=some r) (hob:Conj r.ob):(Instr.sliceAt t s.v (lo.map a.eval) (hi.map a.eval) none).run P w= .ok r.v w:=by
 unfold a0X at h;split at h
 ·rename_i kk b o tg gg;split at h
  ·rename_i m esz sz z bb hg;split at h
   ·rename_i l ol hh oh h1 h2;injection h with h;subst h;obtain⟨oo,hlh,hhc,hlc,_⟩:=Conj.app hob;obtain⟨oo,o2⟩:=Conj.app oo;obtain⟨_,o1⟩:=Conj.app oo;obtain⟨d,fi,zv,ok⟩:=d7 (hT.get hg);obtain⟨e,fe,rfl,g1,g2⟩:=ok.arr rfl;simp only[Instr.sliceAt,Sem.run_bind,d4 ok.hd,Result.andThen_ok,Instr.sureAddr,Sem.run_pure,Q2 (P:=P) (w:=w) (isS:=false) he h1 h2 o1 o2 hlh hhc rfl,i9 g1,g2]
    by_cases hm:m=l
    ·rcases hlc with rfl | hlc
     ·subst hm;simp
     ·omega
    ·simp[hm,Addr.add_none]
   ·cases h
  ·cases h
 ·rename_i kk b o len cap tg gg;split at h
  ·rename_i el esz sz z bb hg;split at h
   ·rename_i l ol hh oh h1 h2;injection h with h;subst h;obtain⟨oo,hlh,hhc,hlc,_⟩:=Conj.app hob;obtain⟨oo,o2⟩:=Conj.app oo;obtain⟨_,o1⟩:=Conj.app oo;obtain⟨d,fi,zv,ok⟩:=d7 (hT.get hg);obtain⟨fe,rfl,g1,g2⟩:=ok.slice rfl;simp only[Instr.sliceAt,Sem.run_bind,d4 ok.hd,Result.andThen_ok,Instr.slice,Sem.run_pure,Q2 (P:=P) (w:=w) (isS:=true) he h1 h2 o1 o2 hlh hhc rfl,i9 g1,g2]
    by_cases hm:cap=l
    ·rcases hlc with rfl | hlc
     ·subst hm;simp
     ·omega
    ·simp[hm,Addr.add_none]
   ·cases h
  ·cases h
 ·cases h
theorem x5 (he:EnvOK n E a):∀{xs:List Operand} {l:List Slot},slots E xs=some l->Conj (H9 l)->xs.map a.eval=vals l
 | [],l,h,_=>by simp only[slots,Option.some.injEq]at h;subst h;rfl
 | x::r,l,h,hv=>by
  simp only[slots]at h;split at h
  ·rename_i s l' h1 h2;injection h with h;subst h;obtain⟨v1,v2⟩:=Conj.app hv;simp only[List.map_cons,vals,evs he h1 v1,x5 he h2 v2]
  ·cases h
theorem a3g {α:Type} (l xs:List α):I2 l 0 xs=Q5 l xs:=by cases l<;>rfl
theorem a0e {α:Type}:∀{l:List α} {o:Nat} {x:α} {xs m:List α},I2 l o (x::xs)=some m->I2 (l.set o x) (o+1) xs=some m
 | [],0,x,xs,m,h=>by simp[I2,Q5]at h
 | [],o+1,x,xs,m,h=>by simp[I2]at h
 | y::r,0,x,xs,m,h=>by
  rw[a3g]at h;simpa only[Q5,List.set_cons_zero,I2,a3g]using h
 | y::r,o+1,x,xs,m,h=>by
  simp only[I2]at h;split at h
  ·rename_i l hl;simp only[List.set_cons_succ,I2,a0e hl];exact h
  ·cases h
theorem a3r (off:Nat):∀(xs:List Value) (k:Nat) (cs:Array Value) (m:List Value),I2 cs.toList (off+k) xs=some m->(xs.zipIdx k).foldl (λcs (c,j)=>cs.setIfInBounds (off+j) c) cs=m.toArray
 | [],k,cs,m,h=>by
  obtain⟨h1,h2⟩:=M5 h;simp at h1;subst h1;simp
 | x::xs,k,cs,m,h=>by
  rw[List.zipIdx_cons,List.foldl_cons];exact a3r off xs (k+1) _ m (by rw[<- Nat.add_assoc];simpa using a0e h)
theorem V1 {place place':Nat->Option (Nat×Nat)} (hp:∀i r,place i=some r->place' i=some r):∀{parts:List (Nat×Value)} {cs:Array Value} {m:List Value},a2a place cs.toList parts=some m->Instr.fill place' cs parts=some m.toArray
 | [],cs,m,h=>by simp only[a2a,Option.some.injEq]at h;subst h;simp[Instr.fill]
 | (i,v)::r,cs,m,h=>by
  simp only[a2a]at h;split at h
  ·rename_i off sz hpl;split at h
   ·rename_i cs' e1 e2;have e3:=Nat.eq_of_beq_eq_true e1;obtain⟨e4,e5⟩:=M5 e2;simp only[Instr.fill,hp _ _ hpl];have:v.cells.size=sz:=by simpa using e3
    have hb:(decide (v.cells.size≠sz)||decide (off+v.cells.size>cs.size))=false:=by
     simp at e5;simp;omega
    have hb':¬(v.cells.size≠sz\/off+v.cells.size>cs.size):=by
     simp at e5;omega
    have hf:=a3r off v.cells.toList 0 cs cs' e2;have hf':Array.foldl (λcs x=>match x with | (c,j)=>cs.setIfInBounds (off+j) c) cs v.cells.zipIdx=cs'.toArray:=by
     rw[<- hf,<- Array.foldl_toList,Array.toList_zipIdx]
    simp only[this,ne_eq,not_true_eq_false,decide_false,Bool.false_or];rw[if_neg (by simp at e5 ⊢;omega)];rw[hf'];exact V1 hp (by simpa using h)
   ·cases h
  ·cases h
theorem U4:∀{parts:List (Nat×Operand)} {l:List Slot},(parts.map (·.2)).map a.eval=vals l->parts.map (λ(i,x)=>(i,a.eval x))=V7 parts l
 | [],l,h=>by simp[V7]
 | (i,x)::r,[],h=>by simp[vals]at h
 | (i,x)::r,s::l,h=>by
  simp only[List.map_cons,vals,List.cons.injEq]at h;simp only[List.map_cons,V7,h.1,U4 h.2]
theorem a1A:∀{fl:List Field} {fs:List (Nat×Nat×Bool)},fieldsOf P fl=some fs->(fl.mapM (λf=>do pure (f.offset,<- sizeOf f.type)):Sem (List (Nat×Nat))).run P w= .ok (fs.map λx=>(x.1,x.2.1)) w
 | [],fs,h=>by simp only[fieldsOf,Option.some.injEq]at h;subst h;simp
 | f::r,fs,h=>by
  simp only[fieldsOf]at h;split at h
  ·rename_i i d l h1 h2 h3;injection h with h;subst h;have:=a1A h3;simp only[List.mapM_cons,Sem.run_bind,i9 h1,Result.andThen_ok,Sem.run_pure,this,List.map_cons]
  ·cases h
theorem a4Y (fs:List (Nat×Nat×Bool)) (i:Nat) (r:Nat×Nat) (h:a1B fs i=some r):((fs.map λx=>(x.1,x.2.1)).toArray[i]?)=some r:=by
 unfold a1B at h;rw[j4]at h;split at h
 ·rename_i off sz b e;simp[e,h]
 ·cases h
theorem a5l (hT:TabOK P T) {t:Nat} {parts:Array (Nat×Operand)} {r:LR} (he:EnvOK n E a) (h:a4d T E t parts.toList=some r) (hob:Conj r.ob):(Instr.build t (parts.map λ(i,x)=>(i,a.eval x))).run P w= .ok r.v w:=by
 unfold a4d at h;split at h
 ·rename_i fs sz z bb l hg hl;split at h
  ·rename_i cs hf;injection h with h;subst h;have hp:=U4 (x5 he hl hob);obtain⟨d,fi,zv,ok⟩:=d7 (hT.get hg);obtain⟨fl,rfl,hfl⟩:=ok.row rfl;have hz:z=zv.cells.toList:=ok.hzero;subst hz;have hr:=V1 (place':=((fs.map λx=>(x.1,x.2.1)).toArray[·]?)) (a4Y fs) hf;have hpl:(fl.mapM (λf=>do pure (f.offset,<- sizeOf f.type)):Sem (Array (Nat×Nat))).run P w= .ok (fs.map λx=>(x.1,x.2.1)).toArray w:=by
    rw[Array.mapM_eq_mapM_toList];simp only[map_eq_pure_bind,Sem.run_bind,a1A hfl,Result.andThen_ok,Sem.run_pure]
   simp only[Instr.build,Sem.run_bind,R1 ok.hf ok.hz,Result.andThen_ok,d4 ok.hd,hpl,Sem.run_pure,Array.toList_map,hp,hr]
  ·cases h
 ·rename_i m esz sz z bb l hg hl;split at h
  ·rename_i cs hf;injection h with h;subst h;have hp:=U4 (x5 he hl hob);obtain⟨d,fi,zv,ok⟩:=d7 (hT.get hg);obtain⟨e,fe,rfl,g1,g2⟩:=ok.arr rfl;have hz:z=zv.cells.toList:=ok.hzero;subst hz;have hr:=V1 (place':=λi=>some (i*esz,esz)) (λ_ _ h=>h) hf;simp only[Instr.build,Sem.run_bind,R1 ok.hf ok.hz,Result.andThen_ok,d4 ok.hd,i9 g1,g2,Array.toList_map,hp,hr,Sem.run_pure]
  ·cases h
 ·cases h
end
section
variable {P : Program} {T : Tab} {E : Env} {L : List Atom} {n : Nat} {a : Act} {w : World}
theorem a6s (hT:TabOK P T) {b:Builtin} {ts:Array TypeId} {args:Array Operand} {r:LR} (he:EnvOK n E a) (h:a6t T E b ts.toList args.toList=some r) (hob:Conj r.ob) (type:TypeId) (consts:Array Bool):
  (builtin b ts type consts (args.map a.eval)).run P w= .ok (.value r.v) w:=by
 have hargs:∀{l:List Slot},slots E args.toList=some l->Conj (H9 l)->args.map a.eval=(vals l).toArray:=λh1 h2=>by
  apply Array.toList_inj.1;rw[Array.toList_map,x5 he h1 h2]
 unfold a6t at h;split at h
 ·rename_i t rt kk ad n' c tg gg rs hts hs;split at h
  ·rename_i el esz sz z bb hg;injection h with h;subst h;obtain⟨d,fi,zv,ok⟩:=d7 (hT.get hg);obtain⟨fe,rfl,g1,g2⟩:=ok.slice rfl;have ht:ts[0]? =some t:=by rw[<- Array.getElem?_toList,hts];rfl
   have hx:(args.map a.eval)[0]? =some (.slice ad n' c):=by
    rw[<- Array.getElem?_toList,Array.toList_map];cases hal:args.toList with
    | nil=>rw[hal]at hs;simp[slots]at hs
    | cons x xs=>
     rw[hal]at hs;simp only[slots]at hs;split at hs
     ·rename_i s' l' h1 h2;injection hs with hs;injection hs with hs1 hs2;subst hs1;simp[evs he h1 hob]
     ·cases hs
   simp[builtin,Builtin.len_,ht,hx,d4 ok.hd,goInt]
  ·cases h
 ·rename_i t rt kk ad c m' tg gg rs hts hs;split at h
  ·rename_i el esz sz z bb hg;injection h with h;subst h;obtain⟨d,fi,zv,ok⟩:=d7 (hT.get hg);obtain⟨fe,rfl,g1,g2⟩:=ok.slice rfl;have ht:ts[0]? =some t:=by rw[<- Array.getElem?_toList,hts];rfl
   have hx:(args.map a.eval)[0]? =some (.slice ad c m'):=by
    rw[<- Array.getElem?_toList,Array.toList_map];cases hal:args.toList with
    | nil=>rw[hal]at hs;simp[slots]at hs
    | cons x xs=>
     rw[hal]at hs;simp only[slots]at hs;split at hs
     ·rename_i s' l' h1 h2;injection hs with hs;injection hs with hs1 hs2;subst hs1;simp[evs he h1 hob]
     ·cases hs
   simp[builtin,Builtin.cap_,ht,hx,d4 ok.hd,goInt]
  ·cases h
 ·rename_i hs;injection h with h;subst h;have:=hargs hs (by simp only[H9,E5];rw[List.append_nil];exact hob);simp[builtin,this,Builtin.min_,vals,Builtin.min2]
 ·rename_i hs;injection h with h;subst h;have:=hargs hs (by simp only[H9,E5];rw[List.append_nil];exact hob);simp[builtin,this,Builtin.max_,vals,Builtin.max2]
 ·cases h
theorem J8 {t:Nat} {s i:Slot} {r:LR} (h:B2 T t s i=some r) (hob:Conj r.ob):Conj (E5 s)/\Conj (E5 i):=by
 obtain⟨k,v,tg,g⟩:=s;obtain⟨k',v',tg',g'⟩:=i;unfold B2 at h;split at h<;>rename_i e1 e2
 ·split at h
  ·injection h with h;subst h;injection e1 with _ _ _ e1;injection e2 with _ _ _ e2;subst e1;subst e2;exact Conj.app hob.2.2
  ·cases h
 ·split at h
  ·injection h with h;subst h;injection e1 with _ _ _ e1;injection e2 with _ _ _ e2;subst e1;subst e2;exact Conj.app hob.2.2
  ·cases h
 ·cases h
theorem a1R (hT:TabOK P T) {o:Oper} {r:LR} (he:EnvOK n E a) (h:look T E L o.op=some r) (hob:Conj r.ob) (hr:∀i A,r.rd=i+1->L[i]? =some A->A.sat (hl w)):(execOp a.eval o).run P w= .ok (.value r.v) w:=by
 unfold look at h;unfold execOp;split at h<;>rename_i hop<;>simp only[hop]
 ·split at h
  ·rename_i s hs;injection h with h;subst h;simp[evs he hs hob]
  ·cases h
 ·split at h
  ·rename_i s hs;injection h with h;subst h;simp[evs he hs hob]
  ·cases h
 ·have:=a6q (P:=P) (w:=w) he h hob;simp only[Sem.run_bind,Sem.run_pure]at this ⊢
  revert this
  cases(asBool (a.eval _)).run P w with
  | ok b w'=>intro this;simp only[Result.andThen_ok]at this ⊢;injection this with h1 h2;rw[h1,h2]
  | halt x w'=>intro this;cases this
 ·split at h
  ·rename_i k p t g hs;injection h with h;subst h;simp[evs he hs hob]
  ·cases h
 ·split at h
  ·rename_i s s' h1 h2;split at h
   ·rename_i v ob hb;injection h with h;subst h;obtain⟨oo,v2⟩:=Conj.app hob;obtain⟨oo,v1⟩:=Conj.app oo;rw[evs he h1 v1,evs he h2 v2];have:=b1i (P:=P) (w:=w) hT hb oo;simp only[Sem.run_bind,this,Result.andThen_ok,Sem.run_pure]
   ·cases h
  ·cases h
 ·split at h
  ·rename_i s h1;split at h
   ·rename_i v ob hb;injection h with h;subst h;obtain⟨oo,v1⟩:=Conj.app hob;rw[evs he h1 v1];simp only[Sem.run_bind,b1I hb oo,Result.andThen_ok,Sem.run_pure]
   ·cases h
  ·cases h
 ·split at h
  ·rename_i k ik m t g k' sz z bb ti h1 h2 h3;injection h with h;subst h;obtain⟨oo,v1⟩:=Conj.app hob;rw[evs he h1 v1];obtain⟨d,fi,zv,ok⟩:=d7 (hT.get h2);obtain⟨d',fi',zv',ok'⟩:=d7 (hT.get h3);have:=ok.int rfl;subst this;simp[convert,d4 ok.hd,d4 ok'.hd,Conv.intToInt,I7 oo]
  ·cases h
 ·split at h
  ·rename_i s hs;have hv:Conj (E5 s):=by
    unfold J9 at h
    (repeat' split at h)<;>first | (cases h;done) | (injection h with h;subst h;exact hob)
   rw[evs he hs hv];simp only[Sem.run_bind,a0O hT h,Result.andThen_ok,Sem.run_pure]
  ·cases h
 ·split at h
  ·rename_i s hs;have hv:Conj (E5 s):=by
    unfold a0Y at h
    (repeat' split at h)<;>first | (cases h;done) | (injection h with h;subst h;exact hob)
   rw[evs he hs hv];simp only[Sem.run_bind,a5k hT h,Result.andThen_ok,Sem.run_pure]
  ·cases h
 ·split at h
  ·rename_i s h1;have hv:=J8 h hob;rw[evs he h1 hv.1];have:=Q6 (P:=P) (w:=w) hT h hob;simp only[Act.eval,Sem.run_bind,this,Result.andThen_ok,Sem.run_pure]
  ·cases h
 ·split at h
  ·rename_i k v tg g s' h1 h2;have hv:=J8 h hob;rw[evs he h1 hv.1,evs he h2 hv.2];have:=Q6 (P:=P) (w:=w) hT h hob;simp only[Sem.run_bind,this,Result.andThen_ok,Sem.run_pure]
  ·cases h
 ·split at h
  ·rename_i k vs t g hs;split at h
   ·rename_i v hv;injection h with h;subst h;rw[evs he hs hob];rw[j4]at hv;simp only[Instr.extract,Sem.run_bind];rw[<- Array.getElem?_toList,hv];rfl
   ·cases h
  ·cases h
 ·split at h
  ·rename_i s hs;have hv:Conj (E5 s):=by
    unfold a0X at h
    (repeat' split at h)<;>first | (cases h;done) | (injection h with h;subst h;exact(Conj.app (Conj.app (Conj.app hob).1).1).1)
   rw[evs he hs hv];have:=a5j (P:=P) (w:=w) hT he h hob;simp only[Sem.run_bind,Option.map_none,this,Result.andThen_ok,Sem.run_pure]
  ·cases h
 ·simp only[Sem.run_bind,a5l hT he h hob,Result.andThen_ok,Sem.run_pure]
 ·rename_i fn f1 c1;split at h
  ·rename_i l l' h1 h2;injection h with h;subst h;obtain⟨v1,v2⟩:=Conj.app hob;have e1:Array.map a.eval f1=(vals l).toArray:=by apply Array.toList_inj.1;rw[Array.toList_map,x5 he h1 v1]
   have e2:Array.map a.eval c1=(vals l').toArray:=by apply Array.toList_inj.1;rw[Array.toList_map,x5 he h2 v2]
   simp[Instr.makeFunc,e1,e2]
  ·cases h
 ·split at h
  ·rename_i s hs;have hv:Conj (E5 s):=by
    unfold W0 at h
    (repeat' split at h)<;>first | (cases h;done) | (injection h with h;subst h;exact hob.2)
   rw[evs he hs hv];simp only[Sem.run_bind,a1S hT h hob hr,Result.andThen_ok,Sem.run_pure]
  ·cases h
 ·have:=a6s (P:=P) (w:=w) hT he h hob o.type;simp[resolve,invoke,this]
 ·cases h
end
end Go.Proofs.YtpohajhbfllbbaaGreat
