/- Helpers. No condition. -/
import Derived.Test.YtpohajhbfllbbaaGreatD01
import Derived.Laws.CopyOwn
import Derived.Laws.ResultCell
import Derived.Defers
set_option maxRecDepth 20000
set_option linter.all false
namespace Go.Proofs.YtpohajhbfllbbaaGreat
open Go

inductive TD where
 | int (k:IntKind)
 | bool
 | row (fs:List (Nat×Nat×Bool))
 | arr (len esz:Nat)
 | slice (elem esz:Nat)
 | ptr
 | map
 | other
structure TI where
 d:TD
 size:Nat
 zero:List Value
 bytes:Nat
abbrev Tab:=List (Nat×TI)
def Tab.get:Tab->Nat->Option TI
 | [],_=>none
 | (j,i)::r,k=>match Nat.beq j k with
  | true=>some i
  | false=>Tab.get r k
def D8:TypeDesc->Bool
 | .struct _ | .array _ _=>true
 | _=>false
def fieldsOf (P:Program):List Field->Option (List (Nat×Nat×Bool))
 | []=>some []
 | f::r=>match P.info? f.type,P.underlying f.type,fieldsOf P r with
  | some i,some d,some l=>some ((f.offset,i.size,D8 d)::l)
  | _,_,_=>none
def a1Q (P:Program):TypeDesc->Option TD
 | .int k=>some (.int k)
 | .bool=>some .bool
 | .struct fs=>(fieldsOf P fs.toList).map .row
 | .array n e=>(P.info? e).map λi=> .arr n i.size
 | .slice e=>(P.info? e).map λi=> .slice e i.size
 | .pointer _=>some .ptr
 | .map _ _=>some .map
 | _=>some .other
def b0P (P:Program) (t:TypeId):Option TI:=
 match P.underlying t,P.info? t with
 | some d,some i=>match i.zero,a1Q P d with
  | some z,some td=>some ⟨td,i.size,z.cells.toList,i.bytes⟩
  | _,_=>none
 | _,_=>none
def TabOK (P:Program) (T:Tab):Prop:=∀p∈T,b0P P p.1=some p.2
theorem TabOK.mk {P:Program} {T:Tab} (h:T.map (λp=>b0P P p.1)=T.map (λp=>some p.2)):TabOK P T:=by
 induction T with
 | nil=>intro p hp;cases hp
 | cons q r ih=>
  simp only[List.map_cons,List.cons.injEq]at h;intro p hp;rcases List.mem_cons.1 hp with rfl | hp
  ·exact h.1
  ·exact ih h.2 p hp
theorem TabOK.get {P:Program}:∀{T:Tab},TabOK P T->∀{t:Nat} {i:TI},T.get t=some i->b0P P t=some i
 | [],_,t,i,h=>by cases h
 | (j,x)::r,hT,t,i,h=>by
  simp only[Tab.get]at h;split at h
  ·rename_i e;have:j=t:=Nat.eq_of_beq_eq_true e;subst this;injection h with h;subst h;exact hT _ (List.mem_cons_self ..)
  ·exact TabOK.get (λp hp=>hT p (List.mem_cons_of_mem _ hp)) h
structure TIOK (P:Program) (t:TypeId) (i:TI) (d:TypeDesc) (f:TypeInfo) (z:Value):Prop where
 hd:P.underlying t=some d
 hf:P.info? t=some f
 hz:f.zero=some z
 htd:a1Q P d=some i.d
 hsize:i.size=f.size
 hzero:i.zero=z.cells.toList
 hbytes:i.bytes=f.bytes
theorem g7 {P:Program} {t:TypeId} {i:TI} (h:b0P P t=some i):∃d f z,TIOK P t i d f z:=by
 unfold b0P at h;split at h
 ·rename_i d f hd hf;split at h
  ·rename_i z td hz htd;injection h with h;subst h;exact⟨d,f,z,hd,hf,hz,htd,rfl,rfl,rfl⟩
  ·cases h
 ·cases h
section
variable {P : Program} {t : TypeId} {i : TI} {d : TypeDesc} {f : TypeInfo} {z : Value}
theorem TIOK.int (h:TIOK P t i d f z) {k:IntKind} (e:i.d= .int k):d= .int k:=by
 have:=h.htd;rw[e]at this;cases d<;>simp[a1Q]at this
 ·rw[this]
theorem TIOK.bool (h:TIOK P t i d f z) (e:i.d= .bool):d= .bool:=by
 have:=h.htd;rw[e]at this;cases d<;>simp[a1Q]at this
 ·rfl
theorem TIOK.ptr (h:TIOK P t i d f z) (e:i.d= .ptr):∃x,d= .pointer x:=by
 have:=h.htd;rw[e]at this;cases d<;>simp[a1Q]at this
 ·exact⟨_,rfl⟩
theorem TIOK.map (h:TIOK P t i d f z) (e:i.d= .map):∃x y,d= .map x y:=by
 have:=h.htd;rw[e]at this;cases d<;>simp[a1Q]at this
 ·exact⟨_,_,rfl⟩
theorem TIOK.arr (h:TIOK P t i d f z) {n s:Nat} (e:i.d= .arr n s):∃x fx,d= .array n x/\P.info? x=some fx/\fx.size=s:=by
 have:=h.htd;rw[e]at this;cases d<;>simp[a1Q]at this
 ·obtain⟨g,h1,rfl,h2⟩:=this;exact⟨_,g,rfl,h1,h2⟩
theorem TIOK.slice (h:TIOK P t i d f z) {x s:Nat} (e:i.d= .slice x s):∃fx,d= .slice x/\P.info? x=some fx/\fx.size=s:=by
 have:=h.htd;rw[e]at this;cases d<;>simp[a1Q]at this
 ·obtain⟨g,h1,rfl,h2⟩:=this;exact⟨g,rfl,h1,h2⟩
theorem TIOK.row (h:TIOK P t i d f z) {l:List (Nat×Nat×Bool)} (e:i.d= .row l):∃fs,d= .struct fs/\fieldsOf P fs.toList=some l:=by
 have:=h.htd;rw[e]at this;cases d<;>simp[a1Q]at this
 ·exact⟨_,rfl,this⟩
end
def n4 {α:Type}:List α->Nat->Option α
 | [],_=>none
 | x::r,k=>match k with
  | 0=>some x
  | k+1=>n4 r k
theorem m9 {α:Type}:∀(l:List α) (k:Nat),n4 l k=l[k]?
 | [],_=>rfl
 | x::r,0=>rfl
 | x::r,k+1=>by rw[n4,m9 r k];simp
theorem M3 {P:Program}:∀{fs:List Field} {l:List (Nat×Nat×Bool)},fieldsOf P fs=some l->∀{k o s:Nat} {b:Bool},n4 l k=some (o,s,b)->
  ∃g fi gd,fs[k]? =some g/\P.info? g.type=some fi/\P.underlying g.type=some gd/\g.offset=o/\fi.size=s/\D8 gd=b
 | [],l,h,k,o,s,b,hk=>by simp only[fieldsOf,Option.some.injEq]at h;subst h;cases hk
 | g::r,l,h,k,o,s,b,hk=>by
  simp only[fieldsOf]at h;split at h
  ·rename_i i d l' h1 h2 h3;injection h with h;subst h;cases k with
   | zero=>
    simp only[n4,Option.some.injEq,Prod.mk.injEq]at hk;exact⟨g,i,d,rfl,h1,h2,hk.1,hk.2.1,hk.2.2⟩
   | succ k=>
    simp only[n4]at hk;obtain⟨g',fi,gd,e1,e2⟩:=M3 h3 hk;exact⟨g',fi,gd,by simpa using e1,e2⟩
  ·cases h
def a2U {α:Type}:List α->Nat->Option (List α)
 | _,0=>some []
 | [],_+1=>none
 | x::r,n+1=>match a2U r n with
  | some l=>some (x::l)
  | none=>none
def a5v {α:Type}:List α->Nat->Nat->Option (List α)
 | l,0,n=>a2U l n
 | [],_+1,n=>a2U [] n
 | _::r,o+1,n=>a5v r o n
theorem a0d {α:Type}:∀{l:List α} {n:Nat} {m:List α},a2U l n=some m->m=l.take n/\m.length=n
 | l,0,m,h=>by simp[a2U]at h;subst h;simp
 | [],n+1,m,h=>by simp[a2U]at h
 | x::r,n+1,m,h=>by
  simp only[a2U]at h;split at h
  ·rename_i l hl;injection h with h;subst h;obtain⟨h1,h2⟩:=a0d hl;exact⟨by simp[h1],by simp[h2]⟩
  ·cases h
theorem a1b {α:Type}:∀{l:List α} {o n:Nat} {m:List α},a5v l o n=some m->m=(l.drop o).take n/\m.length=n
 | l,0,n,m,h=>by rw[List.drop_zero];cases l<;>exact a0d h
 | [],o+1,n,m,h=>by simp only[a5v]at h;simpa using a0d h
 | x::r,o+1,n,m,h=>by simp only[a5v]at h;simpa using a1b h
def V5 {α:Type}:List α->List α->Option (List α)
 | l,[]=>some l
 | [],_::_=>none
 | _::r,x::xs=>match V5 r xs with
  | some l=>some (x::l)
  | none=>none
def N9 {α:Type}:List α->Nat->List α->Option (List α)
 | l,0,xs=>V5 l xs
 | [],_+1,_=>none
 | y::r,o+1,xs=>match N9 r o xs with
  | some l=>some (y::l)
  | none=>none
theorem a2W {α:Type}:∀{l xs m:List α},V5 l xs=some m->m=xs++l.drop xs.length/\xs.length<=l.length
 | l,[],m,h=>by cases l<;>simp only[V5,Option.some.injEq]at h<;>subst h<;>simp
 | [],x::xs,m,h=>by simp[V5]at h
 | y::r,x::xs,m,h=>by
  simp only[V5]at h;split at h
  ·rename_i l hl;injection h with h;subst h;obtain⟨h1,h2⟩:=a2W hl;exact⟨by simp[h1],by simp;omega⟩
  ·cases h
theorem R3 {α:Type}:∀{l:List α} {o:Nat} {xs m:List α},N9 l o xs=some m->m=l.take o++xs++l.drop (o+xs.length)/\o+xs.length<=l.length
 | l,0,xs,m,h=>by
  have h':V5 l xs=some m:=by cases l<;>exact h
  obtain⟨h1,h2⟩:=a2W h';exact⟨by simp[h1],by omega⟩
 | [],o+1,xs,m,h=>by simp[N9]at h
 | y::r,o+1,xs,m,h=>by
  simp only[N9]at h;split at h
  ·rename_i l hl;injection h with h;subst h;obtain⟨h1,h2⟩:=R3 hl;refine⟨?_,by simp;omega⟩;rw[h1,show o+1+xs.length=(o+xs.length)+1 from by omega];simp
  ·cases h

def Conj:List Prop->Prop
 | []=>True
 | p::r=>p/\Conj r
theorem Conj.nil:Conj []:=trivial
theorem Conj.cons {p:Prop} {r:List Prop} (h:p) (h':Conj r):Conj (p::r):=⟨h,h'⟩
theorem Conj.app:∀{l m:List Prop},Conj (l++m)->Conj l/\Conj m
 | [],m,h=>⟨trivial,h⟩
 | p::r,m,h=>⟨⟨h.1,(Conj.app (l:=r) h.2).1⟩,(Conj.app (l:=r) h.2).2⟩
def p9:G->List Prop
 | .tt=>[]
 | .when c=>[c=true]
def J8:Slot->List Prop
 | ⟨_,_,_,g⟩=>p9 g
theorem Z7 {s:Slot} (h:Conj (J8 s)):s.val=s.v:=by
 obtain⟨k,v,t,g⟩:=s;unfold Slot.val;cases g with
 | tt=>rfl
 | when c=>simp only[J8,p9]at h;simp only[G.on];rw[h.1]
def ikN:IntKind->Nat
 | .i8=>0 | .i16=>1 | .i32=>2 | .i64=>3 | .u8=>4 | .u16=>5 | .u32=>6 | .u64=>7
theorem b4h {a b:IntKind} (h:Nat.beq (ikN a) (ikN b)=true):a=b:=by
 cases a<;>cases b<;>first | rfl | cases h
def inR:IntKind->Int->List Prop
 | .i8,z=>[-128<=z,z<=127] | .i16,z=>[-32768<=z,z<=32767] | .i32,z=>[-2147483648<=z,z<=2147483647]
 | .i64,z=>[-9223372036854775808<=z,z<=9223372036854775807]
 | .u8,z=>[0<=z,z<=255] | .u16,z=>[0<=z,z<=65535] | .u32,z=>[0<=z,z<=4294967295] | .u64,z=>[0<=z,z<=18446744073709551615]
theorem O4 {k:IntKind} {z:Int} (h:Conj (inR k z)):k.wrap z=z:=by
 have p7:(2:Int)^7=128:=rfl;have p8:(2:Int)^8=256:=rfl;have p15:(2:Int)^15=32768:=rfl;have p16:(2:Int)^16=65536:=rfl;have p31:(2:Int)^31=2147483648:=rfl;have p32:(2:Int)^32=4294967296:=rfl;have p63:(2:Int)^63=9223372036854775808:=rfl;have p64:(2:Int)^64=18446744073709551616:=rfl;cases k<;>simp only[inR,Conj]at h<;>simp[IntKind.wrap,IntKind.bits,IntKind.signed]<;>(try split)<;>omega
def b5T:BinOp->IntKind->Int->Int->Option (Value×List Prop)
 | .add,k,m,n=>some (.int k (m+n),inR k (m+n))
 | .sub,k,m,n=>some (.int k (m-n),inR k (m-n))
 | .mul,k,m,n=>some (.int k (m*n),inR k (m*n))
 | .quo,k,m,n=>some (.int k (m.tdiv n),(n≠0)::inR k (m.tdiv n))
 | .rem,k,m,n=>some (.int k (m.tmod n),[n≠0])
 | .and,k,m,n=>some (.int k (k.wrap (BitVec.ofInt k.bits m&&& BitVec.ofInt k.bits n).toNat),[])
 | .or,k,m,n=>some (.int k (k.wrap (BitVec.ofInt k.bits m||| BitVec.ofInt k.bits n).toNat),[])
 | .xor,k,m,n=>some (.int k (k.wrap (BitVec.ofInt k.bits m ^^^ BitVec.ofInt k.bits n).toNat),[])
 | .andNot,k,m,n=>some (.int k (k.wrap (BitVec.ofInt k.bits m&&& ~~~ BitVec.ofInt k.bits n).toNat),[])
 | .eql,_,m,n=>some (.bool (m==n),[])
 | .neq,_,m,n=>some (.bool (m !=n),[])
 | .lss,_,m,n=>some (.bool (decide (m<n)),[])
 | .leq,_,m,n=>some (.bool (decide (m<=n)),[])
 | .gtr,_,m,n=>some (.bool (decide (m>n)),[])
 | .geq,_,m,n=>some (.bool (decide (m>=n)),[])
 | _,_,_,_=>none
def shI:BinOp->IntKind->Int->Int->Option (Value×List Prop)
 | .shl,k,m,n=>some (.int k (m*2^(min n.toNat k.bits)),(0<=n)::inR k (m*2^(min n.toNat k.bits)))
 | .shr,k,m,n=>some (.int k (m.fdiv (2^(min n.toNat k.bits))),[0<=n])
 | _,_,_,_=>none
def a5J:Option TD->Value->Value->Option Bool
 | some .bool, .bool a, .bool b=>some (a==b)
 | some .ptr, .pointer none, .pointer none=>some true
 | some .ptr, .pointer (some _), .pointer none=>some false
 | some .ptr, .pointer none, .pointer (some _)=>some false
 | some (.slice _ _), .slice none _ _, .slice none _ _=>some true
 | some (.slice _ _), .slice none _ _, .slice (some _) _ _=>some false
 | some (.slice _ _), .slice (some _) _ _, .slice none _ _=>some false
 | some .map, .map none, .map none=>some true
 | some .map, .map none, .map (some _)=>some false
 | some .map, .map (some _), .map none=>some false
 | _,_,_=>none
def b5S (T:Tab) (op:BinOp) (t:TypeId):Value->Value->Option (Value×List Prop)
 | .int k m, .int k' n=>match shI op k m n with
  | some r=>some r
  | none=>match Nat.beq (ikN k) (ikN k')with
   | true=>b5T op k m n
   | false=>none
 | x,y=>match op with
  | .eql=>match a5J ((T.get t).map (·.d)) x y with
   | some b=>some (.bool b,[])
   | none=>none
  | .neq=>match a5J ((T.get t).map (·.d)) x y with
   | some b=>some (.bool (!b),[])
   | none=>none
  | _=>none
def unV:UnOp->Value->Option (Value×List Prop)
 | .neg, .int k n=>some (.int k (0-n),inR k (0-n))
 | .not, .bool b=>some (.bool (!b),[])
 | _,_=>none

section
variable {P : Program} {w : World}
theorem b2T {op:BinOp} {k:IntKind} {m n:Int} {v:Value} {ob:List Prop} (h:b5T op k m n=some (v,ob)) (hob:Conj ob) (t:TypeId):(binOp op t (.int k m) (.int k n)).run P w= .ok v w:=by
 cases op<;>simp only[b5T,Option.some.injEq,Prod.mk.injEq,reduceCtorEq]at h<;>obtain⟨rfl,rfl⟩:=h
 case add=>simp[binOp,Op.intArith,O4 hob]
 case sub=>simp[binOp,Op.intArith,O4 hob]
 case mul=>simp[binOp,Op.intArith,O4 hob]
 case quo=>simp[binOp,Op.intDiv,hob.1,O4 hob.2]
 case rem=>simp[binOp,Op.intDiv,hob.1]
 all_goals first | (simp[binOp,Op.intBits];done) | (simp[binOp,Op.intCmp];done)
theorem b3A {op:BinOp} {k k':IntKind} {m n:Int} {v:Value} {ob:List Prop} (h:shI op k m n=some (v,ob)) (hob:Conj ob) (t:TypeId):(binOp op t (.int k m) (.int k' n)).run P w= .ok v w:=by
 cases op<;>simp only[shI,Option.some.injEq,Prod.mk.injEq,reduceCtorEq]at h<;>obtain⟨rfl,rfl⟩:=h
 case shl=>simp[binOp,Op.shift,Int.not_lt.2 hob.1,O4 hob.2]
 case shr=>simp[binOp,Op.shift,Int.not_lt.2 hob.1]
theorem d7 {t:TypeId} {d:TypeDesc} (h:P.underlying t=some d):(underlying t).run P w= .ok d w:=by simp[underlying,h]
theorem a5I (d:Nat) {t:TypeId} (h:P.underlying t=some .bool) (a b:Bool):(Op.equalIn (d+1) t (.bool a) (.bool b)).run P w= .ok (a==b) w:=by simp[Op.equalIn,d7 h]
theorem a0M (d:Nat) {t x:TypeId} (h:P.underlying t=some (.pointer x)) (b:Option Addr):(Op.equalIn (d+1) t (.pointer none) (.pointer b)).run P w= .ok b.isNone w:=by simp[Op.equalIn,d7 h]
theorem a5G (d:Nat) {t x:TypeId} (h:P.underlying t=some (.pointer x)) (b:Addr):(Op.equalIn (d+1) t (.pointer (some b)) (.pointer none)).run P w= .ok false w:=by simp[Op.equalIn,d7 h]
theorem a1I (d:Nat) {t x:TypeId} (h:P.underlying t=some (.slice x)) (b:Option Addr) (m n m' n':Nat):(Op.equalIn (d+1) t (.slice none m n) (.slice b m' n')).run P w= .ok b.isNone w:=by simp[Op.equalIn,d7 h]
theorem a6U (d:Nat) {t x:TypeId} (h:P.underlying t=some (.slice x)) (b:Addr) (m n m' n':Nat):(Op.equalIn (d+1) t (.slice (some b) m n) (.slice none m' n')).run P w= .ok false w:=by simp[Op.equalIn,d7 h]
theorem a0N (d:Nat) {t x y:TypeId} (h:P.underlying t=some (.map x y)) (b:Option Nat):(Op.equalIn (d+1) t (.map none) (.map b)).run P w= .ok b.isNone w:=by simp[Op.equalIn,d7 h]
theorem a5H (d:Nat) {t x y:TypeId} (h:P.underlying t=some (.map x y)) (b:Nat):(Op.equalIn (d+1) t (.map (some b)) (.map none)).run P w= .ok false w:=by simp[Op.equalIn,d7 h]
theorem a3q (t:TypeId) (x y:Value):Op.equal t x y=Op.equalIn (9999+1) t x y:=rfl
theorem a6V {T:Tab} (hT:TabOK P T) {t:TypeId} {x y:Value} {b:Bool} (h:a5J ((T.get t).map (·.d)) x y=some b):(Op.equal t x y).run P w= .ok b w/\∀op o1 o2,(eqGuard op t o1 o2 x y).run P w= .ok () w:=by
 rw[a3q];generalize 9999=n;cases hg:T.get t with
 | none=>rw[hg]at h;simp[a5J]at h
 | some i=>
  rw[hg]at h;obtain⟨d,f,z,ok⟩:=g7 (hT.get hg);simp only[Option.map_some]at h;generalize hd:i.d=td at h;unfold a5J at h;split at h<;>simp only[Option.some.injEq,reduceCtorEq]at h<;>subst h<;>rename_i e<;>injection e with e<;>subst e
  ·have:=ok.bool hd;subst this;exact⟨a5I n ok.hd _ _,λop o1 o2=>by cases op<;>rfl⟩
  ·obtain⟨x',e⟩:=ok.ptr hd;subst e;exact⟨a0M n ok.hd _,λop o1 o2=>by cases op<;>rfl⟩
  ·obtain⟨x',e⟩:=ok.ptr hd;subst e;exact⟨a5G n ok.hd _,λop o1 o2=>by cases op<;>rfl⟩
  ·obtain⟨x',e⟩:=ok.ptr hd;subst e;exact⟨a0M n ok.hd _,λop o1 o2=>by cases op<;>rfl⟩
  ·obtain⟨fx,e,_⟩:=ok.slice hd;subst e;exact⟨a1I n ok.hd _ _ _ _ _,λop o1 o2=>by cases op<;>rfl⟩
  ·obtain⟨fx,e,_⟩:=ok.slice hd;subst e;exact⟨a1I n ok.hd _ _ _ _ _,λop o1 o2=>by cases op<;>rfl⟩
  ·obtain⟨fx,e,_⟩:=ok.slice hd;subst e;exact⟨a6U n ok.hd _ _ _ _ _,λop o1 o2=>by cases op<;>rfl⟩
  ·obtain⟨x',y',e⟩:=ok.map hd;subst e;exact⟨a0N n ok.hd _,λop o1 o2=>by cases op<;>rfl⟩
  ·obtain⟨x',y',e⟩:=ok.map hd;subst e;exact⟨a0N n ok.hd _,λop o1 o2=>by cases op<;>rfl⟩
  ·obtain⟨x',y',e⟩:=ok.map hd;subst e;exact⟨a5H n ok.hd _,λop o1 o2=>by cases op<;>rfl⟩
theorem b2S {T:Tab} (hT:TabOK P T) {op:BinOp} {t:TypeId} {x y v:Value} {ob:List Prop} (h:b5S T op t x y=some (v,ob)) (hob:Conj ob) (o1 o2:Operand):
  (do eqGuard op t o1 o2 x y;binOp op t x y:Sem Value).run P w= .ok v w:=by
 unfold b5S at h;split at h
 ·rename_i k m k' n;have hg:(eqGuard op t o1 o2 (.int k m) (.int k' n)).run P w= .ok () w:=by cases op<;>simp[eqGuard]
  simp only[Sem.run_bind,hg,Result.andThen_ok];split at h
  ·rename_i r hr;injection h with h;subst h;exact b3A hr hob t
  ·split at h
   ·rename_i e;have:=b4h e;subst this;exact b2T h hob t
   ·cases h
 ·rename_i hne;split at h
  ·split at h
   ·rename_i b hb;injection h with h;simp only[Prod.mk.injEq]at h;obtain⟨rfl,rfl⟩:=h;obtain⟨h1,h2⟩:=a6V (w:=w) hT hb;simp only[Sem.run_bind,h2,Result.andThen_ok];have:binOp .eql t x y=(do pure (.bool (<- Op.equal t x y)):Sem Value):=by
     cases x<;>cases y<;>first | rfl | (exact(hne _ _ _ _ rfl rfl).elim) | (revert hb;cases(T.get t).map (·.d)with
      | none=>simp[a5J]
      | some d=>cases d<;>simp[a5J])
    simp[this,h1]
   ·cases h
  ·split at h
   ·rename_i b hb;injection h with h;simp only[Prod.mk.injEq]at h;obtain⟨rfl,rfl⟩:=h;obtain⟨h1,h2⟩:=a6V (w:=w) hT hb;simp only[Sem.run_bind,h2,Result.andThen_ok];have:binOp .neq t x y=(do pure (.bool (!(<- Op.equal t x y))):Sem Value):=by
     cases x<;>cases y<;>first | rfl | (exact(hne _ _ _ _ rfl rfl).elim) | (revert hb;cases(T.get t).map (·.d)with
      | none=>simp[a5J]
      | some d=>cases d<;>simp[a5J])
    simp[this,h1]
   ·cases h
  ·cases h
theorem b3n {op:UnOp} {x v:Value} {ob:List Prop} (h:unV op x=some (v,ob)) (hob:Conj ob):(Op.unary op x).run P w= .ok v w:=by
 unfold unV at h;split at h<;>simp only[Option.some.injEq,Prod.mk.injEq,reduceCtorEq]at h<;>obtain⟨rfl,rfl⟩:=h
 ·simp only[Op.unary,Op.intArith,O4 hob];rfl
 ·rfl
end

structure LR where
 v:Value
 tag:Nat
 ob:List Prop
 rd:Nat
def a1V (p:Prop):Slot->List Prop
 | ⟨_,_,_, .tt⟩=>[]
 | ⟨_,_,_, .when c⟩=>[p->c=true]
def P7 (T:Tab) (st f:Nat):Slot->Option LR
 | ⟨_, .pointer (some ⟨b,o,none⟩),tag,g⟩=>match T.get st with
  | some ⟨.row fs,_,_,_⟩=>match n4 fs f with
   | some (off,_+1,_)=>some ⟨.pointer (some ⟨b,o+off,none⟩),tag,p9 g,0⟩
   | _=>none
  | _=>none
 | _=>none
def a2c (T:Tab) (t f:Nat):Slot->Option LR
 | ⟨_, .agg cs,_,g⟩=>match T.get t with
  | some ⟨.row fs,_,_,_⟩=>match n4 fs f with
   | some (off,sz,true)=>match a5v cs.toList off sz with
    | some l=>some ⟨.agg l.toArray,0,p9 g,0⟩
    | none=>none
   | some (off,_,false)=>match n4 cs.toList off with
    | some v=>some ⟨v,0,p9 g,0⟩
    | none=>none
   | none=>none
  | _=>none
 | _=>none
def H3 (T:Tab) (t:Nat):Slot->Slot->Option LR
 | ⟨_, .pointer (some ⟨b,o,none⟩),tag,g⟩,⟨_, .int _ n,_,g'⟩=>match T.get t with
  | some ⟨.arr len esz,_,_,_⟩=>some ⟨.pointer (some ⟨b,o+n.toNat*esz,none⟩),tag,(0<=n)::(n<(len:Int))::(p9 g++p9 g'),0⟩
  | _=>none
 | ⟨_, .slice (some ⟨b,o,none⟩) len _,tag,g⟩,⟨_, .int _ n,_,g'⟩=>match T.get t with
  | some ⟨.slice _ esz,_,_,_⟩=>some ⟨.pointer (some ⟨b,o+n.toNat*esz,none⟩),tag,(0<=n)::(n<(len:Int))::(p9 g++p9 g'),0⟩
  | _=>none
 | _,_=>none
def a7G (E:Env) (c a b:Operand):Option LR:=match ev E c with
 | some ⟨kc, .bool cb,tc,gc⟩=>match b with
  | .const (.bool false)=>match ev E a with
   | some ⟨ka, .bool va,ta,ga⟩=>some ⟨.bool (cb&&va),0,p9 gc++a1V (cb=true) ⟨ka, .bool va,ta,ga⟩,0⟩
   | _=>none
  | _=>match a with
   | .const (.bool true)=>match ev E b with
    | some ⟨kb, .bool vb,tb,gb⟩=>some ⟨.bool (cb||vb),0,p9 gc++a1V (cb=false) ⟨kb, .bool vb,tb,gb⟩,0⟩
    | _=>none
   | _=>none
 | _=>none
def a0e (T:Tab) (L:List Atom) (t:Nat):Slot->Option LR
 | ⟨_, .pointer (some ⟨b,o,none⟩),i+1,g⟩=>match n4 L i with
  | some (.pt b' _ cs)=>match T.get t with
   | some ⟨.row _,sz,_,_⟩=>match a5v cs o sz with
    | some l=>some ⟨.agg l.toArray,0,(b=b')::p9 g,i+1⟩
    | none=>none
   | some ⟨.arr _ _,sz,_,_⟩=>match a5v cs o sz with
    | some l=>some ⟨.agg l.toArray,0,(b=b')::p9 g,i+1⟩
    | none=>none
   | some _=>match n4 cs o with
    | some v=>some ⟨v,0,(b=b')::p9 g,i+1⟩
    | none=>none
   | none=>none
  | _=>none
 | _=>none
def P8 (E:Env):Option Operand->Nat->Option (Nat×List Prop)
 | none,d=>some (d,[])
 | some x,_=>match ev E x with
  | some ⟨_, .int _ n,_,g⟩=>some (n.toNat,(0<=n)::p9 g)
  | _=>none
def a2b (T:Tab) (E:Env) (t:Nat) (lo hi:Option Operand):Slot->Option LR
 | ⟨_, .pointer (some ⟨b,o,none⟩),tag,g⟩=>match T.get t with
  | some ⟨.arr n esz,_,_,_⟩=>match P8 E lo 0,P8 E hi n with
   | some (l,ol),some (h,oh)=>some ⟨.slice (some ⟨b,o+l*esz,none⟩) (h-l) (n-l),tag,p9 g++ol++oh++[l<=h,h<=n,l=0\/l<n],0⟩
   | _,_=>none
  | _=>none
 | ⟨_, .slice (some ⟨b,o,none⟩) len cap,tag,g⟩=>match T.get t with
  | some ⟨.slice _ esz,_,_,_⟩=>match P8 E lo 0,P8 E hi len with
   | some (l,ol),some (h,oh)=>some ⟨.slice (some ⟨b,o+l*esz,none⟩) (h-l) (cap-l),tag,p9 g++ol++oh++[l<=h,h<=cap,l=0\/l<cap],0⟩
   | _,_=>none
  | _=>none
 | _=>none
def slots (E:Env):List Operand->Option (List Slot)
 | []=>some []
 | x::r=>match ev E x,slots E r with
  | some s,some l=>some (s::l)
  | _,_=>none
def M6:List Slot->List Prop
 | []=>[]
 | s::r=>J8 s++M6 r
def vals:List Slot->List Value
 | []=>[]
 | ⟨_,v,_,_⟩::r=>v::vals r
def a3l (place:Nat->Option (Nat×Nat)):List Value->List (Nat×Value)->Option (List Value)
 | cs,[]=>some cs
 | cs,(i,v)::r=>match place i with
  | some (off,sz)=>match Nat.beq v.cells.toList.length sz,N9 cs off v.cells.toList with
   | true,some cs'=>a3l place cs' r
   | _,_=>none
  | none=>none
def a0b:List (Nat×Operand)->List Slot->List (Nat×Value)
 | (i,_)::r,⟨_,v,_,_⟩::l=>(i,v)::a0b r l
 | _,_=>[]
def a2G (fs:List (Nat×Nat×Bool)) (i:Nat):Option (Nat×Nat):=match n4 fs i with
 | some (off,sz,_)=>some (off,sz)
 | none=>none
def a5x (T:Tab) (E:Env) (t:Nat) (parts:List (Nat×Operand)):Option LR:=match T.get t,slots E (parts.map (·.2))with
 | some ⟨.row fs,_,z,_⟩,some l=>match a3l (a2G fs) z (a0b parts l)with
  | some cs=>some ⟨.agg cs.toArray,0,M6 l,0⟩
  | none=>none
 | some ⟨.arr _ esz,_,z,_⟩,some l=>match a3l (λi=>some (i*esz,esz)) z (a0b parts l)with
  | some cs=>some ⟨.agg cs.toArray,0,M6 l,0⟩
  | none=>none
 | _,_=>none
def a7I (T:Tab) (E:Env) (b:Builtin) (ts:List TypeId) (xs:List Operand):Option LR:=match b,ts,slots E xs with
 | .len,t::_,some (⟨_, .slice _ n _,_,g⟩::_)=>match T.get t with
  | some ⟨.slice _ _,_,_,_⟩=>some ⟨.int .i64 (n:Int),0,p9 g,0⟩
  | _=>none
 | .cap,t::_,some (⟨_, .slice _ _ n,_,g⟩::_)=>match T.get t with
  | some ⟨.slice _ _,_,_,_⟩=>some ⟨.int .i64 (n:Int),0,p9 g,0⟩
  | _=>none
 | .min,_,some [⟨_, .int k x,_,g⟩,⟨_, .int _ y,_,g'⟩]=>some ⟨.int k (if y<x then y else x),0,p9 g++p9 g',0⟩
 | .max,_,some [⟨_, .int k x,_,g⟩,⟨_, .int _ y,_,g'⟩]=>some ⟨.int k (if y>x then y else x),0,p9 g++p9 g',0⟩
 | _,_,_=>none
def look (T:Tab) (E:Env) (L:List Atom):Op->Option LR
 | .move x | .assign x=>match ev E x with
  | some ⟨_,v,t,g⟩=>some ⟨v,t,p9 g,0⟩
  | none=>none
 | .pick c a b=>a7G E c a b
 | .nilCheck x=>match ev E x with
  | some ⟨_, .pointer (some a),t,g⟩=>some ⟨.pointer (some a),t,p9 g,0⟩
  | _=>none
 | .binOp op t x y _=>match ev E x,ev E y with
  | some ⟨_,v,_,g⟩,some ⟨_,v',_,g'⟩=>match b5S T op t v v' with
   | some (u,ob)=>some ⟨u,0,ob++p9 g++p9 g',0⟩
   | none=>none
  | _,_=>none
 | .unOp op _ x=>match ev E x with
  | some ⟨_,v,_,g⟩=>match unV op v with
   | some (u,ob)=>some ⟨u,0,ob++p9 g,0⟩
   | none=>none
  | none=>none
 | .convert src dst x=>match ev E x,T.get dst,T.get src with
  | some ⟨_, .int _ n,_,g⟩,some ⟨.int k',_,_,_⟩,some _=>some ⟨.int k' n,0,inR k' n++p9 g,0⟩
  | _,_,_=>none
 | .fieldAddr st x f=>match ev E x with
  | some s=>P7 T st f s
  | none=>none
 | .field t x f=>match ev E x with
  | some s=>a2c T t f s
  | none=>none
 | .indexAddr t x (.const i)=>match ev E x with
  | some s=>H3 T t s ⟨0,i,0, .tt⟩
  | none=>none
 | .indexAddr t x i=>match ev E x,ev E i with
  | some ⟨k,v,_,g⟩,some s'=>H3 T t ⟨k,v,0,g⟩ s'
  | _,_=>none
 | .extract x i=>match ev E x with
  | some ⟨_, .tuple vs,_,g⟩=>match n4 vs.toList i with
   | some v=>some ⟨v,0,p9 g,0⟩
   | none=>none
  | _=>none
 | .slice t x lo hi none=>match ev E x with
  | some s=>a2b T E t lo hi s
  | none=>none
 | .build t parts=>a5x T E t parts.toList
 | .makeFunc fn first captured=>match slots E first.toList,slots E captured.toList with
  | some l,some l'=>some ⟨.func fn (vals l).toArray (vals l').toArray,0,M6 l++M6 l',0⟩
  | _,_=>none
 | .load t x=>match ev E x with
  | some s=>a0e T L t s
  | none=>none
 | .call ⟨.builtin b,args,ts⟩=>a7I T E b ts.toList args.toList
 | _=>none

section
variable {P : Program} {T : Tab} {E : Env} {L : List Atom} {n : Nat} {a : Act} {w : World}
theorem Addr.add_none (b o k:Nat):(⟨b,o,none⟩:Addr).add k=⟨b,o+k,none⟩:=by
 unfold Addr.add;split
 ·rename_i h;subst h;rfl
 ·rfl
theorem evs {x:Operand} {s:Slot} (he:EnvOK n E a) (h:ev E x=some s) (hv:Conj (J8 s)):a.eval x=s.v:=(i6 he h).trans (Z7 hv)
theorem a1e {t:TypeId} {d:TypeDesc} (h:P.underlying t=some d):(isAgg t).run P w= .ok (D8 d) w:=by
 cases d<;>simp[isAgg,d7 h,D8]
theorem m6 {t:TypeId} {f:TypeInfo} (h:P.info? t=some f):(sizeOf t).run P w= .ok f.size w:=by simp[sizeOf,typeInfo,h]
theorem W1 {t:TypeId} {f:TypeInfo} {z:Value} (h:P.info? t=some f) (hz:f.zero=some z):(zeroValue t).run P w= .ok z w:=by simp[zeroValue,typeInfo,h,hz]
def b5w (P:Program) (w:World) (t:TypeId) (cs:Array Value) (off:Nat):=(part t cs off).run P w
theorem a2J {t:TypeId} {f:TypeInfo} {d:TypeDesc} (hd:P.underlying t=some d) (hf:P.info? t=some f) (cs:Array Value) (off:Nat):
  (part t cs off).run P w=if D8 d then .ok (.agg (cs.extract off (off+f.size))) w else match cs[off]? with
   | some v=> .ok v w
   | none=>b5w P w t cs off:=by
 cases hb:D8 d
 ·cases hc:cs[off]? with
  | none=>rfl
  | some v=>simp only[part,Sem.run_bind,a1e hd,Result.andThen_ok,hb,Bool.false_eq_true,if_false,hc];rfl
 ·simp[part,a1e hd,hb,m6 hf]
theorem a1T (hT:TabOK P T) {st f:Nat} {s:Slot} {r:LR} (h:P7 T st f s=some r):(Instr.fieldAt st s.v f).run P w= .ok r.v w:=by
 unfold P7 at h;split at h
 ·rename_i kk b o tg gg;split at h
  ·rename_i fs sz z bb hg;split at h
   ·rename_i off k ag hl;injection h with h;subst h;obtain⟨d,fi,zv,ok⟩:=g7 (hT.get hg);obtain⟨fl,e,hfl⟩:=ok.row rfl;subst e;obtain⟨g,gi,gd,h1,h2,h3,h4,h5,h6⟩:=M3 hfl hl;have h1':fl[f]? =some g:=by simpa using h1
    have hne:gi.size≠0:=by omega
    simp only[Instr.fieldAt,Sem.run_bind,d7 ok.hd,Result.andThen_ok,h1',Instr.sureAddr,Sem.run_pure,fieldPlace,m6 h2];simp[hne,Addr.add_none,h4]
   ·cases h
  ·cases h
 ·cases h
theorem a5u {cs:Array Value} {o n:Nat} {l:List Value} (h:a5v cs.toList o n=some l):cs.extract o (o+n)=l.toArray:=by
 obtain⟨h1,h2⟩:=a1b h;apply Array.toList_inj.1;subst h1;simp[List.extract_eq_take_drop]
theorem a6F (hT:TabOK P T) {t f:Nat} {s:Slot} {r:LR} (h:a2c T t f s=some r):(Instr.field t s.v f).run P w= .ok r.v w:=by
 unfold a2c at h;split at h
 ·rename_i kk cs tg gg;split at h
  ·rename_i fs sz z bb hg;obtain⟨d,fi,zv,ok⟩:=g7 (hT.get hg);obtain⟨fl,e,hfl⟩:=ok.row rfl;subst e;split at h
   ·rename_i off k hl;obtain⟨g,gi,gd,h1,h2,h3,h4,h5,h6⟩:=M3 hfl hl;have h1':fl[f]? =some g:=by simpa using h1
    split at h
    ·rename_i l hl2;injection h with h;subst h;simp only[Instr.field,Sem.run_bind,d7 ok.hd,Result.andThen_ok,h1',asAgg,Sem.run_pure,a2J h3 h2,h6,if_true,h4,h5,a5u hl2]
    ·cases h
   ·rename_i off k hl;obtain⟨g,gi,gd,h1,h2,h3,h4,h5,h6⟩:=M3 hfl hl;have h1':fl[f]? =some g:=by simpa using h1
    split at h
    ·rename_i v hl2;injection h with h;subst h;rw[m9]at hl2;have hl3:cs[off]? =some v:=by simpa using hl2
     simp only[Instr.field,Sem.run_bind,d7 ok.hd,Result.andThen_ok,h1',asAgg,Sem.run_pure,a2J h3 h2,h6,Bool.false_eq_true,if_false,h4,hl3]
    ·cases h
   ·cases h
  ·cases h
 ·cases h
theorem V6 (hT:TabOK P T) {t:Nat} {s i:Slot} {r:LR} (h:H3 T t s i=some r) (hob:Conj r.ob):(Instr.indexAt t s.v i.v).run P w= .ok r.v w:=by
 unfold H3 at h;split at h
 ·rename_i kk b o tg gg kk' k x tg' gg';split at h
  ·rename_i len esz sz z bb hg;injection h with h;subst h;obtain⟨d,fi,zv,ok⟩:=g7 (hT.get hg);obtain⟨e,fe,rfl,h1,h2⟩:=ok.arr rfl;simp only[Instr.indexAt,asIntOf,Sem.run_bind,Sem.run_pure,Result.andThen_ok,d7 ok.hd,Instr.sureAddr];rw[if_pos ⟨hob.1,hob.2.1⟩];simp[m6 h1,h2,Addr.add_none]
  ·cases h
 ·rename_i kk b o len cap tg gg kk' k x tg' gg';split at h
  ·rename_i el esz sz z bb hg;injection h with h;subst h;obtain⟨d,fi,zv,ok⟩:=g7 (hT.get hg);obtain⟨fe,rfl,h1,h2⟩:=ok.slice rfl;simp only[Instr.indexAt,asIntOf,Sem.run_bind,Sem.run_pure,Result.andThen_ok,d7 ok.hd];rw[if_pos ⟨hob.1,hob.2.1⟩];simp[m6 h1,h2,Addr.add_none]
  ·cases h
 ·cases h
end
end Go.Proofs.YtpohajhbfllbbaaGreat
namespace Go.Proofs.YtpohajhbfllbbaaGreat
open Go.RowKit

section
variable {P : Program} {ops : Array Oper} {rest : List Oper} {dst : Option Tmp} {ty : TypeId} {pos : String} {after : Array Edge} {a : Act} {w : World} {Q : Exit → Act → World → Prop}

end

theorem a5B (w:World) (g:Nat) (C:Array Value):w.grownBy (w.setRow g C) (some g):=
 ⟨rfl,rfl,rfl,by simp,λk _ hk=>setRow_other w g k C (λe=>hk (by simp[e]))⟩
section
variable {P : Program} {ops : Array Oper} {rest : List Oper} {dst : Option Tmp} {ty : TypeId} {pos : String} {after : Array Edge} {a : Act} {w : World} {Q : Exit → Act → World → Prop}
end

theorem a1t {w:World} {b:Nat} {T:TypeId} {C:Array Value} (hb:Blk w b T C) (o:Nat) (cs:List Value) (h:(C.toList.drop o).take cs.length=cs):w.rangeAt b o cs:=by
 intro j v hv;rw[hb.cell];have hj:j<cs.length:=(List.getElem?_eq_some_iff.1 hv).1;rw[<- h,List.getElem?_take,if_pos hj,List.getElem?_drop]at hv;simpa using hv
end Go.Proofs.YtpohajhbfllbbaaGreat
namespace Go.Proofs.YtpohajhbfllbbaaGreat
open Go
section
variable {P : Program} {T : Tab} {E : Env} {L : List Atom} {n : Nat} {a : Act} {w : World}
theorem b6D {x:Operand} {s:Slot} {p:Prop} (he:EnvOK n E a) (h:ev E x=some s) (hv:Conj (a1V p s)) (hp:p):a.eval x=s.v:=by
 rw[i6 he h];obtain⟨k,v,t,g⟩:=s;unfold Slot.val;cases g with
 | tt=>rfl
 | when c=>simp only[a1V]at hv;simp only[G.on];rw[hv.1 hp]
theorem a7F {c x y:Operand} {r:LR} (he:EnvOK n E a) (h:a7G E c x y=some r) (hob:Conj r.ob):(do pure (if<- asBool (a.eval c)then a.eval x else a.eval y):Sem Value).run P w= .ok r.v w:=by
 unfold a7G at h;split at h
 ·rename_i kc cb tc gc hc;split at h
  ·split at h
   ·rename_i ka va ta ga ha;injection h with h;subst h;obtain⟨o1,o2⟩:=Conj.app hob;rw[evs he hc o1];cases cb
    ·simp[asBool,Act.eval]
    ·simp[asBool,b6D he ha o2 rfl]
   ·cases h
  ·split at h
   ·split at h
    ·rename_i kb vb tb gb hb;injection h with h;subst h;obtain⟨o1,o2⟩:=Conj.app hob;rw[evs he hc o1];cases cb
     ·simp[asBool,b6D he hb o2 rfl]
     ·simp[asBool,Act.eval]
    ·cases h
   ·cases h
 ·cases h
theorem a3s {b:Nat} {t:TypeId} {cs:List Value} (h:hl w b=some (.cells cs.toArray t (0,0))):Blk w b t cs.toArray:=h
theorem O1 {t:TypeId} {d:TypeDesc} (hd:P.underlying t=some d) (hb:D8 d=false) {b o:Nat} {v:Value} (hc:w.cell? ⟨b,o,none⟩=some v):(loadVar t ⟨b,o,none⟩).run P w= .ok v w:=by
 simp[loadVar,a1e hd,hb,load,Sem.run,hc]
theorem a1w {t:TypeId} {d:TypeDesc} {f:TypeInfo} (hd:P.underlying t=some d) (hb:D8 d=true) (hf:P.info? t=some f) {b o:Nat} {ty:TypeId} {cs l:List Value} (hc:Blk w b ty cs.toArray) (hl:a5v cs o f.size=some l):(loadVar t ⟨b,o,none⟩).run P w= .ok (.agg l.toArray) w:=by
 obtain⟨h1,h2⟩:=a1b hl;refine run_loadVar_mid w b o t l d (a1t hc o l ?_) hd (by cases d<;>simp_all [D8,TypeDesc.isRow]) (by rw[hf];simp[h2]);rw[h2,h1]
theorem a2Z (hT:TabOK P T) {t:Nat} {s:Slot} {r:LR} (h:a0e T L t s=some r) (hob:Conj r.ob) (hr:∀i A,r.rd=i+1->L[i]? =some A->A.sat (hl w)):(Instr.loadAt t s.v).run P w= .ok r.v w:=by
 unfold a0e at h;split at h
 ·rename_i kk b o i gg;split at h
  ·rename_i b' ty cs hL;rw[m9]at hL;split at h
   ·rename_i fs sz z bb hg;obtain⟨d,fi,zv,ok⟩:=g7 (hT.get hg);obtain⟨fl,rfl,_⟩:=ok.row rfl;split at h
    ·rename_i l hl2;injection h with h;subst h;have hb:=hob.1;subst hb;have hA:=a3s (hr i _ rfl hL);have hsz:sz=fi.size:=ok.hsize;rw[hsz]at hl2;simp[Instr.loadAt,Instr.sureAddr,a1w ok.hd rfl ok.hf hA hl2]
    ·cases h
   ·rename_i x y sz z bb hg;obtain⟨d,fi,zv,ok⟩:=g7 (hT.get hg);obtain⟨e,fe,rfl,_⟩:=ok.arr rfl;split at h
    ·rename_i l hl2;injection h with h;subst h;have hb:=hob.1;subst hb;have hA:=a3s (hr i _ rfl hL);have hsz:sz=fi.size:=ok.hsize;rw[hsz]at hl2;simp[Instr.loadAt,Instr.sureAddr,a1w ok.hd rfl ok.hf hA hl2]
    ·cases h
   ·rename_i ti hn1 hn2 hg;obtain⟨d,fi,zv,ok⟩:=g7 (hT.get hg);split at h
    ·rename_i v hl2;injection h with h;subst h;have hb:=hob.1;subst hb;have hA:=a3s (hr i _ rfl hL);rw[m9]at hl2;have hagg:D8 d=false:=by
      have htd:=ok.htd;cases d<;>simp[D8]<;>simp[a1Q]at htd
      ·obtain⟨g,h1,h2⟩:=htd;obtain⟨td,sz,zz,bb⟩:=ti;simp at h2;subst h2;exact hn2 _ _ _ _ _ rfl
      ·obtain⟨g,h1,h2⟩:=htd;obtain⟨td,sz,zz,bb⟩:=ti;simp at h2;subst h2;exact hn1 _ _ _ _ rfl
     have hc:w.cell? ⟨b,o,none⟩=some v:=by rw[hA.cell];simpa using hl2
     simp[Instr.loadAt,Instr.sureAddr,O1 ok.hd hagg hc]
    ·cases h
   ·cases h
  ·cases h
 ·cases h
theorem a1x {x:Option Operand} {d k:Nat} {ob:List Prop} (he:EnvOK n E a) (h:P8 E x d=some (k,ob)) (hob:Conj ob):
  (x=none/\k=d)\/∃y ik z,x=some y/\a.eval y= .int ik z/\0<=z/\z.toNat=k:=by
 unfold P8 at h;split at h
 ·simp only[Option.some.injEq,Prod.mk.injEq]at h;exact .inl ⟨rfl,h.1.symm⟩
 ·rename_i y;split at h
  ·rename_i ks ik z t g hy;simp only[Option.some.injEq,Prod.mk.injEq]at h;obtain⟨rfl,rfl⟩:=h;exact .inr ⟨y,ik,z,rfl,evs he hy hob.2,hob.1,rfl⟩
  ·cases h
theorem I1 {x:Value} {ik:IntKind} {z:Int} (hx:x= .int ik z) (h0:0<=z) {y:Nat} (hy:z.toNat<=y) (c:BoundsCode):(Instr.sliceBound x y c).run P w= .ok z.toNat w:=by
 subst hx;simp only[Instr.sliceBound,asIntOf,Sem.run_bind,Sem.run_pure,Result.andThen_ok];rw[if_pos ⟨h0,by omega⟩];rfl
theorem V1 {isS:Bool} {len cap l h dl:Nat} {lo hi:Option Operand} {ol oh:List Prop} (he:EnvOK n E a) (h1:P8 E lo 0=some (l,ol)) (h2:P8 E hi len=some (h,oh)) (o1:Conj ol) (o2:Conj oh) (hlh:l<=h) (hhc:h<=cap) (hd:dl=cap):
  (Instr.sliceBounds isS len dl (lo.map a.eval) (hi.map a.eval) none).run P w= .ok (l,h,cap) w:=by
 subst hd;rcases a1x he h1 o1 with⟨rfl,rfl⟩ | ⟨y,ik,z,rfl,e1,e2,e3⟩<;>rcases a1x he h2 o2 with⟨rfl,rfl⟩ | ⟨y',ik',z',rfl,e1',e2',e3'⟩
 ·simp[Instr.sliceBounds]
 ·simp[Instr.sliceBounds,I1 (P:=P) (w:=w) e1' e2' (by rw[e3'];exact hhc),e3']
 ·simp[Instr.sliceBounds,I1 (P:=P) (w:=w) e1 e2 (by rw[e3];exact hlh),e3]
 ·subst e3';simp[Instr.sliceBounds,I1 (P:=P) (w:=w) e1' e2' hhc,I1 (P:=P) (w:=w) e1 e2 (by rw[e3];exact hlh),e3]
theorem a6E (hT:TabOK P T) {t:Nat} {s:Slot} {lo hi:Option Operand} {r:LR} (he:EnvOK n E a) (h:a2b T E t lo hi s=some r) (hob:Conj r.ob):(Instr.sliceAt t s.v (lo.map a.eval) (hi.map a.eval) none).run P w= .ok r.v w:=by
 unfold a2b at h;split at h
 ·rename_i kk b o tg gg;split at h
  ·rename_i m esz sz z bb hg;split at h
   ·rename_i l ol hh oh h1 h2;injection h with h;subst h;obtain⟨oo,hlh,hhc,hlc,_⟩:=Conj.app hob;obtain⟨oo,o2⟩:=Conj.app oo;obtain⟨_,o1⟩:=Conj.app oo;obtain⟨d,fi,zv,ok⟩:=g7 (hT.get hg);obtain⟨e,fe,rfl,g1,g2⟩:=ok.arr rfl;simp only[Instr.sliceAt,Sem.run_bind,d7 ok.hd,Result.andThen_ok,Instr.sureAddr,Sem.run_pure,V1 (P:=P) (w:=w) (isS:=false) he h1 h2 o1 o2 hlh hhc rfl,m6 g1,g2]
    by_cases hm:m=l
    ·rcases hlc with rfl | hlc
     ·subst hm;simp
     ·omega
    ·simp[hm,Addr.add_none]
   ·cases h
  ·cases h
 ·rename_i kk b o len cap tg gg;split at h
  ·rename_i el esz sz z bb hg;split at h
   ·rename_i l ol hh oh h1 h2;injection h with h;subst h;obtain⟨oo,hlh,hhc,hlc,_⟩:=Conj.app hob;obtain⟨oo,o2⟩:=Conj.app oo;obtain⟨_,o1⟩:=Conj.app oo;obtain⟨d,fi,zv,ok⟩:=g7 (hT.get hg);obtain⟨fe,rfl,g1,g2⟩:=ok.slice rfl;simp only[Instr.sliceAt,Sem.run_bind,d7 ok.hd,Result.andThen_ok,Instr.slice,Sem.run_pure,V1 (P:=P) (w:=w) (isS:=true) he h1 h2 o1 o2 hlh hhc rfl,m6 g1,g2]
    by_cases hm:cap=l
    ·rcases hlc with rfl | hlc
     ·subst hm;simp
     ·omega
    ·simp[hm,Addr.add_none]
   ·cases h
  ·cases h
 ·cases h
theorem C5 (he:EnvOK n E a):∀{xs:List Operand} {l:List Slot},slots E xs=some l->Conj (M6 l)->xs.map a.eval=vals l
 | [],l,h,_=>by simp only[slots,Option.some.injEq]at h;subst h;rfl
 | x::r,l,h,hv=>by
  simp only[slots]at h;split at h
  ·rename_i s l' h1 h2;injection h with h;subst h;obtain⟨v1,v2⟩:=Conj.app hv;simp only[List.map_cons,vals,evs he h1 v1,C5 he h2 v2]
  ·cases h
theorem a4u {α:Type} (l xs:List α):N9 l 0 xs=V5 l xs:=by cases l<;>rfl
theorem a1c {α:Type}:∀{l:List α} {o:Nat} {x:α} {xs m:List α},N9 l o (x::xs)=some m->N9 (l.set o x) (o+1) xs=some m
 | [],0,x,xs,m,h=>by simp[N9,V5]at h
 | [],o+1,x,xs,m,h=>by simp[N9]at h
 | y::r,0,x,xs,m,h=>by
  rw[a4u]at h;simpa only[V5,List.set_cons_zero,N9,a4u]using h
 | y::r,o+1,x,xs,m,h=>by
  simp only[N9]at h;split at h
  ·rename_i l hl;simp only[List.set_cons_succ,N9,a1c hl];exact h
  ·cases h
theorem a4F (off:Nat):∀(xs:List Value) (k:Nat) (cs:Array Value) (m:List Value),N9 cs.toList (off+k) xs=some m->(xs.zipIdx k).foldl (λcs (c,j)=>cs.setIfInBounds (off+j) c) cs=m.toArray
 | [],k,cs,m,h=>by
  obtain⟨h1,h2⟩:=R3 h;simp at h1;subst h1;simp
 | x::xs,k,cs,m,h=>by
  rw[List.zipIdx_cons,List.foldl_cons];exact a4F off xs (k+1) _ m (by rw[<- Nat.add_assoc];simpa using a1c h)
theorem Y9 {place place':Nat->Option (Nat×Nat)} (hp:∀i r,place i=some r->place' i=some r):∀{parts:List (Nat×Value)} {cs:Array Value} {m:List Value},a3l place cs.toList parts=some m->Instr.fill place' cs parts=some m.toArray
 | [],cs,m,h=>by simp only[a3l,Option.some.injEq]at h;subst h;simp[Instr.fill]
 | (i,v)::r,cs,m,h=>by
  simp only[a3l]at h;split at h
  ·rename_i off sz hpl;split at h
   ·rename_i cs' e1 e2;have e3:=Nat.eq_of_beq_eq_true e1;obtain⟨e4,e5⟩:=R3 e2;simp only[Instr.fill,hp _ _ hpl];have:v.cells.size=sz:=by simpa using e3
    have hb:(decide (v.cells.size≠sz)||decide (off+v.cells.size>cs.size))=false:=by
     simp at e5;simp;omega
    have hb':¬(v.cells.size≠sz\/off+v.cells.size>cs.size):=by
     simp at e5;omega
    have hf:=a4F off v.cells.toList 0 cs cs' e2;have hf':Array.foldl (λcs x=>match x with | (c,j)=>cs.setIfInBounds (off+j) c) cs v.cells.zipIdx=cs'.toArray:=by
     rw[<- hf,<- Array.foldl_toList,Array.toList_zipIdx]
    simp only[this,ne_eq,not_true_eq_false,decide_false,Bool.false_or];rw[if_neg (by simp at e5 ⊢;omega)];rw[hf'];exact Y9 hp (by simpa using h)
   ·cases h
  ·cases h
theorem Y4:∀{parts:List (Nat×Operand)} {l:List Slot},(parts.map (·.2)).map a.eval=vals l->parts.map (λ(i,x)=>(i,a.eval x))=a0b parts l
 | [],l,h=>by simp[a0b]
 | (i,x)::r,[],h=>by simp[vals]at h
 | (i,x)::r,s::l,h=>by
  simp only[List.map_cons,vals,List.cons.injEq]at h;simp only[List.map_cons,a0b,h.1,Y4 h.2]
theorem a2F:∀{fl:List Field} {fs:List (Nat×Nat×Bool)},fieldsOf P fl=some fs->(fl.mapM (λf=>do pure (f.offset,<- sizeOf f.type)):Sem (List (Nat×Nat))).run P w= .ok (fs.map λx=>(x.1,x.2.1)) w
 | [],fs,h=>by simp only[fieldsOf,Option.some.injEq]at h;subst h;simp
 | f::r,fs,h=>by
  simp only[fieldsOf]at h;split at h
  ·rename_i i d l h1 h2 h3;injection h with h;subst h;have:=a2F h3;simp only[List.mapM_cons,Sem.run_bind,m6 h1,Result.andThen_ok,Sem.run_pure,this,List.map_cons]
  ·cases h
theorem a6s (fs:List (Nat×Nat×Bool)) (i:Nat) (r:Nat×Nat) (h:a2G fs i=some r):((fs.map λx=>(x.1,x.2.1)).toArray[i]?)=some r:=by
 unfold a2G at h;rw[m9]at h;split at h
 ·rename_i off sz b e;simp[e,h]
 ·cases h
theorem a6G (hT:TabOK P T) {t:Nat} {parts:Array (Nat×Operand)} {r:LR} (he:EnvOK n E a) (h:a5x T E t parts.toList=some r) (hob:Conj r.ob):(Instr.build t (parts.map λ(i,x)=>(i,a.eval x))).run P w= .ok r.v w:=by
 unfold a5x at h;split at h
 ·rename_i fs sz z bb l hg hl;split at h
  ·rename_i cs hf;injection h with h;subst h;have hp:=Y4 (C5 he hl hob);obtain⟨d,fi,zv,ok⟩:=g7 (hT.get hg);obtain⟨fl,rfl,hfl⟩:=ok.row rfl;have hz:z=zv.cells.toList:=ok.hzero;subst hz;have hr:=Y9 (place':=((fs.map λx=>(x.1,x.2.1)).toArray[·]?)) (a6s fs) hf;have hpl:(fl.mapM (λf=>do pure (f.offset,<- sizeOf f.type)):Sem (Array (Nat×Nat))).run P w= .ok (fs.map λx=>(x.1,x.2.1)).toArray w:=by
    rw[Array.mapM_eq_mapM_toList];simp only[map_eq_pure_bind,Sem.run_bind,a2F hfl,Result.andThen_ok,Sem.run_pure]
   simp only[Instr.build,Sem.run_bind,W1 ok.hf ok.hz,Result.andThen_ok,d7 ok.hd,hpl,Sem.run_pure,Array.toList_map,hp,hr]
  ·cases h
 ·rename_i m esz sz z bb l hg hl;split at h
  ·rename_i cs hf;injection h with h;subst h;have hp:=Y4 (C5 he hl hob);obtain⟨d,fi,zv,ok⟩:=g7 (hT.get hg);obtain⟨e,fe,rfl,g1,g2⟩:=ok.arr rfl;have hz:z=zv.cells.toList:=ok.hzero;subst hz;have hr:=Y9 (place':=λi=>some (i*esz,esz)) (λ_ _ h=>h) hf;simp only[Instr.build,Sem.run_bind,W1 ok.hf ok.hz,Result.andThen_ok,d7 ok.hd,m6 g1,g2,Array.toList_map,hp,hr,Sem.run_pure]
  ·cases h
 ·cases h
end
section
variable {P : Program} {T : Tab} {E : Env} {L : List Atom} {n : Nat} {a : Act} {w : World}
theorem a7H (hT:TabOK P T) {b:Builtin} {ts:Array TypeId} {args:Array Operand} {r:LR} (he:EnvOK n E a) (h:a7I T E b ts.toList args.toList=some r) (hob:Conj r.ob) (type:TypeId) (consts:Array Bool):
  (builtin b ts type consts (args.map a.eval)).run P w= .ok (.value r.v) w:=by
 have hargs:∀{l:List Slot},slots E args.toList=some l->Conj (M6 l)->args.map a.eval=(vals l).toArray:=λh1 h2=>by
  apply Array.toList_inj.1;rw[Array.toList_map,C5 he h1 h2]
 unfold a7I at h;split at h
 ·rename_i t rt kk ad n' c tg gg rs hts hs;split at h
  ·rename_i el esz sz z bb hg;injection h with h;subst h;obtain⟨d,fi,zv,ok⟩:=g7 (hT.get hg);obtain⟨fe,rfl,g1,g2⟩:=ok.slice rfl;have ht:ts[0]? =some t:=by rw[<- Array.getElem?_toList,hts];rfl
   have hx:(args.map a.eval)[0]? =some (.slice ad n' c):=by
    rw[<- Array.getElem?_toList,Array.toList_map];cases hal:args.toList with
    | nil=>rw[hal]at hs;simp[slots]at hs
    | cons x xs=>
     rw[hal]at hs;simp only[slots]at hs;split at hs
     ·rename_i s' l' h1 h2;injection hs with hs;injection hs with hs1 hs2;subst hs1;simp[evs he h1 hob]
     ·cases hs
   simp[builtin,Builtin.len_,ht,hx,d7 ok.hd,goInt]
  ·cases h
 ·rename_i t rt kk ad c m' tg gg rs hts hs;split at h
  ·rename_i el esz sz z bb hg;injection h with h;subst h;obtain⟨d,fi,zv,ok⟩:=g7 (hT.get hg);obtain⟨fe,rfl,g1,g2⟩:=ok.slice rfl;have ht:ts[0]? =some t:=by rw[<- Array.getElem?_toList,hts];rfl
   have hx:(args.map a.eval)[0]? =some (.slice ad c m'):=by
    rw[<- Array.getElem?_toList,Array.toList_map];cases hal:args.toList with
    | nil=>rw[hal]at hs;simp[slots]at hs
    | cons x xs=>
     rw[hal]at hs;simp only[slots]at hs;split at hs
     ·rename_i s' l' h1 h2;injection hs with hs;injection hs with hs1 hs2;subst hs1;simp[evs he h1 hob]
     ·cases hs
   simp[builtin,Builtin.cap_,ht,hx,d7 ok.hd,goInt]
  ·cases h
 ·rename_i hs;injection h with h;subst h;have:=hargs hs (by simp only[M6,J8];rw[List.append_nil];exact hob);simp[builtin,this,Builtin.min_,vals,Builtin.min2]
 ·rename_i hs;injection h with h;subst h;have:=hargs hs (by simp only[M6,J8];rw[List.append_nil];exact hob);simp[builtin,this,Builtin.max_,vals,Builtin.max2]
 ·cases h
theorem P6 {t:Nat} {s i:Slot} {r:LR} (h:H3 T t s i=some r) (hob:Conj r.ob):Conj (J8 s)/\Conj (J8 i):=by
 obtain⟨k,v,tg,g⟩:=s;obtain⟨k',v',tg',g'⟩:=i;unfold H3 at h;split at h<;>rename_i e1 e2
 ·split at h
  ·injection h with h;subst h;injection e1 with _ _ _ e1;injection e2 with _ _ _ e2;subst e1;subst e2;exact Conj.app hob.2.2
  ·cases h
 ·split at h
  ·injection h with h;subst h;injection e1 with _ _ _ e1;injection e2 with _ _ _ e2;subst e1;subst e2;exact Conj.app hob.2.2
  ·cases h
 ·cases h
theorem a2Y (hT:TabOK P T) {o:Oper} {r:LR} (he:EnvOK n E a) (h:look T E L o.op=some r) (hob:Conj r.ob) (hr:∀i A,r.rd=i+1->L[i]? =some A->A.sat (hl w)):(execOp a.eval o).run P w= .ok (.value r.v) w:=by
 unfold look at h;unfold execOp;split at h<;>rename_i hop<;>simp only[hop]
 ·split at h
  ·rename_i s hs;injection h with h;subst h;simp[evs he hs hob]
  ·cases h
 ·split at h
  ·rename_i s hs;injection h with h;subst h;simp[evs he hs hob]
  ·cases h
 ·have:=a7F (P:=P) (w:=w) he h hob;simp only[Sem.run_bind,Sem.run_pure]at this ⊢
  revert this
  cases(asBool (a.eval _)).run P w with
  | ok b w'=>intro this;simp only[Result.andThen_ok]at this ⊢;injection this with h1 h2;rw[h1,h2]
  | halt x w'=>intro this;cases this
 ·split at h
  ·rename_i k p t g hs;injection h with h;subst h;simp[evs he hs hob]
  ·cases h
 ·split at h
  ·rename_i s s' h1 h2;split at h
   ·rename_i v ob hb;injection h with h;subst h;obtain⟨oo,v2⟩:=Conj.app hob;obtain⟨oo,v1⟩:=Conj.app oo;rw[evs he h1 v1,evs he h2 v2];have:=b2S (P:=P) (w:=w) hT hb oo;simp only[Sem.run_bind,this,Result.andThen_ok,Sem.run_pure]
   ·cases h
  ·cases h
 ·split at h
  ·rename_i s h1;split at h
   ·rename_i v ob hb;injection h with h;subst h;obtain⟨oo,v1⟩:=Conj.app hob;rw[evs he h1 v1];simp only[Sem.run_bind,b3n hb oo,Result.andThen_ok,Sem.run_pure]
   ·cases h
  ·cases h
 ·split at h
  ·rename_i k ik m t g k' sz z bb ti h1 h2 h3;injection h with h;subst h;obtain⟨oo,v1⟩:=Conj.app hob;rw[evs he h1 v1];obtain⟨d,fi,zv,ok⟩:=g7 (hT.get h2);obtain⟨d',fi',zv',ok'⟩:=g7 (hT.get h3);have:=ok.int rfl;subst this;simp[convert,d7 ok.hd,d7 ok'.hd,Conv.intToInt,O4 oo]
  ·cases h
 ·split at h
  ·rename_i s hs;have hv:Conj (J8 s):=by
    unfold P7 at h
    (repeat' split at h)<;>first | (cases h;done) | (injection h with h;subst h;exact hob)
   rw[evs he hs hv];simp only[Sem.run_bind,a1T hT h,Result.andThen_ok,Sem.run_pure]
  ·cases h
 ·split at h
  ·rename_i s hs;have hv:Conj (J8 s):=by
    unfold a2c at h
    (repeat' split at h)<;>first | (cases h;done) | (injection h with h;subst h;exact hob)
   rw[evs he hs hv];simp only[Sem.run_bind,a6F hT h,Result.andThen_ok,Sem.run_pure]
  ·cases h
 ·split at h
  ·rename_i s h1;have hv:=P6 h hob;rw[evs he h1 hv.1];have:=V6 (P:=P) (w:=w) hT h hob;simp only[Act.eval,Sem.run_bind,this,Result.andThen_ok,Sem.run_pure]
  ·cases h
 ·split at h
  ·rename_i k v tg g s' h1 h2;have hv:=P6 h hob;rw[evs he h1 hv.1,evs he h2 hv.2];have:=V6 (P:=P) (w:=w) hT h hob;simp only[Sem.run_bind,this,Result.andThen_ok,Sem.run_pure]
  ·cases h
 ·split at h
  ·rename_i k vs t g hs;split at h
   ·rename_i v hv;injection h with h;subst h;rw[evs he hs hob];rw[m9]at hv;simp only[Instr.extract,Sem.run_bind];rw[<- Array.getElem?_toList,hv];rfl
   ·cases h
  ·cases h
 ·split at h
  ·rename_i s hs;have hv:Conj (J8 s):=by
    unfold a2b at h
    (repeat' split at h)<;>first | (cases h;done) | (injection h with h;subst h;exact(Conj.app (Conj.app (Conj.app hob).1).1).1)
   rw[evs he hs hv];have:=a6E (P:=P) (w:=w) hT he h hob;simp only[Sem.run_bind,Option.map_none,this,Result.andThen_ok,Sem.run_pure]
  ·cases h
 ·simp only[Sem.run_bind,a6G hT he h hob,Result.andThen_ok,Sem.run_pure]
 ·rename_i fn f1 c1;split at h
  ·rename_i l l' h1 h2;injection h with h;subst h;obtain⟨v1,v2⟩:=Conj.app hob;have e1:Array.map a.eval f1=(vals l).toArray:=by apply Array.toList_inj.1;rw[Array.toList_map,C5 he h1 v1]
   have e2:Array.map a.eval c1=(vals l').toArray:=by apply Array.toList_inj.1;rw[Array.toList_map,C5 he h2 v2]
   simp[Instr.makeFunc,e1,e2]
  ·cases h
 ·split at h
  ·rename_i s hs;have hv:Conj (J8 s):=by
    unfold a0e at h
    (repeat' split at h)<;>first | (cases h;done) | (injection h with h;subst h;exact hob.2)
   rw[evs he hs hv];simp only[Sem.run_bind,a2Z hT h hob hr,Result.andThen_ok,Sem.run_pure]
  ·cases h
 ·have:=a7H (P:=P) (w:=w) hT he h hob o.type;simp[resolve,invoke,this]
 ·cases h
end
end Go.Proofs.YtpohajhbfllbbaaGreat
