/- Helpers. No condition. -/
import Derived.Test.YtmafiplddapokaaGreatT02
import Derived.WalkKit
import Derived.Laws.StructEq
import Derived.Laws.MakeOwn
import Derived.Laws.OwnMore
set_option maxRecDepth 20000
set_option linter.all false
namespace Go.Proofs.YtmafiplddapokaaGreat
section
open Go Go.RowKit
def tab:Tab:=[
 (3,⟨(.int .i64),1,[.int .i64 0],8⟩),
 (1,⟨.other,1,[.nilFunc],8⟩),
 (39,⟨(.row [(0,1,false),(1,1,false),(2,1,false)]),3,[.int .i64 0, .int .i64 0, .int .i64 0],24⟩),
 (2,⟨(.int .i64),1,[.int .i64 0],8⟩),
 (33,⟨(.int .i64),1,[.int .i64 0],8⟩),
 (24,⟨(.slice 3 1),1,[.slice none 0 0],24⟩),
 (27,⟨.ptr,1,[.pointer none],8⟩),
 (101,⟨(.row [(0,1,false),(1,1,false),(2,1,false),(3,16,true)]),19,[.int .i64 0, .int .i64 0, .int .i64 0, .int .u8 0, .int .u8 0, .int .u8 0, .int .u8 0, .int .u8 0, .int .u8 0, .int .u8 0, .int .u8 0, .int .u8 0, .int .u8 0, .int .u8 0, .int .u8 0, .int .u8 0, .int .u8 0, .int .u8 0, .int .u8 0],40⟩),
 (4,⟨.bool,1,[.bool false],1⟩),
 (212,⟨(.row [(0,16,true),(16,1,false),(17,1,false),(18,1,false),(19,1,false),(20,1,false),(21,1,false),(22,1,false)]),23,[.int .u8 0, .int .u8 0, .int .u8 0, .int .u8 0, .int .u8 0, .int .u8 0, .int .u8 0, .int .u8 0, .int .u8 0, .int .u8 0, .int .u8 0, .int .u8 0, .int .u8 0, .int .u8 0, .int .u8 0, .int .u8 0, .int .i64 0, .int .i64 0, .int .i64 0, .int .i64 0, .int .i64 0, .int .i64 0, .int .i64 0],72⟩),
 (23,⟨(.row [(0,1,false),(1,1,false),(2,1,false)]),3,[.int .i64 0, .int .i64 0, .int .i64 0],24⟩),
 (36,⟨(.arr 16 1),16,[.int .u8 0, .int .u8 0, .int .u8 0, .int .u8 0, .int .u8 0, .int .u8 0, .int .u8 0, .int .u8 0, .int .u8 0, .int .u8 0, .int .u8 0, .int .u8 0, .int .u8 0, .int .u8 0, .int .u8 0, .int .u8 0],16⟩),
 (93,⟨.ptr,1,[.pointer none],8⟩),
 (278,⟨(.slice 39 3),1,[.slice none 0 0],24⟩),
 (116,⟨(.slice 101 19),1,[.slice none 0 0],24⟩),
 (94,⟨.ptr,1,[.pointer none],8⟩),
 (41,⟨(.row [(0,1,false),(1,1,false),(2,3,true),(5,1,false),(6,1,false)]),7,[.int .i64 0, .int .i64 0, .int .i64 0, .int .i64 0, .int .i64 0, .int .i64 0, .int .i64 0],56⟩),
 (276,⟨(.int .u64),1,[.int .u64 0],8⟩),
 (28,⟨.ptr,1,[.pointer none],8⟩),
 (5,⟨(.int .u8),1,[.int .u8 0],1⟩),
 (25,⟨(.slice 41 7),1,[.slice none 0 0],24⟩),
 (110,⟨(.arr 32 1),32,[.int .u8 0, .int .u8 0, .int .u8 0, .int .u8 0, .int .u8 0, .int .u8 0, .int .u8 0, .int .u8 0, .int .u8 0, .int .u8 0, .int .u8 0, .int .u8 0, .int .u8 0, .int .u8 0, .int .u8 0, .int .u8 0, .int .u8 0, .int .u8 0, .int .u8 0, .int .u8 0, .int .u8 0, .int .u8 0, .int .u8 0, .int .u8 0, .int .u8 0, .int .u8 0, .int .u8 0, .int .u8 0, .int .u8 0, .int .u8 0, .int .u8 0, .int .u8 0],32⟩),
 (60,⟨(.slice 36 16),1,[.slice none 0 0],24⟩),
 (180,⟨(.row [(0,19,true),(19,3,true),(22,1,false),(23,1,false),(24,1,false)]),25,[.int .i64 0, .int .i64 0, .int .i64 0, .int .u8 0, .int .u8 0, .int .u8 0, .int .u8 0, .int .u8 0, .int .u8 0, .int .u8 0, .int .u8 0, .int .u8 0, .int .u8 0, .int .u8 0, .int .u8 0, .int .u8 0, .int .u8 0, .int .u8 0, .int .u8 0, .int .i64 0, .int .i64 0, .int .i64 0, .int .i64 0, .bool false, .bool false],80⟩),
 (146,⟨(.int .u64),1,[.int .u64 0],8⟩),
 (98,⟨(.row [(0,1,false),(1,1,false),(2,1,false),(3,1,false),(4,1,false),(5,1,false),(6,1,false)]),7,[.pointer none, .pointer none, .pointer none, .pointer none, .pointer none, .int .i64 0, .bool false],56⟩),
 (95,⟨.ptr,1,[.pointer none],8⟩),
 (83,⟨(.row [(0,1,false),(1,16,true)]),17,[.int .i64 0, .int .u8 0, .int .u8 0, .int .u8 0, .int .u8 0, .int .u8 0, .int .u8 0, .int .u8 0, .int .u8 0, .int .u8 0, .int .u8 0, .int .u8 0, .int .u8 0, .int .u8 0, .int .u8 0, .int .u8 0, .int .u8 0],24⟩),
 (177,⟨(.slice 180 25),1,[.slice none 0 0],24⟩),
 (92,⟨(.row [(0,3,true),(3,1,false),(4,1,false),(5,1,false),(6,1,false),(7,1,false),(8,1,false),(9,1,false),(10,1,false),(11,1,false)]),12,[.int .i64 0, .int .i64 0, .int .i64 0, .map none, .pointer none, .slice none 0 0, .bool false, .int .i64 0, .int .i64 0, .bool false, .int .i64 0, .int .i64 0],112⟩),
 (105,⟨(.slice 112 34),1,[.slice none 0 0],24⟩),
 (118,⟨(.row [(0,1,false),(1,1,false),(2,1,false),(3,1,false),(4,1,false),(5,1,false)]),6,[.pointer none, .slice none 0 0, .int .i64 0, .slice none 0 0, .int .i64 0, .int .i64 0],80⟩),
 (210,⟨(.slice 212 23),1,[.slice none 0 0],24⟩),
 (274,⟨(.int .u32),1,[.int .u32 0],4⟩),
 (195,⟨(.row [(0,1,false),(1,1,false),(2,1,false),(3,1,false),(4,1,false),(5,1,false),(6,1,false)]),7,[.pointer none, .pointer none, .pointer none, .int .i64 0, .int .i64 0, .int .i64 0, .int .i64 0],56⟩),
 (131,⟨(.row [(0,1,false),(1,1,false),(2,1,false)]),3,[.int .i64 0, .int .i64 0, .int .i64 0],24⟩),
 (56,⟨.ptr,1,[.pointer none],8⟩),
 (53,⟨(.row [(0,1,false),(1,1,false),(2,16,true),(18,1,false),(19,1,false),(20,7,true)]),27,[.int .i64 0, .int .i64 0, .int .u8 0, .int .u8 0, .int .u8 0, .int .u8 0, .int .u8 0, .int .u8 0, .int .u8 0, .int .u8 0, .int .u8 0, .int .u8 0, .int .u8 0, .int .u8 0, .int .u8 0, .int .u8 0, .int .u8 0, .int .u8 0, .int .i64 0, .int .i64 0, .int .i64 0, .int .i64 0, .int .i64 0, .int .i64 0, .int .i64 0, .int .i64 0, .int .i64 0],104⟩),
 (133,⟨(.row [(0,3,true),(3,1,false),(4,1,false),(5,1,false)]),6,[.int .i64 0, .int .i64 0, .int .i64 0, .int .i64 0, .int .i64 0, .int .i64 0],48⟩),
 (291,⟨(.slice 5 1),1,[.slice none 0 0],24⟩),
 (59,⟨(.row [(0,1,false),(1,1,false),(2,1,false),(3,1,false),(4,1,false),(5,1,false),(6,1,false),(7,1,false),(8,1,false)]),9,[.pointer none, .pointer none, .int .i64 0, .bool false, .bool false, .bool false, .slice none 0 0, .int .i64 0, .int .i64 0],72⟩),
 (65,⟨(.slice 4 1),1,[.slice none 0 0],24⟩),
 (96,⟨.ptr,1,[.pointer none],8⟩),
 (107,⟨(.row [(0,1,false),(1,1,false),(2,1,false),(3,1,false)]),4,[.slice none 0 0, .int .i64 0, .bool false, .bool false],40⟩),
 (214,⟨(.row [(0,1,false),(1,1,false),(2,23,true),(25,1,false)]),26,[.slice none 0 0, .slice none 0 0, .int .u8 0, .int .u8 0, .int .u8 0, .int .u8 0, .int .u8 0, .int .u8 0, .int .u8 0, .int .u8 0, .int .u8 0, .int .u8 0, .int .u8 0, .int .u8 0, .int .u8 0, .int .u8 0, .int .u8 0, .int .u8 0, .int .i64 0, .int .i64 0, .int .i64 0, .int .i64 0, .int .i64 0, .int .i64 0, .int .i64 0, .bool false],128⟩),
 (68,⟨(.row [(0,1,false),(1,1,false),(2,1,false),(3,1,false)]),4,[.slice none 0 0, .slice none 0 0, .slice none 0 0, .slice none 0 0],96⟩),
 (307,⟨(.int .u64),1,[.int .u64 0],8⟩),
 (6,⟨(.int .u8),1,[.int .u8 0],1⟩),
 (325,⟨.other,1,[.nilFunc],8⟩),
 (142,⟨(.row [(0,1,false),(1,1,false),(2,1,false),(3,1,false)]),4,[.pointer none, .pointer none, .pointer none, .slice none 0 0],48⟩),
 (66,⟨(.slice 60 1),1,[.slice none 0 0],24⟩),
 (340,⟨.ptr,1,[.pointer none],8⟩),
 (89,⟨.map,1,[.map none],8⟩),
 (90,⟨.ptr,1,[.pointer none],8⟩),
 (7,⟨(.row [(0,1,false),(1,1,false),(2,1,false),(3,1,false)]),4,[.int .i64 0, .int .i64 0, .bool false, .int .u8 0],24⟩),
 (196,⟨.ptr,1,[.pointer none],8⟩),
 (305,⟨.ptr,1,[.pointer none],8⟩),
 (149,⟨(.slice 153 19),1,[.slice none 0 0],24⟩),
 (162,⟨(.row [(0,1,false)]),1,[.slice none 0 0],24⟩),
 (208,⟨(.row [(0,1,false),(1,1,false),(2,1,false),(3,1,false)]),4,[.int .i64 0, .map none, .map none, .int .i64 0],32⟩),
 (293,⟨(.row [(0,1,false),(1,1,false)]),2,[.slice none 0 0, .int .i64 0],32⟩),
 (290,⟨.ptr,1,[.pointer none],8⟩),
 (85,⟨(.slice 83 17),1,[.slice none 0 0],24⟩),
 (9,⟨.other,1,[.string ⟨#[]⟩],16⟩),
 (174,⟨(.slice 177 1),1,[.slice none 0 0],24⟩),
 (191,⟨(.row [(0,3,true),(3,1,false),(4,1,false)]),5,[.int .i64 0, .int .i64 0, .int .i64 0, .slice none 0 0, .int .i64 0],56⟩),
 (112,⟨(.row [(0,32,true),(32,1,false),(33,1,false)]),34,[.int .u8 0, .int .u8 0, .int .u8 0, .int .u8 0, .int .u8 0, .int .u8 0, .int .u8 0, .int .u8 0, .int .u8 0, .int .u8 0, .int .u8 0, .int .u8 0, .int .u8 0, .int .u8 0, .int .u8 0, .int .u8 0, .int .u8 0, .int .u8 0, .int .u8 0, .int .u8 0, .int .u8 0, .int .u8 0, .int .u8 0, .int .u8 0, .int .u8 0, .int .u8 0, .int .u8 0, .int .u8 0, .int .u8 0, .int .u8 0, .int .u8 0, .int .u8 0, .bool false, .bool false],34⟩),
 (153,⟨(.row [(0,16,true),(16,1,false),(17,1,false),(18,1,false)]),19,[.int .u8 0, .int .u8 0, .int .u8 0, .int .u8 0, .int .u8 0, .int .u8 0, .int .u8 0, .int .u8 0, .int .u8 0, .int .u8 0, .int .u8 0, .int .u8 0, .int .u8 0, .int .u8 0, .int .u8 0, .int .u8 0, .bool false, .slice none 0 0, .slice none 0 0],72⟩),
 (221,⟨.other,1,[.nilFunc],8⟩),
 (57,⟨.ptr,1,[.pointer none],8⟩),
 (78,⟨.ptr,1,[.pointer none],8⟩),
 (176,⟨(.row [(0,1,false),(1,1,false)]),2,[.pointer none, .slice none 0 0],32⟩),
 (205,⟨.map,1,[.map none],8⟩),
 (218,⟨(.row [(0,1,false)]),1,[.slice none 0 0],24⟩),
 (319,⟨(.row [(0,1,false),(1,1,false)]),2,[.slice none 0 0, .int .i64 0],32⟩),
 (349,⟨.map,1,[.map none],8⟩),
 (199,⟨(.row [(0,1,false),(1,1,false),(2,1,false),(3,1,false)]),4,[.int .i64 0, .int .i64 0, .bool false, .bool false],24⟩),
 (151,⟨(.row [(0,1,false)]),1,[.slice none 0 0],24⟩),
 (140,⟨.ptr,1,[.pointer none],8⟩),
 (167,⟨.map,1,[.map none],8⟩),
 (206,⟨.map,1,[.map none],8⟩),
 (8,⟨(.row [(0,1,false),(1,1,false),(2,1,false),(3,1,false)]),4,[.int .i64 0, .int .i64 0, .bool false, .int .u8 0],24⟩),
 (266,⟨(.int .i64),1,[.int .i64 0],8⟩),
 (301,⟨.ptr,1,[.pointer none],8⟩),
 (189,⟨(.slice 199 4),1,[.slice none 0 0],24⟩),
 (143,⟨.other,1,[.nilFunc],8⟩),
 (351,⟨(.row [(0,1,false)]),1,[.map none],8⟩),
 (169,⟨(.row [(0,1,false)]),1,[.map none],8⟩),
 (204,⟨.other,1,[.nilFunc],8⟩),
 (347,⟨(.slice 110 32),1,[.slice none 0 0],24⟩),
 (345,⟨(.slice 24 1),1,[.slice none 0 0],24⟩),
 (154,⟨.ptr,1,[.pointer none],8⟩),
 (103,⟨.ptr,1,[.pointer none],8⟩),
 (352,⟨.map,1,[.map none],8⟩),
 (49,⟨(.slice 53 27),1,[.slice none 0 0],24⟩),
 (50,⟨.ptr,1,[.pointer none],8⟩),
 (173,⟨.ptr,1,[.pointer none],8⟩),
 (71,⟨.other,1,[.nilFunc],8⟩),
 (280,⟨.other,1,[.nilFunc],8⟩),
 (184,⟨.other,1,[.nilFunc],8⟩),
 (282,⟨.other,1,[.nilFunc],8⟩),
 (296,⟨(.arr 4 1),4,[.int .i64 0, .int .i64 0, .int .i64 0, .int .i64 0],32⟩),
 (306,⟨(.arr 4 1),4,[.pointer none, .pointer none, .pointer none, .pointer none],32⟩),
 (338,⟨.other,1,[.nilFunc],8⟩)]
theorem tk:TabOK Tryz.prog tab:=TabOK.mk (by kernel_rfl)

inductive Lk where
 | int (k:IntKind)
 | bool
def Lk.fits:Lk->Value->Prop
 | .int k, .int k' _=>k'=k
 | .bool, .bool _=>True
 | _,_=>False
def Fits:List Lk->List Value->Prop
 | [],[]=>True
 | k::ks,v::vs=>k.fits v/\Fits ks vs
 | _,_=>False
def a5e:Value->Value->Bool
 | .int _ a, .int _ b=>a==b
 | .bool a, .bool b=>a==b
 | _,_=>false
def H8:List Value->List Value->Bool
 | [],[]=>true
 | x::xs,y::ys=>a5e x y&&H8 xs ys
 | _,_=>false

theorem Fits.length:∀{ks:List Lk} {vs:List Value},Fits ks vs->vs.length=ks.length
 | [],[],_=>rfl
 | _::_,_::_,h=>by simpa using Fits.length h.2
 | [],_::_,h=>h.elim
 | _::_,[],h=>h.elim
theorem Fits.split:∀{a b:List Lk} {vs:List Value},Fits (a++b) vs->Fits a (vs.take a.length)/\Fits b (vs.drop a.length)
 | [],_,_,h=>⟨by trivial,h⟩
 | _::a,_,v::vs,h=>⟨⟨h.1,(Fits.split (a:=a) h.2).1⟩,(Fits.split (a:=a) h.2).2⟩
 | _::_,_,[],h=>h.elim
theorem Fits.append:∀{a b:List Lk} {xs ys:List Value},Fits a xs->Fits b ys->Fits (a++b) (xs++ys)
 | [],_,[],_,_,h=>h
 | _::a,_,_::_,_,h,h'=>⟨h.1,Fits.append (a:=a) h.2 h'⟩
 | [],_,_::_,_,h,_=>h.elim
 | _::_,_,[],_,h,_=>h.elim
theorem a0k:∀{a b c d:List Value},a.length=c.length->H8 (a++b) (c++d)=(H8 a c&&H8 b d)
 | [],_,[],_,_=>rfl
 | x::a,b,y::c,d,h=>by simp only[V6,H8,a0k (a:=a) (c:=c) (by simpa using h),Bool.and_assoc]
 | [],_,_::_,_,h=>by simp at h
 | _::_,_,[],_,h=>by simp at h

def a2D (X3:TypeId->Option (List Lk)):List Field->Nat->Option (List Lk)
 | [],_=>some []
 | f::fs,off=>
  if f.name ≠ "_" ∧ f.offset = off then
   match X3 f.type with
   | some l=>match a2D X3 fs (off+l.length)with
    | some r=>some (l++r)
    | none=>none
   | none=>none
  else none
def X3 (P:Program):Nat->TypeId->Option (List Lk)
 | 0,_=>none
 | d+1,t=>
  match P.underlying t with
  | some .bool=>some [.bool]
  | some (.int k)=>some [.int k]
  | some (.struct fs)=>
   match a2D (X3 P d) fs.toList 0 with
   | some l=>if P.stoodInHeld t=false/\(P.info? t).map (·.size)=some l.length then some l else none
   | none=>none
  | some (.array n e)=>
   match X3 P d e with
   | some l=>if(P.info? e).map (·.size)=some l.length/\(P.info? t).map (·.size)=some (List.replicate n l).flatten.length then some (List.replicate n l).flatten else none
   | none=>none
  | _=>none

def mkV (P:Program) (t:TypeId) (cs:List Value):Value:=
 match P.underlying t with
 | some (.struct _) | some (.array _ _)=> .agg cs.toArray
 | _=>cs.headD undef

section
variable {P : Program}
theorem a4f {d:Nat} {t:TypeId} {l:List Lk} (h:X3 P d t=some l) (cs:List Value) (off:Nat) (hf:Fits l ((cs.drop off).take l.length)) (w:World):
  (part t cs.toArray off).run P w= .ok (mkV P t ((cs.drop off).take l.length)) w:=by
 cases d with
 | zero=>cases h
 | succ d=>
  unfold X3 at h;unfold mkV;cases hu:P.underlying t with
  | none=>rw[hu]at h;cases h
  | some u=>
   rw[hu]at h;cases u with
   | bool=>
    injection h with h;subst h;simp only[part,isAgg,Sem.run_bind,run_underlying hu,Result.andThen_ok,Sem.run_pure,H6,X6];have hl:=hf.length;cases hd:cs.drop off with
    | nil=>rw[hd]at hl;simp at hl
    | cons v r=>
     have:cs[off]? =some v:=by
      have:=congrArg (·[0]?) hd;simpa using this
     simp[this]
   | int k=>
    injection h with h;subst h;simp only[part,isAgg,Sem.run_bind,run_underlying hu,Result.andThen_ok,Sem.run_pure,H6,X6];have hl:=hf.length;cases hd:cs.drop off with
    | nil=>rw[hd]at hl;simp at hl
    | cons v r=>
     have:cs[off]? =some v:=by
      have:=congrArg (·[0]?) hd;simpa using this
     simp[this]
   | struct fs=>
    simp only at h;split at h
    ·split at h
     ·rename_i l' _ hc;injection h with h;subst h;cases hi:P.info? t with
      | none=>rw[hi]at hc;simp at hc
      | some i=>
       rw[hi]at hc;have hs:i.size=l'.length:=by simpa using hc.2
       simp only[part,isAgg,Sem.run_bind,run_underlying hu,Result.andThen_ok,Sem.run_pure,a0d,sizeOf,typeInfo,run_program,hi,hs];congr 2;simp[List.extract_eq_take_drop]
     ·cases h
    ·cases h
   | array n e=>
    simp only at h;split at h
    ·split at h
     ·rename_i l' _ hc;injection h with h;subst h;cases hi:P.info? t with
      | none=>rw[hi]at hc;simp at hc
      | some i=>
       rw[hi]at hc;have hs:i.size=(List.replicate n l').flatten.length:=by simpa using hc.2
       simp only[part,isAgg,Sem.run_bind,run_underlying hu,Result.andThen_ok,Sem.run_pure,a0d,sizeOf,typeInfo,run_program,hi,hs];congr 2;simp[List.extract_eq_take_drop]
     ·cases h
    ·cases h
   | _=>cases h

theorem a6T {t:TypeId} {fs:Array Field} (h:P.underlying t=some (.struct fs)):P.fieldsOf t=fs:=by simp[Program.fieldsOf,h]

theorem a3O {d D:Nat} (ih:∀t l,X3 P d t=some l->∀xs ys,Fits l xs->Fits l ys->∀w,(Op.equalIn D t (mkV P t xs) (mkV P t ys)).run P w= .ok (H8 xs ys) w) (xs ys:List Value):
  ∀(fs:List Field) (off:Nat) (r:List Lk),a2D (X3 P d) fs off=some r->Fits r (xs.drop off)->Fits r (ys.drop off)->∀w,(Op.eqFields D xs.toArray ys.toArray fs).run P w= .ok (H8 (xs.drop off) (ys.drop off)) w
 | [],off,r,h,hx,hy,w=>by
  injection h with h;subst h;have h1:=m7 (Fits.length hx);have h2:=m7 (Fits.length hy);rw[h1,h2];simp[Op.eqFields,H8]
 | f::fs,off,r,h,hx,hy,w=>by
  unfold a2D at h;split at h
  ·rename_i hc;split at h
   ·rename_i l hl;split at h
    ·rename_i r' hr;injection h with h;subst h;obtain⟨hx1,hx2⟩:=Fits.split hx;obtain⟨hy1,hy2⟩:=Fits.split hy;rw[C2]at hx2 hy2;have e:=a3O ih xs ys fs (off+l.length) r' hr hx2 hy2;have lx:=Fits.length hx1;have ly:=Fits.length hy1;unfold Op.eqFields;rw[d7 hc.1];simp only[Sem.run_bind,hc.2,a4f hl xs off hx1,a4f hl ys off hy1,Result.andThen_ok,ih _ _ hl _ _ hx1 hy1];have key:H8 (xs.drop off) (ys.drop off)=(H8 ((xs.drop off).take l.length) ((ys.drop off).take l.length)&&H8 (xs.drop (off+l.length)) (ys.drop (off+l.length))):=by
      conv=>lhs;rw[<- C4 l.length (xs.drop off),<- C4 l.length (ys.drop off)]
      rw[a0k (by rw[lx,ly]),C2,C2]
     rw[key];cases H8 ((xs.drop off).take l.length) ((ys.drop off).take l.length)
     ·simp
     ·simp only[a2r,H6,X6,q9];exact e w
    ·cases h
   ·cases h
  ·cases h

theorem a5F {e D m:Nat} {l:List Lk} (hm:m=l.length) (hpart:∀(cs:List Value) (off:Nat),Fits l ((cs.drop off).take l.length)->∀w,(part e cs.toArray off).run P w= .ok (mkV P e ((cs.drop off).take l.length)) w)
  (ih:∀xs ys,Fits l xs->Fits l ys->∀w,(Op.equalIn D e (mkV P e xs) (mkV P e ys)).run P w= .ok (H8 xs ys) w) (xs ys:List Value):
  ∀(k i:Nat),Fits (List.replicate k l).flatten (xs.drop (i*m))->Fits (List.replicate k l).flatten (ys.drop (i*m))->∀w,
   (forIn (List.range' i k) ((none,()):Option Bool×Unit) (λj (_:Option Bool×Unit)=>do
    let a <- part e xs.toArray (j*m)
    let b <- part e ys.toArray (j*m)
    let r <- Op.equalIn D e a b
    if(!r)=true then pure (ForInStep.done (some false,()))else do
     pure (ForInStep.yield (none,()))):Sem (Option Bool×Unit)).run P w= .ok (if H8 (xs.drop (i*m)) (ys.drop (i*m))then none else some false,()) w
 | 0,i,hx,hy,w=>by
  have h1:=m7 (Fits.length hx);have h2:=m7 (Fits.length hy);rw[h1,h2];simp[H8]
 | k+1,i,hx,hy,w=>by
  rw[U5,List.flatten_cons]at hx hy;obtain⟨hx1,hx2⟩:=Fits.split hx;obtain⟨hy1,hy2⟩:=Fits.split hy;rw[C2]at hx2 hy2;have ei:i*m+l.length=(i+1)*m:=by rw[Nat.add_mul,hm];omega
  rw[ei]at hx2 hy2;have e':=a5F hm hpart ih xs ys k (i+1) hx2 hy2;have lx:=Fits.length hx1;have ly:=Fits.length hy1;rw[List.range'_succ,List.forIn_cons];simp only[Sem.run_bind,hpart xs _ hx1,hpart ys _ hy1,Result.andThen_ok,ih _ _ hx1 hy1];have key:H8 (xs.drop (i*m)) (ys.drop (i*m))=(H8 ((xs.drop (i*m)).take l.length) ((ys.drop (i*m)).take l.length)&&H8 (xs.drop ((i+1)*m)) (ys.drop ((i+1)*m))):=by
   conv=>lhs;rw[<- C4 l.length (xs.drop (i*m)),<- C4 l.length (ys.drop (i*m))]
   rw[a0k (by rw[lx,ly]),C2,C2,ei]
  rw[key];cases H8 ((xs.drop (i*m)).take l.length) ((ys.drop (i*m)).take l.length)
  ·simp
  ·simp only[a2r,H6,X6,q9,Sem.run_pure,Result.andThen_ok];exact e' w

theorem a0j:∀(d:Nat) (t:TypeId) (l:List Lk),X3 P d t=some l->∀D,d<=D->∀xs ys,Fits l xs->Fits l ys->∀w,(Op.equalIn D t (mkV P t xs) (mkV P t ys)).run P w= .ok (H8 xs ys) w
 | 0,_,_,h,_,_,_,_,_,_,_=>by cases h
 | d+1,t,l,h,0,hD,_,_,_,_,_=>by omega
 | d+1,t,l,h,D+1,hD,xs,ys,hx,hy,w=>by
  have ih:=λt l h xs ys hx hy w=>a0j d t l h D (by omega) xs ys hx hy w;unfold X3 at h;unfold mkV;cases hu:P.underlying t with
  | none=>rw[hu]at h;cases h
  | some u=>
   rw[hu]at h;cases u with
   | bool=>
    injection h with h;subst h
    match xs,ys,hx,hy with
    | [.bool a],[.bool b],_,_=>simp[Op.equalIn,run_underlying hu,H8,a5e]
   | int k=>
    injection h with h;subst h
    match xs,ys,hx,hy with
    | [.int k1 a],[.int k2 b],h1,h2=>
     have e1:k1=k:=h1.1;have e2:k2=k:=h2.1;subst e1;subst e2;simp[Op.equalIn,run_underlying hu,H8,a5e]
   | struct fs=>
    simp only at h;split at h
    ·split at h
     ·rename_i l' hl hc;injection h with h;subst h;simp only;rw[run_equalIn_struct w D t _ _ (by rw[a6T hu];exact hu) hc.1,a6T hu];have:=a3O (P:=P) (λt l h xs ys hx hy w=>ih t l h xs ys hx hy w) xs ys fs.toList 0 l' hl (by simpa using hx) (by simpa using hy) w;simpa using this
     ·cases h
    ·cases h
   | array n e=>
    simp only at h;split at h
    ·split at h
     ·rename_i l' hl hc;injection h with h;subst h;cases hi:P.info? e with
      | none=>rw[hi]at hc;simp at hc
      | some i=>
       rw[hi]at hc;have hs:i.size=l'.length:=by simpa using hc.1
       have key:=a5F (P:=P) (e:=e) (D:=D) (m:=i.size) (l:=l') hs (λcs off hf w=>a4f hl cs off hf w) (λxs ys hx hy w=>ih e l' hl xs ys hx hy w) xs ys n 0 (by simpa using hx) (by simpa using hy) w;simp only[Op.equalIn,Sem.run_bind,run_underlying hu,Result.andThen_ok,sizeOf,typeInfo,run_program,hi,Sem.run_pure];simp only[Q3,a0b]at key;rw[Std.Legacy.Range.forIn_eq_forIn_range'];simp only[Std.Legacy.Range.size,a3k,Q0,Nat.div_one];rw[key];cases H8 xs ys<;>simp
     ·cases h
    ·cases h
   | _=>cases h

theorem a8c {t:TypeId} {l:List Lk} (h:X3 P 100 t=some l) {xs ys:List Value} (hx:Fits l xs) (hy:Fits l ys) (hagg:mkV P t xs= .agg xs.toArray) (hagg2:mkV P t ys= .agg ys.toArray) (w:World):
  (binOp .eql t (.agg xs.toArray) (.agg ys.toArray)).run P w= .ok (.bool (H8 xs ys)) w:=by
 rw[run_eql_struct,<- hagg,<- hagg2,a0j 100 t l h 10000 (by omega) xs ys hx hy];rfl
theorem a8a {t:TypeId} {l:List Lk} (h:X3 P 100 t=some l) {xs ys:List Value} (hx:Fits l xs) (hy:Fits l ys) (hagg:mkV P t xs= .agg xs.toArray) (hagg2:mkV P t ys= .agg ys.toArray) (w:World):
  (binOp .neq t (.agg xs.toArray) (.agg ys.toArray)).run P w= .ok (.bool (!H8 xs ys)) w:=by
 rw[run_neq_struct,<- hagg,<- hagg2,a0j 100 t l h 10000 (by omega) xs ys hx hy];rfl
end

theorem rgo {P:Program} {w:World} {r:Nat} {es:Array MapEntry} {clock:Nat} (h:w.heap[r]? =some (.map es clock)):(getObj r).run P w= .ok (.map es clock) w:=by simp[getObj,Sem.run,h]
theorem rso {P:Program} {w:World} {r:Nat} {es:Array MapEntry} {clock:Nat} (o:Obj) (h:w.heap[r]? =some (.map es clock)):(setObj r o).run P w= .ok () {w with heap:=w.heap.setIfInBounds r o}:=by simp[setObj,Sem.run,h]
structure KeyOk (P:Program) (T:TypeId) {K:Type} [DecidableEq K] (kv:K->Value):Prop where
 now:∃d,P.underlying T=some d/\∀a b,Instr.sameNow d (kv a) (kv b)=none\/Instr.sameNow d (kv a) (kv b)=some (decide (a=b))
 eq:∀a b w,(Op.equal T (kv a) (kv b)).run P w= .ok (decide (a=b)) w
 check:∀e a w,(Instr.checkKey e 10000 T (kv a)).run P w= .ok () w
 bits:∀a,Instr.sameBits 10000 (kv a) (kv a)=true

section
variable {P : Program} {K : Type} [DecidableEq K] {kv : K → Value}

def fi:List (K×Value)->K->Nat->Option (Nat×Value)
 | [],_,_=>none
 | x::l,k,i=>if k=x.1 then some (i,x.2)else fi l k (i+1)
def R3:List (K×Value)->K->Option Value
 | [],_=>none
 | x::l,k=>if k=x.1 then some x.2 else R3 l k
def a1F:List (K×Value)->K->Value->List (K×Value)
 | [],k,v=>[(k,v)]
 | x::l,k,v=>if k=x.1 then(k,v)::l else x::a1F l k v
def a5f:List (K×Value)->K->List (K×Value)
 | [],_=>[]
 | x::l,k=>if k=x.1 then l else x::a5f l k

def a7c (w:World) (r:Nat) (kv:K->Value) (l:List (K×Value)):Prop:=
 ∃es clock,w.heap[r]? =some (.map es clock)/\es.toList.map (λe=>(e.key,e.val))=l.map (λx=>(kv x.1,x.2))/\(es.toList.map (·.born)).Nodup/\∀e∈es.toList,e.born<clock

theorem a9a (l:List (K×Value)) (k:K):∀i,(fi l k i).map (·.2)=R3 l k:=by
 induction l with
 | nil=>intro i;rfl
 | cons x l ih=>
  intro i;unfold fi R3;split
  ·rfl
  ·exact ih _

theorem a3Y {T:TypeId} (hk:KeyOk P T kv) (k:K) (w:World):∀(es:List MapEntry) (l:List (K×Value)) (i:Nat),es.map (λe=>(e.key,e.val))=l.map (λx=>(kv x.1,x.2))->
  (Instr.findAsking T (kv k) es i).run P w= .ok (fi l k i) w
 | [],[],i,_=>by simp[Instr.findAsking,fi]
 | e::es,x::l,i,h=>by
  simp only[n8,U9,C7]at h;obtain⟨⟨h1,h2⟩,h3⟩:=h;have ih:=a3Y hk k w es l (i+1) h3;unfold Instr.findAsking fi;rw[h1,h2]
  by_cases hh:k=x.1
  ·simp[Sem.run_bind,hk.eq,hh]
  ·simp[Sem.run_bind,hk.eq,hh,ih]
 | [],_::_,_,h=>by simp at h
 | _::_,[],_,h=>by simp at h

theorem a8I {d:TypeDesc} (hd:∀a b,Instr.sameNow d (kv a) (kv b)=none\/Instr.sameNow d (kv a) (kv b)=some (decide (a=b))) (k:K):∀(es:List MapEntry) (l:List (K×Value)) (i:Nat),
  es.map (λe=>(e.key,e.val))=l.map (λx=>(kv x.1,x.2))->Instr.findNow d (kv k) es i=none\/Instr.findNow d (kv k) es i=some (fi l k i)
 | [],[],i,_=> .inr rfl
 | e::es,x::l,i,h=>by
  simp only[n8,U9,C7]at h;obtain⟨⟨h1,h2⟩,h3⟩:=h;have ih:=a8I hd k es l (i+1) h3;unfold Instr.findNow fi;rw[h1,h2];rcases hd k x.1 with hs | hs
  ·rw[hs];exact .inl rfl
  ·rw[hs]
   by_cases hh:k=x.1
   ·simp[hh]
   ·simp[hh];exact ih
 | [],_::_,_,h=>by simp at h
 | _::_,[],_,h=>by simp at h

theorem a1O {T:TypeId} (hk:KeyOk P T kv) (k:K) (w:World) (es:List MapEntry) (l:List (K×Value)) (h:es.map (λe=>(e.key,e.val))=l.map (λx=>(kv x.1,x.2))):
  (Instr.findKey T (kv k) es).run P w= .ok (fi l k 0) w:=by
 obtain⟨d,hd,hn⟩:=hk.now;unfold Instr.findKey;rw[Sem.run_bind,run_underlying hd];rcases a8I hn k es l 0 h with h1 | h1
 ·simp only[Result.andThen_ok,h1];exact a3Y hk k w es l 0 h
 ·simp only[Result.andThen_ok,h1];rfl

theorem b0P {MT T E:TypeId} (hk:KeyOk P T kv) (hm:P.underlying MT=some (.map T E)) {z:Value} (hz:∀w,(zeroValue E).run P w= .ok z w) {w:World} {r:Nat} {l:List (K×Value)} (h:a7c w r kv l) (k:K) (c:Bool):
  (Instr.lookup MT (.map (some r)) (kv k) c).run P w= .ok (if c then .tuple #[(R3 l k).getD z, .bool (R3 l k).isSome]else(R3 l k).getD z) w:=by
 obtain⟨es,clock,h1,h2,_,_⟩:=h;have hf:=a1O hk k w es.toList l h2;have ha:=a9a l k 0;unfold Instr.lookup;simp only[Sem.run_bind,run_underlying hm,Result.andThen_ok,rgo h1,Sem.run_pure,hk.check,hf];rw[<- ha];cases fi l k 0 with
 | none=>simp only[Sem.run_bind,hz,Result.andThen_ok,Sem.run_pure,O5,Option.getD_none,Option.isSome_none]
 | some x=>simp only[Sem.run_bind,Result.andThen_ok,Sem.run_pure,C9,j4,a2J]

theorem a8K (l:List (K×Value)) (k:K):∀i j v,fi l k i=some (j,v)->i<=j/\j<i+l.length:=by
 induction l with
 | nil=>intro i j v h;cases h
 | cons x l ih=>
  intro i j v h;unfold fi at h;split at h
  ·injection h with h;injection h with h1 h2;subst h1;simp
  ·have:=ih _ _ _ h;simp;omega

theorem a4W:∀(es:List MapEntry) (l:List (K×Value)) (k:K) (v:Value) (i j:Nat) (u:Value),es.map (λe=>(e.key,e.val))=l.map (λx=>(kv x.1,x.2))->fi l k i=some (j,u)->
  (es.modify (j-i) λe=>{e with key:=kv k,val:=v}).map (λe=>(e.key,e.val))=(a1F l k v).map (λx=>(kv x.1,x.2))/\(es.modify (j-i) λe=>{e with key:=kv k,val:=v}).map (·.born)=es.map (·.born)
 | [],[],k,v,i,j,u,_,h=>by cases h
 | e::es,x::l,k,v,i,j,u,h,hf=>by
  simp only[n8,U9,C7]at h;obtain⟨⟨h1,h2⟩,h3⟩:=h;unfold fi at hf;split at hf
  ·rename_i hh;injection hf with hf;injection hf with e1 e2;subst e1;simp[a1F,hh,h3]
  ·rename_i hh;have hl:=a8K _ _ _ _ _ hf;have ih:=a4W es l k v (i+1) j u h3 hf;obtain⟨m,hm⟩:∃m,j-i=m+1:=⟨j-(i+1),by omega⟩;have hm2:j-(i+1)=m:=by omega
   rw[hm2]at ih;simp[hm,a1F,hh,h1,h2,ih.1,ih.2]
 | [],_::_,_,_,_,_,_,h,_=>by simp at h
 | _::_,[],_,_,_,_,_,h,_=>by simp at h
theorem c0F (l:List (K×Value)) (k:K) (v:Value):∀i,fi l k i=none->a1F l k v=l++[(k,v)]:=by
 induction l with
 | nil=>intro i _;rfl
 | cons x l ih=>
  intro i h;unfold fi at h;split at h
  ·cases h
  ·rename_i hh;simp[a1F,hh,ih _ h]

def World.putObj' (w:World) (r:Nat) (o:Obj):World:={w with heap:=w.heap.setIfInBounds r o}
theorem Y7 (w:World) (r:Nat) (o:Obj):w.grownBy (World.putObj' w r o) (some r):=
 ⟨rfl,rfl,rfl,by simp[World.putObj'],λk _ hk=>by simp only[World.putObj'];rw[Array.getElem?_setIfInBounds];rw[d4 (λe=>hk (by rw[e]))]⟩

theorem a7g {MT T E:TypeId} (hk:KeyOk P T kv) (hm:P.underlying MT=some (.map T E)) {w:World} {r:Nat} {l:List (K×Value)} (h:a7c w r kv l) (k:K) (v:Value):
  ∃w',(Instr.mapUpdate MT (.map (some r)) (kv k) v).run P w= .ok () w'/\a7c w' r kv (a1F l k v)/\w.grownBy w' (some r)/\w'.heap.size=w.heap.size:=by
 obtain⟨es,clock,h1,h2,h3,h4⟩:=h;have hf:=a1O hk k w es.toList l h2;have hr:r<w.heap.size:=(Array.getElem?_eq_some_iff.1 h1).1;unfold Instr.mapUpdate;simp only[Sem.run_bind,run_underlying hm,Result.andThen_ok,rgo h1,hk.check,hf];cases hfi:fi l k 0 with
 | none=>
  have hp:=c0F l k v 0 hfi;refine⟨World.putObj' w r (.map (es.push {key:=kv k,val:=v,born:=clock}) (clock+1)),?_,⟨es.push {key:=kv k,val:=v,born:=clock},clock+1,?_,?_,?_,?_⟩,Y7 _ _ _,by simp[World.putObj']⟩
  ·simp only[rso _ h1];rfl
  ·simp[World.putObj',hr]
  ·rw[hp];simp[h2]
  ·simp only[Array.toList_push,s8,n8,S8];rw[M7];refine⟨h3,by simp,?_⟩;intro a ha b hb;simp at hb;obtain⟨e,he,rfl⟩:=List.mem_map.1 ha;have:=h4 e he;omega
  ·intro e he;simp at he;rcases he with he | rfl
   ·have:=h4 e (by simpa using he);omega
   ·simp
 | some x=>
  obtain⟨j,u⟩:=x;have hl:=a8K _ _ _ _ _ hfi;have hmp:=a4W es.toList l k v 0 j u h2 hfi;rw[a3k]at hmp;have hlen:es.toList.length=l.length:=by have:=congrArg List.length h2;simpa using this
  have hj:j<es.size:=by simp at hlen;omega
  have hkey:((es[j]?).map (·.key)).getD (kv k)=kv k:=by
   have hx:(es.toList.map (λe=>(e.key,e.val)))[j]? =(l.map (λx=>(kv x.1,x.2)))[j]?:=by rw[h2]
   have hfk:∀(l:List (K×Value)) i j u,fi l k i=some (j,u)->(l[j-i]?).map (·.1)=some k:=by
    intro l
    induction l with
    | nil=>intro i j u h;cases h
    | cons x l ih=>
     intro i j u h;unfold fi at h;split at h
     ·rename_i hh;injection h with h;injection h with e1 _;subst e1;simp[hh]
     ·have hl2:=a8K _ _ _ _ _ h;have:=ih _ _ _ h;rw[show j-i=(j-(i+1))+1 from by omega,X0];exact this
   have h5:=hfk l 0 j u hfi;rw[a3k]at h5;rw[i5,i5]at hx;simp only[D8]at hx;cases he:es[j]? with
   | none=>rfl
   | some e=>
    rw[he]at hx;cases hlj:l[j]? with
    | none=>rw[hlj]at hx;simp at hx
    | some y=>
     rw[hlj]at hx h5;simp only[C9,l7,C7]at hx h5;simp[hx.1,h5]
  refine⟨World.putObj' w r (.map (es.modify j λe=>{e with key:=kv k,val:=v}) clock),?_,⟨es.modify j λe=>{e with key:=kv k,val:=v},clock,?_,?_,?_,?_⟩,Y7 _ _ _,by simp[World.putObj']⟩
  ·simp only[hkey,Instr.keyThatStays,hk.bits,a0d,Sem.run_bind,Sem.run_pure,Result.andThen_ok,rso _ h1];rfl
  ·simp[World.putObj',hr]
  ·rw[R4];exact hmp.1
  ·rw[R4,hmp.2];exact h3
  ·intro e he;have:e.born∈(es.modify j λe=>{e with key:=kv k,val:=v}).toList.map (·.born):=L9 he;rw[R4,hmp.2]at this;obtain⟨e',he',hb⟩:=List.mem_map.1 this;have:=h4 e' he';omega

theorem b0r:∀(es:List MapEntry) (l:List (K×Value)) (k:K) (i j:Nat) (u:Value),es.map (λe=>(e.key,e.val))=l.map (λx=>(kv x.1,x.2))->fi l k i=some (j,u)->
  (es.eraseIdx (j-i)).map (λe=>(e.key,e.val))=(a5f l k).map (λx=>(kv x.1,x.2))
 | [],[],k,i,j,u,_,h=>by cases h
 | e::es,x::l,k,i,j,u,h,hf=>by
  simp only[n8,U9,C7]at h;obtain⟨⟨h1,h2⟩,h3⟩:=h;unfold fi at hf;split at hf
  ·rename_i hh;injection hf with hf;injection hf with e1 e2;subst e1;simp[a5f,hh,h3]
  ·rename_i hh;have hl:=a8K _ _ _ _ _ hf;have ih:=b0r es l k (i+1) j u h3 hf;obtain⟨m,hm⟩:∃m,j-i=m+1:=⟨j-(i+1),by omega⟩;have hm2:j-(i+1)=m:=by omega
   rw[hm2]at ih;simp[hm,a5f,hh,h1,h2,ih]
 | [],_::_,_,_,_,_,h,_=>by simp at h
 | _::_,[],_,_,_,_,h,_=>by simp at h
theorem a6U (l:List (K×Value)) (k:K):∀i,fi l k i=none->a5f l k=l:=by
 induction l with
 | nil=>intro i _;rfl
 | cons x l ih=>
  intro i h;unfold fi at h;split at h
  ·cases h
  ·rename_i hh;simp[a5f,hh,ih _ h]
theorem b0Q {MT T E ty:TypeId} {ats:Array TypeId} (hk:KeyOk P T kv) (hm:P.underlying MT=some (.map T E)) (hat:ats[0]? =some MT) {w:World} {r:Nat} {l:List (K×Value)} (h:a7c w r kv l) (k:K):
  ∃w',(Builtin.delete_ ats ty #[.map (some r),kv k]).run P w= .ok (.tuple #[]) w'/\a7c w' r kv (a5f l k)/\w.grownBy w' (some r)/\w'.heap.size=w.heap.size:=by
 obtain⟨es,clock,h1,h2,h3,h4⟩:=h;have hf:=a1O hk k w es.toList l h2;have hr:r<w.heap.size:=(Array.getElem?_eq_some_iff.1 h1).1;unfold Builtin.delete_;have e0:(#[Value.map (some r),kv k]:Array Value)[0]? =some (.map (some r)):=rfl;have e1:(#[Value.map (some r),kv k]:Array Value)[1]? =some (kv k):=rfl;simp only[hat,e0,e1,Sem.run_bind,run_underlying hm,Result.andThen_ok,rgo h1,hk.check,hf];cases hfi:fi l k 0 with
 | none=>
  have hp:=a6U l k 0 hfi;refine⟨World.putObj' w r (.map es clock),?_,⟨es,clock,by simp[World.putObj',hr],by rw[hp];exact h2,h3,h4⟩,Y7 _ _ _,by simp[World.putObj']⟩;simp only[Sem.run_bind,rso _ h1,Result.andThen_ok,Sem.run_pure];rfl
 | some x=>
  obtain⟨j,u⟩:=x;have hl:=a8K _ _ _ _ _ hfi;have hmp:=b0r es.toList l k 0 j u h2 hfi;rw[a3k]at hmp;have hlen:es.toList.length=l.length:=by have:=congrArg List.length h2;simpa using this
  have hj:j<es.size:=by simp at hlen;omega
  have hto:(es.eraseIdxIfInBounds j).toList=es.toList.eraseIdx j:=by simp
  refine⟨World.putObj' w r (.map (es.eraseIdxIfInBounds j) clock),?_,⟨es.eraseIdxIfInBounds j,clock,by simp[World.putObj',hr],by rw[hto];exact hmp,?_,?_⟩,Y7 _ _ _,by simp[World.putObj']⟩
  ·simp only[Sem.run_bind,rso _ h1,Result.andThen_ok,Sem.run_pure];rfl
  ·rw[hto];exact List.Nodup.sublist ((List.eraseIdx_sublist _ _).map _) h3
  ·intro e he;rw[hto]at he;exact h4 e (R8 he)
end

section
variable {P : Program} {K : Type} [DecidableEq K] {kv : K → Value} {ops : Array Oper} {rest : List Oper} {dst : Option Tmp} {ty : TypeId} {pos : String} {after : Array Edge} {a : Act} {w : World} {Q : Exit → Act → World → Prop}
end

def slv (a:Option Nat) (n cap:Nat):Value:= .slice (match a with | some g=>some ⟨g,0,none⟩ | none=>none) n cap
def a1j (e size:Nat) (a:Option Nat) (n cap:Nat) (xs:List Value) (h:Hl):Prop:=
 xs.length=n*size/\match a with
  | none=>n=0/\cap=0
  | some g=>∃cur:Array Value,h g=some (.cells cur e (0,0))/\n<=cap/\cap<=maxLen/\cur.size=cap*size/\cur.toList.take (n*size)=xs
def l9 (e size:Nat) (a:Option Nat) (n cap:Nat) (xs:List Value):Atom:= .hp ⟨a1j e size a n cap xs,λh h' l s=>by
 refine⟨s.1,?_⟩;have:=s.2;cases a with
 | none=>exact this
 | some g=>obtain⟨cur,h1,h2⟩:=this;exact⟨cur,l _ _ h1,h2⟩⟩
def b3A {K:Type} (r:Nat) (kv:K->Value) (l:List (K×Value)) (h:Hl):Prop:=
 ∃es clock,h r=some (.map es clock)/\es.toList.map (λe=>(e.key,e.val))=l.map (λx=>(kv x.1,x.2))/\(es.toList.map (·.born)).Nodup/\∀e∈es.toList,e.born<clock
def W4 {K:Type} (r:Nat) (kv:K->Value) (l:List (K×Value)):Atom:= .hp ⟨b3A r kv l,λ_ _ l ⟨es,c,h1,h2⟩=>⟨es,c,l _ _ h1,h2⟩⟩
section
variable {L : List Atom} {w w' : World}
theorem a8j {e size:Nat} {a:Option Nat} {n cap:Nat} {xs:List Value} (h:a1j e size a n cap xs (hl w)):w.ownsRow 0 e size (slv a n cap) n xs:=by
 refine⟨h.1,?_⟩;cases a with
 | none=>obtain⟨rfl,rfl⟩:=h.2;exact .inl ⟨rfl,rfl⟩
 | some g=>obtain⟨cur,h1,h2,h3,h4,h5⟩:=h.2;exact .inr ⟨g,cap,cur,rfl,j8 _,h1,h2,h3,h4,h5⟩
theorem b1U {e size:Nat} {v:Value} {n:Nat} {xs:List Value} (h:w.ownsRow 0 e size v n xs):∃a cap,v=slv a n cap/\a1j e size a n cap xs (hl w)/\v.ownBlock=a:=by
 rcases h.2 with⟨rfl,rfl⟩ | ⟨g,cap,cur,rfl,_,h1,h2,h3,h4,h5⟩
 ·exact⟨none,0,rfl,⟨h.1,rfl,rfl⟩,rfl⟩
 ·exact⟨some g,cap,rfl,⟨h.1,cur,h1,h2,h3,h4,h5⟩,rfl⟩
theorem Sep.step {i:Nat} {A A':Atom} {x x':Option Nat} (s:Sep L (hl w)) (hA:L[i]? =some A) (hx:∀h g,A.sat h->x=some g->∃o,h g=some o) (hg:w.grownBy w' x) (hx':x'=x\/x'=some w.heap.size) (hA':∀h,(∀g,x'=some g->h g=hl w' g)->A'.sat h):Sep (L.set i A') (hl w'):=by
 obtain⟨own,hw⟩:=s;have hi:i<L.length:=(List.getElem?_eq_some_iff.1 hA).1;have hown:∀g,x=some g->own g=i:=λg e=>by
  obtain⟨o,ho⟩:=hx _ g (hw i A hA) e;exact(res_some.1 ho).1
 refine⟨λb=>if x'=some b then i else own b,λj B hB=>?_⟩;rw[A9]at hB;split at hB
 ·rename_i e;injection hB with hB;subst hB;subst e;refine hA' _ λg hg'=>?_;unfold res;rw[d7 (by simp[hg'])]
 ·rename_i e;refine Atom.up (λb o hb=>?_) (hw j B hB);rw[res_some]at hb ⊢;have hlt:b<w.heap.size:=by
   rcases L8 b w.heap.size with h | h
   ·exact h
   ·have:=hb.2;simp only[hl]at this;rw[Q7 h]at this;cases this
  have hnx:x≠some b:=λe'=>e ((hown b e').symm.trans hb.1);have hnx':x'≠some b:=by
   rcases hx' with e' | e'
   ·rw[e'];exact hnx
   ·rw[e'];intro e2;injection e2 with e2;omega
  refine⟨by rw[d4 hnx'];exact hb.1,?_⟩;have:=hg.block b hlt (λe'=>hnx e'.symm);simp only[hl]at hb ⊢;rw[this];exact hb.2
theorem Ext.grown {x:Option Nat} (h:w.grownBy w' x):Ext w w':=⟨h.os,h.tape,h.output,h.size⟩
end
section
variable {X : Cx} {P : Program} {T : Tab} {K : List KI} {E : Env} {L : List Atom} {N : Nat} {F : HP} {Post : Value → List Atom → Prop} {rs : List ResultVar}
theorem J.append (hX:IsCx X P rs N F Post) (hT:TabOK P T) {ops:Array Oper} {C:Cl} {lt:Bool} {i:Nat} {t:PT} {o:Oper} {g:G} {x y:Operand} {st e size by_:Nat} {ks tgs:Nat} {gs:G} {a:Option Nat} {n cap:Nat} {xs:List Value} {ky tgy:Nat} {gy:G} {b m c ty:Nat} {cs:List Value} {s1 b1:Nat} {z1:List Value} {E':Value->Env} (is iy tag:Nat)
  (ho:J2 ops.toList i=some o) (hg:gd ops.toList E o=some g) (hgo:g.on=true) (hop:o.op= .call ⟨.builtin .append,#[x,y],#[st,st]⟩)
  (hx:ev E x=some ⟨ks,slv a n cap,tgs,gs⟩) (hvx:gs.on=true) (hy:ev E y=some ⟨ky, .slice (some ⟨b,0,none⟩) m c,tgy,gy⟩) (hvy:gy.on=true)
  (hLs:J2 L is=some (l9 e size a n cap xs)) (hLy:J2 L iy=some (.pt b ty cs)) (hst:T.get st=some ⟨.slice e size,s1,z1,b1⟩) {td:TD} {z:List Value} (he:T.get e=some ⟨td,size,z,by_⟩) (hz:Nat.beq z.length size=true)
  (hsz:Nat.blt 0 size=true) (hcs:cs.length=m*size) (h1:cs.all (·.oneCell')=true) (h63:n+m<=maxLen) (hbytes:(n+m)*by_<=140737488355328)
  (hd:∀v,Y5 N o.dst v tag .tt E=some (E' v))
  (hJ:∀a' cap',∃L',V2 L is (l9 e size a' (n+m) cap' (xs++cs))=some L'/\Conj (M6 lt C L')/\J X (.reg ops C t::K) (E' (slv a' (n+m) cap')) L'):J X (.reg ops C (.alt lt i t .non)::K) E L:=by
 refine J.op hX (S:=λv L'=>∃a' cap',v=slv a' (n+m) cap'/\L'=L.set is (l9 e size a' (n+m) cap' (xs++cs))) tag ho hg hgo (λa0 w hen hs=>?_) hd (λv L' ⟨a',cap',e1,e2⟩=>by subst e1;subst e2;obtain⟨L2,q1,q2⟩:=hJ a' cap';rw[<- V0 q1];exact q2);obtain⟨d,f,zv,ok⟩:=C1 (hT.get hst);obtain⟨fe,rfl,g1,g2⟩:=ok.slice rfl;obtain⟨d',f',zv',ok'⟩:=C1 (hT.get he);have hf:fe=f':=by have:=g1.symm.trans ok'.hf;injection this
 subst hf;have hzz:z=zv'.cells.toList:=ok'.hzero;subst hzz;rw[J1]at hLs hLy;have hrow:=a8j (hs.get hLs);have hblk:Blk w b ty cs.toArray:=hs.pt hLy;have hnews:∀j u,cs[j]? =some u->w.cell? ((⟨b,0,none⟩:Addr).add j)=some u:=λj u hu=>by
  rw[Addr.add_none,hblk.cell,J6];simpa using hu
 have h1':∀u∈cs,u.oneCell'=true:=by simpa using h1
 obtain⟨v',w',r1,r2,r3,_,r5⟩:=run_append_own_at (P:=P) w 0 st o.type e fe zv' size by_ ok.hd ok'.hf ok'.hz g2 ok'.hbytes.symm (by have:=D1 hz;simpa using this) (L5 hsz) _ n xs hrow ⟨b,0,none⟩ m c cs hcs hnews h1' h63 hbytes (j8 _);obtain⟨a',cap',e1,e2,e3⟩:=b1U r2;subst e1;have ex:=C8 hen hx;have ey:=C8 hen hy;simp only[Slot.val,hvx,hvy]at ex ey;refine⟨_,_, .value (slv a' (n+m) cap'),w',⟨a',cap',rfl,rfl⟩,?_, .inl rfl,?_,Ext.grown r3⟩
 ·simp only[execOp,hop,resolve,Sem.run_bind,Sem.run_pure,Result.andThen_ok,invoke,builtin,a3S,n8,S8,ex,ey,r1]
 ·refine Sep.step hs hLs (x:=(slv a n cap).ownBlock) (x':=a') (λh g0 hh he0=>?_) r3 (by rw[<- e3];exact r5) (λh hh=>⟨e2.1,?_⟩)
  ·cases a with
   | none=>simp[slv,Value.ownBlock]at he0
   | some ga=>
    simp only[slv,Value.ownBlock,l7]at he0;subst he0;obtain⟨cur,h1,_⟩:=hh.2;exact⟨_,h1⟩
  ·have e22:=e2.2;cases a' with
   | none=>exact e22
   | some ga=>
    obtain⟨cur,q1,q2⟩:=e22;exact⟨cur,(hh ga rfl).trans q1,q2⟩
def TD.one:TD->Bool
 | .row _ | .arr _ _=>false
 | _=>true
section
variable {P : Program} {T : Tab} {E : Env} {n : Nat} {a : Act} {w : World}
theorem TIOK.one {t:TypeId} {i:TI} {d:TypeDesc} {f:TypeInfo} {z:Value} (ok:TIOK P t i d f z) (h:i.d.one=true):a0v d=false:=by
 have htd:=ok.htd;cases d<;>simp[a0v]<;>simp[a7f]at htd
 ·obtain⟨g,h1,h2⟩:=htd;rw[<- h2]at h;cases h
 ·obtain⟨g,h1,h2⟩:=htd;rw[<- h2]at h;cases h
theorem TIOK.many {t:TypeId} {i:TI} {d:TypeDesc} {f:TypeInfo} {z:Value} (ok:TIOK P t i d f z) (h:i.d.one=false):a0v d=true:=by
 have htd:=ok.htd;cases d<;>first | rfl | (simp[a7f]at htd;(try obtain⟨g,h1,h2⟩:=htd);first | (rw[<- htd]at h;cases h) | (rw[<- h2]at h;cases h))
theorem B6 (hT:TabOK P T) {o:Oper} {t:TypeId} {x:Operand} {k tg b off ty:Nat} {g:G} {ti:TI} {cs:List Value} {v:Value} (hop:o.op= .load t x) (hx:ev E x=some ⟨k, .pointer (some ⟨b,off,none⟩),tg,g⟩) (he:EnvOK n E a) (hg:g.on=true) (hti:T.get t=some ti) (h1:ti.d.one=true)
  (hb:hl w b=some (.cells cs.toArray ty (0,0))) (hv:cs[off]? =some v):(execOp a.eval o).run P w= .ok (.value v) w:=by
 have ex:=C8 he hx;simp only[Slot.val,hg]at ex;obtain⟨d,f,z,ok⟩:=C1 (hT.get hti);have hblk:Blk w b ty cs.toArray:=hb;have hc:w.cell? ⟨b,off,none⟩=some v:=by rw[hblk.cell];simpa using hv
 simp only[execOp,hop,ex,Instr.loadAt,Instr.sureAddr,Sem.run_bind,Sem.run_pure,Result.andThen_ok,a2f ok.hd (ok.one h1) hc]
theorem H7 (hT:TabOK P T) {o:Oper} {t:TypeId} {x:Operand} {k tg b off ty:Nat} {g:G} {ti:TI} {cs l:List Value} (hop:o.op= .load t x) (hx:ev E x=some ⟨k, .pointer (some ⟨b,off,none⟩),tg,g⟩) (he:EnvOK n E a) (hg:g.on=true) (hti:T.get t=some ti) (h1:ti.d.one=false)
  (hb:hl w b=some (.cells cs.toArray ty (0,0))) (hv:(cs.drop off).take ti.size=l) (hl:l.length=ti.size):(execOp a.eval o).run P w= .ok (.value (.agg l.toArray)) w:=by
 have ex:=C8 he hx;simp only[Slot.val,hg]at ex;obtain⟨d,f,z,ok⟩:=C1 (hT.get hti);have hblk:Blk w b ty cs.toArray:=hb;have hm:=ok.many h1;have hr:=run_loadVar_mid (P:=P) w b off t l d (a6H hblk off l (by rw[hl];exact hv)) ok.hd (by cases d<;>simp_all [a0v,TypeDesc.isRow]) (by rw[ok.hf];simp[hl,ok.hsize]);simp only[execOp,hop,ex,Instr.loadAt,Instr.sureAddr,Sem.run_bind,Sem.run_pure,Result.andThen_ok,hr]
end
section
variable {P : Program} {T : Tab} {E : Env} {n : Nat} {a : Act} {w : World}
theorem I4 (hT:TabOK P T) {o:Oper} {t:TypeId} {x:Operand} {k tg b off e size m cap:Nat} {g:G} {ti:TI} {xs:List Value} {v:Value} (hop:o.op= .load t x) (hx:ev E x=some ⟨k, .pointer (some ⟨b,off,none⟩),tg,g⟩) (he:EnvOK n E a) (hg:g.on=true) (hti:T.get t=some ti) (h1:ti.d.one=true)
  (hb:a1j e size (some b) m cap xs (hl w)) (hv:xs[off]? =some v):(execOp a.eval o).run P w= .ok (.value v) w:=by
 obtain⟨_,cur,h2,h3,h4,h5,h6⟩:=hb;refine B6 hT hop hx he hg hti h1 (cs:=cur.toList) (ty:=e) (by rw[h2]) ?_;rw[<- h6,C6]at hv;split at hv
 ·exact hv
 ·cases hv
theorem M3 (hT:TabOK P T) {o:Oper} {t:TypeId} {x:Operand} {k tg b off e size m cap:Nat} {g:G} {ti:TI} {xs l:List Value} (hop:o.op= .load t x) (hx:ev E x=some ⟨k, .pointer (some ⟨b,off,none⟩),tg,g⟩) (he:EnvOK n E a) (hg:g.on=true) (hti:T.get t=some ti) (h1:ti.d.one=false)
  (hb:a1j e size (some b) m cap xs (hl w)) (hv:(xs.drop off).take ti.size=l) (hl:l.length=ti.size):(execOp a.eval o).run P w= .ok (.value (.agg l.toArray)) w:=by
 obtain⟨h0,cur,h2,h3,h4,h5,h6⟩:=hb;refine H7 hT hop hx he hg hti h1 (cs:=cur.toList) (ty:=e) (by rw[h2]) ?_ hl;have:off+ti.size<=xs.length\/ti.size=0:=by
  have:=congrArg List.length hv;simp at this;omega
 rcases this with h | h
 ·rw[<- hv,<- h6];apply z8;intro j;simp only[C6,J5];split
  ·rw[d7 (by omega)]
  ·rfl
 ·rw[<- hv,h];simp
end
section
variable {P : Program} {KK : Type} [DecidableEq KK] {kv : KK → Value} {E : Env} {L : List Atom} {n : Nat} {a : Act} {w : World}
theorem I5 {KT MT ET:TypeId} (hk:KeyOk P KT kv) (hm:P.underlying MT=some (.map KT ET)) {z:Value} (hz:∀w,(zeroValue ET).run P w= .ok z w) {o:Oper} {x y:Operand} {c:Bool} {r:Nat} {l:List (KK×Value)} {key:KK} {k1 k2 t1 t2:Nat} {g1 g2:G} {u:Value}
  (hop:o.op= .lookup MT x y c) (hx:ev E x=some ⟨k1, .map (some r),t1,g1⟩) (hy:ev E y=some ⟨k2,u,t2,g2⟩) (hu:u=kv key) (he:EnvOK n E a) (v1:g1.on=true) (v2:g2.on=true) (hmap:b3A r kv l (hl w)):
  (execOp a.eval o).run P w= .ok (.value (match c with | true=> .tuple #[(R3 l key).getD z, .bool (R3 l key).isSome] | false=>(R3 l key).getD z)) w:=by
 have ex:=C8 he hx;have ey:=C8 he hy;simp only[Slot.val,v1,v2]at ex ey;have hr:=b0P (P:=P) hk hm hz (w:=w) hmap key c;rw[hu]at ey;simp only[execOp,hop,ex,ey,Sem.run_bind,hr,Result.andThen_ok,Sem.run_pure];cases c<;>rfl
theorem a6N {KT MT ET:TypeId} (hm:P.underlying MT=some (.map KT ET)) {o:Oper} {x:Operand} {r:Nat} {l:List (KK×Value)} {k1 t1:Nat} {g1:G} (hop:o.op= .call ⟨.builtin .len,#[x],#[MT]⟩) (hx:ev E x=some ⟨k1, .map (some r),t1,g1⟩) (he:EnvOK n E a) (v1:g1.on=true) (hmap:b3A r kv l (hl w)):
  (execOp a.eval o).run P w= .ok (.value (.int .i64 (l.length:Int))) w:=by
 have ex:=C8 he hx;simp only[Slot.val,v1]at ex;obtain⟨es,cl,h1,h2,_⟩:=hmap;have hl:es.size=l.length:=by have:=congrArg List.length h2;simpa using this
 have hgo:(getObj r).run P w= .ok (.map es cl) w:=rgo h1;simp[execOp,hop,resolve,invoke,builtin,Builtin.len_,ex,s9 hm,hgo,goInt,hl]
end
section
variable {X : Cx} {P : Program} {K : List KI} {E : Env} {L : List Atom} {N : Nat} {F : HP} {Post : Value → List Atom → Prop} {rs : List ResultVar} {KK : Type} [DecidableEq KK] {kv : KK → Value}
theorem Sep.mapStep {w w':World} {i r:Nat} {l l':List (KK×Value)} (s:Sep L (hl w)) (hA:L[i]? =some (W4 r kv l)) (hg:w.grownBy w' (some r)) (hm:a7c w' r kv l'):Sep (L.set i (W4 r kv l')) (hl w'):=
 Sep.step s hA (x:=some r) (x':=some r) (λh g ⟨es,c,h1,_⟩ e=>by injection e with e;subst e;exact⟨_,h1⟩) hg (.inl rfl) (λh hh=>by
  obtain⟨es,c,h1,h2⟩:=hm;exact⟨es,c,(hh r rfl).trans h1,h2⟩)
theorem J.mapUpdate (hX:IsCx X P rs N F Post) {KT MT ET:TypeId} (hk:KeyOk P KT kv) (hm:P.underlying MT=some (.map KT ET)) {ops:Array Oper} {C:Cl} {lt:Bool} {i:Nat} {t:PT} {o:Oper} {g:G} {x y u:Operand} {r:Nat} {l:List (KK×Value)} (key:KK) {k1 k2 k3 t1 t2 t3:Nat} {g1 g2 g3:G} {kvv v:Value} {E':Value->Env} (im:Nat)
  (ho:J2 ops.toList i=some o) (hg:gd ops.toList E o=some g) (hgo:g.on=true) (hop:o.op= .mapUpdate MT x y u) (hx:ev E x=some ⟨k1, .map (some r),t1,g1⟩) (v1:g1.on=true) (hy:ev E y=some ⟨k2,kvv,t2,g2⟩) (v2:g2.on=true) (hkv:kvv=kv key) (hu:ev E u=some ⟨k3,v,t3,g3⟩) (v3:g3.on=true)
  (hL:J2 L im=some (W4 r kv l)) (hd:∀v,Y5 N o.dst v 0 .tt E=some (E' v)) {L2:List Atom} (hL2:V2 L im (W4 r kv (a1F l key v))=some L2) (hJ:Conj (M6 lt C L2)/\J X (.reg ops C t::K) (E' undef) L2):J X (.reg ops C (.alt lt i t .non)::K) E L:=by
 refine J.op hX (S:=λv' L'=>v'=undef/\L'=L.set im (W4 r kv (a1F l key v))) 0 ho hg hgo (λa0 w hen hs=>?_) hd (λv L' ⟨e1,e2⟩=>by subst e1;subst e2;rw[<- V0 hL2];exact hJ);rw[J1]at hL;have ex:=C8 hen hx;have ey:=C8 hen hy;have eu:=C8 hen hu;simp only[Slot.val,v1,v2,v3]at ex ey eu;rw[hkv]at ey;have hmap:a7c w r kv l:=hs.get hL;obtain⟨w',r1,r2,r3,r4⟩:=a7g (P:=P) hk hm hmap key v;exact⟨undef,_, .skip,w',⟨rfl,rfl⟩,by simp only[execOp,hop,ex,ey,eu,Sem.run_bind,r1,Result.andThen_ok,Sem.run_pure], .inr ⟨rfl,rfl⟩,Sep.mapStep hs hL r3 r2,Ext.grown r3⟩
theorem J.delete (hX:IsCx X P rs N F Post) {KT MT ET:TypeId} (hk:KeyOk P KT kv) (hm:P.underlying MT=some (.map KT ET)) {ops:Array Oper} {C:Cl} {lt:Bool} {i:Nat} {t:PT} {o:Oper} {g:G} {x y:Operand} {r:Nat} {l:List (KK×Value)} (key:KK) {k1 k2 t1 t2 t3:Nat} {g1 g2:G} {kvv:Value} {E':Value->Env} (im:Nat)
  (ho:J2 ops.toList i=some o) (hg:gd ops.toList E o=some g) (hgo:g.on=true) (hop:o.op= .call ⟨.builtin .delete,#[x,y],#[MT,t3]⟩) (hx:ev E x=some ⟨k1, .map (some r),t1,g1⟩) (v1:g1.on=true) (hy:ev E y=some ⟨k2,kvv,t2,g2⟩) (v2:g2.on=true) (hkv:kvv=kv key)
  (hL:J2 L im=some (W4 r kv l)) (hd:∀v,Y5 N o.dst v 0 .tt E=some (E' v)) {L2:List Atom} (hL2:V2 L im (W4 r kv (a5f l key))=some L2) (hJ:Conj (M6 lt C L2)/\J X (.reg ops C t::K) (E' (.tuple #[])) L2):J X (.reg ops C (.alt lt i t .non)::K) E L:=by
 refine J.op hX (S:=λv' L'=>v'= .tuple #[]/\L'=L.set im (W4 r kv (a5f l key))) 0 ho hg hgo (λa0 w hen hs=>?_) hd (λv L' ⟨e1,e2⟩=>by subst e1;subst e2;rw[<- V0 hL2];exact hJ);rw[J1]at hL;have ex:=C8 hen hx;have ey:=C8 hen hy;simp only[Slot.val,v1,v2]at ex ey;rw[hkv]at ey;have hmap:a7c w r kv l:=hs.get hL;obtain⟨w',r1,r2,r3,r4⟩:=b0Q (P:=P) (ty:=o.type) (ats:= #[MT,t3]) hk hm rfl hmap key;exact⟨_,_, .value (.tuple #[]),w',⟨rfl,rfl⟩,by simp only[execOp,hop,resolve,Sem.run_bind,Sem.run_pure,Result.andThen_ok,invoke,builtin,a3S,n8,S8,ex,ey,r1], .inl rfl,Sep.mapStep hs hL r3 r2,Ext.grown r3⟩
theorem b2o {α:Type} {v:α}:∀{cs:List α} {off:Nat},off<cs.length->a2c cs off [v]=some (cs.set off v)
 | [],_,h=>by simp at h
 | c::cs,0,_=>by cases cs<;>rfl
 | c::cs,k+1,h=>by simp only[a2c,S9,b2o (cs:=cs) (off:=k) (by simpa using h)]
theorem J.store1 {T:Tab} (hX:IsCx X P rs N F Post) (hT:TabOK P T) {ops:Array Oper} {C:Cl} {lt:Bool} {i:Nat} {t:PT} {o:Oper} {g:G} {ty0:TypeId} {x y:Operand} {k1 k2 t1 t2 b off ty:Nat} {g1 g2:G} {v:Value} {cs:List Value} {ti:TI} {E':Value->Env} (is:Nat)
  (ho:J2 ops.toList i=some o) (hg:gd ops.toList E o=some g) (hgo:g.on=true) (hop:o.op= .store ty0 x y) (hx:ev E x=some ⟨k1, .pointer (some ⟨b,off,none⟩),t1,g1⟩) (v1:g1.on=true) (hy:ev E y=some ⟨k2,v,t2,g2⟩) (v2:g2.on=true)
  (hti:T.get ty0=some ti) (hsz:Nat.beq ti.size 1=true) (hc:v.cells.toList=[v]) (h1:v.oneCell'=true) (hL:J2 L is=some (.pt b ty cs)) (hlt:off<cs.length) (cs':List Value) (hcs:cs.set off v=cs') {L2:List Atom} (hL2:V2 L is (.pt b ty cs')=some L2)
  (hd:∀v,Y5 N o.dst v 0 .tt E=some (E' v)) (hJ:Conj (M6 lt C L2)/\J X (.reg ops C t::K) (E' undef) L2):J X (.reg ops C (.alt lt i t .non)::K) E L:=by
 refine J.op hX (S:=λv' L'=>v'=undef/\L'=L.set is (.pt b ty cs')) 0 ho hg hgo (λa0 w hen hs=>?_) hd (λv L' ⟨e1,e2⟩=>by subst e1;subst e2;rw[<- V0 hL2];exact hJ);rw[J1]at hL;have ex:=C8 hen hx;have ey:=C8 hen hy;simp only[Slot.val,v1,v2]at ex ey;obtain⟨d,f,z,ok⟩:=C1 (hT.get hti);have hblk:Blk w b ty cs.toArray:=hs.pt hL;have hput:a2c cs (off+0) [v]=some cs':=by rw[Q4,<- hcs];exact b2o hlt
 obtain⟨w',r1,r2,r3⟩:=a0g (P:=P) [v] 0 w cs cs' hblk hput (by simp[h1]);have hsize:v.cells.size=f.size:=by
  have:=D1 hsz;rw[<- ok.hsize,this,<- R5,hc];rfl
 refine⟨undef,_, .skip,w',⟨rfl,rfl⟩,?_, .inr ⟨rfl,rfl⟩,?_,r3⟩
 ·simp only[execOp,hop,ex,ey,Instr.storeAt,Instr.sureAddr,Sem.run_bind,Sem.run_pure,Result.andThen_ok,storeVar,I9 ok.hf];simp[hsize,hc,r1]
 ·rw[r2];exact hs.setPt cs' hL
end
end
end
section
open Go.RowKit

abbrev A3:=Int×Int×Int
def a3c (a:A3):List Value:=[.int .i64 a.1, .int .i64 a.2.1, .int .i64 a.2.2]
def a3v (a:A3):Value:= .agg #[.int .i64 a.1, .int .i64 a.2.1, .int .i64 a.2.2]
theorem b7X:X3 Tryz.prog 100 39=some [.int .i64, .int .i64, .int .i64]:=by kernel_rfl
theorem c2f (a b:A3):H8 (a3c a) (a3c b)=decide (a=b):=by
 obtain⟨a1,a2,a3⟩:=a;obtain⟨b1,b2,b3⟩:=b;rw[a2v];simp[a3c,H8,a5e]
theorem a1f:KeyOk Tryz.prog 39 a3v where
 now:=⟨_,Tryz.underlying39,λ_ _=> .inl rfl⟩
 eq:=λa b w=>by
  have hm:∀xs,mkV Tryz.prog 39 xs= .agg xs.toArray:=λxs=>by simp[mkV,Tryz.underlying39]
  have:=a0j 100 39 _ b7X 10000 (by omega) (a3c a) (a3c b) ⟨rfl,rfl,rfl,trivial⟩ ⟨rfl,rfl,rfl,trivial⟩ w;rw[c2f,hm,hm]at this;exact this
 check:=λe a w=>by kernel_rfl
 bits:=λa=>by
  obtain⟨a1,a2,a3⟩:=a;simp[a3v,Instr.sameBits]

def a0f (l:List A3):List (A3×Value):=l.map λa=>(a, .bool true)
theorem a7b (l:List A3) (a:A3):((R3 (a0f l) a).getD (.bool false)= .bool (decide (a∈l)))/\(R3 (a0f l) a).isSome=decide (a∈l):=by
 induction l with
 | nil=>exact⟨rfl,rfl⟩
 | cons x l ih=>
  simp only[a0f,n8,R3]
  by_cases h:a=x
  ·simp[h]
  ·have:¬(a=(x,Value.bool true).1):=h;simp only[d4 this,I3,h,false_or];exact ih


def b6w (l:List A3) (a:A3):List A3:=if a∈l then l else l++[a]
theorem b4b (l:List A3) (a:A3):a5f (a0f l) a=a0f (l.erase a):=by
 induction l with
 | nil=>rfl
 | cons x l ih=>
  rw[List.erase_cons];simp only[a0f,n8,a5f]
  by_cases h:a=x
  ·subst h;simp
  ·have h2:¬(x==a)=true:=by simpa using Ne.symm h
   rw[d4 h,d4 h2,n8];exact congrArg _ ih
theorem b3Y (l:List A3) (a:A3):a1F (a0f l) a (.bool true)=a0f (b6w l a):=by
 unfold b6w
 induction l with
 | nil=>rfl
 | cons x l ih=>
  simp only[a0f,n8,a1F]
  by_cases h:a=x
  ·subst h;simp
  ·rw[d4 h];have:(a∈x::l)↔a∈l:=by simp[h]
   simp only[this];split
   ·rename_i h3;rw[d7 h3]at ih;simp only[n8];exact congrArg _ ih
   ·rename_i h3;rw[d4 h3]at ih;simp only[V6,n8];exact congrArg _ ih

end
section
open Go Go.RowKit
theorem Sep.one {A:Atom} {h:Hl} (hA:A.sat h):Sep [A] h:=⟨λ_=>0,λi B hB=>by
 cases i with
 | zero=>simp at hB;subst hB;exact A.up (λb o hb=>res_some.2 ⟨rfl,hb⟩) hA
 | succ k=>simp at hB⟩
theorem a8w {α:Type}:∀(cs:List α) (off:Nat) (xs:List α),off+xs.length<=cs.length->a2c cs off xs=some (cs.take off++xs++cs.drop (off+xs.length))
 | cs,0,xs,h=>by
  simp only[a3l,R9,J6];have e:a2c cs 0 xs=a3M cs xs:=by cases cs<;>rfl
  rw[e];clear e
  induction xs generalizing cs with
  | nil=>cases cs<;>rfl
  | cons x xs ih=>
   cases cs with
   | nil=>simp at h
   | cons c cs=>
    simp only[a3M,ih cs (by simp at h ⊢;omega),V6,l6,X8]
 | [],k+1,xs,h=>by simp at h
 | c::cs,k+1,xs,h=>by
  simp only[a2c,a8w cs k xs (by simp at h;omega),a0C,V6];rw[show k+1+xs.length=(k+xs.length)+1 from by omega,X8]
def subV (E:Env):Env->List Prop
 | []=>[]
 | s::r=>((E.get s.k).map Slot.val=some s.val)::subV E r
theorem EnvOK.subV {n:Nat} {E E':Env} {a:Act} (h:EnvOK n E a) (hs:Conj (subV E E')):EnvOK n E' a:=by
 refine⟨h.size,h.defers,?_⟩
 induction E' with
 | nil=>intro k s hk;cases hk
 | cons s' r ih=>
  intro k s hk;simp only[Env.get]at hk;split at hk
  ·rename_i e;have:=D1 e;injection hk with hk;subst hk;subst this;have h1:=hs.1;cases h2:E.get s'.k with
   | none=>rw[h2]at h1;cases h1
   | some u=>
    rw[h2]at h1;have h3:u.val=s'.val:=by simpa using h1
    have:=h.slot _ _ h2;rw[h3]at this;exact this
  ·exact ih hs.2 k s hk
section
variable {X : Cx} {P : Program} {T : Tab} {K : List KI} {E : Env} {L : List Atom} {N : Nat} {F : HP} {Post : Value → List Atom → Prop} {rs : List ResultVar}
theorem J.openOwn {e size g n cap:Nat} {xs:List Value} {L':List Value->List Atom} (i:Nat) (ok:P8 L [i]=true) (hp:O2 L [i]=[l9 e size (some g) n cap xs]) (hL:∀r,a1k L [i] [.pt g e (xs++r)]=some (L' r))
  (h:∀r:List Value,xs.length=n*size->n<=cap->cap<=maxLen->xs.length+r.length=cap*size->J X K E (L' r)):J X K E L:=by
 refine J.turn [i] ok (α:={r:List Value//xs.length=n*size/\n<=cap/\cap<=maxLen/\xs.length+r.length=cap*size}) (As:=λr=>[.pt g e (xs++r.1)]) (L':=λr=>L' r.1) (λh' s=>?_) (λr=>hL r.1) (λr=>h r.1 r.2.1 r.2.2.1 r.2.2.2.1 r.2.2.2.2);rw[hp]at s;obtain⟨h0,cur,h1,h2,h3,h4,h5⟩:=s.get (i:=0) rfl;refine⟨⟨cur.toList.drop (n*size),h0,h2,h3,?_⟩,Sep.one ?_⟩
 ·have hle:n*size<=cap*size:=H9 _ h2;have h4':cur.toList.length=cap*size:=h4;rw[C5,h4',h0];omega
 ·show h' g=_;rw[h1];show some (Obj.cells cur e (0,0))=some (Obj.cells (xs++cur.toList.drop (n*size)).toArray e (0,0));rw[<- h5,C4]
theorem J.closeOwn {e size g n cap:Nat} {xs ys:List Value} {L':List Atom} (i:Nat) (ok:P8 L [i]=true) (hp:O2 L [i]=[.pt g e ys]) (h0:xs.length=n*size) (h2:n<=cap) (h3:cap<=maxLen) (h4:ys.length=cap*size) (h5:ys.take (n*size)=xs)
  (hL:a1k L [i] [l9 e size (some g) n cap xs]=some L') (h:J X K E L'):J X K E L:=by
 refine J.turn1 [i] ok (λh' s=>?_) hL h;rw[hp]at s;exact Sep.one (show a1j e size (some g) n cap xs h' from⟨h0,ys.toArray,s.get (i:=0) rfl,h2,h3,by simpa using h4,by simpa using h5⟩)
theorem J.storeN {T:Tab} (hX:IsCx X P rs N F Post) (hT:TabOK P T) {ops:Array Oper} {C:Cl} {lt:Bool} {i:Nat} {t:PT} {o:Oper} {g:G} {ty0:TypeId} {x y:Operand} {k1 k2 t1 t2 b off ty:Nat} {g1 g2:G} {v:Value} {cs vs:List Value} {ti:TI} {E':Value->Env} (is:Nat)
  (ho:J2 ops.toList i=some o) (hg:gd ops.toList E o=some g) (hgo:g.on=true) (hop:o.op= .store ty0 x y) (hx:ev E x=some ⟨k1, .pointer (some ⟨b,off,none⟩),t1,g1⟩) (v1:g1.on=true) (hy:ev E y=some ⟨k2,v,t2,g2⟩) (v2:g2.on=true)
  (hti:T.get ty0=some ti) (hc:v.cells.toList=vs) (hsz:ti.size=vs.length) (h1:vs.all (·.oneCell')=true) (hL:J2 L is=some (.pt b ty cs)) (hlt:off+vs.length<=cs.length) (cs':List Value) (hcs:cs.take off++vs++cs.drop (off+vs.length)=cs') {L2:List Atom} (hL2:V2 L is (.pt b ty cs')=some L2)
  (hd:∀v,Y5 N o.dst v 0 .tt E=some (E' v)) (hJ:Conj (M6 lt C L2)/\J X (.reg ops C t::K) (E' undef) L2):J X (.reg ops C (.alt lt i t .non)::K) E L:=by
 refine J.op hX (S:=λv' L'=>v'=undef/\L'=L.set is (.pt b ty cs')) 0 ho hg hgo (λa0 w hen hs=>?_) hd (λv L' ⟨e1,e2⟩=>by subst e1;subst e2;rw[<- V0 hL2];exact hJ);rw[J1]at hL;have ex:=C8 hen hx;have ey:=C8 hen hy;simp only[Slot.val,v1,v2]at ex ey;obtain⟨d,f,z,ok⟩:=C1 (hT.get hti);have hblk:Blk w b ty cs.toArray:=hs.pt hL;have hput:a2c cs (off+0) vs=some cs':=by rw[Q4,<- hcs];exact a8w _ _ _ hlt
 obtain⟨w',r1,r2,r3⟩:=a0g (P:=P) vs 0 w cs cs' hblk hput h1;have hsize:v.cells.size=f.size:=by
  rw[<- ok.hsize,hsz,<- R5,hc]
 refine⟨undef,_, .skip,w',⟨rfl,rfl⟩,?_, .inr ⟨rfl,rfl⟩,?_,r3⟩
 ·simp only[execOp,hop,ex,ey,Instr.storeAt,Instr.sureAddr,Sem.run_bind,Sem.run_pure,Result.andThen_ok,storeVar,I9 ok.hf];simp[hsize,hc,r1]
 ·rw[r2];exact hs.setPt cs' hL
theorem J.makeSlice {T:Tab} (hX:IsCx X P rs N F Post) (hT:TabOK P T) {ops:Array Oper} {C:Cl} {lt:Bool} {i:Nat} {t:PT} {o:Oper} {g:G} {st e by_:Nat} {x y:Operand} {k1 k2 t1 t2 n s1 b1:Nat} {kl kc:IntKind} {g1 g2:G} {z1:List Value} {z:Value} {td:TD} {E':Value->Env} {L2:Nat->List Atom} (tag:Nat)
  (ho:J2 ops.toList i=some o) (hg:gd ops.toList E o=some g) (hgo:g.on=true) (hop:o.op= .makeSlice st x y) (hx:ev E x=some ⟨k1, .int kl n,t1,g1⟩) (v1:g1.on=true) (hy:ev E y=some ⟨k2, .int kc n,t2,g2⟩) (v2:g2.on=true)
  (hst:T.get st=some ⟨.slice e 1,s1,z1,b1⟩) (he:T.get e=some ⟨td,1,[z],by_⟩) (h63:n<=maxLen) (hbytes:by_*n<=281474976710656)
  (hL2:∀b,a3L b3w L (.pt b e (List.replicate n z))=some (L2 b,tag)) (hd:∀v,Y5 N o.dst v tag .tt E=some (E' v)) (hJ:∀b,Conj (M6 lt C (L2 b))/\J X (.reg ops C t::K) (E' (.slice (some ⟨b,0,none⟩) n n)) (L2 b)):J X (.reg ops C (.alt lt i t .non)::K) E L:=by
 refine J.op hX (S:=λv' L'=>∃b,v'= .slice (some ⟨b,0,none⟩) n n/\L'=L++[.pt b e (List.replicate n z)]) tag ho hg hgo (λa0 w hen hs=>?_) hd (λv L' ⟨b,e1,e2⟩=>by subst e1;subst e2;rw[<- a2b (hL2 b)];exact hJ b);have ex:=C8 hen hx;have ey:=C8 hen hy;simp only[Slot.val,v1,v2]at ex ey;obtain⟨d,f,zv,ok⟩:=C1 (hT.get hst);obtain⟨fe,rfl,g1',g2'⟩:=ok.slice rfl;obtain⟨d',f',zv',ok'⟩:=C1 (hT.get he);have hf:fe=f':=by have:=g1'.symm.trans ok'.hf;injection this
 subst hf;have hb2:(fe.bytes:Int)*(n:Int)<=281474976710656:=by
  rw[<- ok'.hbytes];have h:((by_*n:Nat):Int)<=281474976710656:=by omega
  rwa [a2s]at h
 have hr:=run_make (P:=P) w st e fe zv' ok.hd ok'.hf ok'.hz kl kc n n (by omega) (O8 _) hb2 (by simp[maxLen]at h63;omega);have hz:zv'.cells= #[z]:=by apply Array.toList_inj.1;exact ok'.hzero.symm
 have hs1:fe.size=1:=ok'.hsize.symm;simp only[i9,hs1,U7,hz]at hr;refine⟨_,_, .value (.slice (some ⟨w.heap.size,0,none⟩) n n),w.alloc (.cells (madeCells #[z] n) e),⟨w.heap.size,rfl,rfl⟩,?_, .inl rfl,?_,⟨rfl,rfl,rfl,by show w.heap.size<=(w.heap.push _).size;simp⟩⟩
 ·simp only[execOp,hop,ex,ey,hr,Sem.run_bind,Result.andThen_ok,Sem.run_pure]
 ·have e1:Obj.cells (madeCells #[z] n) e (0,0)=Obj.cells (List.replicate n z).toArray e (0,0):=by
   congr 1;apply Array.toList_inj.1;rw[toList_madeCells_one]
  show Sep _ (hl {w with heap:=w.heap.push (Obj.cells (madeCells #[z] n) e (0,0))});rw[e1,a5D];exact hs.snoc (a5E w) (λh' hh=>hh)
theorem J.nextS {α:Type} {I:α->Prop} {Ei:α->Env} {Li:α->List Atom} {μ:α->Nat} {m:Nat} (x:α) (h1:I x) (h2:μ x<m) (is:List Nat) (h3:Conj (a9o E (Ei x))) (ok:P8 L is=true) (hL:O2 L is=Li x):
  J X (.stop (λa w=>Ext X.w0 w/\∃x',I x'/\μ x'<m/\EnvOK X.n (Ei x') a/\Sep (Li x') (hl w))::K) E L:=J.next x h1 h2 h3 (λh' s=>by have:=s.sub is ok;rwa [hL]at this)
theorem J.nS {α:Type} {I:α->Prop} {Ei:α->Env} {Li:α->List Atom} {μ:α->Nat} {m:Nat} (x:α) (h1:I x) (h2:μ x<m) (is:List Nat) (ok:P8 L is=true) (hL:O2 L is=Li x) (h3:Conj (a9o E (Ei x)):=by(repeat' (first | exact Conj.nil | refine Conj.cons ?_ ?_ | omega | exact hq0 | (simpa using hq0) | (exactλh=>h) | exact rfl | (intro hq;have hq0:=hq;try simp only[f8,j7,d6,i4,c8]at hq) | (simp;done) | (simp;omega) | decide))):
  J X (.stop (λa w=>Ext X.w0 w/\∃x',I x'/\μ x'<m/\EnvOK X.n (Ei x') a/\Sep (Li x') (hl w))::K) E L:=J.nextS x h1 h2 is h3 ok hL
theorem a2F {w:World} {n0:Nat} {a:Act} (hT:TabOK P T) {o:Oper} {src dst:TypeId} {x:Operand} {k tg sz b1:Nat} {z1:List Value} {g:G} {k0 k':IntKind} {n:Int} {ti:TI} (hop:o.op= .convert src dst x) (hx:ev E x=some ⟨k, .int k0 n,tg,g⟩) (he:EnvOK n0 E a) (hg:g.on=true) (hd:T.get dst=some ⟨.int k',sz,z1,b1⟩) (hs:T.get src=some ti):
  (execOp a.eval o).run P w= .ok (.value (.int k' (k'.wrap n))) w:=by
 have ex:=C8 he hx;simp only[Slot.val,hg]at ex;obtain⟨d,fi,zv,ok⟩:=C1 (hT.get hd);obtain⟨d',fi',zv',ok'⟩:=C1 (hT.get hs);have:=ok.int rfl;subst this;simp[execOp,hop,ex,convert,s9 ok.hd,s9 ok'.hd,Conv.intToInt]
theorem J.join {α:Type} {k:KI} (E0:α->Env) (L0:α->List Atom) (h1:(∀x,J X K (E0 x) (L0 x))->J X (k::K) E L) (h2:∀x,J X K (E0 x) (L0 x)):J X (k::K) E L:=h1 h2
theorem J.goto {E0:Env} {L0:List Atom} (is:List Nat) (h:J X K E0 L0) (h3:Conj (subV E E0)) (ok:P8 L is=true) (hL:O2 L is=L0):J X K E L:=
 λa w hx he s=>h a w hx (he.subV h3) (by have:=s.sub is ok;rwa [hL]at this)
end
theorem a8s (z:Array Value) (n:Nat):(madeCells z (n*z.size)).toList=(List.replicate n z.toList).flatten:=by
 have e0:∀k,(madeCells z k).toList=(List.range k).map λi=>z[i % z.size]!:=λk=>by simp[madeCells]
 induction n with
 | zero=>rw[e0];simp
 | succ n ih=>
  rw[e0]at ih ⊢;rw[P6,List.range_add,s8,ih,a4G,List.flatten_append,List.flatten_singleton];congr 1;apply z8;intro i;rw[a1L,i5]
  by_cases h:i<z.size
  ·rw[M2 h,C9];simp only[Function.comp,V9 n,Nat.mul_add_mod,K4 h];rw[D8,O1 h,a5i z i h]
  ·rw[j6 (by rw[K7];omega),O5,j6 (by rw[R5];omega)]
section
variable {X : Cx} {P : Program} {K : List KI} {E : Env} {L : List Atom} {N : Nat} {F : HP} {Post : Value → List Atom → Prop} {rs : List ResultVar}
theorem J.makeMany {T:Tab} (hX:IsCx X P rs N F Post) (hT:TabOK P T) {ops:Array Oper} {C:Cl} {lt:Bool} {i:Nat} {t:PT} {o:Oper} {g:G} {st e by_ size:Nat} {x y:Operand} {k1 k2 t1 t2 n s1 b1:Nat} {kl kc:IntKind} {g1 g2:G} {z1 z:List Value} {td:TD} {E':Value->Env} {L2:Nat->List Atom} (tag:Nat)
  (ho:J2 ops.toList i=some o) (hg:gd ops.toList E o=some g) (hgo:g.on=true) (hop:o.op= .makeSlice st x y) (hx:ev E x=some ⟨k1, .int kl n,t1,g1⟩) (v1:g1.on=true) (hy:ev E y=some ⟨k2, .int kc n,t2,g2⟩) (v2:g2.on=true)
  (hst:T.get st=some ⟨.slice e size,s1,z1,b1⟩) (he:T.get e=some ⟨td,size,z,by_⟩) (hzs:Nat.beq z.length size=true) (h63:n<=maxLen) (hbytes:by_*n<=281474976710656)
  (hL2:∀b,a3L b3w L (.pt b e (List.replicate n z).flatten)=some (L2 b,tag)) (hd:∀v,Y5 N o.dst v tag .tt E=some (E' v)) (hJ:∀b,Conj (M6 lt C (L2 b))/\J X (.reg ops C t::K) (E' (.slice (some ⟨b,0,none⟩) n n)) (L2 b)):J X (.reg ops C (.alt lt i t .non)::K) E L:=by
 refine J.op hX (S:=λv' L'=>∃b,v'= .slice (some ⟨b,0,none⟩) n n/\L'=L++[.pt b e (List.replicate n z).flatten]) tag ho hg hgo (λa0 w hen hs=>?_) hd (λv L' ⟨b,e1,e2⟩=>by subst e1;subst e2;rw[<- a2b (hL2 b)];exact hJ b);have ex:=C8 hen hx;have ey:=C8 hen hy;simp only[Slot.val,v1,v2]at ex ey;obtain⟨d,f,zv,ok⟩:=C1 (hT.get hst);obtain⟨fe,rfl,g1',g2'⟩:=ok.slice rfl;obtain⟨d',f',zv',ok'⟩:=C1 (hT.get he);have hf:fe=f':=by have:=g1'.symm.trans ok'.hf;injection this
 subst hf;have hb2:(fe.bytes:Int)*(n:Int)<=281474976710656:=by
  rw[<- ok'.hbytes];have h:((by_*n:Nat):Int)<=281474976710656:=by omega
  rwa [a2s]at h
 have hr:=run_make (P:=P) w st e fe zv' ok.hd ok'.hf ok'.hz kl kc n n (by omega) (O8 _) hb2 (by simp[maxLen]at h63;omega);have hz:zv'.cells.toList=z:=ok'.hzero.symm;have hs1:fe.size=size:=ok'.hsize.symm;have hzl:zv'.cells.size=size:=by rw[<- R5,hz];exact D1 hzs
 simp only[i9,hs1]at hr;rw[<- hzl]at hr;refine⟨_,_, .value (.slice (some ⟨w.heap.size,0,none⟩) n n),w.alloc (.cells (madeCells zv'.cells (n*zv'.cells.size)) e),⟨w.heap.size,rfl,rfl⟩,?_, .inl rfl,?_,⟨rfl,rfl,rfl,by show w.heap.size<=(w.heap.push _).size;simp⟩⟩
 ·simp only[execOp,hop,ex,ey,hr,Sem.run_bind,Result.andThen_ok,Sem.run_pure]
 ·have e1:Obj.cells (madeCells zv'.cells (n*zv'.cells.size)) e (0,0)=Obj.cells (List.replicate n z).flatten.toArray e (0,0):=by
   congr 1;apply Array.toList_inj.1;rw[a8s,hz]
  show Sep _ (hl {w with heap:=w.heap.push (Obj.cells (madeCells zv'.cells (n*zv'.cells.size)) e (0,0))});rw[e1,a5D];exact hs.snoc (a5E w) (λh' hh=>hh)
end
end
end Go.Proofs.YtmafiplddapokaaGreat
