/- Helpers. No condition. -/
import Derived.Test.YtpohajhbfllbbaaGreatRows
import Derived.WalkKit
import Derived.WalkSpells
import Derived.WalkLawsBesides
import Derived.BigQuiet
import Derived.Deep.QuietTactic
import Derived.Lib.Hide
import Derived.Maps.AppendAt
import Derived.Deep.AppendLies
import Derived.Deep.RegionHeld3
import Derived.Deep.RegionLaw
import Derived.Deep.MidRow
import Derived.StillTailTactics
import Derived.Deep.DrawnRows
import Derived.Deep.Draws
import Derived.Deep.DeepCutAuto
set_option maxRecDepth 20000
set_option linter.all false
namespace Go.Proofs.YtpohajhbfllbbaaGreat
namespace L
def set (m:Int):Bool:=decide (0<=m)&&decide (m<256)
def one (d:Int):Int:=if 0<=d/\d<8 then((2^d.toNat:Nat):Int)else 0
def has (m d:Int):Bool:=set m&&(decide (0<=d)&&decide (d<8))&&m.toNat.testBit d.toNat
def all (n:Int):Int:=if 0<=n/\n<=8 then((2^n.toNat-1:Nat):Int)else 0
def with_ (m d:Int):Int:=if set m then((m.toNat||| (one d).toNat:Nat):Int)else 0
def without (m d:Int):Int:=if set m then((m.toNat&&& (255-(one d).toNat):Nat):Int)else 0
def dies (m:Int):List Nat:=if set m then(List.range 8).filter (λd=>m.toNat.testBit d)else[]
def count (m:Int):Nat:=(dies m).length
def at_ (m i:Int):Int:=if 0<=i then(((dies m)[i.toNat]?).map (λ(d:Nat)=>(d:Int))).getD (-1)else-1
def below (m:Int) (k:Nat):Nat:=((List.range 8).filter (λd=>decide (d<k)&&L.has m d)).length
def spot (m d:Int):Int:=if has m d then(below m d.toNat:Int)else-1
theorem set_iff (m:Int):set m=true↔0<=m/\m<256:=by simp[set]
theorem below_dec:∀m,m<256->∀k,k<8->below (m:Nat) (k+1)=below (m:Nat) k+(if has (m:Nat) (k:Nat)then 1 else 0):=by decide+kernel
theorem at_dec:∀m,m<256->∀k,k<8->has (m:Nat) (k:Nat)=true->at_ (m:Nat) (below (m:Nat) k:Nat)=(k:Nat):=by decide+kernel
theorem count_dec:∀m,m<256->below (m:Nat) 8=count (m:Nat)/\below (m:Nat) 0=0/\count (m:Nat)<=8:=by decide+kernel
theorem has_no (m d:Int) (h:¬(0<=m/\m<256)):has m d=false:=by
 have:set m=false:=by rw[Bool.eq_false_iff,ne_eq,set_iff];exact h
 simp[has,this]
theorem below_succ (m:Int) (k:Nat) (hk:k<8):below m (k+1)=below m k+(if has m k then 1 else 0):=by
 by_cases h:0<=m/\m<256
 ·obtain⟨m,rfl⟩:=Int.eq_ofNat_of_zero_le h.1;exact below_dec m (by omega) k hk
 ·simp[below,has_no _ _ h]
theorem at_below (m:Int) (k:Nat) (hk:k<8) (hh:has m k=true):at_ m (below m k)=k:=by
 by_cases h:0<=m/\m<256
 ·obtain⟨m,rfl⟩:=Int.eq_ofNat_of_zero_le h.1;exact at_dec m (by omega) k hk hh
 ·rw[has_no _ _ h]at hh;cases hh
theorem count_no (m:Int) (h:¬(0<=m/\m<256)):count m=0:=by
 have:set m=false:=by rw[Bool.eq_false_iff,ne_eq,set_iff];exact h
 simp[count,dies,this]
theorem below_zero (m:Int):below m 0=0:=by simp[below]
theorem below_eight (m:Int):below m 8=count m:=by
 by_cases h:0<=m/\m<256
 ·obtain⟨m,rfl⟩:=Int.eq_ofNat_of_zero_le h.1;exact(count_dec m (by omega)).1
 ·rw[count_no m h];simp[below,has_no _ _ h]
theorem count_le (m:Int):count m<=8:=by
 by_cases h:0<=m/\m<256
 ·obtain⟨m,rfl⟩:=Int.eq_ofNat_of_zero_le h.1;exact(count_dec m (by omega)).2.2
 ·rw[count_no m h];omega
theorem at_ge (m i:Int) (h:i<0\/(count m:Int)<=i):at_ m i= -1:=by
 unfold at_;split
 ·rw[List.getElem?_eq_none (by unfold count at h;omega)];rfl
 ·rfl
theorem has_lt (m d:Int) (h:has m d=true):0<=d/\d<8/\0<=m/\m<256:=by
 simp[has,set]at h;omega
end L
namespace G
def parity (mask block row:Int):Int:=if L.count mask<2\/block<0\/row<0 then-1 else L.at_ mask ((block+row) % L.count mask)
def slots (mask:Int):Int:=if L.count mask<2 then 0 else(L.count mask:Int)-1
def die (mask block row slot:Int):Int:=if parity mask block row<0 then-1 else L.at_ (L.without mask (parity mask block row)) slot
def slot (mask block row die:Int):Int:=if parity mask block row<0 then-1 else L.spot (L.without mask (parity mask block row)) die
end G
namespace K
def round (s:Nat):Nat:=if s<2147483648 then s*2 else(s*2 % 4294967296) ^^^ 1947962583
def rounds:Nat->Nat->Nat
 | 0,s=>s
 | n+1,s=>round (rounds n s)
def step (s x:Nat):Nat:=rounds 8 (s ^^^ (x*16777216))
def sum (l:List UInt8):Nat:=l.foldl (λs x=>step s x.toNat) 4294967295
theorem round_lt (s:Nat) (h:s<4294967296):round s<4294967296:=by
 unfold round;split
 ·omega
 ·exact Nat.xor_lt_two_pow (n:=32) (by omega) (by omega)
theorem rounds_lt (n s:Nat) (h:s<4294967296):rounds n s<4294967296:=by
 induction n with
 | zero=>exact h
 | succ n ih=>exact round_lt _ ih
theorem step_lt (s x:Nat) (h:s<4294967296) (hx:x<256):step s x<4294967296:=
 rounds_lt 8 _ (Nat.xor_lt_two_pow (n:=32) (by omega) (by omega))
theorem foldl_lt (l:List UInt8):∀s:Nat,s<4294967296->l.foldl (λs x=>step s x.toNat) s<4294967296:=by
 induction l with
 | nil=>intro s h;exact h
 | cons x l ih=>
  intro s h;have hx:x.toNat<256:=x.toNat_lt;have:=step_lt s x.toNat h hx;rw[List.foldl_cons];exact ih _ this
theorem sum_lt (l:List UInt8):sum l<4294967296:=foldl_lt l _ (by omega)
theorem sum_snoc (b:List UInt8) (k:Nat) (x:UInt8) (hx:b[k]? =some x):sum (b.take (k+1))=step (sum (b.take k)) x.toNat:=by
 rw[List.take_add_one,hx];simp only[sum,List.foldl_append,Option.toList_some,List.foldl_cons,List.foldl_nil]
end K
end Go.Proofs.YtpohajhbfllbbaaGreat
namespace Go.Proofs.YtpohajhbfllbbaaGreat
namespace Bt
def bits (u w:Nat):List Bool:=(List.range w).map λi=>u.testBit (w-1-i)
def byteAt (l:List Bool) (j:Nat):Nat:=
 (l.getD j false).toNat*128+(l.getD (j+1) false).toNat*64+(l.getD (j+2) false).toNat*32+(l.getD (j+3) false).toNat*16+
 (l.getD (j+4) false).toNat*8+(l.getD (j+5) false).toNat*4+(l.getD (j+6) false).toNat*2+(l.getD (j+7) false).toNat
def pack (l:List Bool):List UInt8:=(List.range ((l.length+7)/8)).map λj=>UInt8.ofNat (byteAt l (8*j))
theorem length_bits (u w:Nat):(bits u w).length=w:=by simp[bits]
theorem byteAt_lt (l:List Bool) (j:Nat):byteAt l j<256:=by
 unfold byteAt;have h:∀b:Bool,b.toNat<=1:=λb=>Bool.toNat_le b;have h0:=h (l.getD j false);have h1:=h (l.getD (j+1) false);have h2:=h (l.getD (j+2) false);have h3:=h (l.getD (j+3) false);have h4:=h (l.getD (j+4) false);have h5:=h (l.getD (j+5) false);have h6:=h (l.getD (j+6) false);have h7:=h (l.getD (j+7) false);omega
theorem length_pack (l:List Bool):(pack l).length=(l.length+7)/8:=by simp[pack]
theorem pack_get (l:List Bool) (j:Nat) (h:j<(l.length+7)/8):(pack l)[j]? =some (UInt8.ofNat (byteAt l (8*j))):=by
 simp[pack,h]
theorem byteAt_out (l:List Bool) (j:Nat) (h:l.length<=j):byteAt l j=0:=by
 have g:∀k,l.length<=k->l.getD k false=false:=λk hk=>by simp[List.getD_eq_getElem?_getD,List.getElem?_eq_none hk]
 unfold byteAt;rw[g _ h,g _ (by omega),g _ (by omega),g _ (by omega),g _ (by omega),g _ (by omega),g _ (by omega),g _ (by omega)];rfl
theorem getD_snoc (l:List Bool) (x:Bool) (k:Nat):(l++[x]).getD k false=if k=l.length then x else l.getD k false:=by
 simp only[List.getD_eq_getElem?_getD,List.getElem?_append]
 by_cases h:k<l.length
 ·rw[if_pos h,if_neg (by omega)]
 ·rw[if_neg h]
  by_cases e:k=l.length
  ·subst e;simp
  ·rw[if_neg e,List.getElem?_eq_none (by simp;omega),List.getElem?_eq_none (by omega)]
theorem byteAt_snoc (l:List Bool) (x:Bool) (j:Nat):byteAt (l++[x]) j=byteAt l j+(if j<=l.length/\l.length<j+8 then x.toNat*2^(7-(l.length-j))else 0):=by
 have g:∀k,l.length<=k->l.getD k false=false:=λk hk=>by simp[List.getD_eq_getElem?_getD,List.getElem?_eq_none hk]
 by_cases h:j<=l.length/\l.length<j+8
 ·rw[if_pos h];obtain⟨i,hi⟩:∃i,l.length=j+i:=⟨l.length-j,by omega⟩;have hi8:i<8:=by omega
  rw[show l.length-j=i from by omega];unfold byteAt;simp only[getD_snoc]
  match i,hi8 with
  | 0,_=>rw[g j (by omega),if_pos (by omega),if_neg (by omega),if_neg (by omega),if_neg (by omega),if_neg (by omega),if_neg (by omega),if_neg (by omega),if_neg (by omega)];simp;omega
  | 1,_=>rw[g (j+1) (by omega),if_neg (by omega),if_pos (by omega),if_neg (by omega),if_neg (by omega),if_neg (by omega),if_neg (by omega),if_neg (by omega),if_neg (by omega)];simp;omega
  | 2,_=>rw[g (j+2) (by omega),if_neg (by omega),if_neg (by omega),if_pos (by omega),if_neg (by omega),if_neg (by omega),if_neg (by omega),if_neg (by omega),if_neg (by omega)];simp;omega
  | 3,_=>rw[g (j+3) (by omega),if_neg (by omega),if_neg (by omega),if_neg (by omega),if_pos (by omega),if_neg (by omega),if_neg (by omega),if_neg (by omega),if_neg (by omega)];simp;omega
  | 4,_=>rw[g (j+4) (by omega),if_neg (by omega),if_neg (by omega),if_neg (by omega),if_neg (by omega),if_pos (by omega),if_neg (by omega),if_neg (by omega),if_neg (by omega)];simp;omega
  | 5,_=>rw[g (j+5) (by omega),if_neg (by omega),if_neg (by omega),if_neg (by omega),if_neg (by omega),if_neg (by omega),if_pos (by omega),if_neg (by omega),if_neg (by omega)];simp;omega
  | 6,_=>rw[g (j+6) (by omega),if_neg (by omega),if_neg (by omega),if_neg (by omega),if_neg (by omega),if_neg (by omega),if_neg (by omega),if_pos (by omega),if_neg (by omega)];simp;omega
  | 7,_=>rw[g (j+7) (by omega),if_neg (by omega),if_neg (by omega),if_neg (by omega),if_neg (by omega),if_neg (by omega),if_neg (by omega),if_neg (by omega),if_pos (by omega)];simp
 ·rw[if_neg h];unfold byteAt;simp only[getD_snoc];rw[if_neg (by omega),if_neg (by omega),if_neg (by omega),if_neg (by omega),if_neg (by omega),if_neg (by omega),if_neg (by omega),if_neg (by omega)];simp

def packZ (l:List Bool):List UInt8:=if l.length % 8=0 then pack l++[0]else pack l
theorem length_packZ (l:List Bool):(packZ l).length=l.length/8+1:=by
 unfold packZ;split
 ·simp[length_pack];omega
 ·rw[length_pack];omega
theorem packZ_get (l:List Bool) (j:Nat) (h:j<l.length/8+1):(packZ l)[j]? =some (UInt8.ofNat (byteAt l (8*j))):=by
 unfold packZ;split
 ·by_cases e:j<(pack l).length
  ·rw[List.getElem?_append_left e,pack_get _ _ (by rw[length_pack]at e;exact e)]
  ·have:j=(pack l).length:=by rw[length_pack]at e ⊢;omega
   subst this;rw[List.getElem?_append_right (Nat.le_refl _),Nat.sub_self,byteAt_out _ _ (by rw[length_pack];omega)];rfl
 ·exact pack_get _ _ (by omega)
theorem pack_snoc (l:List Bool) (x:Bool):pack (l++[x])=(packZ l).set (l.length/8) (UInt8.ofNat (byteAt l (8*(l.length/8))+x.toNat*2^(7-l.length % 8))):=by
 apply List.ext_getElem?;intro j;have hl:(pack (l++[x])).length=l.length/8+1:=by rw[length_pack];simp;omega
 by_cases h:j<l.length/8+1
 ·rw[pack_get _ _ (by simp;omega),List.getElem?_set,length_packZ,byteAt_snoc]
  by_cases e:l.length/8=j
  ·rw[if_pos e,if_pos (by omega),if_pos (by omega),<- e,show l.length-8*(l.length/8)=l.length % 8 from by omega]
  ·rw[if_neg e,if_neg (by omega),packZ_get _ _ h];simp
 ·rw[List.getElem?_eq_none (by omega),List.getElem?_eq_none (by simp[length_packZ];omega)]
theorem byte_or_dec:∀i,i<8->∀h,h<2^i->(h*2^(8-i))||| (2^(7-i))=h*2^(8-i)+2^(7-i):=by decide+kernel
theorem byteAt_last (l:List Bool):∃h,h<2^(l.length % 8)/\byteAt l (8*(l.length/8))=h*2^(8-l.length % 8):=by
 have g:∀k,l.length<=k->l.getD k false=false:=λk hk=>by simp[List.getD_eq_getElem?_getD,List.getElem?_eq_none hk]
 have hb:∀b:Bool,b.toNat<=1:=λb=>Bool.toNat_le b;generalize hj:8*(l.length/8)=j;have h8:l.length % 8<8:=Nat.mod_lt _ (by omega);have hn:l.length=j+l.length % 8:=by omega
 have h0:=hb (l.getD j false);have h1:=hb (l.getD (j+1) false);have h2:=hb (l.getD (j+2) false);have h3:=hb (l.getD (j+3) false);have h4:=hb (l.getD (j+4) false);have h5:=hb (l.getD (j+5) false);have h6:=hb (l.getD (j+6) false);generalize l.length % 8=i at*;unfold byteAt
 match i,h8 with
 | 0,_=>rw[g j (by omega),g (j+1) (by omega),g (j+2) (by omega),g (j+3) (by omega),g (j+4) (by omega),g (j+5) (by omega),g (j+6) (by omega),g (j+7) (by omega)];exact⟨0,by decide,rfl⟩
 | 1,_=>rw[g (j+1) (by omega),g (j+2) (by omega),g (j+3) (by omega),g (j+4) (by omega),g (j+5) (by omega),g (j+6) (by omega),g (j+7) (by omega)];exact⟨(l.getD j false).toNat,by omega,by simp⟩
 | 2,_=>rw[g (j+2) (by omega),g (j+3) (by omega),g (j+4) (by omega),g (j+5) (by omega),g (j+6) (by omega),g (j+7) (by omega)];exact⟨(l.getD j false).toNat*2+(l.getD (j+1) false).toNat,by omega,by simp;omega⟩
 | 3,_=>rw[g (j+3) (by omega),g (j+4) (by omega),g (j+5) (by omega),g (j+6) (by omega),g (j+7) (by omega)];exact⟨(l.getD j false).toNat*4+(l.getD (j+1) false).toNat*2+(l.getD (j+2) false).toNat,by omega,by simp;omega⟩
 | 4,_=>rw[g (j+4) (by omega),g (j+5) (by omega),g (j+6) (by omega),g (j+7) (by omega)];exact⟨(l.getD j false).toNat*8+(l.getD (j+1) false).toNat*4+(l.getD (j+2) false).toNat*2+(l.getD (j+3) false).toNat,by omega,by simp;omega⟩
 | 5,_=>rw[g (j+5) (by omega),g (j+6) (by omega),g (j+7) (by omega)];exact⟨(l.getD j false).toNat*16+(l.getD (j+1) false).toNat*8+(l.getD (j+2) false).toNat*4+(l.getD (j+3) false).toNat*2+(l.getD (j+4) false).toNat,by omega,by simp;omega⟩
 | 6,_=>rw[g (j+6) (by omega),g (j+7) (by omega)];exact⟨(l.getD j false).toNat*32+(l.getD (j+1) false).toNat*16+(l.getD (j+2) false).toNat*8+(l.getD (j+3) false).toNat*4+(l.getD (j+4) false).toNat*2+(l.getD (j+5) false).toNat,by omega,by simp;omega⟩
 | 7,_=>rw[g (j+7) (by omega)];exact⟨(l.getD j false).toNat*64+(l.getD (j+1) false).toNat*32+(l.getD (j+2) false).toNat*16+(l.getD (j+3) false).toNat*8+(l.getD (j+4) false).toNat*4+(l.getD (j+5) false).toNat*2+(l.getD (j+6) false).toNat,by omega,by simp;omega⟩
theorem byte_or (l:List Bool) (x:Bool):byteAt l (8*(l.length/8))||| x.toNat*2^(7-l.length % 8)=byteAt l (8*(l.length/8))+x.toNat*2^(7-l.length % 8):=by
 obtain⟨h,hh,e⟩:=byteAt_last l;cases x
 ·simp
 ·rw[e];simpa using byte_or_dec (l.length % 8) (Nat.mod_lt _ (by omega)) h hh
theorem take_bits_succ (u n k:Nat) (h:k<n):(bits u n).take (k+1)=(bits u n).take k++[u.testBit (n-1-k)]:=by
 rw[List.take_succ_eq_append_getElem (by rw[length_bits];exact h)];simp[bits]
def bitAt (b:List UInt8) (j:Nat):Bool:=(b.getD (j/8) 0).toNat.testBit (7-j % 8)
def numAt (b:List UInt8) (k:Nat):Nat->Nat
 | 0=>0
 | w+1=>2*numAt b k w+(bitAt b (k+w)).toNat
theorem numAt_lt (b:List UInt8) (k w:Nat):numAt b k w<2^w:=by
 induction w with
 | zero=>simp[numAt]
 | succ w ih=>
  have:=Bool.toNat_le (bitAt b (k+w));rw[numAt,Nat.pow_succ];omega
end Bt
end Go.Proofs.YtpohajhbfllbbaaGreat
namespace Go.Proofs.YtpohajhbfllbbaaGreat
structure Sh where
 data:List UInt8
 role:Int
 lpn:Int
 seq:Int
 kind:Int
 block:Int
 row:Int
 mask:Int
 deriving DecidableEq
def zeros16:List UInt8:=List.replicate 16 0
def Sh.zero:Sh:=⟨zeros16,0,0,0,0,0,0,0⟩
namespace S
def entry (s:Sh):Bool:=
 if s.role=1 then true
 else if s.role=2\/s.role=4 then decide (s.data=zeros16)
 else if s.role=3 then decide (s.data=zeros16)&&decide (s.lpn=0)&&decide (s.seq=0)
 else false
def inB (n a:Int):Bool:=decide (0<=n)&&decide (n<=a)
def place (s:Sh):Bool:=inB s.block 15&&inB s.row 7&&decide (2<=L.count s.mask)
def numbers (s:Sh):Bool:=inB s.seq 1099511627775&&inB s.lpn 65535&&inB s.role 255
def may (s:Sh):Bool:=place s&&numbers s&&(decide (s.kind=2)||(decide (s.kind=1)&&entry s))
def meta_ (role lpn seq:Int):Nat:=(role % 256).toNat*72057594037927936+((lpn % 65536).toNat*1099511627776+(seq % 1099511627776).toNat)
def head (s:Sh):List Bool:=Bt.bits (meta_ s.role s.lpn s.seq) 64++Bt.bits s.block.toNat 8++Bt.bits s.row.toNat 8++Bt.bits s.mask.toNat 8++Bt.bits s.kind.toNat 8
def put (s:Sh):List UInt8:=s.data++Bt.pack (head s++Bt.bits (K.sum (s.data++Bt.pack (head s))) 32)
def fields (p:List UInt8):Sh:=
 let b:=p.drop 16
 let m:=Bt.numAt b 0 64
 ⟨p.take 16,(m/72057594037927936:Nat),(m/1099511627776 % 65536:Nat),(m % 1099511627776:Nat),Bt.numAt b 88 8,Bt.numAt b 64 8,Bt.numAt b 72 8,Bt.numAt b 80 8⟩
def get (p:List UInt8):Option Sh:=if may (fields p)/\put (fields p)=p then some (fields p)else none
def getV (p:List UInt8):Sh:=(get p).getD Sh.zero
def getE (p:List UInt8):Int:=if(get p).isSome then 0 else 1
theorem may_bounds (s:Sh) (h:may s=true):(0<=s.block/\s.block<=15)/\(0<=s.row/\s.row<=7)/\(0<=s.mask/\s.mask<=255)/\(1<=s.kind/\s.kind<=2):=by
 simp only[may,place,inB,Bool.and_eq_true,decide_eq_true_eq,Bool.or_eq_true]at h;have hm:0<=s.mask/\s.mask<=255:=by
  by_cases hh:0<=s.mask/\s.mask<256
  ·omega
  ·have:=L.count_no s.mask hh;omega
 omega
theorem length_head (s:Sh):(head s).length=96:=by simp[head,Bt.length_bits]
theorem length_put (s:Sh) (h:s.data.length=16):(put s).length=32:=by simp[put,Bt.length_pack,length_head,Bt.length_bits,h]
theorem meta_lt (role lpn seq:Int):meta_ role lpn seq<18446744073709551616:=by unfold meta_;omega
end S
end Go.Proofs.YtpohajhbfllbbaaGreat
namespace Go.Proofs.YtpohajhbfllbbaaGreat
abbrev A3':=Int×Int×Int
structure NCell where
 p:List UInt8
 lost:Bool
 turned:Bool
structure NBlock where
 cells:List NCell
 worn:Int
 fails:Bool
 met:Bool
structure Nand where
 dies:Nat
 blocks:Nat
 pages:Nat
 blk:Nat->Nat->NBlock
 plan:List A3'
 dead:List Bool
 off:Bool
 ops:Int
 broken:Int
 cuts:Bool
 left:Int
 keep:Int
def p9 (d b p:Int):Bool:=decide (3<=d/\d<=6)&&decide (8<=b/\b<=16)&&decide (2<=p/\p<=8)
def C0 (d b p x y z:Int):Bool:=decide (0<=x/\x<d)&&decide (0<=y/\y<b)&&decide (0<=z/\z<p)
def V1:List UInt8:=List.replicate 32 0
structure Nand.Ok (N:Nand):Prop where
 geo:p9 N.dies N.blocks N.pages=true
 dead:N.dead.length=N.dies
 cells:∀i j,i<N.dies->j<N.blocks->(N.blk i j).cells.length<=N.pages/\∀c∈(N.blk i j).cells,c.p.length=32
 num:0<=N.ops/\0<=N.broken/\(∀i j,0<=(N.blk i j).worn/\(N.blk i j).worn<=N.ops)
 lft:N.cuts=true->0<=N.left/\N.left<=9223372036854775807
 lf2: -9223372036854775807<=N.left/\N.left<=9223372036854775807
 kp:0<=N.keep/\N.keep<=32
structure Nand.Room (N:Nand):Prop where
 ops:N.ops<4611686018427387904
 broken:N.broken<4611686018427387904
namespace Nand
def setBlk (N:Nand) (i j:Nat) (B:NBlock):Nand:={N with blk:=λa b=>if a=i/\b=j then B else N.blk a b}
def refuses (N:Nand) (x y z:Int):Int:=
 if N.off then 9 else if C0 N.dies N.blocks N.pages x y z=false then 3 else if N.dead.getD x.toNat false then 8 else 0
def cutB (N:Nand):Bool:=N.cuts&&decide (N.left<=0)
def cutN (N:Nand):Nand:={N with ops:=N.ops+1,left:=if N.cuts then N.left-1 else N.left,off:=if N.cutB then true else N.off,cuts:=if N.cutB then false else N.cuts}
def pageAt (N:Nand) (x y z:Int):Option NCell:=(N.blk x.toNat y.toNat).cells[z.toNat]?
def readV (N:Nand) (x y z:Int):List UInt8:=if N.refuses x y z≠0 then V1 else match N.pageAt x y z with
 | none=>V1
 | some c=>if c.lost then V1 else c.p
def readE (N:Nand) (x y z:Int):Int:=if N.refuses x y z≠0 then N.refuses x y z else match N.pageAt x y z with
 | none=>5
 | some c=>if c.lost then 6 else 0
def onN (N:Nand):Nand:={N with off:=false,cuts:=false}
def setCut (N:Nand) (x k:Int):Nand:=if N.off then N else {N with cuts:=decide (0<=x),left:=x,keep:=min (max k 0) 32,off:=decide (x<0)}
def next (N:Nand) (x y:Int):Nat:=if 0<=x/\x<N.dies/\0<=y/\y<N.blocks then(N.blk x.toNat y.toNat).cells.length else 0
def wornAt (N:Nand) (x y:Int):Int:=if 0<=x/\x<N.dies/\0<=y/\y<N.blocks then(N.blk x.toNat y.toNat).worn else 0
def deadAt (N:Nand) (x:Int):Bool:=decide (0<=x)&&decide (x<N.dies)&&N.dead.getD x.toNat false
def push (N:Nand) (i j:Nat) (c:NCell):Nand:=N.setBlk i j {N.blk i j with cells:=(N.blk i j).cells++[c]}
def fillP (k:Nat) (p:List UInt8):List UInt8:=p.take k++List.replicate (32-k) 255
def fails (N:Nand) (x y z:Int):Bool:=decide ((x,y,z)∈N.plan)||(N.blk x.toNat y.toNat).met
def progN (N:Nand) (x y z:Int) (pg:List UInt8):Nand:=
 if N.refuses x y z≠0 then N else
 if z≠(N.blk x.toNat y.toNat).cells.length then {N with broken:=N.broken+1}else
 if N.cutB then N.cutN.push x.toNat y.toNat ⟨fillP N.keep.toNat pg,false,true⟩else
 push {N.cutN with plan:=N.plan.erase (x,y,z)} x.toNat y.toNat ⟨pg,N.fails x y z,false⟩
def progE (N:Nand) (x y z:Int):Int:=
 if N.refuses x y z≠0 then N.refuses x y z else
 if z≠(N.blk x.toNat y.toNat).cells.length then 4 else
 if N.cutB then 9 else if N.fails x y z then 7 else 0
def zcell:NCell:=⟨V1,false,false⟩
def eraseN (N:Nand) (x y:Int):Nand:=
 let B:=N.blk x.toNat y.toNat
 if N.refuses x y 0≠0 then N else
 if N.cutB then N.cutN.setBlk x.toNat y.toNat {B with cells:=(B.cells++List.replicate (N.pages-B.cells.length) zcell).map λc=>{c with lost:=true}}else
 if B.fails then N.cutN.setBlk x.toNat y.toNat {B with met:=true}else
 {N.cutN.setBlk x.toNat y.toNat {B with cells:=[],worn:=B.worn+1}with plan:=N.plan.filter λa=>!(decide (a.1=x)&&decide (a.2.1=y))}
def eraseE (N:Nand) (x y:Int):Int:=
 if N.refuses x y 0≠0 then N.refuses x y 0 else if N.cutB then 9 else if(N.blk x.toNat y.toNat).fails then 7 else 0
def xorAt (p:List UInt8) (n:Nat) (x:UInt8):List UInt8:=p.set n ((p.getD n 0) ^^^ x)
def setCell (N:Nand) (x y z:Int) (f:NCell->NCell):Nand:=
 N.setBlk x.toNat y.toNat {N.blk x.toNat y.toNat with cells:=(N.blk x.toNat y.toNat).cells.modify z.toNat f}
def addP (l:List A3') (a:A3'):List A3':=if a∈l then l else l++[a]
def fault (N:Nand) (kind x y z n xx:Int):Bool×Nand:=
 if C0 N.dies N.blocks N.pages x y z=false then(false,N)else
 if kind=1 then(true,{N with plan:=addP N.plan (x,y,z)})else
 if kind=2 then(true,N.setBlk x.toNat y.toNat {N.blk x.toNat y.toNat with fails:=true})else
 if kind=3 then(true,N.setCell x y z λc=>{c with lost:=true})else
 if kind=4 then(true,{N with dead:=N.dead.set x.toNat true})else
 if kind=5 then
  if n<0\/32<=n then(false,N)else
  match N.pageAt x y z with
  | none=>(true,N)
  | some c=>if c.turned then(false,N)else if c.lost then(true,N)else
   (true,N.setCell x y z λc=>{c with p:=xorAt c.p n.toNat (UInt8.ofNat (xx % 256).toNat),turned:=true})
 else(false,N)
def new (d b p:Nat):Nand:=⟨d,b,p,λ_ _=>⟨[],0,false,false⟩,[],List.replicate d false,false,0,0,false,0,0⟩
theorem refuses_zero {N:Nand} {x y z:Int} (h:N.refuses x y z=0):N.off=false/\N.dead.getD x.toNat false=false/\0<=x/\x<N.dies/\0<=y/\y<N.blocks/\0<=z/\z<N.pages:=by
 unfold refuses at h;split at h
 ·omega
 ·rename_i h1;split at h
  ·omega
  ·rename_i h2;split at h
   ·omega
   ·rename_i h3;simp[C0]at h2;exact⟨by simpa using h1,by simpa using h3,by omega⟩
end Nand
end Go.Proofs.YtpohajhbfllbbaaGreat
namespace Go.Proofs.YtpohajhbfllbbaaGreat
open Go
structure MPv where
 now:List UInt8
 op:Bool
 may:List (List UInt8)
 ever:List (List UInt8)
namespace Mv
def z16:List UInt8:=[0,0,0,0,0,0,0,0,0,0,0,0,0,0,0,0]
def page0:MPv:=⟨z16,false,[z16],[z16]⟩
def new (n:Int):List MPv:=List.replicate (min (max n 0) 65536).toNat page0
def inR (M:List MPv) (i:Int):Bool:=decide (0<=i)&&decide (i<M.length)
def pg (M:List MPv) (i:Int):MPv:=M.getD i.toNat page0
def wr (v:MPv) (d:List UInt8):MPv:=⟨d,false,v.may++[d],v.ever++[d]⟩
def write (M:List MPv) (i:Int) (d:List UInt8):List MPv:=if inR M i then M.set i.toNat (wr (pg M i) d)else M
def flush (M:List MPv):List MPv:=M.map λv=>if v.op then v else {v with may:=[v.now]}
def cut (M:List MPv):List MPv:=M.map λv=>{v with op:=true}
def may (M:List MPv) (i:Int) (d:List UInt8):Bool:=inR M i&&(if(pg M i).op then(pg M i).may.contains d else(pg M i).now==d)
def seen (v:MPv) (d:List UInt8):MPv:=if v.op then⟨d,false,[d],v.ever⟩else v
def saw (M:List MPv) (i:Int) (d:List UInt8):List MPv:=if may M i d then M.set i.toNat (seen (pg M i) d)else M
end Mv
end Go.Proofs.YtpohajhbfllbbaaGreat
namespace Go.Proofs.YtpohajhbfllbbaaGreat
open Go.RowKit

theorem b7B {k:IntKind} {a b:Int} (h:a=b):Ending.returned (.int k a)=Ending.returned (.int k b):=by rw[h]

def bv (b:UInt8):Value:= .int .u8 (b.toNat:Int)
def Blk (w:World) (g:Nat) (t:TypeId) (cs:Array Value):Prop:=w.heap[g]? =some (.cells cs t (0,0))
section
variable {w w' : World} {g : Nat} {t : TypeId} {cs : Array Value}
theorem Blk.cell (h:Blk w g t cs) (i:Nat):w.cell? ⟨g,i,none⟩=cs[i]?:=cell_of_row w g i cs t (0,0) h
theorem Blk.frozen (h:Blk w g t cs) (i:Nat):w.frozen? ⟨g,i,none⟩=false:=by
 unfold Blk at h;simp[World.frozen?,h]
theorem Blk.set_ (h:Blk w g t cs) (i:Nat) (u:Value):Blk (w.setCell ⟨g,i,none⟩ u) g t (cs.setIfInBounds i u):=by
 unfold Blk at h ⊢;simp[World.setCell,Array.getElem?_modify,h]
end
end Go.Proofs.YtpohajhbfllbbaaGreat
namespace Go.Proofs.YtpohajhbfllbbaaGreat
open Go

abbrev Hl:=Nat->Option Obj
def hl (w:World):Hl:=λb=>w.heap[b]?
def Hle (h h':Hl):Prop:=∀b o,h b=some o->h' b=some o
theorem Hle.trans {a b c:Hl} (h:Hle a b) (h':Hle b c):Hle a c:=λx o e=>h' x o (h x o e)
structure HP where
 sat:Hl->Prop
 up:∀h h',Hle h h'->sat h->sat h'
inductive Atom where
 | emp
 | pt (b:Nat) (t:TypeId) (cs:List Value)
 | ob (b:Nat) (o:Obj)
 | hp (P:HP)
def Atom.sat:Atom->Hl->Prop
 | .emp,_=>True
 | .pt b t cs,h=>h b=some (.cells cs.toArray t (0,0))
 | .ob b o,h=>h b=some o
 | .hp P,h=>P.sat h
theorem Atom.up {A:Atom} {h h':Hl} (l:Hle h h') (s:A.sat h):A.sat h':=by
 cases A with
 | emp=>trivial
 | pt b t cs=>exact l _ _ s
 | ob b o=>exact l _ _ s
 | hp P=>exact P.up _ _ l s
def res (h:Hl) (own:Nat->Nat) (i:Nat):Hl:=λb=>if own b=i then h b else none
theorem res_some {h:Hl} {own:Nat->Nat} {i b:Nat} {o:Obj}:res h own i b=some o↔own b=i/\h b=some o:=by
 unfold res;split<;>simp_all
def Sep (L:List Atom) (h:Hl):Prop:=∃own:Nat->Nat,∀(i:Nat) (A:Atom),L[i]? =some A->A.sat (res h own i)

theorem Sep.up {L:List Atom} {h h':Hl} (l:Hle h h') (s:Sep L h):Sep L h':=by
 obtain⟨own,hs⟩:=s;refine⟨own,λi A hA=>Atom.up (λb o hb=>?_) (hs i A hA)⟩;rw[res_some]at hb ⊢;exact⟨hb.1,l _ _ hb.2⟩
def HP.of (L:List Atom):HP:=⟨Sep L,λ_ _ l s=>s.up l⟩
theorem Sep.nil (h:Hl):Sep [] h:=⟨λ_=>0,λi A hA=>by simp at hA⟩
theorem Sep.get {L:List Atom} {h:Hl} (s:Sep L h) {i:Nat} {A:Atom} (hA:L[i]? =some A):A.sat h:=by
 obtain⟨own,hs⟩:=s;exact Atom.up (λb o hb=>(res_some.1 hb).2) (hs i A hA)
theorem Sep.pt {L:List Atom} {h:Hl} (s:Sep L h) {i b:Nat} {t:TypeId} {cs:List Value} (hA:L[i]? =some (.pt b t cs)):h b=some (.cells cs.toArray t (0,0)):=s.get hA
def A9 (h:Hl) (b:Nat) (o:Obj):Hl:=λx=>if x=b then some o else h x
theorem Sep.set_ {L:List Atom} {h:Hl} (s:Sep L h) {i b:Nat} {o o':Obj} {A A':Atom} (hA:L[i]? =some A) (hs:∀h',A.sat h'->h' b=some o) (hs':∀h',h' b=some o'->A'.sat h'):Sep (L.set i A') (A9 h b o'):=by
 obtain⟨own,hw⟩:=s;have hb:=res_some.1 (hs _ (hw i A hA));have hi:i<L.length:=(List.getElem?_eq_some_iff.1 hA).1;refine⟨own,λj B hB=>?_⟩;rw[List.getElem?_set]at hB;split at hB
 ·rename_i e;injection hB with hB;subst hB;subst e;exact hs' _ (res_some.2 ⟨hb.1,by simp[A9]⟩)
 ·rename_i e;refine Atom.up (λx u hx=>?_) (hw j B hB);rw[res_some]at hx ⊢;refine⟨hx.1,?_⟩;unfold A9;rw[if_neg]
  ·exact hx.2
  ·rintro rfl;exact e (hb.1.symm.trans hx.1)
theorem Sep.setPt {L:List Atom} {h:Hl} (s:Sep L h) {i b:Nat} {t:TypeId} {cs:List Value} (cs':List Value) (hA:L[i]? =some (.pt b t cs)):Sep (L.set i (.pt b t cs')) (A9 h b (.cells cs'.toArray t (0,0))):=
 s.set_ hA (λ_ e=>e) (λ_ e=>e)
theorem Sep.snoc {L:List Atom} {h:Hl} (s:Sep L h) {n:Nat} {o:Obj} {A:Atom} (hn:h n=none) (hs:∀h',h' n=some o->A.sat h'):Sep (L++[A]) (A9 h n o):=by
 obtain⟨own,hw⟩:=s;refine⟨λb=>if b=n then L.length else own b,λj B hB=>?_⟩;rw[List.getElem?_append]at hB;split at hB
 ·rename_i hj;refine Atom.up (λx u hx=>?_) (hw j B hB);rw[res_some]at hx ⊢;have:x≠n:=by rintro rfl;rw[hn]at hx;cases hx.2
  simp only[this,if_false,A9];exact hx
 ·rename_i hj;have:j-L.length=0/\A=B:=by
   match hk:j-L.length with
   | 0=>rw[hk]at hB;simp at hB;exact⟨rfl,hB⟩
   | k+1=>rw[hk]at hB;simp at hB
  obtain⟨h0,rfl⟩:=this;have hj':j=L.length:=by omega
  subst hj';exact hs _ (res_some.2 ⟨by simp,by simp[A9]⟩)

theorem Sep.place {L L':List Atom} {h:Hl} (s:Sep L h) (f g:Nat->Nat) (hf:∀(j:Nat) (A:Atom),L'[j]? =some A->A= .emp\/(L[f j]? =some A/\g (f j)=j)):Sep L' h:=by
 obtain⟨own,hw⟩:=s;refine⟨λb=>g (own b),λj A hA=>?_⟩;rcases hf j A hA with rfl | ⟨h1,h2⟩
 ·trivial
 ·refine Atom.up (λb o hb=>?_) (hw _ _ h1);rw[res_some]at hb ⊢;exact⟨by show g (own b)=j;rw[hb.1];exact h2,hb.2⟩

def s6 (L:List Atom):List Nat->List Atom
 | []=>[]
 | i::is=>(L[i]?.getD .emp)::s6 L is
def J7:List Atom->List Nat->List Atom
 | L,[]=>L
 | L,i::is=>J7 (L.set i .emp) is
def puts:List Atom->List Nat->List Atom->List Atom
 | L,[],As=>L++As
 | L,_::is,[]=>puts L is []
 | L,i::is,A::As=>puts (L.set i A) is As
theorem a4U (L:List Atom):∀(is:List Nat) (k:Nat) (A:Atom),(s6 L is)[k]? =some A->∃i,is[k]? =some i/\L[i]?.getD .emp=A
 | [],k,A,h=>by simp[s6]at h
 | i::is,0,A,h=>by simp[s6]at h;exact⟨i,rfl,h⟩
 | i::is,k+1,A,h=>by simp only[s6,List.getElem?_cons_succ]at h ⊢;exact a4U L is k A h
theorem a5z:∀(is:List Nat) (L:List Atom) (j:Nat) (A:Atom),(J7 L is)[j]? =some A->A= .emp\/(j∉is/\L[j]? =some A)
 | [],L,j,A,h=> .inr ⟨by simp,h⟩
 | i::is,L,j,A,h=>by
  rcases a5z is (L.set i .emp) j A h with h | ⟨h1,h2⟩
  ·exact .inl h
  ·rw[List.getElem?_set]at h2;split at h2
   ·split at h2
    ·simp at h2;exact .inl h2.symm
    ·cases h2
   ·rename_i e;exact .inr ⟨by simp only[List.mem_cons,not_or];exact⟨λe'=>e e'.symm,h1⟩,h2⟩
theorem a1P:∀(is:List Nat) (L:List Atom) (j:Nat),j∈is->j<L.length->(J7 L is)[j]? =some .emp
 | i::is,L,j,h,hl=>by
  rcases List.mem_cons.1 h with rfl | h
  ·by_cases hj:j∈is
   ·exact a1P is _ j hj (by simpa using hl)
   ·have:∀(is:List Nat) (L:List Atom),j∉is->(J7 L is)[j]? =L[j]?:=by
     intro is
     induction is with
     | nil=>intro L _;rfl
     | cons k ks ih=>
      intro L hn;simp only[List.mem_cons,not_or]at hn;rw[J7,ih _ hn.2,List.getElem?_set,if_neg (λe=>hn.1 e.symm)]
    rw[J7,this is _ hj,List.getElem?_set,if_pos rfl,if_pos hl]
  ·exact a1P is _ j h (by simpa using hl)
theorem Sep.putsOk:∀(is:List Nat) (L As:List Atom) (h:Hl),is.Nodup->(∀i∈is,L[i]? =some .emp)->Sep (L++As) h->Sep (puts L is As) h
 | [],L,As,h,_,_,s=>s
 | i::is,L,[],h,hn,he,s=>Sep.putsOk is L [] h (List.nodup_cons.1 hn).2 (λj hj=>he j (List.mem_cons_of_mem _ hj)) s
 | i::is,L,A::As,h,hn,he,s=>by
  have hil:i<L.length:=(List.getElem?_eq_some_iff.1 (he i (List.mem_cons_self ..))).1;refine Sep.putsOk is (L.set i A) As h (List.nodup_cons.1 hn).2 (λj hj=>?_) ?_
  ·have hne:i≠j:=by rintro rfl;exact(List.nodup_cons.1 hn).1 hj
   rw[List.getElem?_set,if_neg hne];exact he j (List.mem_cons_of_mem _ hj)
  ·refine s.place (λj=>if j=i then L.length else if j<L.length then j else j+1) (λx=>if x=L.length then i else if L.length<x then x-1 else x) (λj B hB=> .inr ?_)
   by_cases hji:j=i
   ·subst hji;simp only[if_pos];refine⟨?_,trivial⟩;rw[List.getElem?_append_left (by simpa using hil),List.getElem?_set,if_pos rfl,if_pos hil]at hB;rw[List.getElem?_append_right (Nat.le_refl _),Nat.sub_self];exact hB
   ·simp only[if_neg hji]
    by_cases hjl:j<L.length
    ·simp only[if_pos hjl];refine⟨?_,by rw[if_neg (by omega),if_neg (by omega)]⟩;rw[List.getElem?_append_left (by simpa using hjl),List.getElem?_set,if_neg (λe=>hji e.symm)]at hB;rw[List.getElem?_append_left hjl];exact hB
    ·simp only[if_neg hjl];refine⟨?_,by rw[if_neg (by omega),if_pos (by omega)];omega⟩;rw[List.getElem?_append_right (by simpa using hjl),List.length_set]at hB;rw[List.getElem?_append_right (by omega),show j+1-L.length=(j-L.length)+1 from by omega,List.getElem?_cons_succ];exact hB
def x5 (L:List Atom) (is:List Nat):Bool:=decide is.Nodup&&is.all (λi=>decide (i<L.length))
theorem I0 {L:List Atom} {is:List Nat} (h:x5 L is=true):is.Nodup/\∀i∈is,i<L.length:=by
 simp only[x5,Bool.and_eq_true,decide_eq_true_eq,List.all_eq_true]at h;exact h
theorem Sep.split {L:List Atom} {h:Hl} (s:Sep L h) {is:List Nat} (ok:x5 L is=true):Sep (.hp (HP.of (J7 L is))::s6 L is) h:=by
 obtain⟨own,hw⟩:=s;obtain⟨hn,hi⟩:=I0 ok;refine⟨λb=>if own b∈is then is.idxOf (own b)+1 else 0,λj A hA=>?_⟩;cases j with
 | zero=>
  simp at hA;subst hA;refine⟨own,λi B hB=>?_⟩;rcases a5z is L i B hB with rfl | ⟨h1,h2⟩
  ·trivial
  ·refine Atom.up (λb o hb=>?_) (hw i B h2);rw[res_some]at hb ⊢;refine⟨hb.1,?_⟩;rw[res_some];exact⟨by rw[if_neg (by rw[hb.1];exact h1)],hb.2⟩
 | succ k=>
  simp only[List.getElem?_cons_succ]at hA;obtain⟨i,h1,h2⟩:=a4U L is k A hA;have him:i∈is:=List.mem_of_getElem? h1;have hil:=hi i him;rw[List.getElem?_eq_getElem hil]at h2;simp at h2;refine Atom.up (λb o hb=>?_) (hw i A (by rw[List.getElem?_eq_getElem hil,h2]));rw[res_some]at hb ⊢;refine⟨?_,hb.2⟩;rw[hb.1,if_pos him];obtain⟨hk,e⟩:=List.getElem?_eq_some_iff.1 h1;rw[<- e,hn.idxOf_getElem]
theorem Sep.flat {L As:List Atom} {h:Hl} (s:Sep (.hp (HP.of L)::As) h):Sep (L++As) h:=by
 obtain⟨own,hw⟩:=s;obtain⟨own2,hw2⟩:=hw 0 _ rfl;refine⟨λb=>if own b=0 then own2 b else L.length+own b-1,λj A hA=>?_⟩;rw[List.getElem?_append]at hA;split at hA
 ·refine Atom.up (λb o hb=>?_) (hw2 j A hA);rw[res_some]at hb ⊢;have:=res_some.1 hb.2;exact⟨by rw[if_pos this.1];exact hb.1,this.2⟩
 ·rename_i hj;refine Atom.up (λb o hb=>?_) (hw (j-L.length+1) A (by simpa using hA));rw[res_some]at hb ⊢;exact⟨by rw[if_neg (by omega),hb.1];omega,hb.2⟩
theorem Sep.back {L As:List Atom} {h:Hl} {is:List Nat} (ok:x5 L is=true) (s:Sep (.hp (HP.of (J7 L is))::As) h):Sep (puts (J7 L is) is As) h:=by
 obtain⟨hn,hi⟩:=I0 ok;exact Sep.putsOk is _ As h hn (λi hm=>a1P is L i hm (hi i hm)) s.flat
theorem Sep.turn {L:List Atom} {h:Hl} (s:Sep L h) (is:List Nat) (ok:x5 L is=true) {α:Type} {As:α->List Atom} (ht:∀h',Sep (s6 L is) h'->∃x,Sep (As x) h'):∃x,Sep (puts (J7 L is) is (As x)) h:=by
 obtain⟨own,hw⟩:=s.split ok;have h1:Sep (s6 L is) (λb=>if own b=0 then none else h b):=by
  refine⟨λb=>own b-1,λj A hA=>Atom.up (λb o hb=>?_) (hw (j+1) A (by simpa using hA))⟩;rw[res_some]at hb ⊢;exact⟨by show own b-1=j;omega,by rw[if_neg (by omega)];exact hb.2⟩
 obtain⟨x,own2,h2⟩:=ht _ h1;refine⟨x,Sep.back ok ⟨λb=>if own b=0 then 0 else own2 b+1,λj A hA=>?_⟩⟩;cases j with
 | zero=>
  simp at hA;subst hA;refine Atom.up (λb o hb=>?_) (hw 0 _ rfl);rw[res_some]at hb ⊢;exact⟨by rw[if_pos hb.1],hb.2⟩
 | succ k=>
  refine Atom.up (λb o hb=>?_) (h2 k A (by simpa using hA));rw[res_some]at hb ⊢
  by_cases e:own b=0
  ·rw[if_pos e]at hb;cases hb.2
  ·rw[if_neg e]at hb ⊢;exact⟨by rw[hb.1],hb.2⟩
theorem Sep.turn1 {L:List Atom} {h:Hl} (s:Sep L h) (is:List Nat) (ok:x5 L is=true) {As:List Atom} (ht:∀h',Sep (s6 L is) h'->Sep As h'):Sep (puts (J7 L is) is As) h:=
 let⟨_,r⟩:=s.turn is ok (α:=Unit) (As:=λ_=>As) (λh' s'=>⟨(),ht h' s'⟩)
 r
def a5h {α:Type}:List α->Option (List α)
 | []=>some []
 | x::r=>match a5h r with
  | some r'=>some (x::r')
  | none=>none
def A8 {α:Type}:List α->Nat->α->Option (List α)
 | [],_,_=>some []
 | x::r,k,y=>match k with
  | 0=>match a5h r with
   | some r'=>some (y::r')
   | none=>none
  | k+1=>match A8 r k y with
   | some r'=>some (x::r')
   | none=>none
def b5j {α:Type}:List α->List α->Option (List α)
 | [],l=>a5h l
 | x::r,l=>match b5j r l with
  | some r'=>some (x::r')
  | none=>none
theorem a3O {α:Type}:∀{l m:List α},a5h l=some m->m=l
 | [],m,h=>by simp only[a5h,Option.some.injEq]at h;exact h.symm
 | x::r,m,h=>by
  simp only[a5h]at h;split at h
  ·rename_i r' hr;injection h with h;subst h;rw[a3O hr]
  ·cases h
theorem A7 {α:Type}:∀{l m:List α} {k:Nat} {y:α},A8 l k y=some m->m=l.set k y
 | [],m,k,y,h=>by simp only[A8,Option.some.injEq]at h;subst h;simp
 | x::r,m,0,y,h=>by
  simp only[A8]at h;split at h
  ·rename_i r' hr;injection h with h;subst h;rw[a3O hr];rfl
  ·cases h
 | x::r,m,k+1,y,h=>by
  simp only[A8]at h;split at h
  ·rename_i r' hr;injection h with h;subst h;rw[A7 hr];rfl
  ·cases h
theorem a9F {α:Type}:∀{l l' m:List α},b5j l l'=some m->m=l++l'
 | [],l',m,h=>a3O h
 | x::r,l',m,h=>by
  simp only[b5j]at h;split at h
  ·rename_i r' hr;injection h with h;subst h;rw[a9F hr];rfl
  ·cases h
def K4:List Atom->List Nat->List Atom->Option (List Atom)
 | L,[],As=>b5j L As
 | L,i::is,[]=>match A8 L i .emp with
  | some L'=>K4 L' is []
  | none=>none
 | L,i::is,A::As=>match A8 L i A with
  | some L'=>K4 L' is As
  | none=>none
theorem a5y:∀(is:List Nat) (L:List Atom) (i:Nat) (A B:Atom),i∉is->(J7 (L.set i B) is).set i A=J7 (L.set i A) is
 | [],L,i,A,B,_=>by simp[J7]
 | j::is,L,i,A,B,h=>by
  simp only[List.mem_cons,not_or]at h;simp only[J7];rw[List.set_comm _ _ h.1,a5y is _ i A B h.2,<- List.set_comm _ _ h.1]
theorem V7:∀{is:List Nat} {L As L':List Atom},is.Nodup->K4 L is As=some L'->L'=puts (J7 L is) is As
 | [],L,As,L',_,h=>by simp only[K4]at h;exact a9F h
 | i::is,L,[],L',hn,h=>by
  obtain⟨h1,h2⟩:=List.nodup_cons.1 hn;simp only[K4]at h;split at h
  ·rename_i L1 hL;rw[A7 hL]at h;have:=V7 h2 h;exact this
  ·cases h
 | i::is,L,A::As,L',hn,h=>by
  obtain⟨h1,h2⟩:=List.nodup_cons.1 hn;simp only[K4]at h;split at h
  ·rename_i L1 hL;rw[A7 hL]at h;simp only[puts,J7];rw[a5y _ _ _ _ _ h1];have:=V7 h2 h;exact this
  ·cases h
theorem Sep.hpOf {L:List Atom} {h:Hl}:Sep [.hp (HP.of L)] h↔Sep L h:=
 ⟨λs=>by have:=s.flat;rwa [List.append_nil]at this,λs=>⟨λ_=>0,λi A hA=>by
  cases i with
  | zero=>simp at hA;subst hA;exact Sep.up (λb o hb=>res_some.2 ⟨rfl,hb⟩) s
  | succ k=>simp at hA⟩⟩
end Go.Proofs.YtpohajhbfllbbaaGreat
