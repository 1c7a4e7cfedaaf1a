/- Helpers. No condition. -/
import Derived.Test.YtmafiplddapokaaGreatRows
import Derived.Test.YtmafiplddapokaaGreatT00
import Derived.WalkKit
import Derived.WalkSpells
import Derived.WalkLawsBesides
import Derived.BigQuiet
import Derived.Deep.QuietTactic
import Derived.Lib.Hide
import Derived.Maps.AppendAt
import Derived.Deep.AppendLies
import Derived.Deep.RegionHeld3
import Derived.Deep.RegionLaw
import Derived.Deep.MidRow
import Derived.StillTailTactics
import Derived.Deep.DrawnRows
import Derived.Deep.Draws
import Derived.Deep.DeepCutAuto
set_option maxRecDepth 20000
set_option linter.all false
namespace Go.Proofs.YtmafiplddapokaaGreat
section
namespace L
def set (m:Int):Bool:=decide (0<=m)&&decide (m<256)
def one (d:Int):Int:=if 0<=d/\d<8 then((2^d.toNat:Nat):Int)else 0
def has (m d:Int):Bool:=set m&&(decide (0<=d)&&decide (d<8))&&m.toNat.testBit d.toNat
def all (n:Int):Int:=if 0<=n/\n<=8 then((2^n.toNat-1:Nat):Int)else 0
def with_ (m d:Int):Int:=if set m then((m.toNat||| (one d).toNat:Nat):Int)else 0
def without (m d:Int):Int:=if set m then((m.toNat&&& (255-(one d).toNat):Nat):Int)else 0
def dies (m:Int):List Nat:=if set m then(List.range 8).filter (λd=>m.toNat.testBit d)else[]
def count (m:Int):Nat:=(dies m).length
def at_ (m i:Int):Int:=if 0<=i then(((dies m)[i.toNat]?).map (λ(d:Nat)=>(d:Int))).getD (-1)else-1
def below (m:Int) (k:Nat):Nat:=((List.range 8).filter (λd=>decide (d<k)&&L.has m d)).length
def spot (m d:Int):Int:=if has m d then(below m d.toNat:Int)else-1
theorem set_iff (m:Int):set m=true↔0<=m/\m<256:=by simp[set]
theorem below_dec:∀m,m<256->∀k,k<8->below (m:Nat) (k+1)=below (m:Nat) k+(if has (m:Nat) (k:Nat)then 1 else 0):=by decide+kernel
theorem at_dec:∀m,m<256->∀k,k<8->has (m:Nat) (k:Nat)=true->at_ (m:Nat) (below (m:Nat) k:Nat)=(k:Nat):=by decide+kernel
theorem count_dec:∀m,m<256->below (m:Nat) 8=count (m:Nat)/\below (m:Nat) 0=0/\count (m:Nat)<=8:=by decide+kernel
theorem has_no (m d:Int) (h:¬(0<=m/\m<256)):has m d=false:=by
 have:set m=false:=by rw[Bool.eq_false_iff,I1,set_iff];exact h
 simp[has,this]
theorem below_succ (m:Int) (k:Nat) (hk:k<8):below m (k+1)=below m k+(if has m k then 1 else 0):=by
 by_cases h:0<=m/\m<256
 ·obtain⟨m,rfl⟩:=f9 h.1;exact below_dec m (by omega) k hk
 ·simp[below,has_no _ _ h]
theorem at_below (m:Int) (k:Nat) (hk:k<8) (hh:has m k=true):at_ m (below m k)=k:=by
 by_cases h:0<=m/\m<256
 ·obtain⟨m,rfl⟩:=f9 h.1;exact at_dec m (by omega) k hk hh
 ·rw[has_no _ _ h]at hh;cases hh
theorem count_no (m:Int) (h:¬(0<=m/\m<256)):count m=0:=by
 have:set m=false:=by rw[Bool.eq_false_iff,I1,set_iff];exact h
 simp[count,dies,this]
theorem below_zero (m:Int):below m 0=0:=by simp[below]
theorem below_eight (m:Int):below m 8=count m:=by
 by_cases h:0<=m/\m<256
 ·obtain⟨m,rfl⟩:=f9 h.1;exact(count_dec m (by omega)).1
 ·rw[count_no m h];simp[below,has_no _ _ h]
theorem count_le (m:Int):count m<=8:=by
 by_cases h:0<=m/\m<256
 ·obtain⟨m,rfl⟩:=f9 h.1;exact(count_dec m (by omega)).2.2
 ·rw[count_no m h];omega
theorem at_ge (m i:Int) (h:i<0\/(count m:Int)<=i):at_ m i= -1:=by
 unfold at_;split
 ·rw[j6 (by unfold count at h;omega)];rfl
 ·rfl
theorem has_lt (m d:Int) (h:has m d=true):0<=d/\d<8/\0<=m/\m<256:=by
 simp[has,set]at h;omega
end L
namespace G
def parity (mask block row:Int):Int:=if L.count mask<2\/block<0\/row<0 then-1 else L.at_ mask ((block+row) % L.count mask)
def slots (mask:Int):Int:=if L.count mask<2 then 0 else(L.count mask:Int)-1
def die (mask block row slot:Int):Int:=if parity mask block row<0 then-1 else L.at_ (L.without mask (parity mask block row)) slot
def slot (mask block row die:Int):Int:=if parity mask block row<0 then-1 else L.spot (L.without mask (parity mask block row)) die
end G
namespace K
def round (s:Nat):Nat:=if s<2147483648 then s*2 else(s*2 % 4294967296) ^^^ 1947962583
def rounds:Nat->Nat->Nat
 | 0,s=>s
 | n+1,s=>round (rounds n s)
def step (s x:Nat):Nat:=rounds 8 (s ^^^ (x*16777216))
def sum (l:List UInt8):Nat:=l.foldl (λs x=>step s x.toNat) 4294967295
theorem round_lt (s:Nat) (h:s<4294967296):round s<4294967296:=by
 unfold round;split
 ·omega
 ·exact Z9 (n:=32) (by omega) (by omega)
theorem rounds_lt (n s:Nat) (h:s<4294967296):rounds n s<4294967296:=by
 induction n with
 | zero=>exact h
 | succ n ih=>exact round_lt _ ih
theorem step_lt (s x:Nat) (h:s<4294967296) (hx:x<256):step s x<4294967296:=
 rounds_lt 8 _ (Z9 (n:=32) (by omega) (by omega))
theorem foldl_lt (l:List UInt8):∀s:Nat,s<4294967296->l.foldl (λs x=>step s x.toNat) s<4294967296:=by
 induction l with
 | nil=>intro s h;exact h
 | cons x l ih=>
  intro s h;have hx:x.toNat<256:=x.toNat_lt;have:=step_lt s x.toNat h hx;rw[B3];exact ih _ this
theorem sum_lt (l:List UInt8):sum l<4294967296:=foldl_lt l _ (by omega)
theorem sum_snoc (b:List UInt8) (k:Nat) (x:UInt8) (hx:b[k]? =some x):sum (b.take (k+1))=step (sum (b.take k)) x.toNat:=by
 rw[D2,hx];simp only[sum,B8,K8,B3,List.foldl_nil]
end K
end
section
namespace Bt
def bits (u w:Nat):List Bool:=(List.range w).map λi=>u.testBit (w-1-i)
def byteAt (l:List Bool) (j:Nat):Nat:=
 (l.getD j false).toNat*128+(l.getD (j+1) false).toNat*64+(l.getD (j+2) false).toNat*32+(l.getD (j+3) false).toNat*16+
 (l.getD (j+4) false).toNat*8+(l.getD (j+5) false).toNat*4+(l.getD (j+6) false).toNat*2+(l.getD (j+7) false).toNat
def pack (l:List Bool):List UInt8:=(List.range ((l.length+7)/8)).map λj=>UInt8.ofNat (byteAt l (8*j))
theorem length_bits (u w:Nat):(bits u w).length=w:=by simp[bits]
theorem byteAt_lt (l:List Bool) (j:Nat):byteAt l j<256:=by
 unfold byteAt;have h:∀b:Bool,b.toNat<=1:=λb=>a2q b;have h0:=h (l.getD j false);have h1:=h (l.getD (j+1) false);have h2:=h (l.getD (j+2) false);have h3:=h (l.getD (j+3) false);have h4:=h (l.getD (j+4) false);have h5:=h (l.getD (j+5) false);have h6:=h (l.getD (j+6) false);have h7:=h (l.getD (j+7) false);omega
theorem length_pack (l:List Bool):(pack l).length=(l.length+7)/8:=by simp[pack]
theorem pack_get (l:List Bool) (j:Nat) (h:j<(l.length+7)/8):(pack l)[j]? =some (UInt8.ofNat (byteAt l (8*j))):=by
 simp[pack,h]
theorem byteAt_out (l:List Bool) (j:Nat) (h:l.length<=j):byteAt l j=0:=by
 have g:∀k,l.length<=k->l.getD k false=false:=λk hk=>by simp[d5,j6 hk]
 unfold byteAt;rw[g _ h,g _ (by omega),g _ (by omega),g _ (by omega),g _ (by omega),g _ (by omega),g _ (by omega),g _ (by omega)];rfl
theorem getD_snoc (l:List Bool) (x:Bool) (k:Nat):(l++[x]).getD k false=if k=l.length then x else l.getD k false:=by
 simp only[d5,I8]
 by_cases h:k<l.length
 ·rw[d7 h,d4 (by omega)]
 ·rw[d4 h]
  by_cases e:k=l.length
  ·subst e;simp
  ·rw[d4 e,j6 (by simp;omega),j6 (by omega)]
theorem byteAt_snoc (l:List Bool) (x:Bool) (j:Nat):byteAt (l++[x]) j=byteAt l j+(if j<=l.length/\l.length<j+8 then x.toNat*2^(7-(l.length-j))else 0):=by
 have g:∀k,l.length<=k->l.getD k false=false:=λk hk=>by simp[d5,j6 hk]
 by_cases h:j<=l.length/\l.length<j+8
 ·rw[d7 h];obtain⟨i,hi⟩:∃i,l.length=j+i:=⟨l.length-j,by omega⟩;have hi8:i<8:=by omega
  rw[show l.length-j=i from by omega];unfold byteAt;simp only[getD_snoc]
  match i,hi8 with
  | 0,_=>rw[g j (by omega),d7 (by omega),d4 (by omega),d4 (by omega),d4 (by omega),d4 (by omega),d4 (by omega),d4 (by omega),d4 (by omega)];simp;omega
  | 1,_=>rw[g (j+1) (by omega),d4 (by omega),d7 (by omega),d4 (by omega),d4 (by omega),d4 (by omega),d4 (by omega),d4 (by omega),d4 (by omega)];simp;omega
  | 2,_=>rw[g (j+2) (by omega),d4 (by omega),d4 (by omega),d7 (by omega),d4 (by omega),d4 (by omega),d4 (by omega),d4 (by omega),d4 (by omega)];simp;omega
  | 3,_=>rw[g (j+3) (by omega),d4 (by omega),d4 (by omega),d4 (by omega),d7 (by omega),d4 (by omega),d4 (by omega),d4 (by omega),d4 (by omega)];simp;omega
  | 4,_=>rw[g (j+4) (by omega),d4 (by omega),d4 (by omega),d4 (by omega),d4 (by omega),d7 (by omega),d4 (by omega),d4 (by omega),d4 (by omega)];simp;omega
  | 5,_=>rw[g (j+5) (by omega),d4 (by omega),d4 (by omega),d4 (by omega),d4 (by omega),d4 (by omega),d7 (by omega),d4 (by omega),d4 (by omega)];simp;omega
  | 6,_=>rw[g (j+6) (by omega),d4 (by omega),d4 (by omega),d4 (by omega),d4 (by omega),d4 (by omega),d4 (by omega),d7 (by omega),d4 (by omega)];simp;omega
  | 7,_=>rw[g (j+7) (by omega),d4 (by omega),d4 (by omega),d4 (by omega),d4 (by omega),d4 (by omega),d4 (by omega),d4 (by omega),d7 (by omega)];simp
 ·rw[d4 h];unfold byteAt;simp only[getD_snoc];rw[d4 (by omega),d4 (by omega),d4 (by omega),d4 (by omega),d4 (by omega),d4 (by omega),d4 (by omega),d4 (by omega)];simp

def packZ (l:List Bool):List UInt8:=if l.length % 8=0 then pack l++[0]else pack l
theorem length_packZ (l:List Bool):(packZ l).length=l.length/8+1:=by
 unfold packZ;split
 ·simp[length_pack];omega
 ·rw[length_pack];omega
theorem packZ_get (l:List Bool) (j:Nat) (h:j<l.length/8+1):(packZ l)[j]? =some (UInt8.ofNat (byteAt l (8*j))):=by
 unfold packZ;split
 ·by_cases e:j<(pack l).length
  ·rw[E6 e,pack_get _ _ (by rw[length_pack]at e;exact e)]
  ·have:j=(pack l).length:=by rw[length_pack]at e ⊢;omega
   subst this;rw[B1 (j3 _),U3,byteAt_out _ _ (by rw[length_pack];omega)];rfl
 ·exact pack_get _ _ (by omega)
theorem pack_snoc (l:List Bool) (x:Bool):pack (l++[x])=(packZ l).set (l.length/8) (UInt8.ofNat (byteAt l (8*(l.length/8))+x.toNat*2^(7-l.length % 8))):=by
 apply z8;intro j;have hl:(pack (l++[x])).length=l.length/8+1:=by rw[length_pack];simp;omega
 by_cases h:j<l.length/8+1
 ·rw[pack_get _ _ (by simp;omega),A9,length_packZ,byteAt_snoc]
  by_cases e:l.length/8=j
  ·rw[d7 e,d7 (by omega),d7 (by omega),<- e,show l.length-8*(l.length/8)=l.length % 8 from by omega]
  ·rw[d4 e,d4 (by omega),packZ_get _ _ h];simp
 ·rw[j6 (by omega),j6 (by simp[length_packZ];omega)]
theorem byte_or_dec:∀i,i<8->∀h,h<2^i->(h*2^(8-i))||| (2^(7-i))=h*2^(8-i)+2^(7-i):=by decide+kernel
theorem byteAt_last (l:List Bool):∃h,h<2^(l.length % 8)/\byteAt l (8*(l.length/8))=h*2^(8-l.length % 8):=by
 have g:∀k,l.length<=k->l.getD k false=false:=λk hk=>by simp[d5,j6 hk]
 have hb:∀b:Bool,b.toNat<=1:=λb=>a2q b;generalize hj:8*(l.length/8)=j;have h8:l.length % 8<8:=a3Q _ (by omega);have hn:l.length=j+l.length % 8:=by omega
 have h0:=hb (l.getD j false);have h1:=hb (l.getD (j+1) false);have h2:=hb (l.getD (j+2) false);have h3:=hb (l.getD (j+3) false);have h4:=hb (l.getD (j+4) false);have h5:=hb (l.getD (j+5) false);have h6:=hb (l.getD (j+6) false);generalize l.length % 8=i at*;unfold byteAt
 match i,h8 with
 | 0,_=>rw[g j (by omega),g (j+1) (by omega),g (j+2) (by omega),g (j+3) (by omega),g (j+4) (by omega),g (j+5) (by omega),g (j+6) (by omega),g (j+7) (by omega)];exact⟨0,by decide,rfl⟩
 | 1,_=>rw[g (j+1) (by omega),g (j+2) (by omega),g (j+3) (by omega),g (j+4) (by omega),g (j+5) (by omega),g (j+6) (by omega),g (j+7) (by omega)];exact⟨(l.getD j false).toNat,by omega,by simp⟩
 | 2,_=>rw[g (j+2) (by omega),g (j+3) (by omega),g (j+4) (by omega),g (j+5) (by omega),g (j+6) (by omega),g (j+7) (by omega)];exact⟨(l.getD j false).toNat*2+(l.getD (j+1) false).toNat,by omega,by simp;omega⟩
 | 3,_=>rw[g (j+3) (by omega),g (j+4) (by omega),g (j+5) (by omega),g (j+6) (by omega),g (j+7) (by omega)];exact⟨(l.getD j false).toNat*4+(l.getD (j+1) false).toNat*2+(l.getD (j+2) false).toNat,by omega,by simp;omega⟩
 | 4,_=>rw[g (j+4) (by omega),g (j+5) (by omega),g (j+6) (by omega),g (j+7) (by omega)];exact⟨(l.getD j false).toNat*8+(l.getD (j+1) false).toNat*4+(l.getD (j+2) false).toNat*2+(l.getD (j+3) false).toNat,by omega,by simp;omega⟩
 | 5,_=>rw[g (j+5) (by omega),g (j+6) (by omega),g (j+7) (by omega)];exact⟨(l.getD j false).toNat*16+(l.getD (j+1) false).toNat*8+(l.getD (j+2) false).toNat*4+(l.getD (j+3) false).toNat*2+(l.getD (j+4) false).toNat,by omega,by simp;omega⟩
 | 6,_=>rw[g (j+6) (by omega),g (j+7) (by omega)];exact⟨(l.getD j false).toNat*32+(l.getD (j+1) false).toNat*16+(l.getD (j+2) false).toNat*8+(l.getD (j+3) false).toNat*4+(l.getD (j+4) false).toNat*2+(l.getD (j+5) false).toNat,by omega,by simp;omega⟩
 | 7,_=>rw[g (j+7) (by omega)];exact⟨(l.getD j false).toNat*64+(l.getD (j+1) false).toNat*32+(l.getD (j+2) false).toNat*16+(l.getD (j+3) false).toNat*8+(l.getD (j+4) false).toNat*4+(l.getD (j+5) false).toNat*2+(l.getD (j+6) false).toNat,by omega,by simp;omega⟩
theorem byte_or (l:List Bool) (x:Bool):byteAt l (8*(l.length/8))||| x.toNat*2^(7-l.length % 8)=byteAt l (8*(l.length/8))+x.toNat*2^(7-l.length % 8):=by
 obtain⟨h,hh,e⟩:=byteAt_last l;cases x
 ·simp
 ·rw[e];simpa using byte_or_dec (l.length % 8) (a3Q _ (by omega)) h hh
theorem take_bits_succ (u n k:Nat) (h:k<n):(bits u n).take (k+1)=(bits u n).take k++[u.testBit (n-1-k)]:=by
 rw[List.take_succ_eq_append_getElem (by rw[length_bits];exact h)];simp[bits]
def bitAt (b:List UInt8) (j:Nat):Bool:=(b.getD (j/8) 0).toNat.testBit (7-j % 8)
def numAt (b:List UInt8) (k:Nat):Nat->Nat
 | 0=>0
 | w+1=>2*numAt b k w+(bitAt b (k+w)).toNat
theorem numAt_lt (b:List UInt8) (k w:Nat):numAt b k w<2^w:=by
 induction w with
 | zero=>simp[numAt]
 | succ w ih=>
  have:=a2q (bitAt b (k+w));rw[numAt,Nat.pow_succ];omega
end Bt
end
section
structure Sh where
 data:List UInt8
 role:Int
 lpn:Int
 seq:Int
 kind:Int
 block:Int
 row:Int
 mask:Int
 deriving DecidableEq
def zeros16:List UInt8:=List.replicate 16 0
def Sh.zero:Sh:=⟨zeros16,0,0,0,0,0,0,0⟩
namespace S
def entry (s:Sh):Bool:=
 if s.role=1 then true
 else if s.role=2\/s.role=4 then decide (s.data=zeros16)
 else if s.role=3 then decide (s.data=zeros16)&&decide (s.lpn=0)&&decide (s.seq=0)
 else false
def inB (n a:Int):Bool:=decide (0<=n)&&decide (n<=a)
def place (s:Sh):Bool:=inB s.block 15&&inB s.row 7&&decide (2<=L.count s.mask)
def numbers (s:Sh):Bool:=inB s.seq 1099511627775&&inB s.lpn 65535&&inB s.role 255
def may (s:Sh):Bool:=place s&&numbers s&&(decide (s.kind=2)||(decide (s.kind=1)&&entry s))
def meta_ (role lpn seq:Int):Nat:=(role % 256).toNat*72057594037927936+((lpn % 65536).toNat*1099511627776+(seq % 1099511627776).toNat)
def head (s:Sh):List Bool:=Bt.bits (meta_ s.role s.lpn s.seq) 64++Bt.bits s.block.toNat 8++Bt.bits s.row.toNat 8++Bt.bits s.mask.toNat 8++Bt.bits s.kind.toNat 8
def put (s:Sh):List UInt8:=s.data++Bt.pack (head s++Bt.bits (K.sum (s.data++Bt.pack (head s))) 32)
def fields (p:List UInt8):Sh:=
 let b:=p.drop 16
 let m:=Bt.numAt b 0 64
 ⟨p.take 16,(m/72057594037927936:Nat),(m/1099511627776 % 65536:Nat),(m % 1099511627776:Nat),Bt.numAt b 88 8,Bt.numAt b 64 8,Bt.numAt b 72 8,Bt.numAt b 80 8⟩
def get (p:List UInt8):Option Sh:=if may (fields p)/\put (fields p)=p then some (fields p)else none
def getV (p:List UInt8):Sh:=(get p).getD Sh.zero
def getE (p:List UInt8):Int:=if(get p).isSome then 0 else 1
theorem may_bounds (s:Sh) (h:may s=true):(0<=s.block/\s.block<=15)/\(0<=s.row/\s.row<=7)/\(0<=s.mask/\s.mask<=255)/\(1<=s.kind/\s.kind<=2):=by
 simp only[may,place,inB,f8,d6,j7]at h;have hm:0<=s.mask/\s.mask<=255:=by
  by_cases hh:0<=s.mask/\s.mask<256
  ·omega
  ·have:=L.count_no s.mask hh;omega
 omega
theorem length_head (s:Sh):(head s).length=96:=by simp[head,Bt.length_bits]
theorem length_put (s:Sh) (h:s.data.length=16):(put s).length=32:=by simp[put,Bt.length_pack,length_head,Bt.length_bits,h]
theorem meta_lt (role lpn seq:Int):meta_ role lpn seq<18446744073709551616:=by unfold meta_;omega
end S
end
section
abbrev A3':=Int×Int×Int
structure NCell where
 p:List UInt8
 lost:Bool
 turned:Bool
structure NBlock where
 cells:List NCell
 worn:Int
 fails:Bool
 met:Bool
structure Nand where
 dies:Nat
 blocks:Nat
 pages:Nat
 blk:Nat->Nat->NBlock
 plan:List A3'
 dead:List Bool
 off:Bool
 ops:Int
 broken:Int
 cuts:Bool
 left:Int
 keep:Int
def L4 (d b p:Int):Bool:=decide (3<=d/\d<=6)&&decide (8<=b/\b<=16)&&decide (2<=p/\p<=8)
def X4 (d b p x y z:Int):Bool:=decide (0<=x/\x<d)&&decide (0<=y/\y<b)&&decide (0<=z/\z<p)
def a3n:List UInt8:=List.replicate 32 0
structure Nand.Ok (N:Nand):Prop where
 geo:L4 N.dies N.blocks N.pages=true
 dead:N.dead.length=N.dies
 cells:∀i j,i<N.dies->j<N.blocks->(N.blk i j).cells.length<=N.pages/\∀c∈(N.blk i j).cells,c.p.length=32
 num:0<=N.ops/\0<=N.broken/\(∀i j,0<=(N.blk i j).worn/\(N.blk i j).worn<=N.ops)
 lft:N.cuts=true->0<=N.left/\N.left<=9223372036854775807
 lf2: -9223372036854775808<=N.left/\N.left<=9223372036854775807
 kp:0<=N.keep/\N.keep<=32
structure Nand.Room (N:Nand):Prop where
 ops:N.ops<4611686018427387904
 broken:N.broken<4611686018427387904
namespace Nand
def setBlk (N:Nand) (i j:Nat) (B:NBlock):Nand:={N with blk:=λa b=>if a=i/\b=j then B else N.blk a b}
def refuses (N:Nand) (x y z:Int):Int:=
 if N.off then 9 else if X4 N.dies N.blocks N.pages x y z=false then 3 else if N.dead.getD x.toNat false then 8 else 0
def cutB (N:Nand):Bool:=N.cuts&&decide (N.left<=0)
def cutN (N:Nand):Nand:={N with ops:=N.ops+1,left:=if N.cuts then N.left-1 else N.left,off:=if N.cutB then true else N.off,cuts:=if N.cutB then false else N.cuts}
def pageAt (N:Nand) (x y z:Int):Option NCell:=(N.blk x.toNat y.toNat).cells[z.toNat]?
def readV (N:Nand) (x y z:Int):List UInt8:=if N.refuses x y z≠0 then a3n else match N.pageAt x y z with
 | none=>a3n
 | some c=>if c.lost then a3n else c.p
def readE (N:Nand) (x y z:Int):Int:=if N.refuses x y z≠0 then N.refuses x y z else match N.pageAt x y z with
 | none=>5
 | some c=>if c.lost then 6 else 0
def onN (N:Nand):Nand:={N with off:=false,cuts:=false}
def setCut (N:Nand) (x k:Int):Nand:=if N.off then N else {N with cuts:=decide (0<=x),left:=x,keep:=min (max k 0) 32,off:=decide (x<0)}
def next (N:Nand) (x y:Int):Nat:=if 0<=x/\x<N.dies/\0<=y/\y<N.blocks then(N.blk x.toNat y.toNat).cells.length else 0
def wornAt (N:Nand) (x y:Int):Int:=if 0<=x/\x<N.dies/\0<=y/\y<N.blocks then(N.blk x.toNat y.toNat).worn else 0
def deadAt (N:Nand) (x:Int):Bool:=decide (0<=x)&&decide (x<N.dies)&&N.dead.getD x.toNat false
def push (N:Nand) (i j:Nat) (c:NCell):Nand:=N.setBlk i j {N.blk i j with cells:=(N.blk i j).cells++[c]}
def fillP (k:Nat) (p:List UInt8):List UInt8:=p.take k++List.replicate (32-k) 255
def fails (N:Nand) (x y z:Int):Bool:=decide ((x,y,z)∈N.plan)||(N.blk x.toNat y.toNat).met
def progN (N:Nand) (x y z:Int) (pg:List UInt8):Nand:=
 if N.refuses x y z≠0 then N else
 if z≠(N.blk x.toNat y.toNat).cells.length then {N with broken:=N.broken+1}else
 if N.cutB then N.cutN.push x.toNat y.toNat ⟨fillP N.keep.toNat pg,false,true⟩else
 push {N.cutN with plan:=N.plan.erase (x,y,z)} x.toNat y.toNat ⟨pg,N.fails x y z,false⟩
def progE (N:Nand) (x y z:Int):Int:=
 if N.refuses x y z≠0 then N.refuses x y z else
 if z≠(N.blk x.toNat y.toNat).cells.length then 4 else
 if N.cutB then 9 else if N.fails x y z then 7 else 0
def zcell:NCell:=⟨a3n,false,false⟩
def eraseN (N:Nand) (x y:Int):Nand:=
 let B:=N.blk x.toNat y.toNat
 if N.refuses x y 0≠0 then N else
 if N.cutB then N.cutN.setBlk x.toNat y.toNat {B with cells:=(B.cells++List.replicate (N.pages-B.cells.length) zcell).map λc=>{c with lost:=true}}else
 if B.fails then N.cutN.setBlk x.toNat y.toNat {B with met:=true}else
 {N.cutN.setBlk x.toNat y.toNat {B with cells:=[],worn:=B.worn+1}with plan:=N.plan.filter λa=>!(decide (a.1=x)&&decide (a.2.1=y))}
def eraseE (N:Nand) (x y:Int):Int:=
 if N.refuses x y 0≠0 then N.refuses x y 0 else if N.cutB then 9 else if(N.blk x.toNat y.toNat).fails then 7 else 0
def xorAt (p:List UInt8) (n:Nat) (x:UInt8):List UInt8:=p.set n ((p.getD n 0) ^^^ x)
def setCell (N:Nand) (x y z:Int) (f:NCell->NCell):Nand:=
 N.setBlk x.toNat y.toNat {N.blk x.toNat y.toNat with cells:=(N.blk x.toNat y.toNat).cells.modify z.toNat f}
def addP (l:List A3') (a:A3'):List A3':=if a∈l then l else l++[a]
def fault (N:Nand) (kind x y z n xx:Int):Bool×Nand:=
 if X4 N.dies N.blocks N.pages x y z=false then(false,N)else
 if kind=1 then(true,{N with plan:=addP N.plan (x,y,z)})else
 if kind=2 then(true,N.setBlk x.toNat y.toNat {N.blk x.toNat y.toNat with fails:=true})else
 if kind=3 then(true,N.setCell x y z λc=>{c with lost:=true})else
 if kind=4 then(true,{N with dead:=N.dead.set x.toNat true})else
 if kind=5 then
  if n<0\/32<=n then(false,N)else
  match N.pageAt x y z with
  | none=>(true,N)
  | some c=>if c.turned then(false,N)else if c.lost then(true,N)else
   (true,N.setCell x y z λc=>{c with p:=xorAt c.p n.toNat (UInt8.ofNat (xx % 256).toNat),turned:=true})
 else(false,N)
def new (d b p:Nat):Nand:=⟨d,b,p,λ_ _=>⟨[],0,false,false⟩,[],List.replicate d false,false,0,0,false,0,0⟩
theorem refuses_zero {N:Nand} {x y z:Int} (h:N.refuses x y z=0):N.off=false/\N.dead.getD x.toNat false=false/\0<=x/\x<N.dies/\0<=y/\y<N.blocks/\0<=z/\z<N.pages:=by
 unfold refuses at h;split at h
 ·omega
 ·rename_i h1;split at h
  ·omega
  ·rename_i h2;split at h
   ·omega
   ·rename_i h3;simp[X4]at h2;exact⟨by simpa using h1,by simpa using h3,by omega⟩
end Nand
end
section
open Go
structure MPv where
 now:List UInt8
 op:Bool
 may:List (List UInt8)
 ever:List (List UInt8)
namespace Mv
def z16:List UInt8:=[0,0,0,0,0,0,0,0,0,0,0,0,0,0,0,0]
def page0:MPv:=⟨z16,false,[z16],[z16]⟩
def new (n:Int):List MPv:=List.replicate (min (max n 0) 65536).toNat page0
def inR (M:List MPv) (i:Int):Bool:=decide (0<=i)&&decide (i<M.length)
def pg (M:List MPv) (i:Int):MPv:=M.getD i.toNat page0
def wr (v:MPv) (d:List UInt8):MPv:=⟨d,false,v.may++[d],v.ever++[d]⟩
def write (M:List MPv) (i:Int) (d:List UInt8):List MPv:=if inR M i then M.set i.toNat (wr (pg M i) d)else M
def flush (M:List MPv):List MPv:=M.map λv=>if v.op then v else {v with may:=[v.now]}
def cut (M:List MPv):List MPv:=M.map λv=>{v with op:=true}
def may (M:List MPv) (i:Int) (d:List UInt8):Bool:=inR M i&&(if(pg M i).op then(pg M i).may.contains d else(pg M i).now==d)
def seen (v:MPv) (d:List UInt8):MPv:=if v.op then⟨d,false,[d],v.ever⟩else v
def saw (M:List MPv) (i:Int) (d:List UInt8):List MPv:=if may M i d then M.set i.toNat (seen (pg M i) d)else M
end Mv
end
section
open Go.RowKit

theorem b0R {k:IntKind} {a b:Int} (h:a=b):Ending.returned (.int k a)=Ending.returned (.int k b):=by rw[h]

def bv (b:UInt8):Value:= .int .u8 (b.toNat:Int)
def Blk (w:World) (g:Nat) (t:TypeId) (cs:Array Value):Prop:=w.heap[g]? =some (.cells cs t (0,0))
section
variable {w w' : World} {g : Nat} {t : TypeId} {cs : Array Value}
theorem Blk.lt (h:Blk w g t cs):g<w.heap.size:=by
 rcases L8 g w.heap.size with hlt | hge
 ·exact hlt
 ·unfold Blk at h;rw[Q7 hge]at h;cases h
theorem Blk.cell (h:Blk w g t cs) (i:Nat):w.cell? ⟨g,i,none⟩=cs[i]?:=cell_of_row w g i cs t (0,0) h
theorem Blk.frozen (h:Blk w g t cs) (i:Nat):w.frozen? ⟨g,i,none⟩=false:=by
 unfold Blk at h;simp[World.frozen?,h]
theorem Blk.new (w:World) (t:TypeId) (cs:Array Value):Blk (w.alloc (.cells cs t)) w.heap.size t cs:=heap_alloc_new w _
theorem Blk.drew (h:Blk w g t cs):Blk w.drew g t cs:=h
theorem Blk.alloc (h:Blk w g t cs) (o:Obj):Blk (w.alloc o) g t cs:=(Below.heap_alloc w o g h.lt).trans h
theorem Blk.set_ (h:Blk w g t cs) (i:Nat) (u:Value):Blk (w.setCell ⟨g,i,none⟩ u) g t (cs.setIfInBounds i u):=by
 unfold Blk at h ⊢;simp[World.setCell,a0e,h]
end
end
section
open Go

abbrev Hl:=Nat->Option Obj
def hl (w:World):Hl:=λb=>w.heap[b]?
def Hle (h h':Hl):Prop:=∀b o,h b=some o->h' b=some o
theorem Hle.trans {a b c:Hl} (h:Hle a b) (h':Hle b c):Hle a c:=λx o e=>h' x o (h x o e)
structure HP where
 sat:Hl->Prop
 up:∀h h',Hle h h'->sat h->sat h'
inductive Atom where
 | emp
 | pt (b:Nat) (t:TypeId) (cs:List Value)
 | ob (b:Nat) (o:Obj)
 | hp (P:HP)
def Atom.sat:Atom->Hl->Prop
 | .emp,_=>True
 | .pt b t cs,h=>h b=some (.cells cs.toArray t (0,0))
 | .ob b o,h=>h b=some o
 | .hp P,h=>P.sat h
theorem Atom.up {A:Atom} {h h':Hl} (l:Hle h h') (s:A.sat h):A.sat h':=by
 cases A with
 | emp=>trivial
 | pt b t cs=>exact l _ _ s
 | ob b o=>exact l _ _ s
 | hp P=>exact P.up _ _ l s
def res (h:Hl) (own:Nat->Nat) (i:Nat):Hl:=λb=>if own b=i then h b else none
theorem res_some {h:Hl} {own:Nat->Nat} {i b:Nat} {o:Obj}:res h own i b=some o↔own b=i/\h b=some o:=by
 unfold res;split<;>simp_all
def Sep (L:List Atom) (h:Hl):Prop:=∃own:Nat->Nat,∀(i:Nat) (A:Atom),L[i]? =some A->A.sat (res h own i)

theorem Sep.up {L:List Atom} {h h':Hl} (l:Hle h h') (s:Sep L h):Sep L h':=by
 obtain⟨own,hs⟩:=s;refine⟨own,λi A hA=>Atom.up (λb o hb=>?_) (hs i A hA)⟩;rw[res_some]at hb ⊢;exact⟨hb.1,l _ _ hb.2⟩
def HP.of (L:List Atom):HP:=⟨Sep L,λ_ _ l s=>s.up l⟩
theorem Sep.nil (h:Hl):Sep [] h:=⟨λ_=>0,λi A hA=>by simp at hA⟩
theorem Sep.get {L:List Atom} {h:Hl} (s:Sep L h) {i:Nat} {A:Atom} (hA:L[i]? =some A):A.sat h:=by
 obtain⟨own,hs⟩:=s;exact Atom.up (λb o hb=>(res_some.1 hb).2) (hs i A hA)
theorem Sep.pt {L:List Atom} {h:Hl} (s:Sep L h) {i b:Nat} {t:TypeId} {cs:List Value} (hA:L[i]? =some (.pt b t cs)):h b=some (.cells cs.toArray t (0,0)):=s.get hA
def V3 (h:Hl) (b:Nat) (o:Obj):Hl:=λx=>if x=b then some o else h x
theorem Sep.set_ {L:List Atom} {h:Hl} (s:Sep L h) {i b:Nat} {o o':Obj} {A A':Atom} (hA:L[i]? =some A) (hs:∀h',A.sat h'->h' b=some o) (hs':∀h',h' b=some o'->A'.sat h'):Sep (L.set i A') (V3 h b o'):=by
 obtain⟨own,hw⟩:=s;have hb:=res_some.1 (hs _ (hw i A hA));have hi:i<L.length:=(List.getElem?_eq_some_iff.1 hA).1;refine⟨own,λj B hB=>?_⟩;rw[A9]at hB;split at hB
 ·rename_i e;injection hB with hB;subst hB;subst e;exact hs' _ (res_some.2 ⟨hb.1,by simp[V3]⟩)
 ·rename_i e;refine Atom.up (λx u hx=>?_) (hw j B hB);rw[res_some]at hx ⊢;refine⟨hx.1,?_⟩;unfold V3;rw[d4]
  ·exact hx.2
  ·rintro rfl;exact e (hb.1.symm.trans hx.1)
theorem Sep.setPt {L:List Atom} {h:Hl} (s:Sep L h) {i b:Nat} {t:TypeId} {cs:List Value} (cs':List Value) (hA:L[i]? =some (.pt b t cs)):Sep (L.set i (.pt b t cs')) (V3 h b (.cells cs'.toArray t (0,0))):=
 s.set_ hA (λ_ e=>e) (λ_ e=>e)
theorem Sep.snoc {L:List Atom} {h:Hl} (s:Sep L h) {n:Nat} {o:Obj} {A:Atom} (hn:h n=none) (hs:∀h',h' n=some o->A.sat h'):Sep (L++[A]) (V3 h n o):=by
 obtain⟨own,hw⟩:=s;refine⟨λb=>if b=n then L.length else own b,λj B hB=>?_⟩;rw[I8]at hB;split at hB
 ·rename_i hj;refine Atom.up (λx u hx=>?_) (hw j B hB);rw[res_some]at hx ⊢;have:x≠n:=by rintro rfl;rw[hn]at hx;cases hx.2
  simp only[this,X6,V3];exact hx
 ·rename_i hj;have:j-L.length=0/\A=B:=by
   match hk:j-L.length with
   | 0=>rw[hk]at hB;simp at hB;exact⟨rfl,hB⟩
   | k+1=>rw[hk]at hB;simp at hB
  obtain⟨h0,rfl⟩:=this;have hj':j=L.length:=by omega
  subst hj';exact hs _ (res_some.2 ⟨by simp,by simp[V3]⟩)

theorem Sep.place {L L':List Atom} {h:Hl} (s:Sep L h) (f g:Nat->Nat) (hf:∀(j:Nat) (A:Atom),L'[j]? =some A->A= .emp\/(L[f j]? =some A/\g (f j)=j)):Sep L' h:=by
 obtain⟨own,hw⟩:=s;refine⟨λb=>g (own b),λj A hA=>?_⟩;rcases hf j A hA with rfl | ⟨h1,h2⟩
 ·trivial
 ·refine Atom.up (λb o hb=>?_) (hw _ _ h1);rw[res_some]at hb ⊢;exact⟨by show g (own b)=j;rw[hb.1];exact h2,hb.2⟩

def O2 (L:List Atom):List Nat->List Atom
 | []=>[]
 | i::is=>(L[i]?.getD .emp)::O2 L is
def a1b:List Atom->List Nat->List Atom
 | L,[]=>L
 | L,i::is=>a1b (L.set i .emp) is
def puts:List Atom->List Nat->List Atom->List Atom
 | L,[],As=>L++As
 | L,_::is,[]=>puts L is []
 | L,i::is,A::As=>puts (L.set i A) is As
theorem a9P (L:List Atom):∀(is:List Nat) (k:Nat) (A:Atom),(O2 L is)[k]? =some A->∃i,is[k]? =some i/\L[i]?.getD .emp=A
 | [],k,A,h=>by simp[O2]at h
 | i::is,0,A,h=>by simp[O2]at h;exact⟨i,rfl,h⟩
 | i::is,k+1,A,h=>by simp only[O2,X0]at h ⊢;exact a9P L is k A h
theorem b0t:∀(is:List Nat) (L:List Atom) (j:Nat) (A:Atom),(a1b L is)[j]? =some A->A= .emp\/(j∉is/\L[j]? =some A)
 | [],L,j,A,h=> .inr ⟨by simp,h⟩
 | i::is,L,j,A,h=>by
  rcases b0t is (L.set i .emp) j A h with h | ⟨h1,h2⟩
  ·exact .inl h
  ·rw[A9]at h2;split at h2
   ·split at h2
    ·simp at h2;exact .inl h2.symm
    ·cases h2
   ·rename_i e;exact .inr ⟨by simp only[I3,not_or];exact⟨λe'=>e e'.symm,h1⟩,h2⟩
theorem a6w:∀(is:List Nat) (L:List Atom) (j:Nat),j∈is->j<L.length->(a1b L is)[j]? =some .emp
 | i::is,L,j,h,hl=>by
  rcases List.mem_cons.1 h with rfl | h
  ·by_cases hj:j∈is
   ·exact a6w is _ j hj (by simpa using hl)
   ·have:∀(is:List Nat) (L:List Atom),j∉is->(a1b L is)[j]? =L[j]?:=by
     intro is
     induction is with
     | nil=>intro L _;rfl
     | cons k ks ih=>
      intro L hn;simp only[I3,not_or]at hn;rw[a1b,ih _ hn.2,A9,d4 (λe=>hn.1 e.symm)]
    rw[a1b,this is _ hj,A9,d7 rfl,d7 hl]
  ·exact a6w is _ j h (by simpa using hl)
theorem Sep.putsOk:∀(is:List Nat) (L As:List Atom) (h:Hl),is.Nodup->(∀i∈is,L[i]? =some .emp)->Sep (L++As) h->Sep (puts L is As) h
 | [],L,As,h,_,_,s=>s
 | i::is,L,[],h,hn,he,s=>Sep.putsOk is L [] h (List.nodup_cons.1 hn).2 (λj hj=>he j (H1 _ hj)) s
 | i::is,L,A::As,h,hn,he,s=>by
  have hil:i<L.length:=(List.getElem?_eq_some_iff.1 (he i (H5 ..))).1;refine Sep.putsOk is (L.set i A) As h (List.nodup_cons.1 hn).2 (λj hj=>?_) ?_
  ·have hne:i≠j:=by rintro rfl;exact(List.nodup_cons.1 hn).1 hj
   rw[A9,d4 hne];exact he j (H1 _ hj)
  ·refine s.place (λj=>if j=i then L.length else if j<L.length then j else j+1) (λx=>if x=L.length then i else if L.length<x then x-1 else x) (λj B hB=> .inr ?_)
   by_cases hji:j=i
   ·subst hji;simp only[d7];refine⟨?_,trivial⟩;rw[E6 (by simpa using hil),A9,d7 rfl,d7 hil]at hB;rw[B1 (j3 _),U3];exact hB
   ·simp only[d4 hji]
    by_cases hjl:j<L.length
    ·simp only[d7 hjl];refine⟨?_,by rw[d4 (by omega),d4 (by omega)]⟩;rw[E6 (by simpa using hjl),A9,d4 (λe=>hji e.symm)]at hB;rw[E6 hjl];exact hB
    ·simp only[d4 hjl];refine⟨?_,by rw[d4 (by omega),d7 (by omega)];omega⟩;rw[B1 (by simpa using hjl),A5]at hB;rw[B1 (by omega),show j+1-L.length=(j-L.length)+1 from by omega,X0];exact hB
def P8 (L:List Atom) (is:List Nat):Bool:=decide is.Nodup&&is.all (λi=>decide (i<L.length))
theorem a0I {L:List Atom} {is:List Nat} (h:P8 L is=true):is.Nodup/\∀i∈is,i<L.length:=by
 simp only[P8,f8,d6,E8]at h;exact h
theorem Sep.split {L:List Atom} {h:Hl} (s:Sep L h) {is:List Nat} (ok:P8 L is=true):Sep (.hp (HP.of (a1b L is))::O2 L is) h:=by
 obtain⟨own,hw⟩:=s;obtain⟨hn,hi⟩:=a0I ok;refine⟨λb=>if own b∈is then is.idxOf (own b)+1 else 0,λj A hA=>?_⟩;cases j with
 | zero=>
  simp at hA;subst hA;refine⟨own,λi B hB=>?_⟩;rcases b0t is L i B hB with rfl | ⟨h1,h2⟩
  ·trivial
  ·refine Atom.up (λb o hb=>?_) (hw i B h2);rw[res_some]at hb ⊢;refine⟨hb.1,?_⟩;rw[res_some];exact⟨by rw[d4 (by rw[hb.1];exact h1)],hb.2⟩
 | succ k=>
  simp only[X0]at hA;obtain⟨i,h1,h2⟩:=a9P L is k A hA;have him:i∈is:=j9 h1;have hil:=hi i him;rw[c9 hil]at h2;simp at h2;refine Atom.up (λb o hb=>?_) (hw i A (by rw[c9 hil,h2]));rw[res_some]at hb ⊢;refine⟨?_,hb.2⟩;rw[hb.1,d7 him];obtain⟨hk,e⟩:=List.getElem?_eq_some_iff.1 h1;rw[<- e,hn.idxOf_getElem]
theorem Sep.flat {L As:List Atom} {h:Hl} (s:Sep (.hp (HP.of L)::As) h):Sep (L++As) h:=by
 obtain⟨own,hw⟩:=s;obtain⟨own2,hw2⟩:=hw 0 _ rfl;refine⟨λb=>if own b=0 then own2 b else L.length+own b-1,λj A hA=>?_⟩;rw[I8]at hA;split at hA
 ·refine Atom.up (λb o hb=>?_) (hw2 j A hA);rw[res_some]at hb ⊢;have:=res_some.1 hb.2;exact⟨by rw[d7 this.1];exact hb.1,this.2⟩
 ·rename_i hj;refine Atom.up (λb o hb=>?_) (hw (j-L.length+1) A (by simpa using hA));rw[res_some]at hb ⊢;exact⟨by rw[d4 (by omega),hb.1];omega,hb.2⟩
theorem Sep.back {L As:List Atom} {h:Hl} {is:List Nat} (ok:P8 L is=true) (s:Sep (.hp (HP.of (a1b L is))::As) h):Sep (puts (a1b L is) is As) h:=by
 obtain⟨hn,hi⟩:=a0I ok;exact Sep.putsOk is _ As h hn (λi hm=>a6w is L i hm (hi i hm)) s.flat
theorem Sep.turn {L:List Atom} {h:Hl} (s:Sep L h) (is:List Nat) (ok:P8 L is=true) {α:Type} {As:α->List Atom} (ht:∀h',Sep (O2 L is) h'->∃x,Sep (As x) h'):∃x,Sep (puts (a1b L is) is (As x)) h:=by
 obtain⟨own,hw⟩:=s.split ok;have h1:Sep (O2 L is) (λb=>if own b=0 then none else h b):=by
  refine⟨λb=>own b-1,λj A hA=>Atom.up (λb o hb=>?_) (hw (j+1) A (by simpa using hA))⟩;rw[res_some]at hb ⊢;exact⟨by show own b-1=j;omega,by rw[d4 (by omega)];exact hb.2⟩
 obtain⟨x,own2,h2⟩:=ht _ h1;refine⟨x,Sep.back ok ⟨λb=>if own b=0 then 0 else own2 b+1,λj A hA=>?_⟩⟩;cases j with
 | zero=>
  simp at hA;subst hA;refine Atom.up (λb o hb=>?_) (hw 0 _ rfl);rw[res_some]at hb ⊢;exact⟨by rw[d7 hb.1],hb.2⟩
 | succ k=>
  refine Atom.up (λb o hb=>?_) (h2 k A (by simpa using hA));rw[res_some]at hb ⊢
  by_cases e:own b=0
  ·rw[d7 e]at hb;cases hb.2
  ·rw[d4 e]at hb ⊢;exact⟨by rw[hb.1],hb.2⟩
theorem Sep.turn1 {L:List Atom} {h:Hl} (s:Sep L h) (is:List Nat) (ok:P8 L is=true) {As:List Atom} (ht:∀h',Sep (O2 L is) h'->Sep As h'):Sep (puts (a1b L is) is As) h:=
 let⟨_,r⟩:=s.turn is ok (α:=Unit) (As:=λ_=>As) (λh' s'=>⟨(),ht h' s'⟩)
 r
def b0b {α:Type}:List α->Option (List α)
 | []=>some []
 | x::r=>match b0b r with
  | some r'=>some (x::r')
  | none=>none
def V2 {α:Type}:List α->Nat->α->Option (List α)
 | [],_,_=>some []
 | x::r,k,y=>match k with
  | 0=>match b0b r with
   | some r'=>some (y::r')
   | none=>none
  | k+1=>match V2 r k y with
   | some r'=>some (x::r')
   | none=>none
def c0r {α:Type}:List α->List α->Option (List α)
 | [],l=>b0b l
 | x::r,l=>match c0r r l with
  | some r'=>some (x::r')
  | none=>none
theorem a8C {α:Type}:∀{l m:List α},b0b l=some m->m=l
 | [],m,h=>by simp only[b0b,l7]at h;exact h.symm
 | x::r,m,h=>by
  simp only[b0b]at h;split at h
  ·rename_i r' hr;injection h with h;subst h;rw[a8C hr]
  ·cases h
theorem V0 {α:Type}:∀{l m:List α} {k:Nat} {y:α},V2 l k y=some m->m=l.set k y
 | [],m,k,y,h=>by simp only[V2,l7]at h;subst h;simp
 | x::r,m,0,y,h=>by
  simp only[V2]at h;split at h
  ·rename_i r' hr;injection h with h;subst h;rw[a8C hr];rfl
  ·cases h
 | x::r,m,k+1,y,h=>by
  simp only[V2]at h;split at h
  ·rename_i r' hr;injection h with h;subst h;rw[V0 hr];rfl
  ·cases h
theorem b4I {α:Type}:∀{l l' m:List α},c0r l l'=some m->m=l++l'
 | [],l',m,h=>a8C h
 | x::r,l',m,h=>by
  simp only[c0r]at h;split at h
  ·rename_i r' hr;injection h with h;subst h;rw[b4I hr];rfl
  ·cases h
def a1k:List Atom->List Nat->List Atom->Option (List Atom)
 | L,[],As=>c0r L As
 | L,i::is,[]=>match V2 L i .emp with
  | some L'=>a1k L' is []
  | none=>none
 | L,i::is,A::As=>match V2 L i A with
  | some L'=>a1k L' is As
  | none=>none
theorem b0s:∀(is:List Nat) (L:List Atom) (i:Nat) (A B:Atom),i∉is->(a1b (L.set i B) is).set i A=a1b (L.set i A) is
 | [],L,i,A,B,_=>by simp[a1b]
 | j::is,L,i,A,B,h=>by
  simp only[I3,not_or]at h;simp only[a1b];rw[List.set_comm _ _ h.1,b0s is _ i A B h.2,<- List.set_comm _ _ h.1]
theorem a3s:∀{is:List Nat} {L As L':List Atom},is.Nodup->a1k L is As=some L'->L'=puts (a1b L is) is As
 | [],L,As,L',_,h=>by simp only[a1k]at h;exact b4I h
 | i::is,L,[],L',hn,h=>by
  obtain⟨h1,h2⟩:=List.nodup_cons.1 hn;simp only[a1k]at h;split at h
  ·rename_i L1 hL;rw[V0 hL]at h;have:=a3s h2 h;exact this
  ·cases h
 | i::is,L,A::As,L',hn,h=>by
  obtain⟨h1,h2⟩:=List.nodup_cons.1 hn;simp only[a1k]at h;split at h
  ·rename_i L1 hL;rw[V0 hL]at h;simp only[puts,a1b];rw[b0s _ _ _ _ _ h1];have:=a3s h2 h;exact this
  ·cases h
theorem Sep.hpOf {L:List Atom} {h:Hl}:Sep [.hp (HP.of L)] h↔Sep L h:=
 ⟨λs=>by have:=s.flat;rwa [l8]at this,λs=>⟨λ_=>0,λi A hA=>by
  cases i with
  | zero=>simp at hA;subst hA;exact Sep.up (λb o hb=>res_some.2 ⟨rfl,hb⟩) s
  | succ k=>simp at hA⟩⟩

section
variable {P : Program} {ops : Array Oper}
def safe (P:Program) (o:Oper) (a:Act) (K:Act->World->Prop):Result Next->Prop
 | .ok (.value v) w'=>K (a.put o.dst v) w'
 | .ok .skip w'=>K (a.put o.dst undef) w'
 | .ok (.enter f args) w'=>Calls P f args w' λe w''=>∃v,e= .returned v/\K (a.put o.dst v) w''
 | _=>False
def sOp (P:Program) (ops:Array Oper) (o:Oper) (K:Act->World->Prop) (a:Act) (w:World):Prop:=
 if Region.wanted o (yielded ops a.tmps)=true then safe P o a K ((execOp a.eval o).run P w)else K (a.put o.dst undef) w
theorem safe.mono {o:Oper} {a:Act} {K K':Act->World->Prop} (h:∀a w,K a w->K' a w) {r:Result Next} (s:safe P o a K r):safe P o a K' r:=by
 cases r with
 | ok n w=>
  cases n with
  | value v=>exact h _ _ s
  | skip=>exact h _ _ s
  | enter f args=>exact Calls.mono s λe w' ⟨v,he,hk⟩=>⟨v,he,h _ _ hk⟩
  | _=>exact s.elim
 | halt x w=>exact s.elim
theorem sOp.mono {o:Oper} {a:Act} {w:World} {K K':Act->World->Prop} (h:∀a w,K a w->K' a w) (s:sOp P ops o K a w):sOp P ops o K' a w:=by
 unfold sOp at*;split
 ·rename_i hw;rw[d7 hw]at s;exact s.mono h
 ·rename_i hw;rw[d4 hw]at s;exact h _ _ s
theorem safe.wp {o:Oper} {a:Act} {w:World} {K:Act->World->Prop} {Q:Exit->Act->World->Prop} (s:safe P o a K ((execOp a.eval o).run P w)):o.wp P a w K Q:=by
 unfold Oper.wp;generalize(execOp a.eval o).run P w=r at*;cases r with
 | ok n w=>
  cases n with
  | value v=>exact s
  | skip=>exact s
  | enter f args=>exact Calls.mono s λe w' ⟨v,he,hk⟩=>by subst he;exact hk
  | _=>exact s.elim
 | halt x w=>exact s.elim
theorem sOp.wpOp {i:Nat} {o:Oper} (hi:ops[i]? =some o) {a:Act} {w:World} {K:Act->World->Prop} {Q:Exit->Act->World->Prop} (s:sOp P ops o K a w):wpOp P ops Q i K a w:=by
 unfold sOp at s;unfold Go.wpOp;simp only[hi];split
 ·rename_i hw;rw[d7 hw]at s;exact .inl s.wp
 ·rename_i hw;rw[d4 hw]at s;exact s

def YldIn (P:Program) (ops:Array Oper) (C:World->Prop) (o:Oper) (v:Value) (a:Act):Prop:=
 (Region.wanted o (yielded ops a.tmps)=true/\∀w,C w->(execOp a.eval o).run P w= .ok (.value v) w)\/
 (Region.wanted o (yielded ops a.tmps)=false/\v=undef)
theorem YldIn.sOp {C:World->Prop} {o:Oper} {v:Value} {a:Act} {w:World} {K:Act->World->Prop} (hy:YldIn P ops C o v a) (hC:C w) (h:K (a.put o.dst v) w):sOp P ops o K a w:=by
 unfold Go.Proofs.YtmafiplddapokaaGreat.sOp;rcases hy with⟨hw,hv⟩ | ⟨hw,rfl⟩
 ·rw[d7 hw,hv w hC];exact h
 ·rw[d4 (by rw[hw];simp)];exact h
theorem YldIn.of_same {C:World->Prop} {o:Oper} {v:Value} {a a':Act} (hy:YldIn P ops C o v a) (he:execOp a'.eval o=execOp a.eval o)
  (hw:Region.wanted o (yielded ops a'.tmps)=Region.wanted o (yielded ops a.tmps)):YldIn P ops C o v a':=by
 unfold YldIn at*;rw[he,hw];exact hy
def waits (ops:Array Oper) (j i:Nat):Bool:=match ops[j]? with
 | some o=>o.after.any λe=>Region.binds .any e&&e.on==i
 | none=>false
theorem c0Y {j i:Nat} {listed:Array Bool} (h:waits ops j i=true) (hj:j∈Region.ready .any ops listed):listed.getD i false=true:=by
 obtain⟨_,o,ho,hall⟩:=mem_ready.1 hj;simp only[waits,ho]at h;obtain⟨e,he,hb⟩:=Array.any_eq_true'.1 h;simp only[f8,B4]at hb;rw[<- hb.2];exact hall e he hb.1
def Shut (ops:Array Oper) (listed:Array Bool):Prop:=∀(a:Nat) (o:Oper),ops[a]? =some o->listed.getD a false=true->∀e∈o.after,Region.binds .any e=true->listed.getD e.on false=true
def a2M (ops:Array Oper):Nat->Nat->Nat->Bool
 | 0,j,i=>waits ops j i
 | n+1,j,i=>waits ops j i||match ops[j]? with
  | some o=>o.after.any λe=>Region.binds .any e&&a2M ops n e.on i
  | none=>false
theorem b5f {listed:Array Bool} (hs:Shut ops listed) {i:Nat}:∀(n j:Nat),(∀o,ops[j]? =some o->∀e∈o.after,Region.binds .any e=true->listed.getD e.on false=true)->a2M ops n j i=true->listed.getD i false=true:=by
 have h0:∀j,(∀o,ops[j]? =some o->∀e∈o.after,Region.binds .any e=true->listed.getD e.on false=true)->waits ops j i=true->listed.getD i false=true:=λj hj h=>by
  unfold waits at h;split at h
  ·rename_i o ho;obtain⟨e,he,hb⟩:=Array.any_eq_true'.1 h;simp only[f8,B4]at hb;rw[<- hb.2];exact hj o ho e he hb.1
  ·cases h
 intro n
 induction n with
 | zero=>exactλj hj h=>h0 j hj h
 | succ n ih=>
  intro j hj h;simp only[a2M,j7]at h;rcases h with h | h
  ·exact h0 j hj h
  ·split at h
   ·rename_i o ho;obtain⟨e,he,hb⟩:=Array.any_eq_true'.1 h;simp only[f8]at hb;exact ih e.on (λo' ho' e' he' hb'=>hs e.on o' ho' (hj o ho e he hb.1) e' he' hb') hb.2
   ·cases h
theorem a5m {j i n:Nat} {listed:Array Bool} (hs:Shut ops listed) (h:a2M ops n j i=true) (hj:j∈Region.ready .any ops listed):listed.getD i false=true:=by
 obtain⟨_,o,ho,hall⟩:=mem_ready.1 hj;refine b5f hs n j (λo' ho' e he hb=>?_) h;have:o'=o:=by rw[ho]at ho';injection ho' with e;exact e.symm
 subst this;exact hall e he hb
theorem c0E {listed:Array Bool} {x:Nat} (j:Nat) (h:listed.getD x false=true):(listed.setIfInBounds j true).getD x false=true:=by
 rcases L8 x listed.size with hx | hx
 ·by_cases e:j=x
  ·subst e;simp[hx]
  ·rw[getD_set_ne false e];exact h
 ·simp[Q7 hx]at h
theorem Shut.set {listed:Array Bool} (hs:Shut ops listed) {j:Nat} (hj:j∈Region.ready .any ops listed):Shut ops (listed.setIfInBounds j true):=by
 intro a o ho ha e he hb;refine c0E j ?_
 by_cases e1:j=a
 ·subst e1;obtain⟨_,o',ho',hall⟩:=mem_ready.1 hj;have:o'=o:=by rw[ho]at ho';injection ho' with e;exact e.symm
  subst this;exact hall e he hb
 ·rw[getD_set_ne false e1]at ha;exact hs a o ho ha e he hb
theorem Shut.none (n:Nat):Shut ops (Array.replicate n false):=by
 intro a o ho ha;rcases L8 a n with h | h
 ·simp[h]at ha
 ·simp[Q7,h]at ha
def sAny (P:Program) (ops:Array Oper) (lt:List Nat) (C:World->Prop) (K:Act->World->Prop):Nat->Array Bool->Act->World->Prop
 | 0,listed,a,w=>Region.ready .any ops listed=[]/\K a w
 | fuel+1,listed,a,w=>
  (Region.ready .any ops listed=[]->K a w)/\
  ∀i∈Region.ready .any ops listed,∃o,ops[i]? =some o/\sOp P ops o (λa' w'=>(i∉lt->C w')/\sAny P ops lt C K fuel (listed.setIfInBounds i true) a' w') a w
theorem sAny.wpAny {lt:List Nat} {C:World->Prop} {K:Act->World->Prop} {Q:Exit->Act->World->Prop} (hK:∀a w,K a w->Q .normal a w):∀(fuel:Nat) (listed:Array Bool) (a:Act) (w:World),sAny P ops lt C K fuel listed a w->wpAny P .any ops Q fuel listed a w:=by
 intro fuel
 induction fuel with
 | zero=>intro listed a w s;exact⟨s.1,hK _ _ s.2⟩
 | succ fuel ih=>
  intro listed a w s;refine⟨λh=>hK _ _ (s.1 h),λi hi=>?_⟩;obtain⟨o,ho,hs⟩:=s.2 i hi;exact(hs.mono (λa' w' h=>ih _ _ _ h.2)).wpOp ho
theorem b4k {oi oj:Oper} {C:World->Prop} {v:Value} (hap:oi.apart ops oj=true)
  (hsi:∀cs b,oi.op≠ .select cs b) (hsj:∀cs b,oj.op≠ .select cs b) {K:Act->World->Prop} {a:Act} {w:World}
  (hy:YldIn P ops C oi v a) (h:sOp P ops oj K (a.put oi.dst v) w):
  sOp P ops oj (λa' w'=>YldIn P ops C oi v a'/\K (a'.put oi.dst v) w') a w:=by
 obtain⟨h1,h2,h3⟩:=Oper.apart_spec hap;have keep:∀(a:Act),YldIn P ops C oi v a->∀u,YldIn P ops C oi v (a.put oj.dst u):=λa hy u=>
  hy.of_same (execOp_put oi hsi a oj.dst u h3) (wanted_put oi a oj.dst u h3)
 unfold sOp at*;rw[wanted_put oj a oi.dst v h1,execOp_put oj hsj a oi.dst v h1]at h;split
 ·rename_i hw;rw[d7 hw]at h;generalize(execOp a.eval oj).run P w=r at*;cases r with
  | ok n w'=>
   cases n with
   | value u=>exact⟨keep a hy u,by rw[<- Act.put_comm a v u h2];exact h⟩
   | skip=>exact⟨keep a hy _,by rw[<- Act.put_comm a v undef h2];exact h⟩
   | enter f args=>exact Calls.mono h λe w'' ⟨u,he,hk⟩=>⟨u,he,keep a hy u,by rw[<- Act.put_comm a v u h2];exact hk⟩
   | _=>exact h.elim
  | halt x w'=>exact h.elim
 ·rename_i hw;rw[d4 hw]at h;exact⟨keep a hy _,by rw[<- Act.put_comm a v undef h2];exact h⟩
theorem a7Z {lt:List Nat} {C D:World->Prop} {K:Act->World->Prop} {i:Nat} {oi:Oper} {v:Value} (hi:ops[i]? =some oi) (hsel:∀(j:Nat) (o:Oper) cs b,ops[j]? =some o->o.op≠ .select cs b)
  (hD:(i∉lt/\(∀w,C w->D w)/\∀j∈lt,a2M ops 3 j i=true)\/(i∈lt/\∀w,D w)):
  ∀(fuel:Nat) (listed:Array Bool) (a:Act) (w:World),Shut ops listed->
   (∀j oj,ops[j]? =some oj->j≠i->listed.getD j true=false->(∀e∈oj.after,Region.binds .any e=true->e.on≠i)->oi.apart ops oj=true)->
   i∈Region.ready .any ops listed->YldIn P ops D oi v a->D w->(i∉lt->C w)->
   sAny P ops lt C K fuel (listed.setIfInBounds i true) (a.put oi.dst v) w->sAny P ops lt C K (fuel+1) listed a w:=by
 intro fuel
 induction fuel with
 | zero=>
  intro listed a w _ _ hr hy hDw hC H;refine⟨λh=>(by rw[h]at hr;cases hr),λj hj=>?_⟩
  by_cases hji:j=i
  ·subst hji;exact⟨oi,hi,hy.sOp hDw ⟨hC,H⟩⟩
  ·have:=ready_mono hj hji;rw[H.1]at this;cases this
 | succ fuel ih=>
  intro listed a w hsh hfree hr hy hDw hC H;refine⟨λh=>(by rw[h]at hr;cases hr),λj hj=>?_⟩
  by_cases hji:j=i
  ·subst hji;exact⟨oi,hi,hy.sOp hDw ⟨hC,H⟩⟩
  ·obtain⟨oj,hoj,h1⟩:=H.2 j (ready_mono hj hji);obtain⟨hjun,oj',hoj',hall⟩:=mem_ready.1 hj;have:oj'=oj:=by rw[hoj]at hoj';injection hoj' with e;exact e.symm
   subst this;have hiun:listed.getD i false≠true:=λh1=>by
    have h0:=(mem_ready.1 hr).1;rcases L8 i listed.size with h' | h'
    ·simp[h']at h0 h1;rw[h0]at h1;cases h1
    ·simp[Q7 h']at h1
   have hnot:∀e∈oj'.after,Region.binds .any e=true->e.on≠i:=λe he hb heq=>hiun (heq▸hall e he hb);have h2:=b4k (hfree j oj' hoj hji hjun hnot) (λcs b=>hsel i oi cs b hi) (λcs b=>hsel j oj' cs b hoj) hy h1;have hfree':∀k ok,ops[k]? =some ok->k≠i->(listed.setIfInBounds j true).getD k true=false->
     (∀e∈ok.after,Region.binds .any e=true->e.on≠i)->oi.apart ops ok=true:=λk ok hk hki hun hno=>by
    refine hfree k ok hk hki ?_ hno
    by_cases hjk:j=k
    ·subst hjk;exact hjun
    ·rw[getD_set_ne true hjk]at hun;exact hun
   refine⟨oj',hoj,h2.mono λa' w' ⟨hy',hC',h3⟩=>⟨hC',?_⟩⟩;have hdc:D w'/\(i∉lt->C w'):=by
    rcases hD with⟨hil,hCD,hw⟩ | ⟨hil,hd⟩
    ·have hjl:j∉lt:=λh=>hiun (a5m hsh (hw j h) hj);exact⟨hCD _ (hC' hjl),λ_=>hC' hjl⟩
    ·exact⟨hd _,λh=>absurd hil h⟩
   refine ih (listed.setIfInBounds j true) a' w' (hsh.set hj) hfree' (ready_mono hr (Ne.symm hji)) hy' hdc.1 hdc.2 ?_;rw[Array.setIfInBounds_comm _ _ hji];exact h3
theorem a9J {lt:List Nat} {C:World->Prop} {K:Act->World->Prop} {listed:Array Bool} {a:Act} {w:World} (hr:Region.ready .any ops listed=[]) (h:K a w):
  ∀fuel,sAny P ops lt C K fuel listed a w
 | 0=>⟨hr,h⟩
 | _+1=>⟨λ_=>h,by rw[hr];simp⟩

inductive PT where
 | done
 | take (p:Bool) (i:Nat) (t:PT)
 | alt (l:Bool) (i:Nat) (t more:PT)
 | non
def pT (P:Program) (ops:Array Oper) (C:World->Prop) (K:Act->World->Prop):PT->Act->World->Prop
 | .done,a,w=>K a w
 | .take p i t,a,w=>∃o v,ops[i]? =some o/\YldIn P ops (λw=>p=false->C w) o v a/\pT P ops C K t (a.put o.dst v) w
 | .alt l i t m,a,w=>(∃o,ops[i]? =some o/\sOp P ops o (λa' w'=>(l=false->C w')/\pT P ops C K t a' w') a w)/\pT P ops C K m a w
 | .non,_,_=>True
def PT.heads:PT->List Nat
 | .alt _ i _ m=>i::m.heads
 | _=>[]
def PT.allLt (lt:List Nat):PT->Bool
 | .done=>true
 | .take p i t=>p&&lt.contains i&&t.allLt lt
 | .alt l i t m=>l&&lt.contains i&&t.allLt lt&&m.allLt lt
 | .non=>true
def PT.ok (ops:Array Oper) (lt:List Nat):PT->Bool->Nat->Array Bool->Bool
 | .done,false,_,listed=>(Region.ready .any ops listed).isEmpty
 | .take p i t,false,n+1,listed=>(Region.ready .any ops listed).contains i&&Region.free .any ops listed i&&t.ok ops lt false n (listed.setIfInBounds i true)&&(p|| !lt.contains i)
 | .alt l i t m,fl,n+1,listed=>t.ok ops lt false n (listed.setIfInBounds i true)&&m.ok ops lt true (n+1) listed&&(fl||(!(Region.ready .any ops listed).isEmpty&&(Region.ready .any ops listed).all λj=>(PT.heads (.alt l i t m)).contains j))&&(lt.contains i==l)&&(!l||t.allLt lt)&&(Region.ready .any ops listed).contains i
 | .non,true,_,_=>true
 | _,_,_,_=>false
theorem PT.sound {lt:List Nat} {C:World->Prop} {K:Act->World->Prop} (hs:Region.noSelect ops=true) (hlt:∀j∈lt,∀i,i<ops.size->i∉lt->a2M ops 3 j i=true):∀(t:PT) (fl:Bool) (n:Nat) (listed:Array Bool) (a:Act) (w:World),Shut ops listed->t.ok ops lt fl n listed=true->(t.allLt lt=false->C w)->pT P ops C K t a w->
  (fl=false->sAny P ops lt C K n listed a w)/\(∀i∈t.heads,∃o,ops[i]? =some o/\∃m,n=m+1/\sOp P ops o (λa' w'=>(i∉lt->C w')/\sAny P ops lt C K m (listed.setIfInBounds i true) a' w') a w)
 | .done,fl,n,listed,a,w,hsh,h,hC,hp=>by
  cases fl with
  | true=>simp[PT.ok]at h
  | false=>exact⟨λ_=>a9J (by simpa[PT.ok]using h) hp n,by simp[PT.heads]⟩
 | .take p i t,fl,n,listed,a,w,hsh,h,hC,hp=>by
  cases fl with
  | true=>simp[PT.ok]at h
  | false=>
   cases n with
   | zero=>simp[PT.ok]at h
   | succ n=>
    simp only[PT.ok,f8]at h;obtain⟨⟨⟨hr,hf⟩,ht⟩,hp2⟩:=h;refine⟨λ_=>?_,by simp[PT.heads]⟩;obtain⟨o,v,hi,hy,hp⟩:=hp;have hisz:i<ops.size:=(Array.getElem?_eq_some_iff.1 hi).1
    by_cases hil:i∈lt
    ·have hpt:p=true:=by simpa[hil]using hp2
     subst hpt;refine a7Z hi (Region.noSelect_spec hs) (.inr ⟨hil,λw h=>by cases h⟩) n listed a w hsh (Region.free_spec hi hf) (by simpa using hr) hy (λh=>by cases h) (λh=>absurd hil h) ((PT.sound hs hlt t false n _ _ w (hsh.set (by simpa using hr)) ht (λhe=>hC ?_) hp).1 rfl);simp[PT.allLt,he]
    ·have hCw:C w:=hC (by simp[PT.allLt,hil]);exact a7Z hi (Region.noSelect_spec hs) (.inl ⟨hil,λw h _=>h,λj hj=>hlt j hj i hisz hil⟩) n listed a w hsh (Region.free_spec hi hf) (by simpa using hr) hy (λ_=>hCw) (λ_=>hCw) ((PT.sound hs hlt t false n _ _ w (hsh.set (by simpa using hr)) ht (λ_=>hCw) hp).1 rfl)
 | .alt l i t m,fl,n,listed,a,w,hsh,h,hC,hp=>by
  cases n with
  | zero=>simp[PT.ok]at h
  | succ n=>
   simp only[PT.ok,f8]at h;obtain⟨⟨⟨⟨⟨ht,hm⟩,hall⟩,hl⟩,hlate⟩,hrd⟩:=h;obtain⟨⟨o,hi,hp⟩,hpm⟩:=hp;have hl':l=true↔i∈lt:=by
    have:=a3i hl;rw[<- this];simp
   have hmm:=(PT.sound hs hlt m true (n+1) listed a w hsh hm (λhe=>hC (by simp[PT.allLt,he])) hpm).2;have hheads:∀j∈PT.heads (.alt l i t m),∃o,ops[j]? =some o/\∃m,n+1=m+1/\sOp P ops o (λa' w'=>(j∉lt->C w')/\sAny P ops lt C K m (listed.setIfInBounds j true) a' w') a w:=by
    intro j hj;rcases List.mem_cons.1 hj with rfl | hj
    ·refine⟨o,hi,n,rfl,hp.mono λa' w' hh=>⟨λhn=>hh.1 ?_,(PT.sound hs hlt t false n _ a' w' (hsh.set (by simpa using hrd)) ht (λhe=>hh.1 ?_) hh.2).1 rfl⟩⟩
     ·cases l with
      | false=>rfl
      | true=>exact absurd (hl'.1 rfl) hn
     ·cases l with
      | false=>rfl
      | true=>simp only[a2r,D6]at hlate;rw[hlate]at he;cases he
    ·exact hmm j hj
   refine⟨λhfl=>?_,hheads⟩;subst hfl;simp only[D6,f8,E8]at hall;refine⟨λh0=>absurd hall.1 (by simp[h0]),λj hj=>?_⟩;obtain⟨o,h1,m',h2,h3⟩:=hheads j (by simpa using hall.2 j hj);have:m'=n:=by omega
   subst this;exact⟨o,h1,h3⟩
 | .non,fl,n,listed,a,w,hsh,h,hC,hp=>by
  cases fl with
  | true=>exact⟨(λh=>by cases h),by simp[PT.heads]⟩
  | false=>simp[PT.ok]at h
def PT.seq:Nat->Nat->PT
 | _,0=> .done
 | k,n+1=> .alt true k (PT.seq (k+1) n) .non
theorem b7z {C:World->Prop} {K:Act->World->Prop} {Q:Exit->Act->World->Prop} (hK:∀a w,K a w->Q .normal a w):∀(n k:Nat) (a:Act) (w:World),pT P ops C K (PT.seq k n) a w->wpOps P ops Q (List.range' k n) a w
 | 0,k,a,w,h=>hK _ _ h
 | n+1,k,a,w,h=>by
  obtain⟨⟨o,hi,hs⟩,_⟩:=h;rw[List.range'_succ,wpOps_cons];exact(hs.mono λa' w' hh=>b7z hK n (k+1) a' w' hh.2).wpOp hi
end
theorem a9j {P:Program} {id:Nat} {ops:Array Oper} {C:World->Prop} {Q:Exit->Act->World->Prop} {a:Act} {w:World} (h:pT P ops C (Q .normal) (PT.seq 0 ops.size) a w):(Code.region id ops false).wp P Q a w:=
 wp_region (by rw[List.range_eq_range'];exact b7z (λ_ _ h=>h) _ _ _ _ h)
def PT.of:List Nat->PT
 | []=> .done
 | x::r=>match x % 4 with
  | 0=> .take true (x/4) (PT.of r)
  | 1=> .take false (x/4) (PT.of r)
  | 2=> .alt false (x/4) (PT.of r) .non
  | _=> .alt true (x/4) (PT.of r) .non
def PT.good (ops:Array Oper) (lt:List Nat) (t:PT):Bool:=Region.noSelect ops&&lt.all (λj=>(List.range ops.size).all λi=>lt.contains i||a2M ops 3 j i)&&t.ok ops lt false ops.size (Array.replicate ops.size false)
theorem a7H {P:Program} {id:Nat} {ops:Array Oper} {C:World->Prop} {Q:Exit->Act->World->Prop} {a:Act} {w:World} (hm:P.follows .mixedOrders=true) (t:PT) (lt:List Nat) (ht:t.good ops lt=true) (hC:C {w with drawn:=w.drawn+1})
  (h:pT P ops C (Q .normal) t a {w with drawn:=w.drawn+1}):(Code.region id ops true).wp P Q a w:=by
 simp only[PT.good,f8,E8,J4]at ht;obtain⟨⟨h1,h2⟩,h3⟩:=ht;refine wp_region_any hm (sAny.wpAny (λ_ _ h=>h) _ _ _ _ ((PT.sound h1 (lt:=lt) (λj hj i hi hn=>?_) t false _ _ a _ (Shut.none _) h3 (λ_=>hC) h).1 rfl));have:=h2 j hj i hi;simpa[hn]using this

inductive G where
 | tt
 | when (b:Bool)
def G.on:G->Bool
 | .tt=>true
 | .when b=>b
structure Slot where
 k:Nat
 v:Value
 tag:Nat
 g:G
def Slot.val (s:Slot):Value:=match s.g.on with
 | true=>s.v
 | false=>undef
abbrev Env:=List Slot
def Env.get:Env->Nat->Option Slot
 | [],_=>none
 | s::r,k=>match Nat.beq s.k k with
  | true=>some s
  | false=>Env.get r k
structure EnvOK (n:Nat) (E:Env) (a:Act):Prop where
 size:a.tmps.size=n
 defers:a.defers=[]
 slot:∀k s,E.get k=some s->a.tmps[k]? =some s.val
theorem EnvOK.put {n:Nat} {E:Env} {a:Act} (h:EnvOK n E a) {d:Nat} (hd:d<n) (v:Value) (tag:Nat) (g:G) (u:Value) (hu:u=Slot.val ⟨d,v,tag,g⟩):EnvOK n (⟨d,v,tag,g⟩::E) (a.put (some d) u):=by
 refine⟨by simp[Act.put,h.size],h.defers,λk s hk=>?_⟩;simp only[Env.get]at hk;split at hk
 ·rename_i e;have:d=k:=D1 e;subst this;injection hk with hk;subst hk;subst hu;simp[Act.put,h.size,hd]
 ·rename_i e;have:d≠k:=λe'=>by subst e';simp at e
  simp only[Act.put];rw[Array.getElem?_setIfInBounds_ne this];exact h.slot k s hk
def Env.sub (E E':Env):Prop:=∀k s,E'.get k=some s->E.get k=some s
theorem EnvOK.sub {n:Nat} {E E':Env} {a:Act} (h:EnvOK n E a) (hs:E.sub E'):EnvOK n E' a:=⟨h.size,h.defers,λk s hk=>h.slot k s (hs k s hk)⟩
structure Ext (w w':World):Prop where
 os:w'.os=w.os
 tape:w'.tape=w.tape
 output:w'.output=w.output
 size:w.heap.size<=w'.heap.size
theorem Ext.refl (w:World):Ext w w:=⟨rfl,rfl,rfl,j3 _⟩
theorem Ext.trans {a b c:World} (h:Ext a b) (h':Ext b c):Ext a c:=⟨h'.os.trans h.os,h'.tape.trans h.tape,h'.output.trans h.output,E9 h.size h'.size⟩
theorem Ext.drew {a b:World} (h:Ext a b):Ext a {b with drawn:=b.drawn+1}:=⟨h.os,h.tape,h.output,h.size⟩

def Fn (P:Program) (f:FuncId) (args:List Value) (Pre:List Atom) (Post:Value->List Atom->Prop):Prop:=
 ∀(F:HP) (w:World),Sep (.hp F::Pre) (hl w)->Calls P f args.toArray w λe w'=>∃v As,e= .returned v/\Post v As/\Sep (.hp F::As) (hl w')/\Ext w w'

def exA {α:Type} (f:α->List Atom):Atom:= .hp ⟨λh=>∃x,Sep (f x) h,λ_ _ l ⟨x,s⟩=>⟨x,s.up l⟩⟩
structure Cx where
 P:Program
 fn:Func
 n:Nat
 R:Ending->World->Prop
 w0:World
abbrev Cl:=List (Nat×Atom)
def CAt (C:Cl) (w:World):Prop:=∀p∈C,p.2.sat (hl w)
inductive KI where
 | code (c:Code)
 | reg (ops:Array Oper) (C:Cl) (t:PT)
 | blk (id:Nat)
 | stop (R:Act->World->Prop)
def KW (X:Cx):List KI->Exit->Act->World->Prop
 | []=>bodyPost X.P X.fn X.R
 | .code c::K=>Exit.then (c.wp X.P (KW X K)) (KW X K)
 | .reg ops C t::K=>Exit.then (pT X.P ops (CAt C) (KW X K .normal) t) (KW X K)
 | .blk id::K=>Exit.inBlock id (KW X K)
 | .stop R::K=>Exit.then R (KW X K)
def J (X:Cx) (K:List KI) (E:Env) (L:List Atom):Prop:=∀a w,Ext X.w0 w->EnvOK X.n E a->Sep L (hl w)->KW X K .normal a w

section
variable {X : Cx} {K : List KI} {E : Env} {L : List Atom}
theorem J.seq {x y:Code} (h:J X (.code x:: .code y::K) E L):J X (.code (.seq x y)::K) E L:=
 λa w hx he hs=>wp_seq (wp_mono (h a w hx he hs) λe a' w' q=>by cases e<;>exact q)
theorem J.skip (h:J X K E L):J X (.code .skip::K) E L:=λa w hx he hs=>wp_skip (h a w hx he hs)
theorem J.block {id:Nat} {c:Code} (h:J X (.code c:: .blk id::K) E L):J X (.code (.block id c)::K) E L:=
 λa w hx he hs=>wp_block (wp_mono (h a w hx he hs) λe a' w' q=>by cases e<;>exact q)
theorem J.blk {id:Nat} (h:J X K E L):J X (.blk id::K) E L:=h
def a8M (id:Nat):List KI->Option (List KI)
 | []=>none
 | .blk id'::K=>match Nat.beq id id' with
  | true=>some K
  | false=>a8M id K
 | _::K=>a8M id K
theorem a2k (X:Cx) (id:Nat) (a:Act) (w:World):∀(K K':List KI),a8M id K=some K'->KW X K' .normal a w->KW X K (.exit id) a w
 | [],K',h,q=>by cases h
 | .blk id'::K,K',h,q=>by
  simp only[a8M]at h;simp only[KW,Exit.inBlock];split at h
  ·rename_i e;have:id=id':=D1 e;rw[d7 this];injection h with h;rw[h];exact q
  ·rename_i e;rw[d4 (λe'=>by subst e';simp at e)];exact a2k X id a w K K' h q
 | .code c::K,K',h,q=>a2k X id a w K K' h q
 | .reg o C t::K,K',h,q=>a2k X id a w K K' h q
 | .stop R::K,K',h,q=>a2k X id a w K K' h q
theorem J.exit {id:Nat} {K':List KI} (hk:a8M id K=some K') (h:J X K' E L):J X (.code (.exit id)::K) E L:=
 λa w hx he hs=>wp_exit (a2k X id a w K K' hk (h a w hx he hs))
theorem J.code_reg {id:Nat} {ops:Array Oper} (h:J X (.reg ops [] (PT.seq 0 ops.size)::K) E L):J X (.code (.region id ops false)::K) E L:=
 λa w hx he hs=>a9j (C:=CAt []) (h a w hx he hs)
theorem J.reg_done {ops:Array Oper} {C:Cl} (h:J X K E L):J X (.reg ops C .done::K) E L:=h
def snap (L:List Atom):List Nat->Cl
 | []=>[]
 | i::is=>(i,L[i]?.getD .emp)::snap L is
theorem CAt.snap {L:List Atom} {w:World} (s:Sep L (hl w)):∀is:List Nat,CAt (snap L is) w
 | []=>by intro p hp;cases hp
 | i::is=>by
  intro p hp;rcases List.mem_cons.1 hp with rfl | hp
  ·cases h:L[i]? with
   | none=>simp[h,Atom.sat]
   | some A=>simpa[h]using s.get h
  ·exact CAt.snap s is p hp
theorem J.plan {id:Nat} {ops:Array Oper} (t:PT) (lt ro:List Nat) (hm:X.P.follows .mixedOrders=true) (ht:t.good ops lt=true) (h:J X (.reg ops (snap L ro) t::K) E L):J X (.code (.region id ops true)::K) E L:=
 λa w hx he hs=>a7H hm t lt ht (CAt.snap (w:={w with drawn:=w.drawn+1}) hs ro) (h a _ hx.drew he hs)
theorem J.alts {ops:Array Oper} {C:Cl} {l l':Bool} {i j:Nat} {t t' m:PT} (h1:J X (.reg ops C (.alt l i t .non)::K) E L) (h2:J X (.reg ops C (.alt l' j t' m)::K) E L):J X (.reg ops C (.alt l i t (.alt l' j t' m))::K) E L:=
 λa w hx he hs=>⟨(h1 a w hx he hs).1,h2 a w hx he hs⟩
theorem J.turn (is:List Nat) (ok:P8 L is=true) {α:Type} {As:α->List Atom} {L':α->List Atom} (ht:∀h',Sep (O2 L is) h'->∃x,Sep (As x) h') (hL:∀x,a1k L is (As x)=some (L' x)) (h:∀x,J X K E (L' x)):J X K E L:=by
 intro a w hx he s;obtain⟨x,s'⟩:=s.turn is ok ht;rw[<- a3s (a0I ok).1 (hL x)]at s';exact h x a w hx he s'
theorem J.turn1 (is:List Nat) (ok:P8 L is=true) {As L':List Atom} (ht:∀h',Sep (O2 L is) h'->Sep As h') (hL:a1k L is As=some L') (h:J X K E L'):J X K E L:=
 λa w hx he s=>h a w hx he (by rw[a3s (a0I ok).1 hL];exact s.turn1 is ok ht)
theorem J.open_ {α:Type} {f:α->List Atom} {L':α->List Atom} (i:Nat) (ok:P8 L [i]=true) (hp:O2 L [i]=[exA f]) (hL:∀x,a1k L [i] (f x)=some (L' x)) (h:∀x,J X K E (L' x)):J X K E L:=
 J.turn [i] ok (λh' s=>by rw[hp]at s;exact s.get (i:=0) rfl) hL h
theorem J.close {α:Type} {f:α->List Atom} {L':List Atom} (x:α) (is:List Nat) (ok:P8 L is=true) (hp:O2 L is=f x) (hL:a1k L is [exA f]=some L') (h:J X K E L'):J X K E L:=
 J.turn1 is ok (λh' s=>by
  rw[hp]at s;exact⟨λ_=>0,λi A hA=>by
   cases i with
   | zero=>simp at hA;subst hA;exact⟨x,s.up λb o hb=>res_some.2 ⟨rfl,hb⟩⟩
   | succ k=>simp at hA⟩) hL h
theorem J.know {p:Prop} (hp:∀h,Sep L h->p) (h:p->J X K E L):J X K E L:=λa w hx he s=>h (hp _ s) a w hx he s
def ev (E:Env):Operand->Option Slot
 | .tmp t=>E.get t
 | .const v=>some ⟨0,v,0, .tt⟩
 | .global g=>some ⟨0, .pointer (some ⟨g,0,none⟩),0, .tt⟩
 | .func f=>some ⟨0, .func (.func f) #[] #[],0, .tt⟩
theorem C8 {n:Nat} {a:Act} (he:EnvOK n E a) {x:Operand} {s:Slot} (h:ev E x=some s):a.eval x=s.val:=by
 cases x with
 | tmp t=>
  have:=he.slot t s h;simp[Act.eval,this]
 | const v=>simp only[ev,l7]at h;subst h;rfl
 | global g=>simp only[ev,l7]at h;subst h;rfl
 | func f=>simp only[ev,l7]at h;subst h;rfl
theorem J.cond {c:Operand} {x y:Code} {k tag:Nat} {b:Bool} (hc:ev E c=some ⟨k, .bool b,tag, .tt⟩) (ht:b=true->J X (.code x::K) E L) (hf:b=false->J X (.code y::K) E L):J X (.code (.cond c x y)::K) E L:=by
 intro a w hx he hs;have h:=C8 he hc;exact wp_cond_split (t:=b) h (λe=>ht e a w hx he hs) (λe=>hf e a w hx he hs)
theorem J.loop {c:Code} {α:Type} (I:α->Prop) (Ei:α->Env) (Li:α->List Atom) (μ:α->Nat) (x0:α) (h0:I x0) (hE:E.sub (Ei x0)) (hL:∀h,Sep L h->Sep (Li x0) h)
  (round:∀x,I x->J X (.code c:: .stop (λa w=>Ext X.w0 w/\∃x',I x'/\μ x'<μ x/\EnvOK X.n (Ei x') a/\Sep (Li x') (hl w))::K) (Ei x) (Li x)):J X (.code (.loop c)::K) E L:=by
 intro a w hx he hs b k cs;have key:∀n,∀x,μ x=n->I x->∀a w,Ext X.w0 w->EnvOK X.n (Ei x) a->Sep (Li x) (hl w)->
   ∃e a' w',KW X K e a' w'/\Arrives X.P (lone (b.at a (.code c:: .inLoop c::k)) cs w) b k cs e a' w':=by
  intro n
  induction n using Nat.strongRecOn with
  | _ n ih=>
   intro x hn hI a w hx he hs;have hr:=round x hI a w hx he hs;simp only[KW]at hr;obtain⟨e,a₁,w₁,hq,harr⟩:=hr b (.inLoop c::k) cs;cases e with
   | normal=>
    obtain⟨hx',x',hI',hlt,he',hs'⟩:=hq;obtain⟨e₂,a₂,w₂,hq₂,harr₂⟩:=ih (μ x') (hn▸hlt) x' rfl hI' a₁ w₁ hx' he' hs';exact⟨e₂,a₂,w₂,hq₂, .of_steps (Steps.trans harr (.one step_inLoop)) harr₂⟩
   | exit id=>exact⟨_,a₁,w₁,hq, .pass (x:= .inLoop c) rfl (λ_ _=> .inl (by simp)) harr⟩
   | goto l=>exact⟨_,a₁,w₁,hq, .pass (x:= .inLoop c) rfl (λ_ _=> .inl (by simp)) harr⟩
   | ret=>exact⟨_,a₁,w₁,hq, .pass (x:= .inLoop c) rfl (λ_ _=> .inl (by simp)) harr⟩
   | panic ch=>exact⟨_,a₁,w₁,hq, .pass (x:= .inLoop c) rfl (λ_ _=> .inl (by simp)) harr⟩
   | outgrown=>exact⟨_,a₁,w₁,hq, .pass (x:= .inLoop c) rfl (λ_ _=> .inl (by simp)) harr⟩
 obtain⟨e,a',w',hq,harr⟩:=key _ x0 rfl h0 a w hx (he.sub hE) (hL _ hs);exact⟨e,a',w',hq, .of_steps (.one step_loop) harr⟩
theorem J.stop {α:Type} {I:α->Prop} {Ei:α->Env} {Li:α->List Atom} {μ:α->Nat} {m:Nat} (x:α) (h1:I x) (h2:μ x<m) (h3:E.sub (Ei x)) (h4:∀h,Sep L h->Sep (Li x) h):
  J X (.stop (λa w=>Ext X.w0 w/\∃x',I x'/\μ x'<m/\EnvOK X.n (Ei x') a/\Sep (Li x') (hl w))::K) E L:=
 λ_ _ hx he hs=>⟨hx,x,h1,h2,he.sub h3,h4 _ hs⟩
end

inductive TD where
 | int (k:IntKind)
 | bool
 | row (fs:List (Nat×Nat×Bool))
 | arr (len esz:Nat)
 | slice (elem esz:Nat)
 | ptr
 | map
 | other
structure TI where
 d:TD
 size:Nat
 zero:List Value
 bytes:Nat
abbrev Tab:=List (Nat×TI)
def Tab.get:Tab->Nat->Option TI
 | [],_=>none
 | (j,i)::r,k=>match Nat.beq j k with
  | true=>some i
  | false=>Tab.get r k
def a0v:TypeDesc->Bool
 | .struct _ | .array _ _=>true
 | _=>false
def fieldsOf (P:Program):List Field->Option (List (Nat×Nat×Bool))
 | []=>some []
 | f::r=>match P.info? f.type,P.underlying f.type,fieldsOf P r with
  | some i,some d,some l=>some ((f.offset,i.size,a0v d)::l)
  | _,_,_=>none
def a7f (P:Program):TypeDesc->Option TD
 | .int k=>some (.int k)
 | .bool=>some .bool
 | .struct fs=>(fieldsOf P fs.toList).map .row
 | .array n e=>(P.info? e).map λi=> .arr n i.size
 | .slice e=>(P.info? e).map λi=> .slice e i.size
 | .pointer _=>some .ptr
 | .map _ _=>some .map
 | _=>some .other
def b6T (P:Program) (t:TypeId):Option TI:=
 match P.underlying t,P.info? t with
 | some d,some i=>match i.zero,a7f P d with
  | some z,some td=>some ⟨td,i.size,z.cells.toList,i.bytes⟩
  | _,_=>none
 | _,_=>none
def TabOK (P:Program) (T:Tab):Prop:=∀p∈T,b6T P p.1=some p.2
theorem TabOK.mk {P:Program} {T:Tab} (h:T.map (λp=>b6T P p.1)=T.map (λp=>some p.2)):TabOK P T:=by
 induction T with
 | nil=>intro p hp;cases hp
 | cons q r ih=>
  simp only[n8,U9]at h;intro p hp;rcases List.mem_cons.1 hp with rfl | hp
  ·exact h.1
  ·exact ih h.2 p hp
theorem TabOK.get {P:Program}:∀{T:Tab},TabOK P T->∀{t:Nat} {i:TI},T.get t=some i->b6T P t=some i
 | [],_,t,i,h=>by cases h
 | (j,x)::r,hT,t,i,h=>by
  simp only[Tab.get]at h;split at h
  ·rename_i e;have:j=t:=D1 e;subst this;injection h with h;subst h;exact hT _ (H5 ..)
  ·exact TabOK.get (λp hp=>hT p (H1 _ hp)) h
structure TIOK (P:Program) (t:TypeId) (i:TI) (d:TypeDesc) (f:TypeInfo) (z:Value):Prop where
 hd:P.underlying t=some d
 hf:P.info? t=some f
 hz:f.zero=some z
 htd:a7f P d=some i.d
 hsize:i.size=f.size
 hzero:i.zero=z.cells.toList
 hbytes:i.bytes=f.bytes
theorem C1 {P:Program} {t:TypeId} {i:TI} (h:b6T P t=some i):∃d f z,TIOK P t i d f z:=by
 unfold b6T at h;split at h
 ·rename_i d f hd hf;split at h
  ·rename_i z td hz htd;injection h with h;subst h;exact⟨d,f,z,hd,hf,hz,htd,rfl,rfl,rfl⟩
  ·cases h
 ·cases h
section
variable {P : Program} {t : TypeId} {i : TI} {d : TypeDesc} {f : TypeInfo} {z : Value}
theorem TIOK.int (h:TIOK P t i d f z) {k:IntKind} (e:i.d= .int k):d= .int k:=by
 have:=h.htd;rw[e]at this;cases d<;>simp[a7f]at this
 ·rw[this]
theorem TIOK.bool (h:TIOK P t i d f z) (e:i.d= .bool):d= .bool:=by
 have:=h.htd;rw[e]at this;cases d<;>simp[a7f]at this
 ·rfl
theorem TIOK.ptr (h:TIOK P t i d f z) (e:i.d= .ptr):∃x,d= .pointer x:=by
 have:=h.htd;rw[e]at this;cases d<;>simp[a7f]at this
 ·exact⟨_,rfl⟩
theorem TIOK.map (h:TIOK P t i d f z) (e:i.d= .map):∃x y,d= .map x y:=by
 have:=h.htd;rw[e]at this;cases d<;>simp[a7f]at this
 ·exact⟨_,_,rfl⟩
theorem TIOK.arr (h:TIOK P t i d f z) {n s:Nat} (e:i.d= .arr n s):∃x fx,d= .array n x/\P.info? x=some fx/\fx.size=s:=by
 have:=h.htd;rw[e]at this;cases d<;>simp[a7f]at this
 ·obtain⟨g,h1,rfl,h2⟩:=this;exact⟨_,g,rfl,h1,h2⟩
theorem TIOK.slice (h:TIOK P t i d f z) {x s:Nat} (e:i.d= .slice x s):∃fx,d= .slice x/\P.info? x=some fx/\fx.size=s:=by
 have:=h.htd;rw[e]at this;cases d<;>simp[a7f]at this
 ·obtain⟨g,h1,rfl,h2⟩:=this;exact⟨g,rfl,h1,h2⟩
theorem TIOK.row (h:TIOK P t i d f z) {l:List (Nat×Nat×Bool)} (e:i.d= .row l):∃fs,d= .struct fs/\fieldsOf P fs.toList=some l:=by
 have:=h.htd;rw[e]at this;cases d<;>simp[a7f]at this
 ·exact⟨_,rfl,this⟩
end
def J2 {α:Type}:List α->Nat->Option α
 | [],_=>none
 | x::r,k=>match k with
  | 0=>some x
  | k+1=>J2 r k
theorem J1 {α:Type}:∀(l:List α) (k:Nat),J2 l k=l[k]?
 | [],_=>rfl
 | x::r,0=>rfl
 | x::r,k+1=>by rw[J2,J1 r k];simp
theorem a1R {P:Program}:∀{fs:List Field} {l:List (Nat×Nat×Bool)},fieldsOf P fs=some l->∀{k o s:Nat} {b:Bool},J2 l k=some (o,s,b)->
  ∃g fi gd,fs[k]? =some g/\P.info? g.type=some fi/\P.underlying g.type=some gd/\g.offset=o/\fi.size=s/\a0v gd=b
 | [],l,h,k,o,s,b,hk=>by simp only[fieldsOf,l7]at h;subst h;cases hk
 | g::r,l,h,k,o,s,b,hk=>by
  simp only[fieldsOf]at h;split at h
  ·rename_i i d l' h1 h2 h3;injection h with h;subst h;cases k with
   | zero=>
    simp only[J2,l7,C7]at hk;exact⟨g,i,d,rfl,h1,h2,hk.1,hk.2.1,hk.2.2⟩
   | succ k=>
    simp only[J2]at hk;obtain⟨g',fi,gd,e1,e2⟩:=a1R h3 hk;exact⟨g',fi,gd,by simpa using e1,e2⟩
  ·cases h
def a8t {α:Type}:List α->Nat->Option (List α)
 | _,0=>some []
 | [],_+1=>none
 | x::r,n+1=>match a8t r n with
  | some l=>some (x::l)
  | none=>none
def b1c {α:Type}:List α->Nat->Nat->Option (List α)
 | l,0,n=>a8t l n
 | [],_+1,n=>a8t [] n
 | _::r,o+1,n=>b1c r o n
theorem a4X {α:Type}:∀{l:List α} {n:Nat} {m:List α},a8t l n=some m->m=l.take n/\m.length=n
 | l,0,m,h=>by simp[a8t]at h;subst h;simp
 | [],n+1,m,h=>by simp[a8t]at h
 | x::r,n+1,m,h=>by
  simp only[a8t]at h;split at h
  ·rename_i l hl;injection h with h;subst h;obtain⟨h1,h2⟩:=a4X hl;exact⟨by simp[h1],by simp[h2]⟩
  ·cases h
theorem a6l {α:Type}:∀{l:List α} {o n:Nat} {m:List α},b1c l o n=some m->m=(l.drop o).take n/\m.length=n
 | l,0,n,m,h=>by rw[a0b];cases l<;>exact a4X h
 | [],o+1,n,m,h=>by simp only[b1c]at h;simpa using a4X h
 | x::r,o+1,n,m,h=>by simp only[b1c]at h;simpa using a6l h
def a3M {α:Type}:List α->List α->Option (List α)
 | l,[]=>some l
 | [],_::_=>none
 | _::r,x::xs=>match a3M r xs with
  | some l=>some (x::l)
  | none=>none
def a2c {α:Type}:List α->Nat->List α->Option (List α)
 | l,0,xs=>a3M l xs
 | [],_+1,_=>none
 | y::r,o+1,xs=>match a2c r o xs with
  | some l=>some (y::l)
  | none=>none
theorem a8v {α:Type}:∀{l xs m:List α},a3M l xs=some m->m=xs++l.drop xs.length/\xs.length<=l.length
 | l,[],m,h=>by cases l<;>simp only[a3M,l7]at h<;>subst h<;>simp
 | [],x::xs,m,h=>by simp[a3M]at h
 | y::r,x::xs,m,h=>by
  simp only[a3M]at h;split at h
  ·rename_i l hl;injection h with h;subst h;obtain⟨h1,h2⟩:=a8v hl;exact⟨by simp[h1],by simp;omega⟩
  ·cases h
theorem a2W {α:Type}:∀{l:List α} {o:Nat} {xs m:List α},a2c l o xs=some m->m=l.take o++xs++l.drop (o+xs.length)/\o+xs.length<=l.length
 | l,0,xs,m,h=>by
  have h':a3M l xs=some m:=by cases l<;>exact h
  obtain⟨h1,h2⟩:=a8v h';exact⟨by simp[h1],by omega⟩
 | [],o+1,xs,m,h=>by simp[a2c]at h
 | y::r,o+1,xs,m,h=>by
  simp only[a2c]at h;split at h
  ·rename_i l hl;injection h with h;subst h;obtain⟨h1,h2⟩:=a2W hl;refine⟨?_,by simp;omega⟩;rw[h1,show o+1+xs.length=(o+xs.length)+1 from by omega];simp
  ·cases h

def Conj:List Prop->Prop
 | []=>True
 | p::r=>p/\Conj r
theorem Conj.nil:Conj []:=trivial
theorem Conj.cons {p:Prop} {r:List Prop} (h:p) (h':Conj r):Conj (p::r):=⟨h,h'⟩
theorem Conj.app:∀{l m:List Prop},Conj (l++m)->Conj l/\Conj m
 | [],m,h=>⟨trivial,h⟩
 | p::r,m,h=>⟨⟨h.1,(Conj.app (l:=r) h.2).1⟩,(Conj.app (l:=r) h.2).2⟩
def O6:G->List Prop
 | .tt=>[]
 | .when c=>[c=true]
def a1v:Slot->List Prop
 | ⟨_,_,_,g⟩=>O6 g
theorem a4R {s:Slot} (h:Conj (a1v s)):s.val=s.v:=by
 obtain⟨k,v,t,g⟩:=s;unfold Slot.val;cases g with
 | tt=>rfl
 | when c=>simp only[a1v,O6]at h;simp only[G.on];rw[h.1]
def ikN:IntKind->Nat
 | .i8=>0 | .i16=>1 | .i32=>2 | .i64=>3 | .u8=>4 | .u16=>5 | .u32=>6 | .u64=>7
theorem c0x {a b:IntKind} (h:Nat.beq (ikN a) (ikN b)=true):a=b:=by
 cases a<;>cases b<;>first | rfl | cases h
def inR:IntKind->Int->List Prop
 | .i8,z=>[-128<=z,z<=127] | .i16,z=>[-32768<=z,z<=32767] | .i32,z=>[-2147483648<=z,z<=2147483647]
 | .i64,z=>[-9223372036854775808<=z,z<=9223372036854775807]
 | .u8,z=>[0<=z,z<=255] | .u16,z=>[0<=z,z<=65535] | .u32,z=>[0<=z,z<=4294967295] | .u64,z=>[0<=z,z<=18446744073709551615]
theorem a2h {k:IntKind} {z:Int} (h:Conj (inR k z)):k.wrap z=z:=by
 have p7:(2:Int)^7=128:=rfl;have p8:(2:Int)^8=256:=rfl;have p15:(2:Int)^15=32768:=rfl;have p16:(2:Int)^16=65536:=rfl;have p31:(2:Int)^31=2147483648:=rfl;have p32:(2:Int)^32=4294967296:=rfl;have p63:(2:Int)^63=9223372036854775808:=rfl;have p64:(2:Int)^64=18446744073709551616:=rfl;cases k<;>simp only[inR,Conj]at h<;>simp[IntKind.wrap,IntKind.bits,IntKind.signed]<;>(try split)<;>omega
def c2p:BinOp->IntKind->Int->Int->Option (Value×List Prop)
 | .add,k,m,n=>some (.int k (m+n),inR k (m+n))
 | .sub,k,m,n=>some (.int k (m-n),inR k (m-n))
 | .mul,k,m,n=>some (.int k (m*n),inR k (m*n))
 | .quo,k,m,n=>some (.int k (m.tdiv n),(n≠0)::inR k (m.tdiv n))
 | .rem,k,m,n=>some (.int k (m.tmod n),[n≠0])
 | .and,k,m,n=>some (.int k (k.wrap (BitVec.ofInt k.bits m&&& BitVec.ofInt k.bits n).toNat),[])
 | .or,k,m,n=>some (.int k (k.wrap (BitVec.ofInt k.bits m||| BitVec.ofInt k.bits n).toNat),[])
 | .xor,k,m,n=>some (.int k (k.wrap (BitVec.ofInt k.bits m ^^^ BitVec.ofInt k.bits n).toNat),[])
 | .andNot,k,m,n=>some (.int k (k.wrap (BitVec.ofInt k.bits m&&& ~~~ BitVec.ofInt k.bits n).toNat),[])
 | .eql,_,m,n=>some (.bool (m==n),[])
 | .neq,_,m,n=>some (.bool (m !=n),[])
 | .lss,_,m,n=>some (.bool (decide (m<n)),[])
 | .leq,_,m,n=>some (.bool (decide (m<=n)),[])
 | .gtr,_,m,n=>some (.bool (decide (m>n)),[])
 | .geq,_,m,n=>some (.bool (decide (m>=n)),[])
 | _,_,_,_=>none
def shI:BinOp->IntKind->Int->Int->Option (Value×List Prop)
 | .shl,k,m,n=>some (.int k (m*2^(min n.toNat k.bits)),(0<=n)::inR k (m*2^(min n.toNat k.bits)))
 | .shr,k,m,n=>some (.int k (m.fdiv (2^(min n.toNat k.bits))),[0<=n])
 | _,_,_,_=>none
def b1p:Option TD->Value->Value->Option Bool
 | some .bool, .bool a, .bool b=>some (a==b)
 | some .ptr, .pointer none, .pointer none=>some true
 | some .ptr, .pointer (some _), .pointer none=>some false
 | some .ptr, .pointer none, .pointer (some _)=>some false
 | some (.slice _ _), .slice none _ _, .slice none _ _=>some true
 | some (.slice _ _), .slice none _ _, .slice (some _) _ _=>some false
 | some (.slice _ _), .slice (some _) _ _, .slice none _ _=>some false
 | some .map, .map none, .map none=>some true
 | some .map, .map none, .map (some _)=>some false
 | some .map, .map (some _), .map none=>some false
 | _,_,_=>none
def c2o (T:Tab) (op:BinOp) (t:TypeId):Value->Value->Option (Value×List Prop)
 | .int k m, .int k' n=>match shI op k m n with
  | some r=>some r
  | none=>match Nat.beq (ikN k) (ikN k')with
   | true=>c2p op k m n
   | false=>none
 | x,y=>match op with
  | .eql=>match b1p ((T.get t).map (·.d)) x y with
   | some b=>some (.bool b,[])
   | none=>none
  | .neq=>match b1p ((T.get t).map (·.d)) x y with
   | some b=>some (.bool (!b),[])
   | none=>none
  | _=>none
def unV:UnOp->Value->Option (Value×List Prop)
 | .neg, .int k n=>some (.int k (0-n),inR k (0-n))
 | .not, .bool b=>some (.bool (!b),[])
 | _,_=>none

section
variable {P : Program} {w : World}
theorem b8Y {op:BinOp} {k:IntKind} {m n:Int} {v:Value} {ob:List Prop} (h:c2p op k m n=some (v,ob)) (hob:Conj ob) (t:TypeId):(binOp op t (.int k m) (.int k n)).run P w= .ok v w:=by
 cases op<;>simp only[c2p,l7,C7,reduceCtorEq]at h<;>obtain⟨rfl,rfl⟩:=h
 case add=>simp[binOp,Op.intArith,a2h hob]
 case sub=>simp[binOp,Op.intArith,a2h hob]
 case mul=>simp[binOp,Op.intArith,a2h hob]
 case quo=>simp[binOp,Op.intDiv,hob.1,a2h hob.2]
 case rem=>simp[binOp,Op.intDiv,hob.1]
 all_goals first | (simp[binOp,Op.intBits];done) | (simp[binOp,Op.intCmp];done)
theorem b9M {op:BinOp} {k k':IntKind} {m n:Int} {v:Value} {ob:List Prop} (h:shI op k m n=some (v,ob)) (hob:Conj ob) (t:TypeId):(binOp op t (.int k m) (.int k' n)).run P w= .ok v w:=by
 cases op<;>simp only[shI,l7,C7,reduceCtorEq]at h<;>obtain⟨rfl,rfl⟩:=h
 case shl=>simp[binOp,Op.shift,Int.not_lt.2 hob.1,a2h hob.2]
 case shr=>simp[binOp,Op.shift,Int.not_lt.2 hob.1]
theorem s9 {t:TypeId} {d:TypeDesc} (h:P.underlying t=some d):(underlying t).run P w= .ok d w:=by simp[underlying,h]
theorem b1o (d:Nat) {t:TypeId} (h:P.underlying t=some .bool) (a b:Bool):(Op.equalIn (d+1) t (.bool a) (.bool b)).run P w= .ok (a==b) w:=by simp[Op.equalIn,s9 h]
theorem a5L (d:Nat) {t x:TypeId} (h:P.underlying t=some (.pointer x)) (b:Option Addr):(Op.equalIn (d+1) t (.pointer none) (.pointer b)).run P w= .ok b.isNone w:=by simp[Op.equalIn,s9 h]
theorem b1m (d:Nat) {t x:TypeId} (h:P.underlying t=some (.pointer x)) (b:Addr):(Op.equalIn (d+1) t (.pointer (some b)) (.pointer none)).run P w= .ok false w:=by simp[Op.equalIn,s9 h]
theorem a6X (d:Nat) {t x:TypeId} (h:P.underlying t=some (.slice x)) (b:Option Addr) (m n m' n':Nat):(Op.equalIn (d+1) t (.slice none m n) (.slice b m' n')).run P w= .ok b.isNone w:=by simp[Op.equalIn,s9 h]
theorem b2M (d:Nat) {t x:TypeId} (h:P.underlying t=some (.slice x)) (b:Addr) (m n m' n':Nat):(Op.equalIn (d+1) t (.slice (some b) m n) (.slice none m' n')).run P w= .ok false w:=by simp[Op.equalIn,s9 h]
theorem a5M (d:Nat) {t x y:TypeId} (h:P.underlying t=some (.map x y)) (b:Option Nat):(Op.equalIn (d+1) t (.map none) (.map b)).run P w= .ok b.isNone w:=by simp[Op.equalIn,s9 h]
theorem b1n (d:Nat) {t x y:TypeId} (h:P.underlying t=some (.map x y)) (b:Nat):(Op.equalIn (d+1) t (.map (some b)) (.map none)).run P w= .ok false w:=by simp[Op.equalIn,s9 h]
theorem a8O (t:TypeId) (x y:Value):Op.equal t x y=Op.equalIn (9999+1) t x y:=rfl
theorem b2N {T:Tab} (hT:TabOK P T) {t:TypeId} {x y:Value} {b:Bool} (h:b1p ((T.get t).map (·.d)) x y=some b):(Op.equal t x y).run P w= .ok b w/\∀op o1 o2,(eqGuard op t o1 o2 x y).run P w= .ok () w:=by
 rw[a8O];generalize 9999=n;cases hg:T.get t with
 | none=>rw[hg]at h;simp[b1p]at h
 | some i=>
  rw[hg]at h;obtain⟨d,f,z,ok⟩:=C1 (hT.get hg);simp only[C9]at h;generalize hd:i.d=td at h;unfold b1p at h;split at h<;>simp only[l7,reduceCtorEq]at h<;>subst h<;>rename_i e<;>injection e with e<;>subst e
  ·have:=ok.bool hd;subst this;exact⟨b1o n ok.hd _ _,λop o1 o2=>by cases op<;>rfl⟩
  ·obtain⟨x',e⟩:=ok.ptr hd;subst e;exact⟨a5L n ok.hd _,λop o1 o2=>by cases op<;>rfl⟩
  ·obtain⟨x',e⟩:=ok.ptr hd;subst e;exact⟨b1m n ok.hd _,λop o1 o2=>by cases op<;>rfl⟩
  ·obtain⟨x',e⟩:=ok.ptr hd;subst e;exact⟨a5L n ok.hd _,λop o1 o2=>by cases op<;>rfl⟩
  ·obtain⟨fx,e,_⟩:=ok.slice hd;subst e;exact⟨a6X n ok.hd _ _ _ _ _,λop o1 o2=>by cases op<;>rfl⟩
  ·obtain⟨fx,e,_⟩:=ok.slice hd;subst e;exact⟨a6X n ok.hd _ _ _ _ _,λop o1 o2=>by cases op<;>rfl⟩
  ·obtain⟨fx,e,_⟩:=ok.slice hd;subst e;exact⟨b2M n ok.hd _ _ _ _ _,λop o1 o2=>by cases op<;>rfl⟩
  ·obtain⟨x',y',e⟩:=ok.map hd;subst e;exact⟨a5M n ok.hd _,λop o1 o2=>by cases op<;>rfl⟩
  ·obtain⟨x',y',e⟩:=ok.map hd;subst e;exact⟨a5M n ok.hd _,λop o1 o2=>by cases op<;>rfl⟩
  ·obtain⟨x',y',e⟩:=ok.map hd;subst e;exact⟨b1n n ok.hd _,λop o1 o2=>by cases op<;>rfl⟩
theorem b8X {T:Tab} (hT:TabOK P T) {op:BinOp} {t:TypeId} {x y v:Value} {ob:List Prop} (h:c2o T op t x y=some (v,ob)) (hob:Conj ob) (o1 o2:Operand):
  (do eqGuard op t o1 o2 x y;binOp op t x y:Sem Value).run P w= .ok v w:=by
 unfold c2o at h;split at h
 ·rename_i k m k' n;have hg:(eqGuard op t o1 o2 (.int k m) (.int k' n)).run P w= .ok () w:=by cases op<;>simp[eqGuard]
  simp only[Sem.run_bind,hg,Result.andThen_ok];split at h
  ·rename_i r hr;injection h with h;subst h;exact b9M hr hob t
  ·split at h
   ·rename_i e;have:=c0x e;subst this;exact b8Y h hob t
   ·cases h
 ·rename_i hne;split at h
  ·split at h
   ·rename_i b hb;injection h with h;simp only[C7]at h;obtain⟨rfl,rfl⟩:=h;obtain⟨h1,h2⟩:=b2N (w:=w) hT hb;simp only[Sem.run_bind,h2,Result.andThen_ok];have:binOp .eql t x y=(do pure (.bool (<- Op.equal t x y)):Sem Value):=by
     cases x<;>cases y<;>first | rfl | (exact(hne _ _ _ _ rfl rfl).elim) | (revert hb;cases(T.get t).map (·.d)with
      | none=>simp[b1p]
      | some d=>cases d<;>simp[b1p])
    simp[this,h1]
   ·cases h
  ·split at h
   ·rename_i b hb;injection h with h;simp only[C7]at h;obtain⟨rfl,rfl⟩:=h;obtain⟨h1,h2⟩:=b2N (w:=w) hT hb;simp only[Sem.run_bind,h2,Result.andThen_ok];have:binOp .neq t x y=(do pure (.bool (!(<- Op.equal t x y))):Sem Value):=by
     cases x<;>cases y<;>first | rfl | (exact(hne _ _ _ _ rfl rfl).elim) | (revert hb;cases(T.get t).map (·.d)with
      | none=>simp[b1p]
      | some d=>cases d<;>simp[b1p])
    simp[this,h1]
   ·cases h
  ·cases h
theorem b9x {op:UnOp} {x v:Value} {ob:List Prop} (h:unV op x=some (v,ob)) (hob:Conj ob):(Op.unary op x).run P w= .ok v w:=by
 unfold unV at h;split at h<;>simp only[l7,C7,reduceCtorEq]at h<;>obtain⟨rfl,rfl⟩:=h
 ·simp only[Op.unary,Op.intArith,a2h hob];rfl
 ·rfl
end
end
end Go.Proofs.YtmafiplddapokaaGreat
