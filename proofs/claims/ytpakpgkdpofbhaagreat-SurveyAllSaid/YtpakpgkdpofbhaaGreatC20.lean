/- Helpers. No condition. -/
import Derived.Test.YtpakpgkdpofbhaaGreatC00
import Derived.Test.YtpakpgkdpofbhaaGreatC05
import Derived.Test.YtpakpgkdpofbhaaGreatC10
import Derived.Test.YtpakpgkdpofbhaaGreatC11
import Derived.Test.YtpakpgkdpofbhaaGreatC12
set_option maxRecDepth 20000
set_option linter.all false
namespace Go.Proofs.YtpakpgkdpofbhaaGreat
open Go
namespace Xo
def op (a b:List UInt8×Nat):List UInt8×Nat:=(List.zipWith (· ^^^ ·) a.1 b.1,a.2 ^^^ b.2)
def z:List UInt8×Nat:=(zeros16,0)
def Ok (a:List UInt8×Nat):Prop:=a.1.length=16
def all (l:List (List UInt8×Nat)):List UInt8×Nat:=l.foldl op z
theorem op_ok {a b} (ha:Ok a) (hb:Ok b):Ok (op a b):=by unfold Ok op at*;simp[ha,hb]
theorem z_ok:Ok z:=rfl
theorem op_comm (a b):op a b=op b a:=by
 unfold op;refine Prod.ext ?_ (Nat.xor_comm _ _);apply v6;intro i;simp only[List.getElem?_zipWith];cases a.1[i]? <;>cases b.1[i]? <;>simp[UInt8.xor_comm]
theorem op_assoc (a b c):op (op a b) c=op a (op b c):=by
 unfold op;refine Prod.ext ?_ (Nat.xor_assoc _ _ _);apply v6;intro i;simp only[List.getElem?_zipWith];cases a.1[i]? <;>cases b.1[i]? <;>cases c.1[i]? <;>simp[UInt8.xor_assoc]
theorem z_op {a} (ha:Ok a):op z a=a:=by
 obtain⟨d,n⟩:=a;unfold op z;refine Prod.ext ?_ (Nat.zero_xor n);apply v6;intro i;have hd:d.length=16:=ha;simp only[List.getElem?_zipWith,zeros16,D3]
 by_cases hi:i<16
 ·rw[d8 hi];cases d[i]? <;>simp
 ·rw[d7 hi,l4 (by omega)]
theorem fold_ok:∀(l:List (List UInt8×Nat)),(∀x∈l,Ok x)->∀a,Ok a->Ok (l.foldl op a)
 | [],_,_,h=>h
 | x::l,hl,a,h=>fold_ok l (λy hy=>hl y (by simp[hy])) _ (op_ok h (hl x (by simp)))
theorem fold_from:∀(l:List (List UInt8×Nat)),(∀x∈l,Ok x)->∀a,Ok a->l.foldl op a=op a (all l)
 | [],_,a,h=>by unfold all;rw[a5E,a5E,op_comm,z_op h]
 | x::l,hl,a,h=>by
  have hx:=hl x (by simp);have hl':∀y∈l,Ok y:=λy hy=>hl y (by simp[hy]);unfold all;rw[C0,C0,fold_from l hl' _ (op_ok h hx),z_op hx,fold_from l hl' _ hx,op_assoc]
theorem ovM_nat {a b:Nat} (ha:a<18446744073709551616) (hb:b<18446744073709551616):W.ovM a b=((a ^^^ b:Nat):Int):=by
 unfold W.ovM;have h1:(BitVec.ofInt 64 (a:Int) ^^^ BitVec.ofInt 64 (b:Int)).toNat=a ^^^ b:=by
  rw[BitVec.toNat_xor,Y8,Y8,a0t,a0t,G9 ha,G9 hb]
 rw[h1];have h2:a ^^^ b<18446744073709551616:=J1 (n:=64) ha hb;simp[IntKind.wrap,IntKind.bits,IntKind.signed];omega
def toX (s:Sh):List UInt8×Nat:=(s.data,S.meta_ s.role s.lpn s.seq)
theorem mix_all {x s:List UInt8} (hx:x.length=16) (hs:s.length=16):W.mix x s 16=List.zipWith (· ^^^ ·) x s:=by
 unfold W.mix;rw[m7 (by simp[hx,hs]),D5 (by omega),n9]
theorem over_all:∀(l:List Sh) (a:List UInt8×Nat),(∀s∈l,s.data.length=16)->Ok a->a.2<18446744073709551616->l.foldl W.over1 (a.1,(a.2:Int))=(((l.map toX).foldl op a).1,((((l.map toX).foldl op a).2:Nat):Int))/\((l.map toX).foldl op a).2<18446744073709551616
 | [],a,_,_,h=>⟨rfl,h⟩
 | s::l,a,hl,ha,h=>by
  have hs:=hl s (by simp);have hm:=S.meta_lt s.role s.lpn s.seq;have hlt:a.2 ^^^ S.meta_ s.role s.lpn s.seq<18446744073709551616:=J1 (n:=64) h hm;have e:W.over1 (a.1,(a.2:Int)) s=((op a (toX s)).1,(((op a (toX s)).2:Nat):Int)):=by
   unfold W.over1;rw[ovM_nat h hm,mix_all ha hs];rfl
  rw[C0,x5,C0,e];exact over_all l (op a (toX s)) (λt ht=>hl t (by simp[ht])) (op_ok ha hs) hlt
end Xo
end Go.Proofs.YtpakpgkdpofbhaaGreat
namespace Go.Proofs.YtpakpgkdpofbhaaGreat
open Go
namespace V
theorem step_tb' (N:Nand) (L:List Fnd) (s:Sst) (k:Nat):(step N L s k).tb=if(standOf (of L k)).2=true then s.tb.put (standOf (of L k)).1.en (standOf (of L k)).1.block (standOf (of L k)).1.row (standOf (of L k)).1.slot (standOf (of L k)).1.mask else s.tb:=by
 unfold step
 by_cases h:(standOf (of L k)).2=true
 ·rw[d8 h,d8 h];split
  ·rfl
  ·split<;>rfl
 ·rw[d7 h,d7 h]
theorem look_put (t:Tb) (e:En) (b r s m:Int) (i:Int):Tb.look (t.put e b r s m).at_ i=if t.putB e=true/\i=e.lpn then some ⟨b,r,s,m,e.seq,e.role⟩else Tb.look t.at_ i:=by
 unfold Tb.put
 by_cases h:t.putB e=true
 ·rw[d8 h];show Tb.look (Tb.put1 t.at_ e.lpn _) i=_;rw[Tb.look_put1]
  by_cases hi:i=e.lpn
  ·rw[d8 hi,d8 ⟨h,hi⟩]
  ·rw[d7 hi,d7 (λh=>hi h.2)]
 ·rw[d7 h,d7 (λh'=>h h'.1)]
theorem goS_look (N:Nand) (L:List Fnd) (n:Int):∀k i:Nat,Tb.look (goS N L n k).tb.at_ (i:Int)=if i<k/\(standOf (of L i)).2=true/\Tb.ok (Tb.new n) (standOf (of L i)).1.en=true then some ⟨(standOf (of L i)).1.block,(standOf (of L i)).1.row,(standOf (of L i)).1.slot,(standOf (of L i)).1.mask,(standOf (of L i)).1.en.seq,(standOf (of L i)).1.en.role⟩else none
 | 0,i=>by rw[d7 (by omega)];rfl
 | k+1,i=>by
  have ih:=goS_look N L n k;have hlog:(goS N L n k).tb.logical=(Tb.new n).logical:=goS_log N L n k;rw[goS_succ,step_tb']
  by_cases hs:(standOf (of L k)).2=true
  ·have hlpn:(standOf (of L k)).1.en.lpn=k:=by
    have:=(List.mem_filter.1 (standOf_mem hs)).2;exact eq_of_beq this
   have hok:(goS N L n k).tb.putB (standOf (of L k)).1.en=Tb.ok (Tb.new n) (standOf (of L k)).1.en:=by
    unfold Tb.putB Tb.elder;rw[hlpn,ih k,d7 (by omega)];unfold Tb.ok;rw[hlog];simp
   rw[d8 hs,look_put,hok,hlpn,ih i]
   by_cases hik:i=k
   ·subst hik
    by_cases ho:Tb.ok (Tb.new n) (standOf (of L i)).1.en=true
    ·rw[d8 ⟨ho,rfl⟩,d8 ⟨by omega,hs,ho⟩]
    ·rw[d7 (λh=>ho h.1),d7 (by omega),d7 (λh=>ho h.2.2)]
   ·rw[d7 (λh=>hik (by omega))]
    by_cases hc:(standOf (of L i)).2=true/\Tb.ok (Tb.new n) (standOf (of L i)).1.en=true
    ·by_cases hlt:i<k
     ·rw[d8 ⟨hlt,hc⟩,d8 ⟨by omega,hc⟩]
     ·rw[d7 (λh=>hlt h.1),d7 (λh=>by omega)]
    ·rw[d7 (λh=>hc h.2),d7 (λh=>hc h.2)]
  ·rw[d7 hs,ih i]
   by_cases hik:i=k
   ·subst hik;rw[d7 (by omega),d7 (λh=>hs h.2.1)]
   ·by_cases hc:(standOf (of L i)).2=true/\Tb.ok (Tb.new n) (standOf (of L i)).1.en=true
    ·by_cases hlt:i<k
     ·rw[d8 ⟨hlt,hc⟩,d8 ⟨by omega,hc⟩]
     ·rw[d7 (λh=>hlt h.1),d7 (λh=>by omega)]
    ·rw[d7 (λh=>hc h.2),d7 (λh=>hc h.2)]
end V
end Go.Proofs.YtpakpgkdpofbhaaGreat
