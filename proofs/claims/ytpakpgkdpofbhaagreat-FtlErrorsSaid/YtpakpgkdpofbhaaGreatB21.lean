/- Helpers. No condition. -/
import Derived.Test.YtpakpgkdpofbhaaGreatB00
import Derived.Test.YtpakpgkdpofbhaaGreatB17
set_option maxRecDepth 20000
set_option linter.all false
namespace Go.Proofs.YtpakpgkdpofbhaaGreat
open Go
namespace Fv
variable {F : Fv}
theorem off_read (h:F.ask.off=true) (i:Int):F.read i=(F.ask,zeros16,9):=by unfold read;rw[i9 h]
theorem off_write (h:F.ask.off=true) (i:Int) (d:List UInt8):F.write i d=(F.ask,9):=by unfold write waits;rw[i9 h]
theorem off_trim (h:F.ask.off=true) (i:Int):F.trim i=(F.ask,9):=by unfold trim waits;rw[i9 h]
theorem off_flush (h:F.ask.off=true):F.flush=(F.ask,9):=by unfold flush;rw[i9 h]
theorem off_tick (h:F.ask.off=true):F.tick=(F.ask,9):=by unfold tick;rw[i9 h]
theorem off_whole (h:F.ask.off=true):F.whole=(F.ask,false):=by unfold whole;rw[i9 h]
theorem ask_off (h:F.off=true):F.ask=F:=by
 cases F;unfold ask;dsimp only at h ⊢;rw[h,Bool.true_or]
end Fv
namespace Dev
variable {D B P n : Nat} {F : Fv} {c : Nat → List UInt8}
theorem ask (h:Dev D B P F n c):F.ask=F:=by
 obtain⟨W,hW,_⟩:=h.fc;exact hW.fi.ask
theorem foff (h:Dev D B P F n c):F.off=false:=by
 obtain⟨W,hW,_⟩:=h.fc;exact hW.fi.off
theorem readI (h:Dev D B P F n c) (i:Int):F.read i=if i<0\/i>=(lgN D B P:Int)then(F,zeros16,3)else(F,c i.toNat,0):=by
 by_cases hi:i<0\/i>=(lgN D B P:Int)
 ·obtain⟨W,hW,_⟩:=h.fc;rw[hW.fi.read,i9 hi,i9 hi]
 ·have:=h.read (i:=i.toNat) (by omega);rw[a0t (by omega)]at this;rw[i7 hi,this]
theorem waits_out (h:Dev D B P F n c) {e:En} (hi:e.lpn<0\/e.lpn>=(lgN D B P:Int)):F.waits e=(F,3):=by
 unfold Fv.waits;rw[h.ask,h.foff,i7 n8,h.lg,i9 hi]
theorem writeI (h:Dev D B P F (n+1) c) (i:Int) {d:List UInt8} (hd:d.length=16):(F.write i d).2=(if i<0\/i>=(lgN D B P:Int)then 3 else 0)/\∃c',Dev D B P (F.write i d).1 n c':=by
 by_cases hi:i<0\/i>=(lgN D B P:Int)
 ·rw[show F.write i d=(F,3)from h.waits_out (e:=⟨i,0,1,d⟩) hi,i9 hi];exact⟨rfl,c,h.less (by omega)⟩
 ·obtain⟨w1,w2,_⟩:=h.write (i:=i.toNat) (by omega) hd;rw[a0t (by omega)]at w1 w2;rw[i7 hi];exact⟨w1,_,w2⟩
theorem trimI (h:Dev D B P F (n+1) c) (i:Int):(F.trim i).2=(if i<0\/i>=(lgN D B P:Int)then 3 else 0)/\∃c',Dev D B P (F.trim i).1 n c':=by
 by_cases hi:i<0\/i>=(lgN D B P:Int)
 ·rw[show F.trim i=(F,3)from h.waits_out (e:=⟨i,0,2,zeros16⟩) hi,i9 hi];exact⟨rfl,c,h.less (by omega)⟩
 ·obtain⟨w1,w2,_⟩:=h.trim (i:=i.toNat) (by omega);rw[a0t (by omega)]at w1 w2;rw[i7 hi];exact⟨w1,_,w2⟩
end Dev
theorem Nand.cut_off (N:Nand):(N.setCut (-1) 0).off=true:=by
 unfold Nand.setCut;split
 ·assumption
 ·rfl
end Go.Proofs.YtpakpgkdpofbhaaGreat
