/-
  No cell of these rows narrows 'for every input' (looked for: loops, veiled, ifaces, maps, wideKeys, modest, calm, conditions, laid).
  DERIVED. THE GIVEN ROWS OF THIS SEAT. 12 by the template 'for every input the law returns true; each argument reads behind the call as it read before'; 0 by the template 'total and deterministic' (their statements: YtdocmcapegcoeaaGreatTotals.lean).
  GIVEN WITH THE SEED: the statements are not yours to turn. If you find one false, say at which input.
  Laid BY PROGRAM, IN A SANDBOX (cutbox-rows.mjs): the forced cells as the released guide's own fill.sh prints them over the translation 2646930815bd2f89… (all of the seat's roots in one cut). By AI agents, Wed Nov 11 2026. No macro, syntax, notation, axiom, sorry.
-/
import Derived.Test.YtdocmcapegcoeaaGreatChecked
import GoSem.Claim
import GoSem.ClaimJoined
import GoSem.ClaimMapViews
import Derived.JoinedTies
import Derived.KernelRfl
namespace Go.Proofs.YtdocmcapegcoeaaGreat
/- THE CELL 'sum', in the pinned program and in every row, IS THE sha256 OF THE DUMP (.gsa) THAT YtdocmcapegcoeaaGreatProg.lean LOADS. Nothing in Lean hashes anything: it is a label: what it is worth is what the hold of that sum in a sandbox is worth. -/
noncomputable def Tryz.pinned : Pinned := { name := "ytdocmcapegcoeaagreat", sum := "2646930815bd2f89b23f74e45952f0cff7e63b92f5ae891a270672d9395b1d52", checked := Tryz.checked }
namespace Rows
def none {H : Type} : Left H := { results := [], args := [] }

/-- 'ostrakonlaw18.PenRows': WHATEVER THE INPUT: true; the input reads as it did. -/
def penRowsSpec : ChangeSpec := { name := "penRows", fn := fun _ => fun
  | [d1, d2] => { results := [.lit (.bool true)], args := [d1, d2] }
  | _ => none }
def penRowsRow : OpenClaim := { program := "ytdocmcapegcoeaagreat", sum := "2646930815bd2f89b23f74e45952f0cff7e63b92f5ae891a270672d9395b1d52", func := "ostrakon/ostrakonlaw18.PenRows", spec := "penRows", unfollowed := true, recurses := true, plainKeys := false, apart := false }
def PenRowsSaid : Prop := penRowsRow.holds Tryz.pinned (OpenSpec.ofChange penRowsSpec)

/-- ITS FALSE NEIGHBOUR: 'it returns false'. Refute it at one input. -/
def penRowsWrong : ChangeSpec := { name := "penRows", fn := fun _ => fun
  | [d1, d2] => { results := [.lit (.bool false)], args := [d1, d2] }
  | _ => none }
def PenRowsWrongFalsely : Prop := penRowsRow.holds Tryz.pinned (OpenSpec.ofChange penRowsWrong)

/-- 'ostrakonlaw18.PenFails': WHATEVER THE INPUT: true; the input reads as it did. -/
def penFailsSpec : ChangeSpec := { name := "penFails", fn := fun _ => fun
  | [d1, d2, d3] => { results := [.lit (.bool true)], args := [d1, d2, d3] }
  | _ => none }
def penFailsRow : OpenClaim := { program := "ytdocmcapegcoeaagreat", sum := "2646930815bd2f89b23f74e45952f0cff7e63b92f5ae891a270672d9395b1d52", func := "ostrakon/ostrakonlaw18.PenFails", spec := "penFails", unfollowed := true, recurses := true, plainKeys := false, apart := false }
def PenFailsSaid : Prop := penFailsRow.holds Tryz.pinned (OpenSpec.ofChange penFailsSpec)

/-- ITS FALSE NEIGHBOUR: 'it returns false'. Refute it at one input. -/
def penFailsWrong : ChangeSpec := { name := "penFails", fn := fun _ => fun
  | [d1, d2, d3] => { results := [.lit (.bool false)], args := [d1, d2, d3] }
  | _ => none }
def PenFailsWrongFalsely : Prop := penFailsRow.holds Tryz.pinned (OpenSpec.ofChange penFailsWrong)

/-- 'ostrakonlaw18.PenDead': WHATEVER THE INPUT: true; the input reads as it did. -/
def penDeadSpec : ChangeSpec := { name := "penDead", fn := fun _ => fun
  | [d1, d2] => { results := [.lit (.bool true)], args := [d1, d2] }
  | _ => none }
def penDeadRow : OpenClaim := { program := "ytdocmcapegcoeaagreat", sum := "2646930815bd2f89b23f74e45952f0cff7e63b92f5ae891a270672d9395b1d52", func := "ostrakon/ostrakonlaw18.PenDead", spec := "penDead", unfollowed := true, recurses := true, plainKeys := false, apart := false }
def PenDeadSaid : Prop := penDeadRow.holds Tryz.pinned (OpenSpec.ofChange penDeadSpec)

/-- ITS FALSE NEIGHBOUR: 'it returns false'. Refute it at one input. -/
def penDeadWrong : ChangeSpec := { name := "penDead", fn := fun _ => fun
  | [d1, d2] => { results := [.lit (.bool false)], args := [d1, d2] }
  | _ => none }
def PenDeadWrongFalsely : Prop := penDeadRow.holds Tryz.pinned (OpenSpec.ofChange penDeadWrong)

/-- 'ostrakonlaw18.SweepRoom': WHATEVER THE INPUT: true; the input reads as it did. -/
def sweepRoomSpec : ChangeSpec := { name := "sweepRoom", fn := fun _ => fun
  | [d1, d2] => { results := [.lit (.bool true)], args := [d1, d2] }
  | _ => none }
def sweepRoomRow : OpenClaim := { program := "ytdocmcapegcoeaagreat", sum := "2646930815bd2f89b23f74e45952f0cff7e63b92f5ae891a270672d9395b1d52", func := "ostrakon/ostrakonlaw18.SweepRoom", spec := "sweepRoom", unfollowed := true, recurses := true, plainKeys := false, apart := false }
def SweepRoomSaid : Prop := sweepRoomRow.holds Tryz.pinned (OpenSpec.ofChange sweepRoomSpec)

/-- ITS FALSE NEIGHBOUR: 'it returns false'. Refute it at one input. -/
def sweepRoomWrong : ChangeSpec := { name := "sweepRoom", fn := fun _ => fun
  | [d1, d2] => { results := [.lit (.bool false)], args := [d1, d2] }
  | _ => none }
def SweepRoomWrongFalsely : Prop := sweepRoomRow.holds Tryz.pinned (OpenSpec.ofChange sweepRoomWrong)

/-- 'ostrakonlaw18.SweepLost': WHATEVER THE INPUT: true; the input reads as it did. -/
def sweepLostSpec : ChangeSpec := { name := "sweepLost", fn := fun _ => fun
  | [d1, d2, d3, d4] => { results := [.lit (.bool true)], args := [d1, d2, d3, d4] }
  | _ => none }
def sweepLostRow : OpenClaim := { program := "ytdocmcapegcoeaagreat", sum := "2646930815bd2f89b23f74e45952f0cff7e63b92f5ae891a270672d9395b1d52", func := "ostrakon/ostrakonlaw18.SweepLost", spec := "sweepLost", unfollowed := true, recurses := true, plainKeys := false, apart := false }
def SweepLostSaid : Prop := sweepLostRow.holds Tryz.pinned (OpenSpec.ofChange sweepLostSpec)

/-- ITS FALSE NEIGHBOUR: 'it returns false'. Refute it at one input. -/
def sweepLostWrong : ChangeSpec := { name := "sweepLost", fn := fun _ => fun
  | [d1, d2, d3, d4] => { results := [.lit (.bool false)], args := [d1, d2, d3, d4] }
  | _ => none }
def SweepLostWrongFalsely : Prop := sweepLostRow.holds Tryz.pinned (OpenSpec.ofChange sweepLostWrong)

/-- 'ostrakonlaw18.MendAll': WHATEVER THE INPUT: true; the input reads as it did. -/
def mendAllSpec : ChangeSpec := { name := "mendAll", fn := fun _ => fun
  | [d1, d2, d3, d4, d5] => { results := [.lit (.bool true)], args := [d1, d2, d3, d4, d5] }
  | _ => none }
def mendAllRow : OpenClaim := { program := "ytdocmcapegcoeaagreat", sum := "2646930815bd2f89b23f74e45952f0cff7e63b92f5ae891a270672d9395b1d52", func := "ostrakon/ostrakonlaw18.MendAll", spec := "mendAll", unfollowed := true, recurses := true, plainKeys := false, apart := false }
def MendAllSaid : Prop := mendAllRow.holds Tryz.pinned (OpenSpec.ofChange mendAllSpec)

/-- ITS FALSE NEIGHBOUR: 'it returns false'. Refute it at one input. -/
def mendAllWrong : ChangeSpec := { name := "mendAll", fn := fun _ => fun
  | [d1, d2, d3, d4, d5] => { results := [.lit (.bool false)], args := [d1, d2, d3, d4, d5] }
  | _ => none }
def MendAllWrongFalsely : Prop := mendAllRow.holds Tryz.pinned (OpenSpec.ofChange mendAllWrong)

/-- 'ostrakonlaw18.PenCut': WHATEVER THE INPUT: true; the input reads as it did. -/
def penCutSpec : ChangeSpec := { name := "penCut", fn := fun _ => fun
  | [d1, d2, d3, d4] => { results := [.lit (.bool true)], args := [d1, d2, d3, d4] }
  | _ => none }
def penCutRow : OpenClaim := { program := "ytdocmcapegcoeaagreat", sum := "2646930815bd2f89b23f74e45952f0cff7e63b92f5ae891a270672d9395b1d52", func := "ostrakon/ostrakonlaw18.PenCut", spec := "penCut", unfollowed := true, recurses := true, plainKeys := false, apart := false }
def PenCutSaid : Prop := penCutRow.holds Tryz.pinned (OpenSpec.ofChange penCutSpec)

/-- ITS FALSE NEIGHBOUR: 'it returns false'. Refute it at one input. -/
def penCutWrong : ChangeSpec := { name := "penCut", fn := fun _ => fun
  | [d1, d2, d3, d4] => { results := [.lit (.bool false)], args := [d1, d2, d3, d4] }
  | _ => none }
def PenCutWrongFalsely : Prop := penCutRow.holds Tryz.pinned (OpenSpec.ofChange penCutWrong)

/-- 'ostrakonlaw18.SweepClear': WHATEVER THE INPUT: true; the input reads as it did. -/
def sweepClearSpec : ChangeSpec := { name := "sweepClear", fn := fun _ => fun
  | [d1, d2] => { results := [.lit (.bool true)], args := [d1, d2] }
  | _ => none }
def sweepClearRow : OpenClaim := { program := "ytdocmcapegcoeaagreat", sum := "2646930815bd2f89b23f74e45952f0cff7e63b92f5ae891a270672d9395b1d52", func := "ostrakon/ostrakonlaw18.SweepClear", spec := "sweepClear", unfollowed := true, recurses := true, plainKeys := false, apart := false }
def SweepClearSaid : Prop := sweepClearRow.holds Tryz.pinned (OpenSpec.ofChange sweepClearSpec)

/-- ITS FALSE NEIGHBOUR: 'it returns false'. Refute it at one input. -/
def sweepClearWrong : ChangeSpec := { name := "sweepClear", fn := fun _ => fun
  | [d1, d2] => { results := [.lit (.bool false)], args := [d1, d2] }
  | _ => none }
def SweepClearWrongFalsely : Prop := sweepClearRow.holds Tryz.pinned (OpenSpec.ofChange sweepClearWrong)

/-- 'ostrakonlaw18.SweepCarry': WHATEVER THE INPUT: true; the input reads as it did. -/
def sweepCarrySpec : ChangeSpec := { name := "sweepCarry", fn := fun _ => fun
  | [d1, d2, d3] => { results := [.lit (.bool true)], args := [d1, d2, d3] }
  | _ => none }
def sweepCarryRow : OpenClaim := { program := "ytdocmcapegcoeaagreat", sum := "2646930815bd2f89b23f74e45952f0cff7e63b92f5ae891a270672d9395b1d52", func := "ostrakon/ostrakonlaw18.SweepCarry", spec := "sweepCarry", unfollowed := true, recurses := true, plainKeys := false, apart := false }
def SweepCarrySaid : Prop := sweepCarryRow.holds Tryz.pinned (OpenSpec.ofChange sweepCarrySpec)

/-- ITS FALSE NEIGHBOUR: 'it returns false'. Refute it at one input. -/
def sweepCarryWrong : ChangeSpec := { name := "sweepCarry", fn := fun _ => fun
  | [d1, d2, d3] => { results := [.lit (.bool false)], args := [d1, d2, d3] }
  | _ => none }
def SweepCarryWrongFalsely : Prop := sweepCarryRow.holds Tryz.pinned (OpenSpec.ofChange sweepCarryWrong)

/-- 'ostrakonlaw18.SweepCut': WHATEVER THE INPUT: true; the input reads as it did. -/
def sweepCutSpec : ChangeSpec := { name := "sweepCut", fn := fun _ => fun
  | [d1, d2, d3, d4] => { results := [.lit (.bool true)], args := [d1, d2, d3, d4] }
  | _ => none }
def sweepCutRow : OpenClaim := { program := "ytdocmcapegcoeaagreat", sum := "2646930815bd2f89b23f74e45952f0cff7e63b92f5ae891a270672d9395b1d52", func := "ostrakon/ostrakonlaw18.SweepCut", spec := "sweepCut", unfollowed := true, recurses := true, plainKeys := false, apart := false }
def SweepCutSaid : Prop := sweepCutRow.holds Tryz.pinned (OpenSpec.ofChange sweepCutSpec)

/-- ITS FALSE NEIGHBOUR: 'it returns false'. Refute it at one input. -/
def sweepCutWrong : ChangeSpec := { name := "sweepCut", fn := fun _ => fun
  | [d1, d2, d3, d4] => { results := [.lit (.bool false)], args := [d1, d2, d3, d4] }
  | _ => none }
def SweepCutWrongFalsely : Prop := sweepCutRow.holds Tryz.pinned (OpenSpec.ofChange sweepCutWrong)

/-- 'ostrakonlaw18.PenRetry': WHATEVER THE INPUT: true; the input reads as it did. -/
def penRetrySpec : ChangeSpec := { name := "penRetry", fn := fun _ => fun
  | [d1, d2, d3] => { results := [.lit (.bool true)], args := [d1, d2, d3] }
  | _ => none }
def penRetryRow : OpenClaim := { program := "ytdocmcapegcoeaagreat", sum := "2646930815bd2f89b23f74e45952f0cff7e63b92f5ae891a270672d9395b1d52", func := "ostrakon/ostrakonlaw18.PenRetry", spec := "penRetry", unfollowed := true, recurses := true, plainKeys := false, apart := false }
def PenRetrySaid : Prop := penRetryRow.holds Tryz.pinned (OpenSpec.ofChange penRetrySpec)

/-- ITS FALSE NEIGHBOUR: 'it returns false'. Refute it at one input. -/
def penRetryWrong : ChangeSpec := { name := "penRetry", fn := fun _ => fun
  | [d1, d2, d3] => { results := [.lit (.bool false)], args := [d1, d2, d3] }
  | _ => none }
def PenRetryWrongFalsely : Prop := penRetryRow.holds Tryz.pinned (OpenSpec.ofChange penRetryWrong)

/-- 'ostrakonlaw18.MendNothing': WHATEVER THE INPUT: true; the input reads as it did. -/
def mendNothingSpec : ChangeSpec := { name := "mendNothing", fn := fun _ => fun
  | [d1, d2] => { results := [.lit (.bool true)], args := [d1, d2] }
  | _ => none }
def mendNothingRow : OpenClaim := { program := "ytdocmcapegcoeaagreat", sum := "2646930815bd2f89b23f74e45952f0cff7e63b92f5ae891a270672d9395b1d52", func := "ostrakon/ostrakonlaw18.MendNothing", spec := "mendNothing", unfollowed := true, recurses := true, plainKeys := false, apart := false }
def MendNothingSaid : Prop := mendNothingRow.holds Tryz.pinned (OpenSpec.ofChange mendNothingSpec)

/-- ITS FALSE NEIGHBOUR: 'it returns false'. Refute it at one input. -/
def mendNothingWrong : ChangeSpec := { name := "mendNothing", fn := fun _ => fun
  | [d1, d2] => { results := [.lit (.bool false)], args := [d1, d2] }
  | _ => none }
def MendNothingWrongFalsely : Prop := mendNothingRow.holds Tryz.pinned (OpenSpec.ofChange mendNothingWrong)

/- THE SECOND FORM. 'bulk': how many values and letters a reading holds, each counted each time it is reached (what is shared counts as often as it is met; a slice's spare places count too). A statement '..UptoSaid' is the law's where the arguments, and the package variables that the reading takes, are together of bulk at most 1048576: NARROWER than '..Said'. Prove '..Said' where nothing that the law and all that it calls make is longer than what came in: it says more and counts as full. Else prove '..UptoSaid'. A law counts once. -/
mutual
def uptoBulk {H : Type} : DataW H → Nat
  | .lit (.string bytes) => bytes.length + 1
  | .lit _ => 1
  | .nil => 1
  | .ptr d => uptoBulk d + 1
  | .slice elems spare => uptoBulkAll elems + uptoBulkAll spare + 1
  | .agg parts => uptoBulkAll parts + 1
  | .iface _ d => uptoBulk d + 1
  | .map entries => uptoBulkEntries entries + 1
  | .held _ => 1
def uptoBulkAll {H : Type} : List (DataW H) → Nat
  | [] => 0
  | d :: r => uptoBulk d + uptoBulkAll r
def uptoBulkEntries {H : Type} : List (Lit × DataW H) → Nat
  | [] => 0
  | x :: r => uptoBulkEntry x + uptoBulkEntries r
def uptoBulkEntry {H : Type} : Lit × DataW H → Nat
  | (.string bytes, d) => bytes.length + uptoBulk d + 1
  | (_, d) => uptoBulk d + 1
 end
def uptoSmall : (H : Type) → List (DataW H) → Bool := fun _ ds => decide (uptoBulkAll ds ≤ 1048576)
def OpenSpec.upto (s : _root_.Go.ChangeSpec) : _root_.Go.OpenSpec := { _root_.Go.OpenSpec.ofChange s with cond := some uptoSmall }

/-- 'ostrakonlaw18.PenRows', WHERE WHAT IT READS IS OF BULK AT MOST 1048576: true; the input reads as it did. -/
def penRowsUptoRow : OpenClaim := { program := "ytdocmcapegcoeaagreat", sum := "2646930815bd2f89b23f74e45952f0cff7e63b92f5ae891a270672d9395b1d52", func := "ostrakon/ostrakonlaw18.PenRows", spec := "penRows", unfollowed := true, recurses := true, plainKeys := false, apart := false, narrowed := true }
def PenRowsUptoSaid : Prop := penRowsUptoRow.holds Tryz.pinned (OpenSpec.upto penRowsSpec)

/-- 'ostrakonlaw18.PenFails', WHERE WHAT IT READS IS OF BULK AT MOST 1048576: true; the input reads as it did. -/
def penFailsUptoRow : OpenClaim := { program := "ytdocmcapegcoeaagreat", sum := "2646930815bd2f89b23f74e45952f0cff7e63b92f5ae891a270672d9395b1d52", func := "ostrakon/ostrakonlaw18.PenFails", spec := "penFails", unfollowed := true, recurses := true, plainKeys := false, apart := false, narrowed := true }
def PenFailsUptoSaid : Prop := penFailsUptoRow.holds Tryz.pinned (OpenSpec.upto penFailsSpec)

/-- 'ostrakonlaw18.PenDead', WHERE WHAT IT READS IS OF BULK AT MOST 1048576: true; the input reads as it did. -/
def penDeadUptoRow : OpenClaim := { program := "ytdocmcapegcoeaagreat", sum := "2646930815bd2f89b23f74e45952f0cff7e63b92f5ae891a270672d9395b1d52", func := "ostrakon/ostrakonlaw18.PenDead", spec := "penDead", unfollowed := true, recurses := true, plainKeys := false, apart := false, narrowed := true }
def PenDeadUptoSaid : Prop := penDeadUptoRow.holds Tryz.pinned (OpenSpec.upto penDeadSpec)

/-- 'ostrakonlaw18.SweepRoom', WHERE WHAT IT READS IS OF BULK AT MOST 1048576: true; the input reads as it did. -/
def sweepRoomUptoRow : OpenClaim := { program := "ytdocmcapegcoeaagreat", sum := "2646930815bd2f89b23f74e45952f0cff7e63b92f5ae891a270672d9395b1d52", func := "ostrakon/ostrakonlaw18.SweepRoom", spec := "sweepRoom", unfollowed := true, recurses := true, plainKeys := false, apart := false, narrowed := true }
def SweepRoomUptoSaid : Prop := sweepRoomUptoRow.holds Tryz.pinned (OpenSpec.upto sweepRoomSpec)

/-- 'ostrakonlaw18.SweepLost', WHERE WHAT IT READS IS OF BULK AT MOST 1048576: true; the input reads as it did. -/
def sweepLostUptoRow : OpenClaim := { program := "ytdocmcapegcoeaagreat", sum := "2646930815bd2f89b23f74e45952f0cff7e63b92f5ae891a270672d9395b1d52", func := "ostrakon/ostrakonlaw18.SweepLost", spec := "sweepLost", unfollowed := true, recurses := true, plainKeys := false, apart := false, narrowed := true }
def SweepLostUptoSaid : Prop := sweepLostUptoRow.holds Tryz.pinned (OpenSpec.upto sweepLostSpec)

/-- 'ostrakonlaw18.MendAll', WHERE WHAT IT READS IS OF BULK AT MOST 1048576: true; the input reads as it did. -/
def mendAllUptoRow : OpenClaim := { program := "ytdocmcapegcoeaagreat", sum := "2646930815bd2f89b23f74e45952f0cff7e63b92f5ae891a270672d9395b1d52", func := "ostrakon/ostrakonlaw18.MendAll", spec := "mendAll", unfollowed := true, recurses := true, plainKeys := false, apart := false, narrowed := true }
def MendAllUptoSaid : Prop := mendAllUptoRow.holds Tryz.pinned (OpenSpec.upto mendAllSpec)

/-- 'ostrakonlaw18.PenCut', WHERE WHAT IT READS IS OF BULK AT MOST 1048576: true; the input reads as it did. -/
def penCutUptoRow : OpenClaim := { program := "ytdocmcapegcoeaagreat", sum := "2646930815bd2f89b23f74e45952f0cff7e63b92f5ae891a270672d9395b1d52", func := "ostrakon/ostrakonlaw18.PenCut", spec := "penCut", unfollowed := true, recurses := true, plainKeys := false, apart := false, narrowed := true }
def PenCutUptoSaid : Prop := penCutUptoRow.holds Tryz.pinned (OpenSpec.upto penCutSpec)

/-- 'ostrakonlaw18.SweepClear', WHERE WHAT IT READS IS OF BULK AT MOST 1048576: true; the input reads as it did. -/
def sweepClearUptoRow : OpenClaim := { program := "ytdocmcapegcoeaagreat", sum := "2646930815bd2f89b23f74e45952f0cff7e63b92f5ae891a270672d9395b1d52", func := "ostrakon/ostrakonlaw18.SweepClear", spec := "sweepClear", unfollowed := true, recurses := true, plainKeys := false, apart := false, narrowed := true }
def SweepClearUptoSaid : Prop := sweepClearUptoRow.holds Tryz.pinned (OpenSpec.upto sweepClearSpec)

/-- 'ostrakonlaw18.SweepCarry', WHERE WHAT IT READS IS OF BULK AT MOST 1048576: true; the input reads as it did. -/
def sweepCarryUptoRow : OpenClaim := { program := "ytdocmcapegcoeaagreat", sum := "2646930815bd2f89b23f74e45952f0cff7e63b92f5ae891a270672d9395b1d52", func := "ostrakon/ostrakonlaw18.SweepCarry", spec := "sweepCarry", unfollowed := true, recurses := true, plainKeys := false, apart := false, narrowed := true }
def SweepCarryUptoSaid : Prop := sweepCarryUptoRow.holds Tryz.pinned (OpenSpec.upto sweepCarrySpec)

/-- 'ostrakonlaw18.SweepCut', WHERE WHAT IT READS IS OF BULK AT MOST 1048576: true; the input reads as it did. -/
def sweepCutUptoRow : OpenClaim := { program := "ytdocmcapegcoeaagreat", sum := "2646930815bd2f89b23f74e45952f0cff7e63b92f5ae891a270672d9395b1d52", func := "ostrakon/ostrakonlaw18.SweepCut", spec := "sweepCut", unfollowed := true, recurses := true, plainKeys := false, apart := false, narrowed := true }
def SweepCutUptoSaid : Prop := sweepCutUptoRow.holds Tryz.pinned (OpenSpec.upto sweepCutSpec)

/-- 'ostrakonlaw18.PenRetry', WHERE WHAT IT READS IS OF BULK AT MOST 1048576: true; the input reads as it did. -/
def penRetryUptoRow : OpenClaim := { program := "ytdocmcapegcoeaagreat", sum := "2646930815bd2f89b23f74e45952f0cff7e63b92f5ae891a270672d9395b1d52", func := "ostrakon/ostrakonlaw18.PenRetry", spec := "penRetry", unfollowed := true, recurses := true, plainKeys := false, apart := false, narrowed := true }
def PenRetryUptoSaid : Prop := penRetryUptoRow.holds Tryz.pinned (OpenSpec.upto penRetrySpec)

/-- 'ostrakonlaw18.MendNothing', WHERE WHAT IT READS IS OF BULK AT MOST 1048576: true; the input reads as it did. -/
def mendNothingUptoRow : OpenClaim := { program := "ytdocmcapegcoeaagreat", sum := "2646930815bd2f89b23f74e45952f0cff7e63b92f5ae891a270672d9395b1d52", func := "ostrakon/ostrakonlaw18.MendNothing", spec := "mendNothing", unfollowed := true, recurses := true, plainKeys := false, apart := false, narrowed := true }
def MendNothingUptoSaid : Prop := mendNothingUptoRow.holds Tryz.pinned (OpenSpec.upto mendNothingSpec)

end Rows
end Go.Proofs.YtdocmcapegcoeaaGreat
