/-
  No cell of these rows narrows 'for every input' (looked for: loops, veiled, ifaces, maps, wideKeys, modest, calm, conditions, laid).
  DERIVED. THE GIVEN ROWS OF THIS SEAT. 16 by the template 'for every input the law returns true; each argument reads behind the call as it read before'; 0 by the template 'total and deterministic' (their statements: YtkdlnfdjjifedaaGreatTotals.lean).
  GIVEN WITH THE SEED: the statements are not yours to turn. If you find one false, say at which input.
  Laid BY PROGRAM, IN A SANDBOX (cutbox-rows.mjs): the forced cells as the released guide's own fill.sh prints them over the translation 51f66d418e67d23a… (all of the seat's roots in one cut). By AI agents, Wed Nov 11 2026. No macro, syntax, notation, axiom, sorry.
-/
import Derived.Test.YtkdlnfdjjifedaaGreatChecked
import GoSem.Claim
import GoSem.ClaimJoined
import GoSem.ClaimMapViews
import Derived.JoinedTies
import Derived.KernelRfl
namespace Go.Proofs.YtkdlnfdjjifedaaGreat
/- THE CELL 'sum', in the pinned program and in every row, IS THE sha256 OF THE DUMP (.gsa) THAT YtkdlnfdjjifedaaGreatProg.lean LOADS. Nothing in Lean hashes anything: it is a label: what it is worth is what the hold of that sum in a sandbox is worth. -/
noncomputable def Tryz.pinned : Pinned := { name := "ytkdlnfdjjifedaagreat", sum := "51f66d418e67d23ae11437bdb22ecd3e5fce47ae797a87a99184014dd72859fd", checked := Tryz.checked }
namespace Rows
def none {H : Type} : Left H := { results := [], args := [] }

/-- 'ostrakonlaw21.FtlRead': WHATEVER THE INPUT: true; the input reads as it did. -/
def ftlReadSpec : ChangeSpec := { name := "ftlRead", fn := fun _ => fun
  | [d1, d2, d3, d4] => { results := [.lit (.bool true)], args := [d1, d2, d3, d4] }
  | _ => none }
def ftlReadRow : OpenClaim := { program := "ytkdlnfdjjifedaagreat", sum := "51f66d418e67d23ae11437bdb22ecd3e5fce47ae797a87a99184014dd72859fd", func := "ostrakon/ostrakonlaw21.FtlRead", spec := "ftlRead", unfollowed := true, recurses := true, plainKeys := false, apart := false }
def FtlReadSaid : Prop := ftlReadRow.holds Tryz.pinned (OpenSpec.ofChange ftlReadSpec)

/-- ITS FALSE NEIGHBOUR: 'it returns false'. Refute it at one input. -/
def ftlReadWrong : ChangeSpec := { name := "ftlRead", fn := fun _ => fun
  | [d1, d2, d3, d4] => { results := [.lit (.bool false)], args := [d1, d2, d3, d4] }
  | _ => none }
def FtlReadWrongFalsely : Prop := ftlReadRow.holds Tryz.pinned (OpenSpec.ofChange ftlReadWrong)

/-- 'ostrakonlaw21.FtlErrors': WHATEVER THE INPUT: true; the input reads as it did. -/
def ftlErrorsSpec : ChangeSpec := { name := "ftlErrors", fn := fun _ => fun
  | [d1, d2, d3] => { results := [.lit (.bool true)], args := [d1, d2, d3] }
  | _ => none }
def ftlErrorsRow : OpenClaim := { program := "ytkdlnfdjjifedaagreat", sum := "51f66d418e67d23ae11437bdb22ecd3e5fce47ae797a87a99184014dd72859fd", func := "ostrakon/ostrakonlaw21.FtlErrors", spec := "ftlErrors", unfollowed := true, recurses := true, plainKeys := false, apart := false }
def FtlErrorsSaid : Prop := ftlErrorsRow.holds Tryz.pinned (OpenSpec.ofChange ftlErrorsSpec)

/-- ITS FALSE NEIGHBOUR: 'it returns false'. Refute it at one input. -/
def ftlErrorsWrong : ChangeSpec := { name := "ftlErrors", fn := fun _ => fun
  | [d1, d2, d3] => { results := [.lit (.bool false)], args := [d1, d2, d3] }
  | _ => none }
def FtlErrorsWrongFalsely : Prop := ftlErrorsRow.holds Tryz.pinned (OpenSpec.ofChange ftlErrorsWrong)

/-- 'ostrakonlaw21.PlayTwice': WHATEVER THE INPUT: true; the input reads as it did. -/
def playTwiceSpec : ChangeSpec := { name := "playTwice", fn := fun _ => fun
  | [d1, d2, d3] => { results := [.lit (.bool true)], args := [d1, d2, d3] }
  | _ => none }
def playTwiceRow : OpenClaim := { program := "ytkdlnfdjjifedaagreat", sum := "51f66d418e67d23ae11437bdb22ecd3e5fce47ae797a87a99184014dd72859fd", func := "ostrakon/ostrakonlaw21.PlayTwice", spec := "playTwice", unfollowed := true, recurses := true, plainKeys := false, apart := false }
def PlayTwiceSaid : Prop := playTwiceRow.holds Tryz.pinned (OpenSpec.ofChange playTwiceSpec)

/-- ITS FALSE NEIGHBOUR: 'it returns false'. Refute it at one input. -/
def playTwiceWrong : ChangeSpec := { name := "playTwice", fn := fun _ => fun
  | [d1, d2, d3] => { results := [.lit (.bool false)], args := [d1, d2, d3] }
  | _ => none }
def PlayTwiceWrongFalsely : Prop := playTwiceRow.holds Tryz.pinned (OpenSpec.ofChange playTwiceWrong)

/-- 'ostrakonlaw21.PlayErrors': WHATEVER THE INPUT: true; the input reads as it did. -/
def playErrorsSpec : ChangeSpec := { name := "playErrors", fn := fun _ => fun
  | [d1, d2, d3] => { results := [.lit (.bool true)], args := [d1, d2, d3] }
  | _ => none }
def playErrorsRow : OpenClaim := { program := "ytkdlnfdjjifedaagreat", sum := "51f66d418e67d23ae11437bdb22ecd3e5fce47ae797a87a99184014dd72859fd", func := "ostrakon/ostrakonlaw21.PlayErrors", spec := "playErrors", unfollowed := true, recurses := true, plainKeys := false, apart := false }
def PlayErrorsSaid : Prop := playErrorsRow.holds Tryz.pinned (OpenSpec.ofChange playErrorsSpec)

/-- ITS FALSE NEIGHBOUR: 'it returns false'. Refute it at one input. -/
def playErrorsWrong : ChangeSpec := { name := "playErrors", fn := fun _ => fun
  | [d1, d2, d3] => { results := [.lit (.bool false)], args := [d1, d2, d3] }
  | _ => none }
def PlayErrorsWrongFalsely : Prop := playErrorsRow.holds Tryz.pinned (OpenSpec.ofChange playErrorsWrong)

/-- 'ostrakonlaw21.FtlTick': WHATEVER THE INPUT: true; the input reads as it did. -/
def ftlTickSpec : ChangeSpec := { name := "ftlTick", fn := fun _ => fun
  | [d1, d2, d3] => { results := [.lit (.bool true)], args := [d1, d2, d3] }
  | _ => none }
def ftlTickRow : OpenClaim := { program := "ytkdlnfdjjifedaagreat", sum := "51f66d418e67d23ae11437bdb22ecd3e5fce47ae797a87a99184014dd72859fd", func := "ostrakon/ostrakonlaw21.FtlTick", spec := "ftlTick", unfollowed := true, recurses := true, plainKeys := false, apart := false }
def FtlTickSaid : Prop := ftlTickRow.holds Tryz.pinned (OpenSpec.ofChange ftlTickSpec)

/-- ITS FALSE NEIGHBOUR: 'it returns false'. Refute it at one input. -/
def ftlTickWrong : ChangeSpec := { name := "ftlTick", fn := fun _ => fun
  | [d1, d2, d3] => { results := [.lit (.bool false)], args := [d1, d2, d3] }
  | _ => none }
def FtlTickWrongFalsely : Prop := ftlTickRow.holds Tryz.pinned (OpenSpec.ofChange ftlTickWrong)

/-- 'ostrakonlaw21.FtlFlushed': WHATEVER THE INPUT: true; the input reads as it did. -/
def ftlFlushedSpec : ChangeSpec := { name := "ftlFlushed", fn := fun _ => fun
  | [d1, d2, d3, d4, d5] => { results := [.lit (.bool true)], args := [d1, d2, d3, d4, d5] }
  | _ => none }
def ftlFlushedRow : OpenClaim := { program := "ytkdlnfdjjifedaagreat", sum := "51f66d418e67d23ae11437bdb22ecd3e5fce47ae797a87a99184014dd72859fd", func := "ostrakon/ostrakonlaw21.FtlFlushed", spec := "ftlFlushed", unfollowed := true, recurses := true, plainKeys := false, apart := false }
def FtlFlushedSaid : Prop := ftlFlushedRow.holds Tryz.pinned (OpenSpec.ofChange ftlFlushedSpec)

/-- ITS FALSE NEIGHBOUR: 'it returns false'. Refute it at one input. -/
def ftlFlushedWrong : ChangeSpec := { name := "ftlFlushed", fn := fun _ => fun
  | [d1, d2, d3, d4, d5] => { results := [.lit (.bool false)], args := [d1, d2, d3, d4, d5] }
  | _ => none }
def FtlFlushedWrongFalsely : Prop := ftlFlushedRow.holds Tryz.pinned (OpenSpec.ofChange ftlFlushedWrong)

/-- 'ostrakonlaw21.PlayLog': WHATEVER THE INPUT: true; the input reads as it did. -/
def playLogSpec : ChangeSpec := { name := "playLog", fn := fun _ => fun
  | [d1, d2] => { results := [.lit (.bool true)], args := [d1, d2] }
  | _ => none }
def playLogRow : OpenClaim := { program := "ytkdlnfdjjifedaagreat", sum := "51f66d418e67d23ae11437bdb22ecd3e5fce47ae797a87a99184014dd72859fd", func := "ostrakon/ostrakonlaw21.PlayLog", spec := "playLog", unfollowed := true, recurses := true, plainKeys := false, apart := false }
def PlayLogSaid : Prop := playLogRow.holds Tryz.pinned (OpenSpec.ofChange playLogSpec)

/-- ITS FALSE NEIGHBOUR: 'it returns false'. Refute it at one input. -/
def playLogWrong : ChangeSpec := { name := "playLog", fn := fun _ => fun
  | [d1, d2] => { results := [.lit (.bool false)], args := [d1, d2] }
  | _ => none }
def PlayLogWrongFalsely : Prop := playLogRow.holds Tryz.pinned (OpenSpec.ofChange playLogWrong)

/-- 'ostrakonlaw21.PlayFaults': WHATEVER THE INPUT: true; the input reads as it did. -/
def playFaultsSpec : ChangeSpec := { name := "playFaults", fn := fun _ => fun
  | [d1, d2, d3] => { results := [.lit (.bool true)], args := [d1, d2, d3] }
  | _ => none }
def playFaultsRow : OpenClaim := { program := "ytkdlnfdjjifedaagreat", sum := "51f66d418e67d23ae11437bdb22ecd3e5fce47ae797a87a99184014dd72859fd", func := "ostrakon/ostrakonlaw21.PlayFaults", spec := "playFaults", unfollowed := true, recurses := true, plainKeys := false, apart := false }
def PlayFaultsSaid : Prop := playFaultsRow.holds Tryz.pinned (OpenSpec.ofChange playFaultsSpec)

/-- ITS FALSE NEIGHBOUR: 'it returns false'. Refute it at one input. -/
def playFaultsWrong : ChangeSpec := { name := "playFaults", fn := fun _ => fun
  | [d1, d2, d3] => { results := [.lit (.bool false)], args := [d1, d2, d3] }
  | _ => none }
def PlayFaultsWrongFalsely : Prop := playFaultsRow.holds Tryz.pinned (OpenSpec.ofChange playFaultsWrong)

/-- 'ostrakonlaw21.ModelOnce': WHATEVER THE INPUT: true; the input reads as it did. -/
def modelOnceSpec : ChangeSpec := { name := "modelOnce", fn := fun _ => fun
  | [d1, d2] => { results := [.lit (.bool true)], args := [d1, d2] }
  | _ => none }
def modelOnceRow : OpenClaim := { program := "ytkdlnfdjjifedaagreat", sum := "51f66d418e67d23ae11437bdb22ecd3e5fce47ae797a87a99184014dd72859fd", func := "ostrakon/ostrakonlaw21.ModelOnce", spec := "modelOnce", unfollowed := true, recurses := true, plainKeys := false, apart := false }
def ModelOnceSaid : Prop := modelOnceRow.holds Tryz.pinned (OpenSpec.ofChange modelOnceSpec)

/-- ITS FALSE NEIGHBOUR: 'it returns false'. Refute it at one input. -/
def modelOnceWrong : ChangeSpec := { name := "modelOnce", fn := fun _ => fun
  | [d1, d2] => { results := [.lit (.bool false)], args := [d1, d2] }
  | _ => none }
def ModelOnceWrongFalsely : Prop := modelOnceRow.holds Tryz.pinned (OpenSpec.ofChange modelOnceWrong)

/-- 'ostrakonlaw21.FtlDies': WHATEVER THE INPUT: true; the input reads as it did. -/
def ftlDiesSpec : ChangeSpec := { name := "ftlDies", fn := fun _ => fun
  | [d1, d2, d3, d4, d5] => { results := [.lit (.bool true)], args := [d1, d2, d3, d4, d5] }
  | _ => none }
def ftlDiesRow : OpenClaim := { program := "ytkdlnfdjjifedaagreat", sum := "51f66d418e67d23ae11437bdb22ecd3e5fce47ae797a87a99184014dd72859fd", func := "ostrakon/ostrakonlaw21.FtlDies", spec := "ftlDies", unfollowed := true, recurses := true, plainKeys := false, apart := false }
def FtlDiesSaid : Prop := ftlDiesRow.holds Tryz.pinned (OpenSpec.ofChange ftlDiesSpec)

/-- ITS FALSE NEIGHBOUR: 'it returns false'. Refute it at one input. -/
def ftlDiesWrong : ChangeSpec := { name := "ftlDies", fn := fun _ => fun
  | [d1, d2, d3, d4, d5] => { results := [.lit (.bool false)], args := [d1, d2, d3, d4, d5] }
  | _ => none }
def FtlDiesWrongFalsely : Prop := ftlDiesRow.holds Tryz.pinned (OpenSpec.ofChange ftlDiesWrong)

/-- 'ostrakonlaw21.CalmAll': WHATEVER THE INPUT: true; the input reads as it did. -/
def calmAllSpec : ChangeSpec := { name := "calmAll", fn := fun _ => fun
  | [d1, d2, d3] => { results := [.lit (.bool true)], args := [d1, d2, d3] }
  | _ => none }
def calmAllRow : OpenClaim := { program := "ytkdlnfdjjifedaagreat", sum := "51f66d418e67d23ae11437bdb22ecd3e5fce47ae797a87a99184014dd72859fd", func := "ostrakon/ostrakonlaw21.CalmAll", spec := "calmAll", unfollowed := true, recurses := true, plainKeys := false, apart := false }
def CalmAllSaid : Prop := calmAllRow.holds Tryz.pinned (OpenSpec.ofChange calmAllSpec)

/-- ITS FALSE NEIGHBOUR: 'it returns false'. Refute it at one input. -/
def calmAllWrong : ChangeSpec := { name := "calmAll", fn := fun _ => fun
  | [d1, d2, d3] => { results := [.lit (.bool false)], args := [d1, d2, d3] }
  | _ => none }
def CalmAllWrongFalsely : Prop := calmAllRow.holds Tryz.pinned (OpenSpec.ofChange calmAllWrong)

/-- 'ostrakonlaw21.FtlWaits': WHATEVER THE INPUT: true; the input reads as it did. -/
def ftlWaitsSpec : ChangeSpec := { name := "ftlWaits", fn := fun _ => fun
  | [d1, d2] => { results := [.lit (.bool true)], args := [d1, d2] }
  | _ => none }
def ftlWaitsRow : OpenClaim := { program := "ytkdlnfdjjifedaagreat", sum := "51f66d418e67d23ae11437bdb22ecd3e5fce47ae797a87a99184014dd72859fd", func := "ostrakon/ostrakonlaw21.FtlWaits", spec := "ftlWaits", unfollowed := true, recurses := true, plainKeys := false, apart := false }
def FtlWaitsSaid : Prop := ftlWaitsRow.holds Tryz.pinned (OpenSpec.ofChange ftlWaitsSpec)

/-- ITS FALSE NEIGHBOUR: 'it returns false'. Refute it at one input. -/
def ftlWaitsWrong : ChangeSpec := { name := "ftlWaits", fn := fun _ => fun
  | [d1, d2] => { results := [.lit (.bool false)], args := [d1, d2] }
  | _ => none }
def FtlWaitsWrongFalsely : Prop := ftlWaitsRow.holds Tryz.pinned (OpenSpec.ofChange ftlWaitsWrong)

/-- 'ostrakonlaw21.FtlFull': WHATEVER THE INPUT: true; the input reads as it did. -/
def ftlFullSpec : ChangeSpec := { name := "ftlFull", fn := fun _ => fun
  | [d1, d2, d3] => { results := [.lit (.bool true)], args := [d1, d2, d3] }
  | _ => none }
def ftlFullRow : OpenClaim := { program := "ytkdlnfdjjifedaagreat", sum := "51f66d418e67d23ae11437bdb22ecd3e5fce47ae797a87a99184014dd72859fd", func := "ostrakon/ostrakonlaw21.FtlFull", spec := "ftlFull", unfollowed := true, recurses := true, plainKeys := false, apart := false }
def FtlFullSaid : Prop := ftlFullRow.holds Tryz.pinned (OpenSpec.ofChange ftlFullSpec)

/-- ITS FALSE NEIGHBOUR: 'it returns false'. Refute it at one input. -/
def ftlFullWrong : ChangeSpec := { name := "ftlFull", fn := fun _ => fun
  | [d1, d2, d3] => { results := [.lit (.bool false)], args := [d1, d2, d3] }
  | _ => none }
def FtlFullWrongFalsely : Prop := ftlFullRow.holds Tryz.pinned (OpenSpec.ofChange ftlFullWrong)

/-- 'ostrakonlaw21.BoundAll': WHATEVER THE INPUT: true; the input reads as it did. -/
def boundAllSpec : ChangeSpec := { name := "boundAll", fn := fun _ => fun
  | [d] => { results := [.lit (.bool true)], args := [d] }
  | _ => none }
def boundAllRow : OpenClaim := { program := "ytkdlnfdjjifedaagreat", sum := "51f66d418e67d23ae11437bdb22ecd3e5fce47ae797a87a99184014dd72859fd", func := "ostrakon/ostrakonlaw21.BoundAll", spec := "boundAll", unfollowed := true, recurses := true, plainKeys := false, apart := false }
def BoundAllSaid : Prop := boundAllRow.holds Tryz.pinned (OpenSpec.ofChange boundAllSpec)

/-- ITS FALSE NEIGHBOUR: 'it returns false'. Refute it at one input. -/
def boundAllWrong : ChangeSpec := { name := "boundAll", fn := fun _ => fun
  | [d] => { results := [.lit (.bool false)], args := [d] }
  | _ => none }
def BoundAllWrongFalsely : Prop := boundAllRow.holds Tryz.pinned (OpenSpec.ofChange boundAllWrong)

/-- 'ostrakonlaw21.BoundRoom': WHATEVER THE INPUT: true; the input reads as it did. -/
def boundRoomSpec : ChangeSpec := { name := "boundRoom", fn := fun _ => fun
  | [d1, d2, d3] => { results := [.lit (.bool true)], args := [d1, d2, d3] }
  | _ => none }
def boundRoomRow : OpenClaim := { program := "ytkdlnfdjjifedaagreat", sum := "51f66d418e67d23ae11437bdb22ecd3e5fce47ae797a87a99184014dd72859fd", func := "ostrakon/ostrakonlaw21.BoundRoom", spec := "boundRoom", unfollowed := true, recurses := true, plainKeys := false, apart := false }
def BoundRoomSaid : Prop := boundRoomRow.holds Tryz.pinned (OpenSpec.ofChange boundRoomSpec)

/-- ITS FALSE NEIGHBOUR: 'it returns false'. Refute it at one input. -/
def boundRoomWrong : ChangeSpec := { name := "boundRoom", fn := fun _ => fun
  | [d1, d2, d3] => { results := [.lit (.bool false)], args := [d1, d2, d3] }
  | _ => none }
def BoundRoomWrongFalsely : Prop := boundRoomRow.holds Tryz.pinned (OpenSpec.ofChange boundRoomWrong)

/-- 'ostrakonlaw21.ModelSeen': WHATEVER THE INPUT: true; the input reads as it did. -/
def modelSeenSpec : ChangeSpec := { name := "modelSeen", fn := fun _ => fun
  | [d1, d2, d3, d4] => { results := [.lit (.bool true)], args := [d1, d2, d3, d4] }
  | _ => none }
def modelSeenRow : OpenClaim := { program := "ytkdlnfdjjifedaagreat", sum := "51f66d418e67d23ae11437bdb22ecd3e5fce47ae797a87a99184014dd72859fd", func := "ostrakon/ostrakonlaw21.ModelSeen", spec := "modelSeen", unfollowed := true, recurses := true, plainKeys := false, apart := false }
def ModelSeenSaid : Prop := modelSeenRow.holds Tryz.pinned (OpenSpec.ofChange modelSeenSpec)

/-- ITS FALSE NEIGHBOUR: 'it returns false'. Refute it at one input. -/
def modelSeenWrong : ChangeSpec := { name := "modelSeen", fn := fun _ => fun
  | [d1, d2, d3, d4] => { results := [.lit (.bool false)], args := [d1, d2, d3, d4] }
  | _ => none }
def ModelSeenWrongFalsely : Prop := modelSeenRow.holds Tryz.pinned (OpenSpec.ofChange modelSeenWrong)

/- THE SECOND FORM. 'bulk': how many values and letters a reading holds, each counted each time it is reached (what is shared counts as often as it is met; a slice's spare places count too). A statement '..UptoSaid' is the law's where the arguments, and the package variables that the reading takes, are together of bulk at most 1048576: NARROWER than '..Said'. Prove '..Said' where nothing that the law and all that it calls make is longer than what came in: it says more and counts as full. Else prove '..UptoSaid'. A law counts once. -/
mutual
def uptoBulk {H : Type} : DataW H → Nat
  | .lit (.string bytes) => bytes.length + 1
  | .lit _ => 1
  | .nil => 1
  | .ptr d => uptoBulk d + 1
  | .slice elems spare => uptoBulkAll elems + uptoBulkAll spare + 1
  | .agg parts => uptoBulkAll parts + 1
  | .iface _ d => uptoBulk d + 1
  | .map entries => uptoBulkEntries entries + 1
  | .held _ => 1
def uptoBulkAll {H : Type} : List (DataW H) → Nat
  | [] => 0
  | d :: r => uptoBulk d + uptoBulkAll r
def uptoBulkEntries {H : Type} : List (Lit × DataW H) → Nat
  | [] => 0
  | x :: r => uptoBulkEntry x + uptoBulkEntries r
def uptoBulkEntry {H : Type} : Lit × DataW H → Nat
  | (.string bytes, d) => bytes.length + uptoBulk d + 1
  | (_, d) => uptoBulk d + 1
 end
def uptoSmall : (H : Type) → List (DataW H) → Bool := fun _ ds => decide (uptoBulkAll ds ≤ 1048576)
def OpenSpec.upto (s : _root_.Go.ChangeSpec) : _root_.Go.OpenSpec := { _root_.Go.OpenSpec.ofChange s with cond := some uptoSmall }

/-- 'ostrakonlaw21.FtlRead', WHERE WHAT IT READS IS OF BULK AT MOST 1048576: true; the input reads as it did. -/
def ftlReadUptoRow : OpenClaim := { program := "ytkdlnfdjjifedaagreat", sum := "51f66d418e67d23ae11437bdb22ecd3e5fce47ae797a87a99184014dd72859fd", func := "ostrakon/ostrakonlaw21.FtlRead", spec := "ftlRead", unfollowed := true, recurses := true, plainKeys := false, apart := false, narrowed := true }
def FtlReadUptoSaid : Prop := ftlReadUptoRow.holds Tryz.pinned (OpenSpec.upto ftlReadSpec)

/-- 'ostrakonlaw21.FtlErrors', WHERE WHAT IT READS IS OF BULK AT MOST 1048576: true; the input reads as it did. -/
def ftlErrorsUptoRow : OpenClaim := { program := "ytkdlnfdjjifedaagreat", sum := "51f66d418e67d23ae11437bdb22ecd3e5fce47ae797a87a99184014dd72859fd", func := "ostrakon/ostrakonlaw21.FtlErrors", spec := "ftlErrors", unfollowed := true, recurses := true, plainKeys := false, apart := false, narrowed := true }
def FtlErrorsUptoSaid : Prop := ftlErrorsUptoRow.holds Tryz.pinned (OpenSpec.upto ftlErrorsSpec)

/-- 'ostrakonlaw21.PlayTwice', WHERE WHAT IT READS IS OF BULK AT MOST 1048576: true; the input reads as it did. -/
def playTwiceUptoRow : OpenClaim := { program := "ytkdlnfdjjifedaagreat", sum := "51f66d418e67d23ae11437bdb22ecd3e5fce47ae797a87a99184014dd72859fd", func := "ostrakon/ostrakonlaw21.PlayTwice", spec := "playTwice", unfollowed := true, recurses := true, plainKeys := false, apart := false, narrowed := true }
def PlayTwiceUptoSaid : Prop := playTwiceUptoRow.holds Tryz.pinned (OpenSpec.upto playTwiceSpec)

/-- 'ostrakonlaw21.PlayErrors', WHERE WHAT IT READS IS OF BULK AT MOST 1048576: true; the input reads as it did. -/
def playErrorsUptoRow : OpenClaim := { program := "ytkdlnfdjjifedaagreat", sum := "51f66d418e67d23ae11437bdb22ecd3e5fce47ae797a87a99184014dd72859fd", func := "ostrakon/ostrakonlaw21.PlayErrors", spec := "playErrors", unfollowed := true, recurses := true, plainKeys := false, apart := false, narrowed := true }
def PlayErrorsUptoSaid : Prop := playErrorsUptoRow.holds Tryz.pinned (OpenSpec.upto playErrorsSpec)

/-- 'ostrakonlaw21.FtlTick', WHERE WHAT IT READS IS OF BULK AT MOST 1048576: true; the input reads as it did. -/
def ftlTickUptoRow : OpenClaim := { program := "ytkdlnfdjjifedaagreat", sum := "51f66d418e67d23ae11437bdb22ecd3e5fce47ae797a87a99184014dd72859fd", func := "ostrakon/ostrakonlaw21.FtlTick", spec := "ftlTick", unfollowed := true, recurses := true, plainKeys := false, apart := false, narrowed := true }
def FtlTickUptoSaid : Prop := ftlTickUptoRow.holds Tryz.pinned (OpenSpec.upto ftlTickSpec)

/-- 'ostrakonlaw21.FtlFlushed', WHERE WHAT IT READS IS OF BULK AT MOST 1048576: true; the input reads as it did. -/
def ftlFlushedUptoRow : OpenClaim := { program := "ytkdlnfdjjifedaagreat", sum := "51f66d418e67d23ae11437bdb22ecd3e5fce47ae797a87a99184014dd72859fd", func := "ostrakon/ostrakonlaw21.FtlFlushed", spec := "ftlFlushed", unfollowed := true, recurses := true, plainKeys := false, apart := false, narrowed := true }
def FtlFlushedUptoSaid : Prop := ftlFlushedUptoRow.holds Tryz.pinned (OpenSpec.upto ftlFlushedSpec)

/-- 'ostrakonlaw21.PlayLog', WHERE WHAT IT READS IS OF BULK AT MOST 1048576: true; the input reads as it did. -/
def playLogUptoRow : OpenClaim := { program := "ytkdlnfdjjifedaagreat", sum := "51f66d418e67d23ae11437bdb22ecd3e5fce47ae797a87a99184014dd72859fd", func := "ostrakon/ostrakonlaw21.PlayLog", spec := "playLog", unfollowed := true, recurses := true, plainKeys := false, apart := false, narrowed := true }
def PlayLogUptoSaid : Prop := playLogUptoRow.holds Tryz.pinned (OpenSpec.upto playLogSpec)

/-- 'ostrakonlaw21.PlayFaults', WHERE WHAT IT READS IS OF BULK AT MOST 1048576: true; the input reads as it did. -/
def playFaultsUptoRow : OpenClaim := { program := "ytkdlnfdjjifedaagreat", sum := "51f66d418e67d23ae11437bdb22ecd3e5fce47ae797a87a99184014dd72859fd", func := "ostrakon/ostrakonlaw21.PlayFaults", spec := "playFaults", unfollowed := true, recurses := true, plainKeys := false, apart := false, narrowed := true }
def PlayFaultsUptoSaid : Prop := playFaultsUptoRow.holds Tryz.pinned (OpenSpec.upto playFaultsSpec)

/-- 'ostrakonlaw21.ModelOnce', WHERE WHAT IT READS IS OF BULK AT MOST 1048576: true; the input reads as it did. -/
def modelOnceUptoRow : OpenClaim := { program := "ytkdlnfdjjifedaagreat", sum := "51f66d418e67d23ae11437bdb22ecd3e5fce47ae797a87a99184014dd72859fd", func := "ostrakon/ostrakonlaw21.ModelOnce", spec := "modelOnce", unfollowed := true, recurses := true, plainKeys := false, apart := false, narrowed := true }
def ModelOnceUptoSaid : Prop := modelOnceUptoRow.holds Tryz.pinned (OpenSpec.upto modelOnceSpec)

/-- 'ostrakonlaw21.FtlDies', WHERE WHAT IT READS IS OF BULK AT MOST 1048576: true; the input reads as it did. -/
def ftlDiesUptoRow : OpenClaim := { program := "ytkdlnfdjjifedaagreat", sum := "51f66d418e67d23ae11437bdb22ecd3e5fce47ae797a87a99184014dd72859fd", func := "ostrakon/ostrakonlaw21.FtlDies", spec := "ftlDies", unfollowed := true, recurses := true, plainKeys := false, apart := false, narrowed := true }
def FtlDiesUptoSaid : Prop := ftlDiesUptoRow.holds Tryz.pinned (OpenSpec.upto ftlDiesSpec)

/-- 'ostrakonlaw21.CalmAll', WHERE WHAT IT READS IS OF BULK AT MOST 1048576: true; the input reads as it did. -/
def calmAllUptoRow : OpenClaim := { program := "ytkdlnfdjjifedaagreat", sum := "51f66d418e67d23ae11437bdb22ecd3e5fce47ae797a87a99184014dd72859fd", func := "ostrakon/ostrakonlaw21.CalmAll", spec := "calmAll", unfollowed := true, recurses := true, plainKeys := false, apart := false, narrowed := true }
def CalmAllUptoSaid : Prop := calmAllUptoRow.holds Tryz.pinned (OpenSpec.upto calmAllSpec)

/-- 'ostrakonlaw21.FtlWaits', WHERE WHAT IT READS IS OF BULK AT MOST 1048576: true; the input reads as it did. -/
def ftlWaitsUptoRow : OpenClaim := { program := "ytkdlnfdjjifedaagreat", sum := "51f66d418e67d23ae11437bdb22ecd3e5fce47ae797a87a99184014dd72859fd", func := "ostrakon/ostrakonlaw21.FtlWaits", spec := "ftlWaits", unfollowed := true, recurses := true, plainKeys := false, apart := false, narrowed := true }
def FtlWaitsUptoSaid : Prop := ftlWaitsUptoRow.holds Tryz.pinned (OpenSpec.upto ftlWaitsSpec)

/-- 'ostrakonlaw21.FtlFull', WHERE WHAT IT READS IS OF BULK AT MOST 1048576: true; the input reads as it did. -/
def ftlFullUptoRow : OpenClaim := { program := "ytkdlnfdjjifedaagreat", sum := "51f66d418e67d23ae11437bdb22ecd3e5fce47ae797a87a99184014dd72859fd", func := "ostrakon/ostrakonlaw21.FtlFull", spec := "ftlFull", unfollowed := true, recurses := true, plainKeys := false, apart := false, narrowed := true }
def FtlFullUptoSaid : Prop := ftlFullUptoRow.holds Tryz.pinned (OpenSpec.upto ftlFullSpec)

/-- 'ostrakonlaw21.BoundAll', WHERE WHAT IT READS IS OF BULK AT MOST 1048576: true; the input reads as it did. -/
def boundAllUptoRow : OpenClaim := { program := "ytkdlnfdjjifedaagreat", sum := "51f66d418e67d23ae11437bdb22ecd3e5fce47ae797a87a99184014dd72859fd", func := "ostrakon/ostrakonlaw21.BoundAll", spec := "boundAll", unfollowed := true, recurses := true, plainKeys := false, apart := false, narrowed := true }
def BoundAllUptoSaid : Prop := boundAllUptoRow.holds Tryz.pinned (OpenSpec.upto boundAllSpec)

/-- 'ostrakonlaw21.BoundRoom', WHERE WHAT IT READS IS OF BULK AT MOST 1048576: true; the input reads as it did. -/
def boundRoomUptoRow : OpenClaim := { program := "ytkdlnfdjjifedaagreat", sum := "51f66d418e67d23ae11437bdb22ecd3e5fce47ae797a87a99184014dd72859fd", func := "ostrakon/ostrakonlaw21.BoundRoom", spec := "boundRoom", unfollowed := true, recurses := true, plainKeys := false, apart := false, narrowed := true }
def BoundRoomUptoSaid : Prop := boundRoomUptoRow.holds Tryz.pinned (OpenSpec.upto boundRoomSpec)

/-- 'ostrakonlaw21.ModelSeen', WHERE WHAT IT READS IS OF BULK AT MOST 1048576: true; the input reads as it did. -/
def modelSeenUptoRow : OpenClaim := { program := "ytkdlnfdjjifedaagreat", sum := "51f66d418e67d23ae11437bdb22ecd3e5fce47ae797a87a99184014dd72859fd", func := "ostrakon/ostrakonlaw21.ModelSeen", spec := "modelSeen", unfollowed := true, recurses := true, plainKeys := false, apart := false, narrowed := true }
def ModelSeenUptoSaid : Prop := modelSeenUptoRow.holds Tryz.pinned (OpenSpec.upto modelSeenSpec)

end Rows
end Go.Proofs.YtkdlnfdjjifedaaGreat
