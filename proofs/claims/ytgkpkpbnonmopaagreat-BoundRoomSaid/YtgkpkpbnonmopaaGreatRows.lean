/-
  No cell of these rows narrows 'for every input' (looked for: loops, veiled, ifaces, maps, wideKeys, modest, calm, conditions, laid).
  DERIVED. THE GIVEN ROWS OF THIS SEAT. 13 by the template 'for every input the law returns true; each argument reads behind the call as it read before'; 0 by the template 'total and deterministic' (their statements: YtgkpkpbnonmopaaGreatTotals.lean).
  GIVEN WITH THE SEED: the statements are not yours to turn. If you find one false, say at which input.
  Laid BY PROGRAM, IN A SANDBOX (cutbox-rows.mjs): the forced cells as the released guide's own fill.sh prints them over the translation f7b952559095abfc… (all of the seat's roots in one cut). By AI agents, Wed Nov 11 2026. No macro, syntax, notation, axiom, sorry.
-/
import Derived.Test.YtgkpkpbnonmopaaGreatChecked
import GoSem.Claim
import GoSem.ClaimJoined
import GoSem.ClaimMapViews
import Derived.JoinedTies
import Derived.KernelRfl
namespace Go.Proofs.YtgkpkpbnonmopaaGreat
/- THE CELL 'sum', in the pinned program and in every row, IS THE sha256 OF THE DUMP (.gsa) THAT YtgkpkpbnonmopaaGreatProg.lean LOADS. Nothing in Lean hashes anything: it is a label: what it is worth is what the hold of that sum in a sandbox is worth. -/
noncomputable def Tryz.pinned : Pinned := { name := "ytgkpkpbnonmopaagreat", sum := "f7b952559095abfc089b99b7757cca90aff0016744dd38b3776a78dfba12dc69", checked := Tryz.checked }
namespace Rows
def none {H : Type} : Left H := { results := [], args := [] }

/-- 'ostrakonlaw21.BoundRoom': WHATEVER THE INPUT: true; the input reads as it did. -/
def boundRoomSpec : ChangeSpec := { name := "boundRoom", fn := fun _ => fun
  | [d1, d2, d3] => { results := [.lit (.bool true)], args := [d1, d2, d3] }
  | _ => none }
def boundRoomRow : OpenClaim := { program := "ytgkpkpbnonmopaagreat", sum := "f7b952559095abfc089b99b7757cca90aff0016744dd38b3776a78dfba12dc69", func := "ostrakon/ostrakonlaw21.BoundRoom", spec := "boundRoom", unfollowed := true, recurses := true, plainKeys := false, apart := false }
def BoundRoomSaid : Prop := boundRoomRow.holds Tryz.pinned (OpenSpec.ofChange boundRoomSpec)

/-- ITS FALSE NEIGHBOUR: 'it returns false'. Refute it at one input. -/
def boundRoomWrong : ChangeSpec := { name := "boundRoom", fn := fun _ => fun
  | [d1, d2, d3] => { results := [.lit (.bool false)], args := [d1, d2, d3] }
  | _ => none }
def BoundRoomWrongFalsely : Prop := boundRoomRow.holds Tryz.pinned (OpenSpec.ofChange boundRoomWrong)

/-- 'ostrakonlaw21.ModelSeen': WHATEVER THE INPUT: true; the input reads as it did. -/
def modelSeenSpec : ChangeSpec := { name := "modelSeen", fn := fun _ => fun
  | [d1, d2, d3, d4] => { results := [.lit (.bool true)], args := [d1, d2, d3, d4] }
  | _ => none }
def modelSeenRow : OpenClaim := { program := "ytgkpkpbnonmopaagreat", sum := "f7b952559095abfc089b99b7757cca90aff0016744dd38b3776a78dfba12dc69", func := "ostrakon/ostrakonlaw21.ModelSeen", spec := "modelSeen", unfollowed := true, recurses := true, plainKeys := false, apart := false }
def ModelSeenSaid : Prop := modelSeenRow.holds Tryz.pinned (OpenSpec.ofChange modelSeenSpec)

/-- ITS FALSE NEIGHBOUR: 'it returns false'. Refute it at one input. -/
def modelSeenWrong : ChangeSpec := { name := "modelSeen", fn := fun _ => fun
  | [d1, d2, d3, d4] => { results := [.lit (.bool false)], args := [d1, d2, d3, d4] }
  | _ => none }
def ModelSeenWrongFalsely : Prop := modelSeenRow.holds Tryz.pinned (OpenSpec.ofChange modelSeenWrong)

/-- 'ostrakonlaw21.ModelOnce': WHATEVER THE INPUT: true; the input reads as it did. -/
def modelOnceSpec : ChangeSpec := { name := "modelOnce", fn := fun _ => fun
  | [d1, d2] => { results := [.lit (.bool true)], args := [d1, d2] }
  | _ => none }
def modelOnceRow : OpenClaim := { program := "ytgkpkpbnonmopaagreat", sum := "f7b952559095abfc089b99b7757cca90aff0016744dd38b3776a78dfba12dc69", func := "ostrakon/ostrakonlaw21.ModelOnce", spec := "modelOnce", unfollowed := true, recurses := true, plainKeys := false, apart := false }
def ModelOnceSaid : Prop := modelOnceRow.holds Tryz.pinned (OpenSpec.ofChange modelOnceSpec)

/-- ITS FALSE NEIGHBOUR: 'it returns false'. Refute it at one input. -/
def modelOnceWrong : ChangeSpec := { name := "modelOnce", fn := fun _ => fun
  | [d1, d2] => { results := [.lit (.bool false)], args := [d1, d2] }
  | _ => none }
def ModelOnceWrongFalsely : Prop := modelOnceRow.holds Tryz.pinned (OpenSpec.ofChange modelOnceWrong)

/-- 'ostrakonlaw21.FtlErrors': WHATEVER THE INPUT: true; the input reads as it did. -/
def ftlErrorsSpec : ChangeSpec := { name := "ftlErrors", fn := fun _ => fun
  | [d1, d2, d3] => { results := [.lit (.bool true)], args := [d1, d2, d3] }
  | _ => none }
def ftlErrorsRow : OpenClaim := { program := "ytgkpkpbnonmopaagreat", sum := "f7b952559095abfc089b99b7757cca90aff0016744dd38b3776a78dfba12dc69", func := "ostrakon/ostrakonlaw21.FtlErrors", spec := "ftlErrors", unfollowed := true, recurses := true, plainKeys := false, apart := false }
def FtlErrorsSaid : Prop := ftlErrorsRow.holds Tryz.pinned (OpenSpec.ofChange ftlErrorsSpec)

/-- ITS FALSE NEIGHBOUR: 'it returns false'. Refute it at one input. -/
def ftlErrorsWrong : ChangeSpec := { name := "ftlErrors", fn := fun _ => fun
  | [d1, d2, d3] => { results := [.lit (.bool false)], args := [d1, d2, d3] }
  | _ => none }
def FtlErrorsWrongFalsely : Prop := ftlErrorsRow.holds Tryz.pinned (OpenSpec.ofChange ftlErrorsWrong)

/-- 'ostrakonlaw21.PlayErrors': WHATEVER THE INPUT: true; the input reads as it did. -/
def playErrorsSpec : ChangeSpec := { name := "playErrors", fn := fun _ => fun
  | [d1, d2, d3] => { results := [.lit (.bool true)], args := [d1, d2, d3] }
  | _ => none }
def playErrorsRow : OpenClaim := { program := "ytgkpkpbnonmopaagreat", sum := "f7b952559095abfc089b99b7757cca90aff0016744dd38b3776a78dfba12dc69", func := "ostrakon/ostrakonlaw21.PlayErrors", spec := "playErrors", unfollowed := true, recurses := true, plainKeys := false, apart := false }
def PlayErrorsSaid : Prop := playErrorsRow.holds Tryz.pinned (OpenSpec.ofChange playErrorsSpec)

/-- ITS FALSE NEIGHBOUR: 'it returns false'. Refute it at one input. -/
def playErrorsWrong : ChangeSpec := { name := "playErrors", fn := fun _ => fun
  | [d1, d2, d3] => { results := [.lit (.bool false)], args := [d1, d2, d3] }
  | _ => none }
def PlayErrorsWrongFalsely : Prop := playErrorsRow.holds Tryz.pinned (OpenSpec.ofChange playErrorsWrong)

/-- 'ostrakonlaw21.PlayFaults': WHATEVER THE INPUT: true; the input reads as it did. -/
def playFaultsSpec : ChangeSpec := { name := "playFaults", fn := fun _ => fun
  | [d1, d2, d3] => { results := [.lit (.bool true)], args := [d1, d2, d3] }
  | _ => none }
def playFaultsRow : OpenClaim := { program := "ytgkpkpbnonmopaagreat", sum := "f7b952559095abfc089b99b7757cca90aff0016744dd38b3776a78dfba12dc69", func := "ostrakon/ostrakonlaw21.PlayFaults", spec := "playFaults", unfollowed := true, recurses := true, plainKeys := false, apart := false }
def PlayFaultsSaid : Prop := playFaultsRow.holds Tryz.pinned (OpenSpec.ofChange playFaultsSpec)

/-- ITS FALSE NEIGHBOUR: 'it returns false'. Refute it at one input. -/
def playFaultsWrong : ChangeSpec := { name := "playFaults", fn := fun _ => fun
  | [d1, d2, d3] => { results := [.lit (.bool false)], args := [d1, d2, d3] }
  | _ => none }
def PlayFaultsWrongFalsely : Prop := playFaultsRow.holds Tryz.pinned (OpenSpec.ofChange playFaultsWrong)

/-- 'ostrakonlaw21.FtlWaits': WHATEVER THE INPUT: true; the input reads as it did. -/
def ftlWaitsSpec : ChangeSpec := { name := "ftlWaits", fn := fun _ => fun
  | [d1, d2] => { results := [.lit (.bool true)], args := [d1, d2] }
  | _ => none }
def ftlWaitsRow : OpenClaim := { program := "ytgkpkpbnonmopaagreat", sum := "f7b952559095abfc089b99b7757cca90aff0016744dd38b3776a78dfba12dc69", func := "ostrakon/ostrakonlaw21.FtlWaits", spec := "ftlWaits", unfollowed := true, recurses := true, plainKeys := false, apart := false }
def FtlWaitsSaid : Prop := ftlWaitsRow.holds Tryz.pinned (OpenSpec.ofChange ftlWaitsSpec)

/-- ITS FALSE NEIGHBOUR: 'it returns false'. Refute it at one input. -/
def ftlWaitsWrong : ChangeSpec := { name := "ftlWaits", fn := fun _ => fun
  | [d1, d2] => { results := [.lit (.bool false)], args := [d1, d2] }
  | _ => none }
def FtlWaitsWrongFalsely : Prop := ftlWaitsRow.holds Tryz.pinned (OpenSpec.ofChange ftlWaitsWrong)

/-- 'ostrakonlaw21.FtlTick': WHATEVER THE INPUT: true; the input reads as it did. -/
def ftlTickSpec : ChangeSpec := { name := "ftlTick", fn := fun _ => fun
  | [d1, d2, d3] => { results := [.lit (.bool true)], args := [d1, d2, d3] }
  | _ => none }
def ftlTickRow : OpenClaim := { program := "ytgkpkpbnonmopaagreat", sum := "f7b952559095abfc089b99b7757cca90aff0016744dd38b3776a78dfba12dc69", func := "ostrakon/ostrakonlaw21.FtlTick", spec := "ftlTick", unfollowed := true, recurses := true, plainKeys := false, apart := false }
def FtlTickSaid : Prop := ftlTickRow.holds Tryz.pinned (OpenSpec.ofChange ftlTickSpec)

/-- ITS FALSE NEIGHBOUR: 'it returns false'. Refute it at one input. -/
def ftlTickWrong : ChangeSpec := { name := "ftlTick", fn := fun _ => fun
  | [d1, d2, d3] => { results := [.lit (.bool false)], args := [d1, d2, d3] }
  | _ => none }
def FtlTickWrongFalsely : Prop := ftlTickRow.holds Tryz.pinned (OpenSpec.ofChange ftlTickWrong)

/-- 'ostrakontop.TopAll': WHATEVER THE INPUT: true; the input reads as it did. -/
def topAllSpec : ChangeSpec := { name := "topAll", fn := fun _ => fun
  | [d1, d2] => { results := [.lit (.bool true)], args := [d1, d2] }
  | _ => none }
def topAllRow : OpenClaim := { program := "ytgkpkpbnonmopaagreat", sum := "f7b952559095abfc089b99b7757cca90aff0016744dd38b3776a78dfba12dc69", func := "ostrakon/ostrakontop.TopAll", spec := "topAll", unfollowed := true, recurses := true, plainKeys := false, apart := false }
def TopAllSaid : Prop := topAllRow.holds Tryz.pinned (OpenSpec.ofChange topAllSpec)

/-- ITS FALSE NEIGHBOUR: 'it returns false'. Refute it at one input. -/
def topAllWrong : ChangeSpec := { name := "topAll", fn := fun _ => fun
  | [d1, d2] => { results := [.lit (.bool false)], args := [d1, d2] }
  | _ => none }
def TopAllWrongFalsely : Prop := topAllRow.holds Tryz.pinned (OpenSpec.ofChange topAllWrong)

/-- 'ostrakontop.TopOne': WHATEVER THE INPUT: true; the input reads as it did. -/
def topOneSpec : ChangeSpec := { name := "topOne", fn := fun _ => fun
  | [d1, d2, d3] => { results := [.lit (.bool true)], args := [d1, d2, d3] }
  | _ => none }
def topOneRow : OpenClaim := { program := "ytgkpkpbnonmopaagreat", sum := "f7b952559095abfc089b99b7757cca90aff0016744dd38b3776a78dfba12dc69", func := "ostrakon/ostrakontop.TopOne", spec := "topOne", unfollowed := true, recurses := true, plainKeys := false, apart := false }
def TopOneSaid : Prop := topOneRow.holds Tryz.pinned (OpenSpec.ofChange topOneSpec)

/-- ITS FALSE NEIGHBOUR: 'it returns false'. Refute it at one input. -/
def topOneWrong : ChangeSpec := { name := "topOne", fn := fun _ => fun
  | [d1, d2, d3] => { results := [.lit (.bool false)], args := [d1, d2, d3] }
  | _ => none }
def TopOneWrongFalsely : Prop := topOneRow.holds Tryz.pinned (OpenSpec.ofChange topOneWrong)

/-- 'ostrakontop.TopMount': WHATEVER THE INPUT: true; the input reads as it did. -/
def topMountSpec : ChangeSpec := { name := "topMount", fn := fun _ => fun
  | [d1, d2] => { results := [.lit (.bool true)], args := [d1, d2] }
  | _ => none }
def topMountRow : OpenClaim := { program := "ytgkpkpbnonmopaagreat", sum := "f7b952559095abfc089b99b7757cca90aff0016744dd38b3776a78dfba12dc69", func := "ostrakon/ostrakontop.TopMount", spec := "topMount", unfollowed := true, recurses := true, plainKeys := false, apart := false }
def TopMountSaid : Prop := topMountRow.holds Tryz.pinned (OpenSpec.ofChange topMountSpec)

/-- ITS FALSE NEIGHBOUR: 'it returns false'. Refute it at one input. -/
def topMountWrong : ChangeSpec := { name := "topMount", fn := fun _ => fun
  | [d1, d2] => { results := [.lit (.bool false)], args := [d1, d2] }
  | _ => none }
def TopMountWrongFalsely : Prop := topMountRow.holds Tryz.pinned (OpenSpec.ofChange topMountWrong)

/-- 'ostrakontop.TopTrim': WHATEVER THE INPUT: true; the input reads as it did. -/
def topTrimSpec : ChangeSpec := { name := "topTrim", fn := fun _ => fun
  | [d1, d2] => { results := [.lit (.bool true)], args := [d1, d2] }
  | _ => none }
def topTrimRow : OpenClaim := { program := "ytgkpkpbnonmopaagreat", sum := "f7b952559095abfc089b99b7757cca90aff0016744dd38b3776a78dfba12dc69", func := "ostrakon/ostrakontop.TopTrim", spec := "topTrim", unfollowed := true, recurses := true, plainKeys := false, apart := false }
def TopTrimSaid : Prop := topTrimRow.holds Tryz.pinned (OpenSpec.ofChange topTrimSpec)

/-- ITS FALSE NEIGHBOUR: 'it returns false'. Refute it at one input. -/
def topTrimWrong : ChangeSpec := { name := "topTrim", fn := fun _ => fun
  | [d1, d2] => { results := [.lit (.bool false)], args := [d1, d2] }
  | _ => none }
def TopTrimWrongFalsely : Prop := topTrimRow.holds Tryz.pinned (OpenSpec.ofChange topTrimWrong)

/-- 'ostrakontop.TopPad': WHATEVER THE INPUT: true; the input reads as it did. -/
def topPadSpec : ChangeSpec := { name := "topPad", fn := fun _ => fun
  | [d1, d2] => { results := [.lit (.bool true)], args := [d1, d2] }
  | _ => none }
def topPadRow : OpenClaim := { program := "ytgkpkpbnonmopaagreat", sum := "f7b952559095abfc089b99b7757cca90aff0016744dd38b3776a78dfba12dc69", func := "ostrakon/ostrakontop.TopPad", spec := "topPad", unfollowed := true, recurses := true, plainKeys := false, apart := false }
def TopPadSaid : Prop := topPadRow.holds Tryz.pinned (OpenSpec.ofChange topPadSpec)

/-- ITS FALSE NEIGHBOUR: 'it returns false'. Refute it at one input. -/
def topPadWrong : ChangeSpec := { name := "topPad", fn := fun _ => fun
  | [d1, d2] => { results := [.lit (.bool false)], args := [d1, d2] }
  | _ => none }
def TopPadWrongFalsely : Prop := topPadRow.holds Tryz.pinned (OpenSpec.ofChange topPadWrong)

/- THE SECOND FORM. 'bulk': how many values and letters a reading holds, each counted each time it is reached (what is shared counts as often as it is met; a slice's spare places count too). A statement '..UptoSaid' is the law's where the arguments, and the package variables that the reading takes, are together of bulk at most 1048576: NARROWER than '..Said'. Prove '..Said' where nothing that the law and all that it calls make is longer than what came in: it says more and counts as full. Else prove '..UptoSaid'. A law counts once. -/
mutual
def uptoBulk {H : Type} : DataW H → Nat
  | .lit (.string bytes) => bytes.length + 1
  | .lit _ => 1
  | .nil => 1
  | .ptr d => uptoBulk d + 1
  | .slice elems spare => uptoBulkAll elems + uptoBulkAll spare + 1
  | .agg parts => uptoBulkAll parts + 1
  | .iface _ d => uptoBulk d + 1
  | .map entries => uptoBulkEntries entries + 1
  | .held _ => 1
def uptoBulkAll {H : Type} : List (DataW H) → Nat
  | [] => 0
  | d :: r => uptoBulk d + uptoBulkAll r
def uptoBulkEntries {H : Type} : List (Lit × DataW H) → Nat
  | [] => 0
  | x :: r => uptoBulkEntry x + uptoBulkEntries r
def uptoBulkEntry {H : Type} : Lit × DataW H → Nat
  | (.string bytes, d) => bytes.length + uptoBulk d + 1
  | (_, d) => uptoBulk d + 1
 end
def uptoSmall : (H : Type) → List (DataW H) → Bool := fun _ ds => decide (uptoBulkAll ds ≤ 1048576)
def OpenSpec.upto (s : _root_.Go.ChangeSpec) : _root_.Go.OpenSpec := { _root_.Go.OpenSpec.ofChange s with cond := some uptoSmall }

/-- 'ostrakonlaw21.BoundRoom', WHERE WHAT IT READS IS OF BULK AT MOST 1048576: true; the input reads as it did. -/
def boundRoomUptoRow : OpenClaim := { program := "ytgkpkpbnonmopaagreat", sum := "f7b952559095abfc089b99b7757cca90aff0016744dd38b3776a78dfba12dc69", func := "ostrakon/ostrakonlaw21.BoundRoom", spec := "boundRoom", unfollowed := true, recurses := true, plainKeys := false, apart := false, narrowed := true }
def BoundRoomUptoSaid : Prop := boundRoomUptoRow.holds Tryz.pinned (OpenSpec.upto boundRoomSpec)

/-- 'ostrakonlaw21.ModelSeen', WHERE WHAT IT READS IS OF BULK AT MOST 1048576: true; the input reads as it did. -/
def modelSeenUptoRow : OpenClaim := { program := "ytgkpkpbnonmopaagreat", sum := "f7b952559095abfc089b99b7757cca90aff0016744dd38b3776a78dfba12dc69", func := "ostrakon/ostrakonlaw21.ModelSeen", spec := "modelSeen", unfollowed := true, recurses := true, plainKeys := false, apart := false, narrowed := true }
def ModelSeenUptoSaid : Prop := modelSeenUptoRow.holds Tryz.pinned (OpenSpec.upto modelSeenSpec)

/-- 'ostrakonlaw21.ModelOnce', WHERE WHAT IT READS IS OF BULK AT MOST 1048576: true; the input reads as it did. -/
def modelOnceUptoRow : OpenClaim := { program := "ytgkpkpbnonmopaagreat", sum := "f7b952559095abfc089b99b7757cca90aff0016744dd38b3776a78dfba12dc69", func := "ostrakon/ostrakonlaw21.ModelOnce", spec := "modelOnce", unfollowed := true, recurses := true, plainKeys := false, apart := false, narrowed := true }
def ModelOnceUptoSaid : Prop := modelOnceUptoRow.holds Tryz.pinned (OpenSpec.upto modelOnceSpec)

/-- 'ostrakonlaw21.FtlErrors', WHERE WHAT IT READS IS OF BULK AT MOST 1048576: true; the input reads as it did. -/
def ftlErrorsUptoRow : OpenClaim := { program := "ytgkpkpbnonmopaagreat", sum := "f7b952559095abfc089b99b7757cca90aff0016744dd38b3776a78dfba12dc69", func := "ostrakon/ostrakonlaw21.FtlErrors", spec := "ftlErrors", unfollowed := true, recurses := true, plainKeys := false, apart := false, narrowed := true }
def FtlErrorsUptoSaid : Prop := ftlErrorsUptoRow.holds Tryz.pinned (OpenSpec.upto ftlErrorsSpec)

/-- 'ostrakonlaw21.PlayErrors', WHERE WHAT IT READS IS OF BULK AT MOST 1048576: true; the input reads as it did. -/
def playErrorsUptoRow : OpenClaim := { program := "ytgkpkpbnonmopaagreat", sum := "f7b952559095abfc089b99b7757cca90aff0016744dd38b3776a78dfba12dc69", func := "ostrakon/ostrakonlaw21.PlayErrors", spec := "playErrors", unfollowed := true, recurses := true, plainKeys := false, apart := false, narrowed := true }
def PlayErrorsUptoSaid : Prop := playErrorsUptoRow.holds Tryz.pinned (OpenSpec.upto playErrorsSpec)

/-- 'ostrakonlaw21.PlayFaults', WHERE WHAT IT READS IS OF BULK AT MOST 1048576: true; the input reads as it did. -/
def playFaultsUptoRow : OpenClaim := { program := "ytgkpkpbnonmopaagreat", sum := "f7b952559095abfc089b99b7757cca90aff0016744dd38b3776a78dfba12dc69", func := "ostrakon/ostrakonlaw21.PlayFaults", spec := "playFaults", unfollowed := true, recurses := true, plainKeys := false, apart := false, narrowed := true }
def PlayFaultsUptoSaid : Prop := playFaultsUptoRow.holds Tryz.pinned (OpenSpec.upto playFaultsSpec)

/-- 'ostrakonlaw21.FtlWaits', WHERE WHAT IT READS IS OF BULK AT MOST 1048576: true; the input reads as it did. -/
def ftlWaitsUptoRow : OpenClaim := { program := "ytgkpkpbnonmopaagreat", sum := "f7b952559095abfc089b99b7757cca90aff0016744dd38b3776a78dfba12dc69", func := "ostrakon/ostrakonlaw21.FtlWaits", spec := "ftlWaits", unfollowed := true, recurses := true, plainKeys := false, apart := false, narrowed := true }
def FtlWaitsUptoSaid : Prop := ftlWaitsUptoRow.holds Tryz.pinned (OpenSpec.upto ftlWaitsSpec)

/-- 'ostrakonlaw21.FtlTick', WHERE WHAT IT READS IS OF BULK AT MOST 1048576: true; the input reads as it did. -/
def ftlTickUptoRow : OpenClaim := { program := "ytgkpkpbnonmopaagreat", sum := "f7b952559095abfc089b99b7757cca90aff0016744dd38b3776a78dfba12dc69", func := "ostrakon/ostrakonlaw21.FtlTick", spec := "ftlTick", unfollowed := true, recurses := true, plainKeys := false, apart := false, narrowed := true }
def FtlTickUptoSaid : Prop := ftlTickUptoRow.holds Tryz.pinned (OpenSpec.upto ftlTickSpec)

/-- 'ostrakontop.TopAll', WHERE WHAT IT READS IS OF BULK AT MOST 1048576: true; the input reads as it did. -/
def topAllUptoRow : OpenClaim := { program := "ytgkpkpbnonmopaagreat", sum := "f7b952559095abfc089b99b7757cca90aff0016744dd38b3776a78dfba12dc69", func := "ostrakon/ostrakontop.TopAll", spec := "topAll", unfollowed := true, recurses := true, plainKeys := false, apart := false, narrowed := true }
def TopAllUptoSaid : Prop := topAllUptoRow.holds Tryz.pinned (OpenSpec.upto topAllSpec)

/-- 'ostrakontop.TopOne', WHERE WHAT IT READS IS OF BULK AT MOST 1048576: true; the input reads as it did. -/
def topOneUptoRow : OpenClaim := { program := "ytgkpkpbnonmopaagreat", sum := "f7b952559095abfc089b99b7757cca90aff0016744dd38b3776a78dfba12dc69", func := "ostrakon/ostrakontop.TopOne", spec := "topOne", unfollowed := true, recurses := true, plainKeys := false, apart := false, narrowed := true }
def TopOneUptoSaid : Prop := topOneUptoRow.holds Tryz.pinned (OpenSpec.upto topOneSpec)

/-- 'ostrakontop.TopMount', WHERE WHAT IT READS IS OF BULK AT MOST 1048576: true; the input reads as it did. -/
def topMountUptoRow : OpenClaim := { program := "ytgkpkpbnonmopaagreat", sum := "f7b952559095abfc089b99b7757cca90aff0016744dd38b3776a78dfba12dc69", func := "ostrakon/ostrakontop.TopMount", spec := "topMount", unfollowed := true, recurses := true, plainKeys := false, apart := false, narrowed := true }
def TopMountUptoSaid : Prop := topMountUptoRow.holds Tryz.pinned (OpenSpec.upto topMountSpec)

/-- 'ostrakontop.TopTrim', WHERE WHAT IT READS IS OF BULK AT MOST 1048576: true; the input reads as it did. -/
def topTrimUptoRow : OpenClaim := { program := "ytgkpkpbnonmopaagreat", sum := "f7b952559095abfc089b99b7757cca90aff0016744dd38b3776a78dfba12dc69", func := "ostrakon/ostrakontop.TopTrim", spec := "topTrim", unfollowed := true, recurses := true, plainKeys := false, apart := false, narrowed := true }
def TopTrimUptoSaid : Prop := topTrimUptoRow.holds Tryz.pinned (OpenSpec.upto topTrimSpec)

/-- 'ostrakontop.TopPad', WHERE WHAT IT READS IS OF BULK AT MOST 1048576: true; the input reads as it did. -/
def topPadUptoRow : OpenClaim := { program := "ytgkpkpbnonmopaagreat", sum := "f7b952559095abfc089b99b7757cca90aff0016744dd38b3776a78dfba12dc69", func := "ostrakon/ostrakontop.TopPad", spec := "topPad", unfollowed := true, recurses := true, plainKeys := false, apart := false, narrowed := true }
def TopPadUptoSaid : Prop := topPadUptoRow.holds Tryz.pinned (OpenSpec.upto topPadSpec)

end Rows
end Go.Proofs.YtgkpkpbnonmopaaGreat
