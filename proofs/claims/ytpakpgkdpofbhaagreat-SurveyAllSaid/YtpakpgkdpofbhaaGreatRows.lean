/-
  No cell of these rows narrows 'for every input' (looked for: loops, veiled, ifaces, maps, wideKeys, modest, calm, conditions, laid).
  DERIVED. THE GIVEN ROWS OF THIS SEAT. 21 by the template 'for every input the law returns true; each argument reads behind the call as it read before'; 0 by the template 'total and deterministic' (their statements: YtpakpgkdpofbhaaGreatTotals.lean).
  GIVEN WITH THE SEED: the statements are not yours to turn. If you find one false, say at which input.
  Laid BY PROGRAM, IN A SANDBOX (cutbox-rows.mjs): the forced cells as the released guide's own fill.sh prints them over the translation 071c334e004a44dd… (all of the seat's roots in one cut). By AI agents, Wed Nov 11 2026. No macro, syntax, notation, axiom, sorry.
-/
import Derived.Test.YtpakpgkdpofbhaaGreatChecked
import GoSem.Claim
import GoSem.ClaimJoined
import GoSem.ClaimMapViews
import Derived.JoinedTies
import Derived.KernelRfl
namespace Go.Proofs.YtpakpgkdpofbhaaGreat
/- THE CELL 'sum', in the pinned program and in every row, IS THE sha256 OF THE DUMP (.gsa) THAT YtpakpgkdpofbhaaGreatProg.lean LOADS. Nothing in Lean hashes anything: it is a label: what it is worth is what the hold of that sum in a sandbox is worth. -/
noncomputable def Tryz.pinned : Pinned := { name := "ytpakpgkdpofbhaagreat", sum := "071c334e004a44dd47dd9f8fef3e942899270a7e21798193d45dd01e37d9b040", checked := Tryz.checked }
namespace Rows
def none {H : Type} : Left H := { results := [], args := [] }

/-- 'ostrakonlaw21.BoundAll': WHATEVER THE INPUT: true; the input reads as it did. -/
def boundAllSpec : ChangeSpec := { name := "boundAll", fn := fun _ => fun
  | [d] => { results := [.lit (.bool true)], args := [d] }
  | _ => none }
def boundAllRow : OpenClaim := { program := "ytpakpgkdpofbhaagreat", sum := "071c334e004a44dd47dd9f8fef3e942899270a7e21798193d45dd01e37d9b040", func := "ostrakon/ostrakonlaw21.BoundAll", spec := "boundAll", unfollowed := true, recurses := true, plainKeys := false, apart := false }
def BoundAllSaid : Prop := boundAllRow.holds Tryz.pinned (OpenSpec.ofChange boundAllSpec)

/-- ITS FALSE NEIGHBOUR: 'it returns false'. Refute it at one input. -/
def boundAllWrong : ChangeSpec := { name := "boundAll", fn := fun _ => fun
  | [d] => { results := [.lit (.bool false)], args := [d] }
  | _ => none }
def BoundAllWrongFalsely : Prop := boundAllRow.holds Tryz.pinned (OpenSpec.ofChange boundAllWrong)

/-- 'ostrakonlaw21.BoundRoom': WHATEVER THE INPUT: true; the input reads as it did. -/
def boundRoomSpec : ChangeSpec := { name := "boundRoom", fn := fun _ => fun
  | [d1, d2, d3] => { results := [.lit (.bool true)], args := [d1, d2, d3] }
  | _ => none }
def boundRoomRow : OpenClaim := { program := "ytpakpgkdpofbhaagreat", sum := "071c334e004a44dd47dd9f8fef3e942899270a7e21798193d45dd01e37d9b040", func := "ostrakon/ostrakonlaw21.BoundRoom", spec := "boundRoom", unfollowed := true, recurses := true, plainKeys := false, apart := false }
def BoundRoomSaid : Prop := boundRoomRow.holds Tryz.pinned (OpenSpec.ofChange boundRoomSpec)

/-- ITS FALSE NEIGHBOUR: 'it returns false'. Refute it at one input. -/
def boundRoomWrong : ChangeSpec := { name := "boundRoom", fn := fun _ => fun
  | [d1, d2, d3] => { results := [.lit (.bool false)], args := [d1, d2, d3] }
  | _ => none }
def BoundRoomWrongFalsely : Prop := boundRoomRow.holds Tryz.pinned (OpenSpec.ofChange boundRoomWrong)

/-- 'ostrakonlaw21.ModelSeen': WHATEVER THE INPUT: true; the input reads as it did. -/
def modelSeenSpec : ChangeSpec := { name := "modelSeen", fn := fun _ => fun
  | [d1, d2, d3, d4] => { results := [.lit (.bool true)], args := [d1, d2, d3, d4] }
  | _ => none }
def modelSeenRow : OpenClaim := { program := "ytpakpgkdpofbhaagreat", sum := "071c334e004a44dd47dd9f8fef3e942899270a7e21798193d45dd01e37d9b040", func := "ostrakon/ostrakonlaw21.ModelSeen", spec := "modelSeen", unfollowed := true, recurses := true, plainKeys := false, apart := false }
def ModelSeenSaid : Prop := modelSeenRow.holds Tryz.pinned (OpenSpec.ofChange modelSeenSpec)

/-- ITS FALSE NEIGHBOUR: 'it returns false'. Refute it at one input. -/
def modelSeenWrong : ChangeSpec := { name := "modelSeen", fn := fun _ => fun
  | [d1, d2, d3, d4] => { results := [.lit (.bool false)], args := [d1, d2, d3, d4] }
  | _ => none }
def ModelSeenWrongFalsely : Prop := modelSeenRow.holds Tryz.pinned (OpenSpec.ofChange modelSeenWrong)

/-- 'ostrakonlaw21.ModelOnce': WHATEVER THE INPUT: true; the input reads as it did. -/
def modelOnceSpec : ChangeSpec := { name := "modelOnce", fn := fun _ => fun
  | [d1, d2] => { results := [.lit (.bool true)], args := [d1, d2] }
  | _ => none }
def modelOnceRow : OpenClaim := { program := "ytpakpgkdpofbhaagreat", sum := "071c334e004a44dd47dd9f8fef3e942899270a7e21798193d45dd01e37d9b040", func := "ostrakon/ostrakonlaw21.ModelOnce", spec := "modelOnce", unfollowed := true, recurses := true, plainKeys := false, apart := false }
def ModelOnceSaid : Prop := modelOnceRow.holds Tryz.pinned (OpenSpec.ofChange modelOnceSpec)

/-- ITS FALSE NEIGHBOUR: 'it returns false'. Refute it at one input. -/
def modelOnceWrong : ChangeSpec := { name := "modelOnce", fn := fun _ => fun
  | [d1, d2] => { results := [.lit (.bool false)], args := [d1, d2] }
  | _ => none }
def ModelOnceWrongFalsely : Prop := modelOnceRow.holds Tryz.pinned (OpenSpec.ofChange modelOnceWrong)

/-- 'ostrakonlaw21.FtlErrors': WHATEVER THE INPUT: true; the input reads as it did. -/
def ftlErrorsSpec : ChangeSpec := { name := "ftlErrors", fn := fun _ => fun
  | [d1, d2, d3] => { results := [.lit (.bool true)], args := [d1, d2, d3] }
  | _ => none }
def ftlErrorsRow : OpenClaim := { program := "ytpakpgkdpofbhaagreat", sum := "071c334e004a44dd47dd9f8fef3e942899270a7e21798193d45dd01e37d9b040", func := "ostrakon/ostrakonlaw21.FtlErrors", spec := "ftlErrors", unfollowed := true, recurses := true, plainKeys := false, apart := false }
def FtlErrorsSaid : Prop := ftlErrorsRow.holds Tryz.pinned (OpenSpec.ofChange ftlErrorsSpec)

/-- ITS FALSE NEIGHBOUR: 'it returns false'. Refute it at one input. -/
def ftlErrorsWrong : ChangeSpec := { name := "ftlErrors", fn := fun _ => fun
  | [d1, d2, d3] => { results := [.lit (.bool false)], args := [d1, d2, d3] }
  | _ => none }
def FtlErrorsWrongFalsely : Prop := ftlErrorsRow.holds Tryz.pinned (OpenSpec.ofChange ftlErrorsWrong)

/-- 'ostrakonlaw21.PlayFaults': WHATEVER THE INPUT: true; the input reads as it did. -/
def playFaultsSpec : ChangeSpec := { name := "playFaults", fn := fun _ => fun
  | [d1, d2, d3] => { results := [.lit (.bool true)], args := [d1, d2, d3] }
  | _ => none }
def playFaultsRow : OpenClaim := { program := "ytpakpgkdpofbhaagreat", sum := "071c334e004a44dd47dd9f8fef3e942899270a7e21798193d45dd01e37d9b040", func := "ostrakon/ostrakonlaw21.PlayFaults", spec := "playFaults", unfollowed := true, recurses := true, plainKeys := false, apart := false }
def PlayFaultsSaid : Prop := playFaultsRow.holds Tryz.pinned (OpenSpec.ofChange playFaultsSpec)

/-- ITS FALSE NEIGHBOUR: 'it returns false'. Refute it at one input. -/
def playFaultsWrong : ChangeSpec := { name := "playFaults", fn := fun _ => fun
  | [d1, d2, d3] => { results := [.lit (.bool false)], args := [d1, d2, d3] }
  | _ => none }
def PlayFaultsWrongFalsely : Prop := playFaultsRow.holds Tryz.pinned (OpenSpec.ofChange playFaultsWrong)

/-- 'ostrakonlaw21.FtlWaits': WHATEVER THE INPUT: true; the input reads as it did. -/
def ftlWaitsSpec : ChangeSpec := { name := "ftlWaits", fn := fun _ => fun
  | [d1, d2] => { results := [.lit (.bool true)], args := [d1, d2] }
  | _ => none }
def ftlWaitsRow : OpenClaim := { program := "ytpakpgkdpofbhaagreat", sum := "071c334e004a44dd47dd9f8fef3e942899270a7e21798193d45dd01e37d9b040", func := "ostrakon/ostrakonlaw21.FtlWaits", spec := "ftlWaits", unfollowed := true, recurses := true, plainKeys := false, apart := false }
def FtlWaitsSaid : Prop := ftlWaitsRow.holds Tryz.pinned (OpenSpec.ofChange ftlWaitsSpec)

/-- ITS FALSE NEIGHBOUR: 'it returns false'. Refute it at one input. -/
def ftlWaitsWrong : ChangeSpec := { name := "ftlWaits", fn := fun _ => fun
  | [d1, d2] => { results := [.lit (.bool false)], args := [d1, d2] }
  | _ => none }
def FtlWaitsWrongFalsely : Prop := ftlWaitsRow.holds Tryz.pinned (OpenSpec.ofChange ftlWaitsWrong)

/-- 'ostrakonlaw21.FtlTick': WHATEVER THE INPUT: true; the input reads as it did. -/
def ftlTickSpec : ChangeSpec := { name := "ftlTick", fn := fun _ => fun
  | [d1, d2, d3] => { results := [.lit (.bool true)], args := [d1, d2, d3] }
  | _ => none }
def ftlTickRow : OpenClaim := { program := "ytpakpgkdpofbhaagreat", sum := "071c334e004a44dd47dd9f8fef3e942899270a7e21798193d45dd01e37d9b040", func := "ostrakon/ostrakonlaw21.FtlTick", spec := "ftlTick", unfollowed := true, recurses := true, plainKeys := false, apart := false }
def FtlTickSaid : Prop := ftlTickRow.holds Tryz.pinned (OpenSpec.ofChange ftlTickSpec)

/-- ITS FALSE NEIGHBOUR: 'it returns false'. Refute it at one input. -/
def ftlTickWrong : ChangeSpec := { name := "ftlTick", fn := fun _ => fun
  | [d1, d2, d3] => { results := [.lit (.bool false)], args := [d1, d2, d3] }
  | _ => none }
def FtlTickWrongFalsely : Prop := ftlTickRow.holds Tryz.pinned (OpenSpec.ofChange ftlTickWrong)

/-- 'ostrakonlaw21.PlayLog': WHATEVER THE INPUT: true; the input reads as it did. -/
def playLogSpec : ChangeSpec := { name := "playLog", fn := fun _ => fun
  | [d1, d2] => { results := [.lit (.bool true)], args := [d1, d2] }
  | _ => none }
def playLogRow : OpenClaim := { program := "ytpakpgkdpofbhaagreat", sum := "071c334e004a44dd47dd9f8fef3e942899270a7e21798193d45dd01e37d9b040", func := "ostrakon/ostrakonlaw21.PlayLog", spec := "playLog", unfollowed := true, recurses := true, plainKeys := false, apart := false }
def PlayLogSaid : Prop := playLogRow.holds Tryz.pinned (OpenSpec.ofChange playLogSpec)

/-- ITS FALSE NEIGHBOUR: 'it returns false'. Refute it at one input. -/
def playLogWrong : ChangeSpec := { name := "playLog", fn := fun _ => fun
  | [d1, d2] => { results := [.lit (.bool false)], args := [d1, d2] }
  | _ => none }
def PlayLogWrongFalsely : Prop := playLogRow.holds Tryz.pinned (OpenSpec.ofChange playLogWrong)

/-- 'ostrakonlaw21.FtlFull': WHATEVER THE INPUT: true; the input reads as it did. -/
def ftlFullSpec : ChangeSpec := { name := "ftlFull", fn := fun _ => fun
  | [d1, d2, d3] => { results := [.lit (.bool true)], args := [d1, d2, d3] }
  | _ => none }
def ftlFullRow : OpenClaim := { program := "ytpakpgkdpofbhaagreat", sum := "071c334e004a44dd47dd9f8fef3e942899270a7e21798193d45dd01e37d9b040", func := "ostrakon/ostrakonlaw21.FtlFull", spec := "ftlFull", unfollowed := true, recurses := true, plainKeys := false, apart := false }
def FtlFullSaid : Prop := ftlFullRow.holds Tryz.pinned (OpenSpec.ofChange ftlFullSpec)

/-- ITS FALSE NEIGHBOUR: 'it returns false'. Refute it at one input. -/
def ftlFullWrong : ChangeSpec := { name := "ftlFull", fn := fun _ => fun
  | [d1, d2, d3] => { results := [.lit (.bool false)], args := [d1, d2, d3] }
  | _ => none }
def FtlFullWrongFalsely : Prop := ftlFullRow.holds Tryz.pinned (OpenSpec.ofChange ftlFullWrong)

/-- 'ostrakonlaw21.CalmAll': WHATEVER THE INPUT: true; the input reads as it did. -/
def calmAllSpec : ChangeSpec := { name := "calmAll", fn := fun _ => fun
  | [d1, d2, d3] => { results := [.lit (.bool true)], args := [d1, d2, d3] }
  | _ => none }
def calmAllRow : OpenClaim := { program := "ytpakpgkdpofbhaagreat", sum := "071c334e004a44dd47dd9f8fef3e942899270a7e21798193d45dd01e37d9b040", func := "ostrakon/ostrakonlaw21.CalmAll", spec := "calmAll", unfollowed := true, recurses := true, plainKeys := false, apart := false }
def CalmAllSaid : Prop := calmAllRow.holds Tryz.pinned (OpenSpec.ofChange calmAllSpec)

/-- ITS FALSE NEIGHBOUR: 'it returns false'. Refute it at one input. -/
def calmAllWrong : ChangeSpec := { name := "calmAll", fn := fun _ => fun
  | [d1, d2, d3] => { results := [.lit (.bool false)], args := [d1, d2, d3] }
  | _ => none }
def CalmAllWrongFalsely : Prop := calmAllRow.holds Tryz.pinned (OpenSpec.ofChange calmAllWrong)

/-- 'ostrakontop.TopAll': WHATEVER THE INPUT: true; the input reads as it did. -/
def topAllSpec : ChangeSpec := { name := "topAll", fn := fun _ => fun
  | [d1, d2] => { results := [.lit (.bool true)], args := [d1, d2] }
  | _ => none }
def topAllRow : OpenClaim := { program := "ytpakpgkdpofbhaagreat", sum := "071c334e004a44dd47dd9f8fef3e942899270a7e21798193d45dd01e37d9b040", func := "ostrakon/ostrakontop.TopAll", spec := "topAll", unfollowed := true, recurses := true, plainKeys := false, apart := false }
def TopAllSaid : Prop := topAllRow.holds Tryz.pinned (OpenSpec.ofChange topAllSpec)

/-- ITS FALSE NEIGHBOUR: 'it returns false'. Refute it at one input. -/
def topAllWrong : ChangeSpec := { name := "topAll", fn := fun _ => fun
  | [d1, d2] => { results := [.lit (.bool false)], args := [d1, d2] }
  | _ => none }
def TopAllWrongFalsely : Prop := topAllRow.holds Tryz.pinned (OpenSpec.ofChange topAllWrong)

/-- 'ostrakontop.TopOne': WHATEVER THE INPUT: true; the input reads as it did. -/
def topOneSpec : ChangeSpec := { name := "topOne", fn := fun _ => fun
  | [d1, d2, d3] => { results := [.lit (.bool true)], args := [d1, d2, d3] }
  | _ => none }
def topOneRow : OpenClaim := { program := "ytpakpgkdpofbhaagreat", sum := "071c334e004a44dd47dd9f8fef3e942899270a7e21798193d45dd01e37d9b040", func := "ostrakon/ostrakontop.TopOne", spec := "topOne", unfollowed := true, recurses := true, plainKeys := false, apart := false }
def TopOneSaid : Prop := topOneRow.holds Tryz.pinned (OpenSpec.ofChange topOneSpec)

/-- ITS FALSE NEIGHBOUR: 'it returns false'. Refute it at one input. -/
def topOneWrong : ChangeSpec := { name := "topOne", fn := fun _ => fun
  | [d1, d2, d3] => { results := [.lit (.bool false)], args := [d1, d2, d3] }
  | _ => none }
def TopOneWrongFalsely : Prop := topOneRow.holds Tryz.pinned (OpenSpec.ofChange topOneWrong)

/-- 'ostrakontop.TopMount': WHATEVER THE INPUT: true; the input reads as it did. -/
def topMountSpec : ChangeSpec := { name := "topMount", fn := fun _ => fun
  | [d1, d2] => { results := [.lit (.bool true)], args := [d1, d2] }
  | _ => none }
def topMountRow : OpenClaim := { program := "ytpakpgkdpofbhaagreat", sum := "071c334e004a44dd47dd9f8fef3e942899270a7e21798193d45dd01e37d9b040", func := "ostrakon/ostrakontop.TopMount", spec := "topMount", unfollowed := true, recurses := true, plainKeys := false, apart := false }
def TopMountSaid : Prop := topMountRow.holds Tryz.pinned (OpenSpec.ofChange topMountSpec)

/-- ITS FALSE NEIGHBOUR: 'it returns false'. Refute it at one input. -/
def topMountWrong : ChangeSpec := { name := "topMount", fn := fun _ => fun
  | [d1, d2] => { results := [.lit (.bool false)], args := [d1, d2] }
  | _ => none }
def TopMountWrongFalsely : Prop := topMountRow.holds Tryz.pinned (OpenSpec.ofChange topMountWrong)

/-- 'ostrakontop.TopTrim': WHATEVER THE INPUT: true; the input reads as it did. -/
def topTrimSpec : ChangeSpec := { name := "topTrim", fn := fun _ => fun
  | [d1, d2] => { results := [.lit (.bool true)], args := [d1, d2] }
  | _ => none }
def topTrimRow : OpenClaim := { program := "ytpakpgkdpofbhaagreat", sum := "071c334e004a44dd47dd9f8fef3e942899270a7e21798193d45dd01e37d9b040", func := "ostrakon/ostrakontop.TopTrim", spec := "topTrim", unfollowed := true, recurses := true, plainKeys := false, apart := false }
def TopTrimSaid : Prop := topTrimRow.holds Tryz.pinned (OpenSpec.ofChange topTrimSpec)

/-- ITS FALSE NEIGHBOUR: 'it returns false'. Refute it at one input. -/
def topTrimWrong : ChangeSpec := { name := "topTrim", fn := fun _ => fun
  | [d1, d2] => { results := [.lit (.bool false)], args := [d1, d2] }
  | _ => none }
def TopTrimWrongFalsely : Prop := topTrimRow.holds Tryz.pinned (OpenSpec.ofChange topTrimWrong)

/-- 'ostrakontop.TopPad': WHATEVER THE INPUT: true; the input reads as it did. -/
def topPadSpec : ChangeSpec := { name := "topPad", fn := fun _ => fun
  | [d1, d2] => { results := [.lit (.bool true)], args := [d1, d2] }
  | _ => none }
def topPadRow : OpenClaim := { program := "ytpakpgkdpofbhaagreat", sum := "071c334e004a44dd47dd9f8fef3e942899270a7e21798193d45dd01e37d9b040", func := "ostrakon/ostrakontop.TopPad", spec := "topPad", unfollowed := true, recurses := true, plainKeys := false, apart := false }
def TopPadSaid : Prop := topPadRow.holds Tryz.pinned (OpenSpec.ofChange topPadSpec)

/-- ITS FALSE NEIGHBOUR: 'it returns false'. Refute it at one input. -/
def topPadWrong : ChangeSpec := { name := "topPad", fn := fun _ => fun
  | [d1, d2] => { results := [.lit (.bool false)], args := [d1, d2] }
  | _ => none }
def TopPadWrongFalsely : Prop := topPadRow.holds Tryz.pinned (OpenSpec.ofChange topPadWrong)

/-- 'ostrakontop.TopDie': WHATEVER THE INPUT: true; the input reads as it did. -/
def topDieSpec : ChangeSpec := { name := "topDie", fn := fun _ => fun
  | [d1, d2, d3] => { results := [.lit (.bool true)], args := [d1, d2, d3] }
  | _ => none }
def topDieRow : OpenClaim := { program := "ytpakpgkdpofbhaagreat", sum := "071c334e004a44dd47dd9f8fef3e942899270a7e21798193d45dd01e37d9b040", func := "ostrakon/ostrakontop.TopDie", spec := "topDie", unfollowed := true, recurses := true, plainKeys := false, apart := false }
def TopDieSaid : Prop := topDieRow.holds Tryz.pinned (OpenSpec.ofChange topDieSpec)

/-- ITS FALSE NEIGHBOUR: 'it returns false'. Refute it at one input. -/
def topDieWrong : ChangeSpec := { name := "topDie", fn := fun _ => fun
  | [d1, d2, d3] => { results := [.lit (.bool false)], args := [d1, d2, d3] }
  | _ => none }
def TopDieWrongFalsely : Prop := topDieRow.holds Tryz.pinned (OpenSpec.ofChange topDieWrong)

/-- 'ostrakontop.TopErases': WHATEVER THE INPUT: true; the input reads as it did. -/
def topErasesSpec : ChangeSpec := { name := "topErases", fn := fun _ => fun
  | [d1, d2, d3] => { results := [.lit (.bool true)], args := [d1, d2, d3] }
  | _ => none }
def topErasesRow : OpenClaim := { program := "ytpakpgkdpofbhaagreat", sum := "071c334e004a44dd47dd9f8fef3e942899270a7e21798193d45dd01e37d9b040", func := "ostrakon/ostrakontop.TopErases", spec := "topErases", unfollowed := true, recurses := true, plainKeys := false, apart := false }
def TopErasesSaid : Prop := topErasesRow.holds Tryz.pinned (OpenSpec.ofChange topErasesSpec)

/-- ITS FALSE NEIGHBOUR: 'it returns false'. Refute it at one input. -/
def topErasesWrong : ChangeSpec := { name := "topErases", fn := fun _ => fun
  | [d1, d2, d3] => { results := [.lit (.bool false)], args := [d1, d2, d3] }
  | _ => none }
def TopErasesWrongFalsely : Prop := topErasesRow.holds Tryz.pinned (OpenSpec.ofChange topErasesWrong)

/-- 'ostrakontop.TopReads': WHATEVER THE INPUT: true; the input reads as it did. -/
def topReadsSpec : ChangeSpec := { name := "topReads", fn := fun _ => fun
  | [d1, d2, d3] => { results := [.lit (.bool true)], args := [d1, d2, d3] }
  | _ => none }
def topReadsRow : OpenClaim := { program := "ytpakpgkdpofbhaagreat", sum := "071c334e004a44dd47dd9f8fef3e942899270a7e21798193d45dd01e37d9b040", func := "ostrakon/ostrakontop.TopReads", spec := "topReads", unfollowed := true, recurses := true, plainKeys := false, apart := false }
def TopReadsSaid : Prop := topReadsRow.holds Tryz.pinned (OpenSpec.ofChange topReadsSpec)

/-- ITS FALSE NEIGHBOUR: 'it returns false'. Refute it at one input. -/
def topReadsWrong : ChangeSpec := { name := "topReads", fn := fun _ => fun
  | [d1, d2, d3] => { results := [.lit (.bool false)], args := [d1, d2, d3] }
  | _ => none }
def TopReadsWrongFalsely : Prop := topReadsRow.holds Tryz.pinned (OpenSpec.ofChange topReadsWrong)

/-- 'ostrakontop.TopCut': WHATEVER THE INPUT: true; the input reads as it did. -/
def topCutSpec : ChangeSpec := { name := "topCut", fn := fun _ => fun
  | [d1, d2, d3] => { results := [.lit (.bool true)], args := [d1, d2, d3] }
  | _ => none }
def topCutRow : OpenClaim := { program := "ytpakpgkdpofbhaagreat", sum := "071c334e004a44dd47dd9f8fef3e942899270a7e21798193d45dd01e37d9b040", func := "ostrakon/ostrakontop.TopCut", spec := "topCut", unfollowed := true, recurses := true, plainKeys := false, apart := false }
def TopCutSaid : Prop := topCutRow.holds Tryz.pinned (OpenSpec.ofChange topCutSpec)

/-- ITS FALSE NEIGHBOUR: 'it returns false'. Refute it at one input. -/
def topCutWrong : ChangeSpec := { name := "topCut", fn := fun _ => fun
  | [d1, d2, d3] => { results := [.lit (.bool false)], args := [d1, d2, d3] }
  | _ => none }
def TopCutWrongFalsely : Prop := topCutRow.holds Tryz.pinned (OpenSpec.ofChange topCutWrong)

/-- 'ostrakonlaw16.SurveyAll': WHATEVER THE INPUT: true; the input reads as it did. -/
def surveyAllSpec : ChangeSpec := { name := "surveyAll", fn := fun _ => fun
  | [d1, d2, d3, d4, d5] => { results := [.lit (.bool true)], args := [d1, d2, d3, d4, d5] }
  | _ => none }
def surveyAllRow : OpenClaim := { program := "ytpakpgkdpofbhaagreat", sum := "071c334e004a44dd47dd9f8fef3e942899270a7e21798193d45dd01e37d9b040", func := "ostrakon/ostrakonlaw16.SurveyAll", spec := "surveyAll", unfollowed := true, recurses := true, plainKeys := false, apart := false }
def SurveyAllSaid : Prop := surveyAllRow.holds Tryz.pinned (OpenSpec.ofChange surveyAllSpec)

/-- ITS FALSE NEIGHBOUR: 'it returns false'. Refute it at one input. -/
def surveyAllWrong : ChangeSpec := { name := "surveyAll", fn := fun _ => fun
  | [d1, d2, d3, d4, d5] => { results := [.lit (.bool false)], args := [d1, d2, d3, d4, d5] }
  | _ => none }
def SurveyAllWrongFalsely : Prop := surveyAllRow.holds Tryz.pinned (OpenSpec.ofChange surveyAllWrong)

/- THE SECOND FORM. 'bulk': how many values and letters a reading holds, each counted each time it is reached (what is shared counts as often as it is met; a slice's spare places count too). A statement '..UptoSaid' is the law's where the arguments, and the package variables that the reading takes, are together of bulk at most 1048576: NARROWER than '..Said'. Prove '..Said' where nothing that the law and all that it calls make is longer than what came in: it says more and counts as full. Else prove '..UptoSaid'. A law counts once. -/
mutual
def uptoBulk {H : Type} : DataW H → Nat
  | .lit (.string bytes) => bytes.length + 1
  | .lit _ => 1
  | .nil => 1
  | .ptr d => uptoBulk d + 1
  | .slice elems spare => uptoBulkAll elems + uptoBulkAll spare + 1
  | .agg parts => uptoBulkAll parts + 1
  | .iface _ d => uptoBulk d + 1
  | .map entries => uptoBulkEntries entries + 1
  | .held _ => 1
def uptoBulkAll {H : Type} : List (DataW H) → Nat
  | [] => 0
  | d :: r => uptoBulk d + uptoBulkAll r
def uptoBulkEntries {H : Type} : List (Lit × DataW H) → Nat
  | [] => 0
  | x :: r => uptoBulkEntry x + uptoBulkEntries r
def uptoBulkEntry {H : Type} : Lit × DataW H → Nat
  | (.string bytes, d) => bytes.length + uptoBulk d + 1
  | (_, d) => uptoBulk d + 1
 end
def uptoSmall : (H : Type) → List (DataW H) → Bool := fun _ ds => decide (uptoBulkAll ds ≤ 1048576)
def OpenSpec.upto (s : _root_.Go.ChangeSpec) : _root_.Go.OpenSpec := { _root_.Go.OpenSpec.ofChange s with cond := some uptoSmall }

/-- 'ostrakonlaw21.BoundAll', WHERE WHAT IT READS IS OF BULK AT MOST 1048576: true; the input reads as it did. -/
def boundAllUptoRow : OpenClaim := { program := "ytpakpgkdpofbhaagreat", sum := "071c334e004a44dd47dd9f8fef3e942899270a7e21798193d45dd01e37d9b040", func := "ostrakon/ostrakonlaw21.BoundAll", spec := "boundAll", unfollowed := true, recurses := true, plainKeys := false, apart := false, narrowed := true }
def BoundAllUptoSaid : Prop := boundAllUptoRow.holds Tryz.pinned (OpenSpec.upto boundAllSpec)

/-- 'ostrakonlaw21.BoundRoom', WHERE WHAT IT READS IS OF BULK AT MOST 1048576: true; the input reads as it did. -/
def boundRoomUptoRow : OpenClaim := { program := "ytpakpgkdpofbhaagreat", sum := "071c334e004a44dd47dd9f8fef3e942899270a7e21798193d45dd01e37d9b040", func := "ostrakon/ostrakonlaw21.BoundRoom", spec := "boundRoom", unfollowed := true, recurses := true, plainKeys := false, apart := false, narrowed := true }
def BoundRoomUptoSaid : Prop := boundRoomUptoRow.holds Tryz.pinned (OpenSpec.upto boundRoomSpec)

/-- 'ostrakonlaw21.ModelSeen', WHERE WHAT IT READS IS OF BULK AT MOST 1048576: true; the input reads as it did. -/
def modelSeenUptoRow : OpenClaim := { program := "ytpakpgkdpofbhaagreat", sum := "071c334e004a44dd47dd9f8fef3e942899270a7e21798193d45dd01e37d9b040", func := "ostrakon/ostrakonlaw21.ModelSeen", spec := "modelSeen", unfollowed := true, recurses := true, plainKeys := false, apart := false, narrowed := true }
def ModelSeenUptoSaid : Prop := modelSeenUptoRow.holds Tryz.pinned (OpenSpec.upto modelSeenSpec)

/-- 'ostrakonlaw21.ModelOnce', WHERE WHAT IT READS IS OF BULK AT MOST 1048576: true; the input reads as it did. -/
def modelOnceUptoRow : OpenClaim := { program := "ytpakpgkdpofbhaagreat", sum := "071c334e004a44dd47dd9f8fef3e942899270a7e21798193d45dd01e37d9b040", func := "ostrakon/ostrakonlaw21.ModelOnce", spec := "modelOnce", unfollowed := true, recurses := true, plainKeys := false, apart := false, narrowed := true }
def ModelOnceUptoSaid : Prop := modelOnceUptoRow.holds Tryz.pinned (OpenSpec.upto modelOnceSpec)

/-- 'ostrakonlaw21.FtlErrors', WHERE WHAT IT READS IS OF BULK AT MOST 1048576: true; the input reads as it did. -/
def ftlErrorsUptoRow : OpenClaim := { program := "ytpakpgkdpofbhaagreat", sum := "071c334e004a44dd47dd9f8fef3e942899270a7e21798193d45dd01e37d9b040", func := "ostrakon/ostrakonlaw21.FtlErrors", spec := "ftlErrors", unfollowed := true, recurses := true, plainKeys := false, apart := false, narrowed := true }
def FtlErrorsUptoSaid : Prop := ftlErrorsUptoRow.holds Tryz.pinned (OpenSpec.upto ftlErrorsSpec)

/-- 'ostrakonlaw21.PlayFaults', WHERE WHAT IT READS IS OF BULK AT MOST 1048576: true; the input reads as it did. -/
def playFaultsUptoRow : OpenClaim := { program := "ytpakpgkdpofbhaagreat", sum := "071c334e004a44dd47dd9f8fef3e942899270a7e21798193d45dd01e37d9b040", func := "ostrakon/ostrakonlaw21.PlayFaults", spec := "playFaults", unfollowed := true, recurses := true, plainKeys := false, apart := false, narrowed := true }
def PlayFaultsUptoSaid : Prop := playFaultsUptoRow.holds Tryz.pinned (OpenSpec.upto playFaultsSpec)

/-- 'ostrakonlaw21.FtlWaits', WHERE WHAT IT READS IS OF BULK AT MOST 1048576: true; the input reads as it did. -/
def ftlWaitsUptoRow : OpenClaim := { program := "ytpakpgkdpofbhaagreat", sum := "071c334e004a44dd47dd9f8fef3e942899270a7e21798193d45dd01e37d9b040", func := "ostrakon/ostrakonlaw21.FtlWaits", spec := "ftlWaits", unfollowed := true, recurses := true, plainKeys := false, apart := false, narrowed := true }
def FtlWaitsUptoSaid : Prop := ftlWaitsUptoRow.holds Tryz.pinned (OpenSpec.upto ftlWaitsSpec)

/-- 'ostrakonlaw21.FtlTick', WHERE WHAT IT READS IS OF BULK AT MOST 1048576: true; the input reads as it did. -/
def ftlTickUptoRow : OpenClaim := { program := "ytpakpgkdpofbhaagreat", sum := "071c334e004a44dd47dd9f8fef3e942899270a7e21798193d45dd01e37d9b040", func := "ostrakon/ostrakonlaw21.FtlTick", spec := "ftlTick", unfollowed := true, recurses := true, plainKeys := false, apart := false, narrowed := true }
def FtlTickUptoSaid : Prop := ftlTickUptoRow.holds Tryz.pinned (OpenSpec.upto ftlTickSpec)

/-- 'ostrakonlaw21.PlayLog', WHERE WHAT IT READS IS OF BULK AT MOST 1048576: true; the input reads as it did. -/
def playLogUptoRow : OpenClaim := { program := "ytpakpgkdpofbhaagreat", sum := "071c334e004a44dd47dd9f8fef3e942899270a7e21798193d45dd01e37d9b040", func := "ostrakon/ostrakonlaw21.PlayLog", spec := "playLog", unfollowed := true, recurses := true, plainKeys := false, apart := false, narrowed := true }
def PlayLogUptoSaid : Prop := playLogUptoRow.holds Tryz.pinned (OpenSpec.upto playLogSpec)

/-- 'ostrakonlaw21.FtlFull', WHERE WHAT IT READS IS OF BULK AT MOST 1048576: true; the input reads as it did. -/
def ftlFullUptoRow : OpenClaim := { program := "ytpakpgkdpofbhaagreat", sum := "071c334e004a44dd47dd9f8fef3e942899270a7e21798193d45dd01e37d9b040", func := "ostrakon/ostrakonlaw21.FtlFull", spec := "ftlFull", unfollowed := true, recurses := true, plainKeys := false, apart := false, narrowed := true }
def FtlFullUptoSaid : Prop := ftlFullUptoRow.holds Tryz.pinned (OpenSpec.upto ftlFullSpec)

/-- 'ostrakonlaw21.CalmAll', WHERE WHAT IT READS IS OF BULK AT MOST 1048576: true; the input reads as it did. -/
def calmAllUptoRow : OpenClaim := { program := "ytpakpgkdpofbhaagreat", sum := "071c334e004a44dd47dd9f8fef3e942899270a7e21798193d45dd01e37d9b040", func := "ostrakon/ostrakonlaw21.CalmAll", spec := "calmAll", unfollowed := true, recurses := true, plainKeys := false, apart := false, narrowed := true }
def CalmAllUptoSaid : Prop := calmAllUptoRow.holds Tryz.pinned (OpenSpec.upto calmAllSpec)

/-- 'ostrakontop.TopAll', WHERE WHAT IT READS IS OF BULK AT MOST 1048576: true; the input reads as it did. -/
def topAllUptoRow : OpenClaim := { program := "ytpakpgkdpofbhaagreat", sum := "071c334e004a44dd47dd9f8fef3e942899270a7e21798193d45dd01e37d9b040", func := "ostrakon/ostrakontop.TopAll", spec := "topAll", unfollowed := true, recurses := true, plainKeys := false, apart := false, narrowed := true }
def TopAllUptoSaid : Prop := topAllUptoRow.holds Tryz.pinned (OpenSpec.upto topAllSpec)

/-- 'ostrakontop.TopOne', WHERE WHAT IT READS IS OF BULK AT MOST 1048576: true; the input reads as it did. -/
def topOneUptoRow : OpenClaim := { program := "ytpakpgkdpofbhaagreat", sum := "071c334e004a44dd47dd9f8fef3e942899270a7e21798193d45dd01e37d9b040", func := "ostrakon/ostrakontop.TopOne", spec := "topOne", unfollowed := true, recurses := true, plainKeys := false, apart := false, narrowed := true }
def TopOneUptoSaid : Prop := topOneUptoRow.holds Tryz.pinned (OpenSpec.upto topOneSpec)

/-- 'ostrakontop.TopMount', WHERE WHAT IT READS IS OF BULK AT MOST 1048576: true; the input reads as it did. -/
def topMountUptoRow : OpenClaim := { program := "ytpakpgkdpofbhaagreat", sum := "071c334e004a44dd47dd9f8fef3e942899270a7e21798193d45dd01e37d9b040", func := "ostrakon/ostrakontop.TopMount", spec := "topMount", unfollowed := true, recurses := true, plainKeys := false, apart := false, narrowed := true }
def TopMountUptoSaid : Prop := topMountUptoRow.holds Tryz.pinned (OpenSpec.upto topMountSpec)

/-- 'ostrakontop.TopTrim', WHERE WHAT IT READS IS OF BULK AT MOST 1048576: true; the input reads as it did. -/
def topTrimUptoRow : OpenClaim := { program := "ytpakpgkdpofbhaagreat", sum := "071c334e004a44dd47dd9f8fef3e942899270a7e21798193d45dd01e37d9b040", func := "ostrakon/ostrakontop.TopTrim", spec := "topTrim", unfollowed := true, recurses := true, plainKeys := false, apart := false, narrowed := true }
def TopTrimUptoSaid : Prop := topTrimUptoRow.holds Tryz.pinned (OpenSpec.upto topTrimSpec)

/-- 'ostrakontop.TopPad', WHERE WHAT IT READS IS OF BULK AT MOST 1048576: true; the input reads as it did. -/
def topPadUptoRow : OpenClaim := { program := "ytpakpgkdpofbhaagreat", sum := "071c334e004a44dd47dd9f8fef3e942899270a7e21798193d45dd01e37d9b040", func := "ostrakon/ostrakontop.TopPad", spec := "topPad", unfollowed := true, recurses := true, plainKeys := false, apart := false, narrowed := true }
def TopPadUptoSaid : Prop := topPadUptoRow.holds Tryz.pinned (OpenSpec.upto topPadSpec)

/-- 'ostrakontop.TopDie', WHERE WHAT IT READS IS OF BULK AT MOST 1048576: true; the input reads as it did. -/
def topDieUptoRow : OpenClaim := { program := "ytpakpgkdpofbhaagreat", sum := "071c334e004a44dd47dd9f8fef3e942899270a7e21798193d45dd01e37d9b040", func := "ostrakon/ostrakontop.TopDie", spec := "topDie", unfollowed := true, recurses := true, plainKeys := false, apart := false, narrowed := true }
def TopDieUptoSaid : Prop := topDieUptoRow.holds Tryz.pinned (OpenSpec.upto topDieSpec)

/-- 'ostrakontop.TopErases', WHERE WHAT IT READS IS OF BULK AT MOST 1048576: true; the input reads as it did. -/
def topErasesUptoRow : OpenClaim := { program := "ytpakpgkdpofbhaagreat", sum := "071c334e004a44dd47dd9f8fef3e942899270a7e21798193d45dd01e37d9b040", func := "ostrakon/ostrakontop.TopErases", spec := "topErases", unfollowed := true, recurses := true, plainKeys := false, apart := false, narrowed := true }
def TopErasesUptoSaid : Prop := topErasesUptoRow.holds Tryz.pinned (OpenSpec.upto topErasesSpec)

/-- 'ostrakontop.TopReads', WHERE WHAT IT READS IS OF BULK AT MOST 1048576: true; the input reads as it did. -/
def topReadsUptoRow : OpenClaim := { program := "ytpakpgkdpofbhaagreat", sum := "071c334e004a44dd47dd9f8fef3e942899270a7e21798193d45dd01e37d9b040", func := "ostrakon/ostrakontop.TopReads", spec := "topReads", unfollowed := true, recurses := true, plainKeys := false, apart := false, narrowed := true }
def TopReadsUptoSaid : Prop := topReadsUptoRow.holds Tryz.pinned (OpenSpec.upto topReadsSpec)

/-- 'ostrakontop.TopCut', WHERE WHAT IT READS IS OF BULK AT MOST 1048576: true; the input reads as it did. -/
def topCutUptoRow : OpenClaim := { program := "ytpakpgkdpofbhaagreat", sum := "071c334e004a44dd47dd9f8fef3e942899270a7e21798193d45dd01e37d9b040", func := "ostrakon/ostrakontop.TopCut", spec := "topCut", unfollowed := true, recurses := true, plainKeys := false, apart := false, narrowed := true }
def TopCutUptoSaid : Prop := topCutUptoRow.holds Tryz.pinned (OpenSpec.upto topCutSpec)

/-- 'ostrakonlaw16.SurveyAll', WHERE WHAT IT READS IS OF BULK AT MOST 1048576: true; the input reads as it did. -/
def surveyAllUptoRow : OpenClaim := { program := "ytpakpgkdpofbhaagreat", sum := "071c334e004a44dd47dd9f8fef3e942899270a7e21798193d45dd01e37d9b040", func := "ostrakon/ostrakonlaw16.SurveyAll", spec := "surveyAll", unfollowed := true, recurses := true, plainKeys := false, apart := false, narrowed := true }
def SurveyAllUptoSaid : Prop := surveyAllUptoRow.holds Tryz.pinned (OpenSpec.upto surveyAllSpec)

end Rows
end Go.Proofs.YtpakpgkdpofbhaaGreat
