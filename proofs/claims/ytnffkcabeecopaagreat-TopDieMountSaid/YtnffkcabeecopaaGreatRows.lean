/-
  No cell of these rows narrows 'for every input' (looked for: loops, veiled, ifaces, maps, wideKeys, modest, calm, conditions, laid).
  DERIVED. THE GIVEN ROWS OF THIS SEAT. 8 by the template 'for every input the law returns true; each argument reads behind the call as it read before'; 0 by the template 'total and deterministic' (their statements: YtnffkcabeecopaaGreatTotals.lean).
  GIVEN WITH THE SEED: the statements are not yours to turn. If you find one false, say at which input.
  Laid BY PROGRAM, IN A SANDBOX (cutbox-rows.mjs): the forced cells as the released guide's own fill.sh prints them over the translation 6f6396dbb8c2bd4f… (all of the seat's roots in one cut). By AI agents, Wed Nov 11 2026. No macro, syntax, notation, axiom, sorry.
-/
import Derived.Test.YtnffkcabeecopaaGreatChecked
import GoSem.Claim
import GoSem.ClaimJoined
import GoSem.ClaimMapViews
import Derived.JoinedTies
import Derived.KernelRfl
namespace Go.Proofs.YtnffkcabeecopaaGreat
/- THE CELL 'sum', in the pinned program and in every row, IS THE sha256 OF THE DUMP (.gsa) THAT YtnffkcabeecopaaGreatProg.lean LOADS. Nothing in Lean hashes anything: it is a label: what it is worth is what the hold of that sum in a sandbox is worth. -/
noncomputable def Tryz.pinned : Pinned := { name := "ytnffkcabeecopaagreat", sum := "6f6396dbb8c2bd4fb54c3225b21dc5a62d3c5cab091aca8be8b0f302ec566040", checked := Tryz.checked }
namespace Rows
def none {H : Type} : Left H := { results := [], args := [] }

/-- 'ostrakonlaw21.FtlRead': WHATEVER THE INPUT: true; the input reads as it did. -/
def ftlReadSpec : ChangeSpec := { name := "ftlRead", fn := fun _ => fun
  | [d1, d2, d3, d4] => { results := [.lit (.bool true)], args := [d1, d2, d3, d4] }
  | _ => none }
def ftlReadRow : OpenClaim := { program := "ytnffkcabeecopaagreat", sum := "6f6396dbb8c2bd4fb54c3225b21dc5a62d3c5cab091aca8be8b0f302ec566040", func := "ostrakon/ostrakonlaw21.FtlRead", spec := "ftlRead", unfollowed := true, recurses := true, plainKeys := false, apart := false }
def FtlReadSaid : Prop := ftlReadRow.holds Tryz.pinned (OpenSpec.ofChange ftlReadSpec)

/-- ITS FALSE NEIGHBOUR: 'it returns false'. Refute it at one input. -/
def ftlReadWrong : ChangeSpec := { name := "ftlRead", fn := fun _ => fun
  | [d1, d2, d3, d4] => { results := [.lit (.bool false)], args := [d1, d2, d3, d4] }
  | _ => none }
def FtlReadWrongFalsely : Prop := ftlReadRow.holds Tryz.pinned (OpenSpec.ofChange ftlReadWrong)

/-- 'ostrakonlaw21.PlayTwice': WHATEVER THE INPUT: true; the input reads as it did. -/
def playTwiceSpec : ChangeSpec := { name := "playTwice", fn := fun _ => fun
  | [d1, d2, d3] => { results := [.lit (.bool true)], args := [d1, d2, d3] }
  | _ => none }
def playTwiceRow : OpenClaim := { program := "ytnffkcabeecopaagreat", sum := "6f6396dbb8c2bd4fb54c3225b21dc5a62d3c5cab091aca8be8b0f302ec566040", func := "ostrakon/ostrakonlaw21.PlayTwice", spec := "playTwice", unfollowed := true, recurses := true, plainKeys := false, apart := false }
def PlayTwiceSaid : Prop := playTwiceRow.holds Tryz.pinned (OpenSpec.ofChange playTwiceSpec)

/-- ITS FALSE NEIGHBOUR: 'it returns false'. Refute it at one input. -/
def playTwiceWrong : ChangeSpec := { name := "playTwice", fn := fun _ => fun
  | [d1, d2, d3] => { results := [.lit (.bool false)], args := [d1, d2, d3] }
  | _ => none }
def PlayTwiceWrongFalsely : Prop := playTwiceRow.holds Tryz.pinned (OpenSpec.ofChange playTwiceWrong)

/-- 'ostrakonlaw21.PlayErrors': WHATEVER THE INPUT: true; the input reads as it did. -/
def playErrorsSpec : ChangeSpec := { name := "playErrors", fn := fun _ => fun
  | [d1, d2, d3] => { results := [.lit (.bool true)], args := [d1, d2, d3] }
  | _ => none }
def playErrorsRow : OpenClaim := { program := "ytnffkcabeecopaagreat", sum := "6f6396dbb8c2bd4fb54c3225b21dc5a62d3c5cab091aca8be8b0f302ec566040", func := "ostrakon/ostrakonlaw21.PlayErrors", spec := "playErrors", unfollowed := true, recurses := true, plainKeys := false, apart := false }
def PlayErrorsSaid : Prop := playErrorsRow.holds Tryz.pinned (OpenSpec.ofChange playErrorsSpec)

/-- ITS FALSE NEIGHBOUR: 'it returns false'. Refute it at one input. -/
def playErrorsWrong : ChangeSpec := { name := "playErrors", fn := fun _ => fun
  | [d1, d2, d3] => { results := [.lit (.bool false)], args := [d1, d2, d3] }
  | _ => none }
def PlayErrorsWrongFalsely : Prop := playErrorsRow.holds Tryz.pinned (OpenSpec.ofChange playErrorsWrong)

/-- 'ostrakonlaw21.FtlDies': WHATEVER THE INPUT: true; the input reads as it did. -/
def ftlDiesSpec : ChangeSpec := { name := "ftlDies", fn := fun _ => fun
  | [d1, d2, d3, d4, d5] => { results := [.lit (.bool true)], args := [d1, d2, d3, d4, d5] }
  | _ => none }
def ftlDiesRow : OpenClaim := { program := "ytnffkcabeecopaagreat", sum := "6f6396dbb8c2bd4fb54c3225b21dc5a62d3c5cab091aca8be8b0f302ec566040", func := "ostrakon/ostrakonlaw21.FtlDies", spec := "ftlDies", unfollowed := true, recurses := true, plainKeys := false, apart := false }
def FtlDiesSaid : Prop := ftlDiesRow.holds Tryz.pinned (OpenSpec.ofChange ftlDiesSpec)

/-- ITS FALSE NEIGHBOUR: 'it returns false'. Refute it at one input. -/
def ftlDiesWrong : ChangeSpec := { name := "ftlDies", fn := fun _ => fun
  | [d1, d2, d3, d4, d5] => { results := [.lit (.bool false)], args := [d1, d2, d3, d4, d5] }
  | _ => none }
def FtlDiesWrongFalsely : Prop := ftlDiesRow.holds Tryz.pinned (OpenSpec.ofChange ftlDiesWrong)

/-- 'ostrakontop.TopDieMount': WHATEVER THE INPUT: true; the input reads as it did. -/
def topDieMountSpec : ChangeSpec := { name := "topDieMount", fn := fun _ => fun
  | [d1, d2] => { results := [.lit (.bool true)], args := [d1, d2] }
  | _ => none }
def topDieMountRow : OpenClaim := { program := "ytnffkcabeecopaagreat", sum := "6f6396dbb8c2bd4fb54c3225b21dc5a62d3c5cab091aca8be8b0f302ec566040", func := "ostrakon/ostrakontop.TopDieMount", spec := "topDieMount", unfollowed := true, recurses := true, plainKeys := false, apart := false }
def TopDieMountSaid : Prop := topDieMountRow.holds Tryz.pinned (OpenSpec.ofChange topDieMountSpec)

/-- ITS FALSE NEIGHBOUR: 'it returns false'. Refute it at one input. -/
def topDieMountWrong : ChangeSpec := { name := "topDieMount", fn := fun _ => fun
  | [d1, d2] => { results := [.lit (.bool false)], args := [d1, d2] }
  | _ => none }
def TopDieMountWrongFalsely : Prop := topDieMountRow.holds Tryz.pinned (OpenSpec.ofChange topDieMountWrong)

/-- 'ostrakontop.TopPrograms': WHATEVER THE INPUT: true; the input reads as it did. -/
def topProgramsSpec : ChangeSpec := { name := "topPrograms", fn := fun _ => fun
  | [d1, d2, d3] => { results := [.lit (.bool true)], args := [d1, d2, d3] }
  | _ => none }
def topProgramsRow : OpenClaim := { program := "ytnffkcabeecopaagreat", sum := "6f6396dbb8c2bd4fb54c3225b21dc5a62d3c5cab091aca8be8b0f302ec566040", func := "ostrakon/ostrakontop.TopPrograms", spec := "topPrograms", unfollowed := true, recurses := true, plainKeys := false, apart := false }
def TopProgramsSaid : Prop := topProgramsRow.holds Tryz.pinned (OpenSpec.ofChange topProgramsSpec)

/-- ITS FALSE NEIGHBOUR: 'it returns false'. Refute it at one input. -/
def topProgramsWrong : ChangeSpec := { name := "topPrograms", fn := fun _ => fun
  | [d1, d2, d3] => { results := [.lit (.bool false)], args := [d1, d2, d3] }
  | _ => none }
def TopProgramsWrongFalsely : Prop := topProgramsRow.holds Tryz.pinned (OpenSpec.ofChange topProgramsWrong)

/-- 'ostrakontop.TopErases': WHATEVER THE INPUT: true; the input reads as it did. -/
def topErasesSpec : ChangeSpec := { name := "topErases", fn := fun _ => fun
  | [d1, d2, d3] => { results := [.lit (.bool true)], args := [d1, d2, d3] }
  | _ => none }
def topErasesRow : OpenClaim := { program := "ytnffkcabeecopaagreat", sum := "6f6396dbb8c2bd4fb54c3225b21dc5a62d3c5cab091aca8be8b0f302ec566040", func := "ostrakon/ostrakontop.TopErases", spec := "topErases", unfollowed := true, recurses := true, plainKeys := false, apart := false }
def TopErasesSaid : Prop := topErasesRow.holds Tryz.pinned (OpenSpec.ofChange topErasesSpec)

/-- ITS FALSE NEIGHBOUR: 'it returns false'. Refute it at one input. -/
def topErasesWrong : ChangeSpec := { name := "topErases", fn := fun _ => fun
  | [d1, d2, d3] => { results := [.lit (.bool false)], args := [d1, d2, d3] }
  | _ => none }
def TopErasesWrongFalsely : Prop := topErasesRow.holds Tryz.pinned (OpenSpec.ofChange topErasesWrong)

/-- 'ostrakontop.TopTicks': WHATEVER THE INPUT: true; the input reads as it did. -/
def topTicksSpec : ChangeSpec := { name := "topTicks", fn := fun _ => fun
  | [d1, d2, d3] => { results := [.lit (.bool true)], args := [d1, d2, d3] }
  | _ => none }
def topTicksRow : OpenClaim := { program := "ytnffkcabeecopaagreat", sum := "6f6396dbb8c2bd4fb54c3225b21dc5a62d3c5cab091aca8be8b0f302ec566040", func := "ostrakon/ostrakontop.TopTicks", spec := "topTicks", unfollowed := true, recurses := true, plainKeys := false, apart := false }
def TopTicksSaid : Prop := topTicksRow.holds Tryz.pinned (OpenSpec.ofChange topTicksSpec)

/-- ITS FALSE NEIGHBOUR: 'it returns false'. Refute it at one input. -/
def topTicksWrong : ChangeSpec := { name := "topTicks", fn := fun _ => fun
  | [d1, d2, d3] => { results := [.lit (.bool false)], args := [d1, d2, d3] }
  | _ => none }
def TopTicksWrongFalsely : Prop := topTicksRow.holds Tryz.pinned (OpenSpec.ofChange topTicksWrong)

/- THE SECOND FORM. 'bulk': how many values and letters a reading holds, each counted each time it is reached (what is shared counts as often as it is met; a slice's spare places count too). A statement '..UptoSaid' is the law's where the arguments, and the package variables that the reading takes, are together of bulk at most 1048576: NARROWER than '..Said'. Prove '..Said' where nothing that the law and all that it calls make is longer than what came in: it says more and counts as full. Else prove '..UptoSaid'. A law counts once. -/
mutual
def uptoBulk {H : Type} : DataW H → Nat
  | .lit (.string bytes) => bytes.length + 1
  | .lit _ => 1
  | .nil => 1
  | .ptr d => uptoBulk d + 1
  | .slice elems spare => uptoBulkAll elems + uptoBulkAll spare + 1
  | .agg parts => uptoBulkAll parts + 1
  | .iface _ d => uptoBulk d + 1
  | .map entries => uptoBulkEntries entries + 1
  | .held _ => 1
def uptoBulkAll {H : Type} : List (DataW H) → Nat
  | [] => 0
  | d :: r => uptoBulk d + uptoBulkAll r
def uptoBulkEntries {H : Type} : List (Lit × DataW H) → Nat
  | [] => 0
  | x :: r => uptoBulkEntry x + uptoBulkEntries r
def uptoBulkEntry {H : Type} : Lit × DataW H → Nat
  | (.string bytes, d) => bytes.length + uptoBulk d + 1
  | (_, d) => uptoBulk d + 1
 end
def uptoSmall : (H : Type) → List (DataW H) → Bool := fun _ ds => decide (uptoBulkAll ds ≤ 1048576)
def OpenSpec.upto (s : _root_.Go.ChangeSpec) : _root_.Go.OpenSpec := { _root_.Go.OpenSpec.ofChange s with cond := some uptoSmall }

/-- 'ostrakonlaw21.FtlRead', WHERE WHAT IT READS IS OF BULK AT MOST 1048576: true; the input reads as it did. -/
def ftlReadUptoRow : OpenClaim := { program := "ytnffkcabeecopaagreat", sum := "6f6396dbb8c2bd4fb54c3225b21dc5a62d3c5cab091aca8be8b0f302ec566040", func := "ostrakon/ostrakonlaw21.FtlRead", spec := "ftlRead", unfollowed := true, recurses := true, plainKeys := false, apart := false, narrowed := true }
def FtlReadUptoSaid : Prop := ftlReadUptoRow.holds Tryz.pinned (OpenSpec.upto ftlReadSpec)

/-- 'ostrakonlaw21.PlayTwice', WHERE WHAT IT READS IS OF BULK AT MOST 1048576: true; the input reads as it did. -/
def playTwiceUptoRow : OpenClaim := { program := "ytnffkcabeecopaagreat", sum := "6f6396dbb8c2bd4fb54c3225b21dc5a62d3c5cab091aca8be8b0f302ec566040", func := "ostrakon/ostrakonlaw21.PlayTwice", spec := "playTwice", unfollowed := true, recurses := true, plainKeys := false, apart := false, narrowed := true }
def PlayTwiceUptoSaid : Prop := playTwiceUptoRow.holds Tryz.pinned (OpenSpec.upto playTwiceSpec)

/-- 'ostrakonlaw21.PlayErrors', WHERE WHAT IT READS IS OF BULK AT MOST 1048576: true; the input reads as it did. -/
def playErrorsUptoRow : OpenClaim := { program := "ytnffkcabeecopaagreat", sum := "6f6396dbb8c2bd4fb54c3225b21dc5a62d3c5cab091aca8be8b0f302ec566040", func := "ostrakon/ostrakonlaw21.PlayErrors", spec := "playErrors", unfollowed := true, recurses := true, plainKeys := false, apart := false, narrowed := true }
def PlayErrorsUptoSaid : Prop := playErrorsUptoRow.holds Tryz.pinned (OpenSpec.upto playErrorsSpec)

/-- 'ostrakonlaw21.FtlDies', WHERE WHAT IT READS IS OF BULK AT MOST 1048576: true; the input reads as it did. -/
def ftlDiesUptoRow : OpenClaim := { program := "ytnffkcabeecopaagreat", sum := "6f6396dbb8c2bd4fb54c3225b21dc5a62d3c5cab091aca8be8b0f302ec566040", func := "ostrakon/ostrakonlaw21.FtlDies", spec := "ftlDies", unfollowed := true, recurses := true, plainKeys := false, apart := false, narrowed := true }
def FtlDiesUptoSaid : Prop := ftlDiesUptoRow.holds Tryz.pinned (OpenSpec.upto ftlDiesSpec)

/-- 'ostrakontop.TopDieMount', WHERE WHAT IT READS IS OF BULK AT MOST 1048576: true; the input reads as it did. -/
def topDieMountUptoRow : OpenClaim := { program := "ytnffkcabeecopaagreat", sum := "6f6396dbb8c2bd4fb54c3225b21dc5a62d3c5cab091aca8be8b0f302ec566040", func := "ostrakon/ostrakontop.TopDieMount", spec := "topDieMount", unfollowed := true, recurses := true, plainKeys := false, apart := false, narrowed := true }
def TopDieMountUptoSaid : Prop := topDieMountUptoRow.holds Tryz.pinned (OpenSpec.upto topDieMountSpec)

/-- 'ostrakontop.TopPrograms', WHERE WHAT IT READS IS OF BULK AT MOST 1048576: true; the input reads as it did. -/
def topProgramsUptoRow : OpenClaim := { program := "ytnffkcabeecopaagreat", sum := "6f6396dbb8c2bd4fb54c3225b21dc5a62d3c5cab091aca8be8b0f302ec566040", func := "ostrakon/ostrakontop.TopPrograms", spec := "topPrograms", unfollowed := true, recurses := true, plainKeys := false, apart := false, narrowed := true }
def TopProgramsUptoSaid : Prop := topProgramsUptoRow.holds Tryz.pinned (OpenSpec.upto topProgramsSpec)

/-- 'ostrakontop.TopErases', WHERE WHAT IT READS IS OF BULK AT MOST 1048576: true; the input reads as it did. -/
def topErasesUptoRow : OpenClaim := { program := "ytnffkcabeecopaagreat", sum := "6f6396dbb8c2bd4fb54c3225b21dc5a62d3c5cab091aca8be8b0f302ec566040", func := "ostrakon/ostrakontop.TopErases", spec := "topErases", unfollowed := true, recurses := true, plainKeys := false, apart := false, narrowed := true }
def TopErasesUptoSaid : Prop := topErasesUptoRow.holds Tryz.pinned (OpenSpec.upto topErasesSpec)

/-- 'ostrakontop.TopTicks', WHERE WHAT IT READS IS OF BULK AT MOST 1048576: true; the input reads as it did. -/
def topTicksUptoRow : OpenClaim := { program := "ytnffkcabeecopaagreat", sum := "6f6396dbb8c2bd4fb54c3225b21dc5a62d3c5cab091aca8be8b0f302ec566040", func := "ostrakon/ostrakontop.TopTicks", spec := "topTicks", unfollowed := true, recurses := true, plainKeys := false, apart := false, narrowed := true }
def TopTicksUptoSaid : Prop := topTicksUptoRow.holds Tryz.pinned (OpenSpec.upto topTicksSpec)

end Rows
end Go.Proofs.YtnffkcabeecopaaGreat
