/-
  No cell of these rows narrows 'for every input' (looked for: loops, veiled, ifaces, maps, wideKeys, modest, calm, conditions, laid).
  DERIVED. THE GIVEN ROWS OF THIS SEAT. 5 by the template 'for every input the law returns true; each argument reads behind the call as it read before'; 0 by the template 'total and deterministic' (their statements: YtpohajhbfllbbaaGreatTotals.lean).
  GIVEN WITH THE SEED: the statements are not yours to turn. If you find one false, say at which input.
  Laid BY PROGRAM, IN A SANDBOX (cutbox-rows.mjs): the forced cells as the released guide's own fill.sh prints them over the translation 4a9b1097048baf45… (all of the seat's roots in one cut). By AI agents, Wed Nov 11 2026. No macro, syntax, notation, axiom, sorry.
-/
import Derived.Test.YtpohajhbfllbbaaGreatChecked
import GoSem.Claim
import GoSem.ClaimJoined
import GoSem.ClaimMapViews
import Derived.JoinedTies
import Derived.KernelRfl
namespace Go.Proofs.YtpohajhbfllbbaaGreat
/- THE CELL 'sum', in the pinned program and in every row, IS THE sha256 OF THE DUMP (.gsa) THAT YtpohajhbfllbbaaGreatProg.lean LOADS. Nothing in Lean hashes anything: it is a label: what it is worth is what the hold of that sum in a sandbox is worth. -/
noncomputable def Tryz.pinned : Pinned := { name := "ytpohajhbfllbbaagreat", sum := "4a9b1097048baf4553b2ce3dd59437eb8aefddda92827014a389217eb6184443", checked := Tryz.checked }
namespace Rows
def none {H : Type} : Left H := { results := [], args := [] }

/-- 'ostrakonlaw21.PlayTwice': WHATEVER THE INPUT: true; the input reads as it did. -/
def playTwiceSpec : ChangeSpec := { name := "playTwice", fn := fun _ => fun
  | [d1, d2, d3] => { results := [.lit (.bool true)], args := [d1, d2, d3] }
  | _ => none }
def playTwiceRow : OpenClaim := { program := "ytpohajhbfllbbaagreat", sum := "4a9b1097048baf4553b2ce3dd59437eb8aefddda92827014a389217eb6184443", func := "ostrakon/ostrakonlaw21.PlayTwice", spec := "playTwice", unfollowed := true, recurses := true, plainKeys := false, apart := false }
def PlayTwiceSaid : Prop := playTwiceRow.holds Tryz.pinned (OpenSpec.ofChange playTwiceSpec)

/-- ITS FALSE NEIGHBOUR: 'it returns false'. Refute it at one input. -/
def playTwiceWrong : ChangeSpec := { name := "playTwice", fn := fun _ => fun
  | [d1, d2, d3] => { results := [.lit (.bool false)], args := [d1, d2, d3] }
  | _ => none }
def PlayTwiceWrongFalsely : Prop := playTwiceRow.holds Tryz.pinned (OpenSpec.ofChange playTwiceWrong)

/-- 'ostrakonlaw21.FtlTick': WHATEVER THE INPUT: true; the input reads as it did. -/
def ftlTickSpec : ChangeSpec := { name := "ftlTick", fn := fun _ => fun
  | [d1, d2, d3] => { results := [.lit (.bool true)], args := [d1, d2, d3] }
  | _ => none }
def ftlTickRow : OpenClaim := { program := "ytpohajhbfllbbaagreat", sum := "4a9b1097048baf4553b2ce3dd59437eb8aefddda92827014a389217eb6184443", func := "ostrakon/ostrakonlaw21.FtlTick", spec := "ftlTick", unfollowed := true, recurses := true, plainKeys := false, apart := false }
def FtlTickSaid : Prop := ftlTickRow.holds Tryz.pinned (OpenSpec.ofChange ftlTickSpec)

/-- ITS FALSE NEIGHBOUR: 'it returns false'. Refute it at one input. -/
def ftlTickWrong : ChangeSpec := { name := "ftlTick", fn := fun _ => fun
  | [d1, d2, d3] => { results := [.lit (.bool false)], args := [d1, d2, d3] }
  | _ => none }
def FtlTickWrongFalsely : Prop := ftlTickRow.holds Tryz.pinned (OpenSpec.ofChange ftlTickWrong)

/-- 'ostrakonlaw21.PlayLog': WHATEVER THE INPUT: true; the input reads as it did. -/
def playLogSpec : ChangeSpec := { name := "playLog", fn := fun _ => fun
  | [d1, d2] => { results := [.lit (.bool true)], args := [d1, d2] }
  | _ => none }
def playLogRow : OpenClaim := { program := "ytpohajhbfllbbaagreat", sum := "4a9b1097048baf4553b2ce3dd59437eb8aefddda92827014a389217eb6184443", func := "ostrakon/ostrakonlaw21.PlayLog", spec := "playLog", unfollowed := true, recurses := true, plainKeys := false, apart := false }
def PlayLogSaid : Prop := playLogRow.holds Tryz.pinned (OpenSpec.ofChange playLogSpec)

/-- ITS FALSE NEIGHBOUR: 'it returns false'. Refute it at one input. -/
def playLogWrong : ChangeSpec := { name := "playLog", fn := fun _ => fun
  | [d1, d2] => { results := [.lit (.bool false)], args := [d1, d2] }
  | _ => none }
def PlayLogWrongFalsely : Prop := playLogRow.holds Tryz.pinned (OpenSpec.ofChange playLogWrong)

/-- 'ostrakonlaw21.FtlDies': WHATEVER THE INPUT: true; the input reads as it did. -/
def ftlDiesSpec : ChangeSpec := { name := "ftlDies", fn := fun _ => fun
  | [d1, d2, d3, d4, d5] => { results := [.lit (.bool true)], args := [d1, d2, d3, d4, d5] }
  | _ => none }
def ftlDiesRow : OpenClaim := { program := "ytpohajhbfllbbaagreat", sum := "4a9b1097048baf4553b2ce3dd59437eb8aefddda92827014a389217eb6184443", func := "ostrakon/ostrakonlaw21.FtlDies", spec := "ftlDies", unfollowed := true, recurses := true, plainKeys := false, apart := false }
def FtlDiesSaid : Prop := ftlDiesRow.holds Tryz.pinned (OpenSpec.ofChange ftlDiesSpec)

/-- ITS FALSE NEIGHBOUR: 'it returns false'. Refute it at one input. -/
def ftlDiesWrong : ChangeSpec := { name := "ftlDies", fn := fun _ => fun
  | [d1, d2, d3, d4, d5] => { results := [.lit (.bool false)], args := [d1, d2, d3, d4, d5] }
  | _ => none }
def FtlDiesWrongFalsely : Prop := ftlDiesRow.holds Tryz.pinned (OpenSpec.ofChange ftlDiesWrong)

/-- 'ostrakontop.TopDie': WHATEVER THE INPUT: true; the input reads as it did. -/
def topDieSpec : ChangeSpec := { name := "topDie", fn := fun _ => fun
  | [d1, d2, d3] => { results := [.lit (.bool true)], args := [d1, d2, d3] }
  | _ => none }
def topDieRow : OpenClaim := { program := "ytpohajhbfllbbaagreat", sum := "4a9b1097048baf4553b2ce3dd59437eb8aefddda92827014a389217eb6184443", func := "ostrakon/ostrakontop.TopDie", spec := "topDie", unfollowed := true, recurses := true, plainKeys := false, apart := false }
def TopDieSaid : Prop := topDieRow.holds Tryz.pinned (OpenSpec.ofChange topDieSpec)

/-- ITS FALSE NEIGHBOUR: 'it returns false'. Refute it at one input. -/
def topDieWrong : ChangeSpec := { name := "topDie", fn := fun _ => fun
  | [d1, d2, d3] => { results := [.lit (.bool false)], args := [d1, d2, d3] }
  | _ => none }
def TopDieWrongFalsely : Prop := topDieRow.holds Tryz.pinned (OpenSpec.ofChange topDieWrong)

/- THE SECOND FORM. 'bulk': how many values and letters a reading holds, each counted each time it is reached (what is shared counts as often as it is met; a slice's spare places count too). A statement '..UptoSaid' is the law's where the arguments, and the package variables that the reading takes, are together of bulk at most 1048576: NARROWER than '..Said'. Prove '..Said' where nothing that the law and all that it calls make is longer than what came in: it says more and counts as full. Else prove '..UptoSaid'. A law counts once. -/
mutual
def uptoBulk {H : Type} : DataW H → Nat
  | .lit (.string bytes) => bytes.length + 1
  | .lit _ => 1
  | .nil => 1
  | .ptr d => uptoBulk d + 1
  | .slice elems spare => uptoBulkAll elems + uptoBulkAll spare + 1
  | .agg parts => uptoBulkAll parts + 1
  | .iface _ d => uptoBulk d + 1
  | .map entries => uptoBulkEntries entries + 1
  | .held _ => 1
def uptoBulkAll {H : Type} : List (DataW H) → Nat
  | [] => 0
  | d :: r => uptoBulk d + uptoBulkAll r
def uptoBulkEntries {H : Type} : List (Lit × DataW H) → Nat
  | [] => 0
  | x :: r => uptoBulkEntry x + uptoBulkEntries r
def uptoBulkEntry {H : Type} : Lit × DataW H → Nat
  | (.string bytes, d) => bytes.length + uptoBulk d + 1
  | (_, d) => uptoBulk d + 1
 end
def uptoSmall : (H : Type) → List (DataW H) → Bool := fun _ ds => decide (uptoBulkAll ds ≤ 1048576)
def OpenSpec.upto (s : _root_.Go.ChangeSpec) : _root_.Go.OpenSpec := { _root_.Go.OpenSpec.ofChange s with cond := some uptoSmall }

/-- 'ostrakonlaw21.PlayTwice', WHERE WHAT IT READS IS OF BULK AT MOST 1048576: true; the input reads as it did. -/
def playTwiceUptoRow : OpenClaim := { program := "ytpohajhbfllbbaagreat", sum := "4a9b1097048baf4553b2ce3dd59437eb8aefddda92827014a389217eb6184443", func := "ostrakon/ostrakonlaw21.PlayTwice", spec := "playTwice", unfollowed := true, recurses := true, plainKeys := false, apart := false, narrowed := true }
def PlayTwiceUptoSaid : Prop := playTwiceUptoRow.holds Tryz.pinned (OpenSpec.upto playTwiceSpec)

/-- 'ostrakonlaw21.FtlTick', WHERE WHAT IT READS IS OF BULK AT MOST 1048576: true; the input reads as it did. -/
def ftlTickUptoRow : OpenClaim := { program := "ytpohajhbfllbbaagreat", sum := "4a9b1097048baf4553b2ce3dd59437eb8aefddda92827014a389217eb6184443", func := "ostrakon/ostrakonlaw21.FtlTick", spec := "ftlTick", unfollowed := true, recurses := true, plainKeys := false, apart := false, narrowed := true }
def FtlTickUptoSaid : Prop := ftlTickUptoRow.holds Tryz.pinned (OpenSpec.upto ftlTickSpec)

/-- 'ostrakonlaw21.PlayLog', WHERE WHAT IT READS IS OF BULK AT MOST 1048576: true; the input reads as it did. -/
def playLogUptoRow : OpenClaim := { program := "ytpohajhbfllbbaagreat", sum := "4a9b1097048baf4553b2ce3dd59437eb8aefddda92827014a389217eb6184443", func := "ostrakon/ostrakonlaw21.PlayLog", spec := "playLog", unfollowed := true, recurses := true, plainKeys := false, apart := false, narrowed := true }
def PlayLogUptoSaid : Prop := playLogUptoRow.holds Tryz.pinned (OpenSpec.upto playLogSpec)

/-- 'ostrakonlaw21.FtlDies', WHERE WHAT IT READS IS OF BULK AT MOST 1048576: true; the input reads as it did. -/
def ftlDiesUptoRow : OpenClaim := { program := "ytpohajhbfllbbaagreat", sum := "4a9b1097048baf4553b2ce3dd59437eb8aefddda92827014a389217eb6184443", func := "ostrakon/ostrakonlaw21.FtlDies", spec := "ftlDies", unfollowed := true, recurses := true, plainKeys := false, apart := false, narrowed := true }
def FtlDiesUptoSaid : Prop := ftlDiesUptoRow.holds Tryz.pinned (OpenSpec.upto ftlDiesSpec)

/-- 'ostrakontop.TopDie', WHERE WHAT IT READS IS OF BULK AT MOST 1048576: true; the input reads as it did. -/
def topDieUptoRow : OpenClaim := { program := "ytpohajhbfllbbaagreat", sum := "4a9b1097048baf4553b2ce3dd59437eb8aefddda92827014a389217eb6184443", func := "ostrakon/ostrakontop.TopDie", spec := "topDie", unfollowed := true, recurses := true, plainKeys := false, apart := false, narrowed := true }
def TopDieUptoSaid : Prop := topDieUptoRow.holds Tryz.pinned (OpenSpec.upto topDieSpec)

end Rows
end Go.Proofs.YtpohajhbfllbbaaGreat
