/-
  No cell of these rows narrows 'for every input' (looked for: loops, veiled, ifaces, maps, wideKeys, modest, calm, conditions, laid).
  DERIVED. THE GIVEN ROWS OF THIS SEAT. 4 by the template 'for every input the law returns true; each argument reads behind the call as it read before'; 0 by the template 'total and deterministic' (their statements: YtmafiplddapokaaGreatTotals.lean).
  GIVEN WITH THE SEED: the statements are not yours to turn. If you find one false, say at which input.
  Laid BY PROGRAM, IN A SANDBOX (cutbox-rows.mjs): the forced cells as the released guide's own fill.sh prints them over the translation 35ff89b99b3e01fc… (all of the seat's roots in one cut). By AI agents, Wed Nov 11 2026. No macro, syntax, notation, axiom, sorry.
-/
import Derived.Test.YtmafiplddapokaaGreatChecked
import GoSem.Claim
import GoSem.ClaimJoined
import GoSem.ClaimMapViews
import Derived.JoinedTies
import Derived.KernelRfl
namespace Go.Proofs.YtmafiplddapokaaGreat
/- THE CELL 'sum', in the pinned program and in every row, IS THE sha256 OF THE DUMP (.gsa) THAT YtmafiplddapokaaGreatProg.lean LOADS. Nothing in Lean hashes anything: it is a label: what it is worth is what the hold of that sum in a sandbox is worth. -/
noncomputable def Tryz.pinned : Pinned := { name := "ytmafiplddapokaagreat", sum := "35ff89b99b3e01fc6524dad769d4a929946488b67b64272d46bbc278eaa0581d", checked := Tryz.checked }
namespace Rows
def none {H : Type} : Left H := { results := [], args := [] }

/-- 'ostrakonlaw21.FtlFlushed': WHATEVER THE INPUT: true; the input reads as it did. -/
def ftlFlushedSpec : ChangeSpec := { name := "ftlFlushed", fn := fun _ => fun
  | [d1, d2, d3, d4, d5] => { results := [.lit (.bool true)], args := [d1, d2, d3, d4, d5] }
  | _ => none }
def ftlFlushedRow : OpenClaim := { program := "ytmafiplddapokaagreat", sum := "35ff89b99b3e01fc6524dad769d4a929946488b67b64272d46bbc278eaa0581d", func := "ostrakon/ostrakonlaw21.FtlFlushed", spec := "ftlFlushed", unfollowed := true, recurses := true, plainKeys := false, apart := false }
def FtlFlushedSaid : Prop := ftlFlushedRow.holds Tryz.pinned (OpenSpec.ofChange ftlFlushedSpec)

/-- ITS FALSE NEIGHBOUR: 'it returns false'. Refute it at one input. -/
def ftlFlushedWrong : ChangeSpec := { name := "ftlFlushed", fn := fun _ => fun
  | [d1, d2, d3, d4, d5] => { results := [.lit (.bool false)], args := [d1, d2, d3, d4, d5] }
  | _ => none }
def FtlFlushedWrongFalsely : Prop := ftlFlushedRow.holds Tryz.pinned (OpenSpec.ofChange ftlFlushedWrong)

/-- 'ostrakonlaw21.CalmAll': WHATEVER THE INPUT: true; the input reads as it did. -/
def calmAllSpec : ChangeSpec := { name := "calmAll", fn := fun _ => fun
  | [d1, d2, d3] => { results := [.lit (.bool true)], args := [d1, d2, d3] }
  | _ => none }
def calmAllRow : OpenClaim := { program := "ytmafiplddapokaagreat", sum := "35ff89b99b3e01fc6524dad769d4a929946488b67b64272d46bbc278eaa0581d", func := "ostrakon/ostrakonlaw21.CalmAll", spec := "calmAll", unfollowed := true, recurses := true, plainKeys := false, apart := false }
def CalmAllSaid : Prop := calmAllRow.holds Tryz.pinned (OpenSpec.ofChange calmAllSpec)

/-- ITS FALSE NEIGHBOUR: 'it returns false'. Refute it at one input. -/
def calmAllWrong : ChangeSpec := { name := "calmAll", fn := fun _ => fun
  | [d1, d2, d3] => { results := [.lit (.bool false)], args := [d1, d2, d3] }
  | _ => none }
def CalmAllWrongFalsely : Prop := calmAllRow.holds Tryz.pinned (OpenSpec.ofChange calmAllWrong)

/-- 'ostrakontop.TopCut': WHATEVER THE INPUT: true; the input reads as it did. -/
def topCutSpec : ChangeSpec := { name := "topCut", fn := fun _ => fun
  | [d1, d2, d3] => { results := [.lit (.bool true)], args := [d1, d2, d3] }
  | _ => none }
def topCutRow : OpenClaim := { program := "ytmafiplddapokaagreat", sum := "35ff89b99b3e01fc6524dad769d4a929946488b67b64272d46bbc278eaa0581d", func := "ostrakon/ostrakontop.TopCut", spec := "topCut", unfollowed := true, recurses := true, plainKeys := false, apart := false }
def TopCutSaid : Prop := topCutRow.holds Tryz.pinned (OpenSpec.ofChange topCutSpec)

/-- ITS FALSE NEIGHBOUR: 'it returns false'. Refute it at one input. -/
def topCutWrong : ChangeSpec := { name := "topCut", fn := fun _ => fun
  | [d1, d2, d3] => { results := [.lit (.bool false)], args := [d1, d2, d3] }
  | _ => none }
def TopCutWrongFalsely : Prop := topCutRow.holds Tryz.pinned (OpenSpec.ofChange topCutWrong)

/-- 'ostrakontop.TopMountCut': WHATEVER THE INPUT: true; the input reads as it did. -/
def topMountCutSpec : ChangeSpec := { name := "topMountCut", fn := fun _ => fun
  | [d1, d2, d3, d4] => { results := [.lit (.bool true)], args := [d1, d2, d3, d4] }
  | _ => none }
def topMountCutRow : OpenClaim := { program := "ytmafiplddapokaagreat", sum := "35ff89b99b3e01fc6524dad769d4a929946488b67b64272d46bbc278eaa0581d", func := "ostrakon/ostrakontop.TopMountCut", spec := "topMountCut", unfollowed := true, recurses := true, plainKeys := false, apart := false }
def TopMountCutSaid : Prop := topMountCutRow.holds Tryz.pinned (OpenSpec.ofChange topMountCutSpec)

/-- ITS FALSE NEIGHBOUR: 'it returns false'. Refute it at one input. -/
def topMountCutWrong : ChangeSpec := { name := "topMountCut", fn := fun _ => fun
  | [d1, d2, d3, d4] => { results := [.lit (.bool false)], args := [d1, d2, d3, d4] }
  | _ => none }
def TopMountCutWrongFalsely : Prop := topMountCutRow.holds Tryz.pinned (OpenSpec.ofChange topMountCutWrong)

/- THE SECOND FORM. 'bulk': how many values and letters a reading holds, each counted each time it is reached (what is shared counts as often as it is met; a slice's spare places count too). A statement '..UptoSaid' is the law's where the arguments, and the package variables that the reading takes, are together of bulk at most 1048576: NARROWER than '..Said'. Prove '..Said' where nothing that the law and all that it calls make is longer than what came in: it says more and counts as full. Else prove '..UptoSaid'. A law counts once. -/
mutual
def uptoBulk {H : Type} : DataW H → Nat
  | .lit (.string bytes) => bytes.length + 1
  | .lit _ => 1
  | .nil => 1
  | .ptr d => uptoBulk d + 1
  | .slice elems spare => uptoBulkAll elems + uptoBulkAll spare + 1
  | .agg parts => uptoBulkAll parts + 1
  | .iface _ d => uptoBulk d + 1
  | .map entries => uptoBulkEntries entries + 1
  | .held _ => 1
def uptoBulkAll {H : Type} : List (DataW H) → Nat
  | [] => 0
  | d :: r => uptoBulk d + uptoBulkAll r
def uptoBulkEntries {H : Type} : List (Lit × DataW H) → Nat
  | [] => 0
  | x :: r => uptoBulkEntry x + uptoBulkEntries r
def uptoBulkEntry {H : Type} : Lit × DataW H → Nat
  | (.string bytes, d) => bytes.length + uptoBulk d + 1
  | (_, d) => uptoBulk d + 1
 end
def uptoSmall : (H : Type) → List (DataW H) → Bool := fun _ ds => decide (uptoBulkAll ds ≤ 1048576)
def OpenSpec.upto (s : _root_.Go.ChangeSpec) : _root_.Go.OpenSpec := { _root_.Go.OpenSpec.ofChange s with cond := some uptoSmall }

/-- 'ostrakonlaw21.FtlFlushed', WHERE WHAT IT READS IS OF BULK AT MOST 1048576: true; the input reads as it did. -/
def ftlFlushedUptoRow : OpenClaim := { program := "ytmafiplddapokaagreat", sum := "35ff89b99b3e01fc6524dad769d4a929946488b67b64272d46bbc278eaa0581d", func := "ostrakon/ostrakonlaw21.FtlFlushed", spec := "ftlFlushed", unfollowed := true, recurses := true, plainKeys := false, apart := false, narrowed := true }
def FtlFlushedUptoSaid : Prop := ftlFlushedUptoRow.holds Tryz.pinned (OpenSpec.upto ftlFlushedSpec)

/-- 'ostrakonlaw21.CalmAll', WHERE WHAT IT READS IS OF BULK AT MOST 1048576: true; the input reads as it did. -/
def calmAllUptoRow : OpenClaim := { program := "ytmafiplddapokaagreat", sum := "35ff89b99b3e01fc6524dad769d4a929946488b67b64272d46bbc278eaa0581d", func := "ostrakon/ostrakonlaw21.CalmAll", spec := "calmAll", unfollowed := true, recurses := true, plainKeys := false, apart := false, narrowed := true }
def CalmAllUptoSaid : Prop := calmAllUptoRow.holds Tryz.pinned (OpenSpec.upto calmAllSpec)

/-- 'ostrakontop.TopCut', WHERE WHAT IT READS IS OF BULK AT MOST 1048576: true; the input reads as it did. -/
def topCutUptoRow : OpenClaim := { program := "ytmafiplddapokaagreat", sum := "35ff89b99b3e01fc6524dad769d4a929946488b67b64272d46bbc278eaa0581d", func := "ostrakon/ostrakontop.TopCut", spec := "topCut", unfollowed := true, recurses := true, plainKeys := false, apart := false, narrowed := true }
def TopCutUptoSaid : Prop := topCutUptoRow.holds Tryz.pinned (OpenSpec.upto topCutSpec)

/-- 'ostrakontop.TopMountCut', WHERE WHAT IT READS IS OF BULK AT MOST 1048576: true; the input reads as it did. -/
def topMountCutUptoRow : OpenClaim := { program := "ytmafiplddapokaagreat", sum := "35ff89b99b3e01fc6524dad769d4a929946488b67b64272d46bbc278eaa0581d", func := "ostrakon/ostrakontop.TopMountCut", spec := "topMountCut", unfollowed := true, recurses := true, plainKeys := false, apart := false, narrowed := true }
def TopMountCutUptoSaid : Prop := topMountCutUptoRow.holds Tryz.pinned (OpenSpec.upto topMountCutSpec)

end Rows
end Go.Proofs.YtmafiplddapokaaGreat
