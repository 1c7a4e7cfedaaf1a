/-
  No cell of these rows narrows 'for every input' (looked for: loops, veiled, ifaces, maps, wideKeys, modest, calm, conditions, laid).
  DERIVED. THE GIVEN ROWS OF THIS SEAT. 6 by the template 'for every input the law returns true; each argument reads behind the call as it read before'; 0 by the template 'total and deterministic' (their statements: YtmohcbniepdncaaGreatTotals.lean).
  GIVEN WITH THE SEED: the statements are not yours to turn. If you find one false, say at which input.
  Laid BY PROGRAM, IN A SANDBOX (cutbox-rows.mjs): the forced cells as the released guide's own fill.sh prints them over the translation 81e13b8139053b9f… (all of the seat's roots in one cut). By AI agents, Wed Nov 11 2026. No macro, syntax, notation, axiom, sorry.
-/
import Derived.Test.YtmohcbniepdncaaGreatChecked
import GoSem.Claim
import GoSem.ClaimJoined
import GoSem.ClaimMapViews
import Derived.JoinedTies
import Derived.KernelRfl
namespace Go.Proofs.YtmohcbniepdncaaGreat
/- THE CELL 'sum', in the pinned program and in every row, IS THE sha256 OF THE DUMP (.gsa) THAT YtmohcbniepdncaaGreatProg.lean LOADS. Nothing in Lean hashes anything: it is a label: what it is worth is what the hold of that sum in a sandbox is worth. -/
noncomputable def Tryz.pinned : Pinned := { name := "ytmohcbniepdncaagreat", sum := "81e13b8139053b9fd1352906e068d664a0df271df772a865ccb5e48bfc67c9c4", checked := Tryz.checked }
namespace Rows
def none {H : Type} : Left H := { results := [], args := [] }

/-- 'ostrakonlaw11.MediaAll': WHATEVER THE INPUT: true; the input reads as it did. -/
def mediaAllSpec : ChangeSpec := { name := "mediaAll", fn := fun _ => fun
  | [d1, d2, d3, d4] => { results := [.lit (.bool true)], args := [d1, d2, d3, d4] }
  | _ => none }
def mediaAllRow : OpenClaim := { program := "ytmohcbniepdncaagreat", sum := "81e13b8139053b9fd1352906e068d664a0df271df772a865ccb5e48bfc67c9c4", func := "ostrakon/ostrakonlaw11.MediaAll", spec := "mediaAll", unfollowed := true, recurses := true, plainKeys := false, apart := false }
def MediaAllSaid : Prop := mediaAllRow.holds Tryz.pinned (OpenSpec.ofChange mediaAllSpec)

/-- ITS FALSE NEIGHBOUR: 'it returns false'. Refute it at one input. -/
def mediaAllWrong : ChangeSpec := { name := "mediaAll", fn := fun _ => fun
  | [d1, d2, d3, d4] => { results := [.lit (.bool false)], args := [d1, d2, d3, d4] }
  | _ => none }
def MediaAllWrongFalsely : Prop := mediaAllRow.holds Tryz.pinned (OpenSpec.ofChange mediaAllWrong)

/-- 'ostrakonlaw11.RowAnyOne': WHATEVER THE INPUT: true; the input reads as it did. -/
def rowAnyOneSpec : ChangeSpec := { name := "rowAnyOne", fn := fun _ => fun
  | [d1, d2, d3, d4, d5, d6, d7] => { results := [.lit (.bool true)], args := [d1, d2, d3, d4, d5, d6, d7] }
  | _ => none }
def rowAnyOneRow : OpenClaim := { program := "ytmohcbniepdncaagreat", sum := "81e13b8139053b9fd1352906e068d664a0df271df772a865ccb5e48bfc67c9c4", func := "ostrakon/ostrakonlaw11.RowAnyOne", spec := "rowAnyOne", unfollowed := true, recurses := true, plainKeys := false, apart := false }
def RowAnyOneSaid : Prop := rowAnyOneRow.holds Tryz.pinned (OpenSpec.ofChange rowAnyOneSpec)

/-- ITS FALSE NEIGHBOUR: 'it returns false'. Refute it at one input. -/
def rowAnyOneWrong : ChangeSpec := { name := "rowAnyOne", fn := fun _ => fun
  | [d1, d2, d3, d4, d5, d6, d7] => { results := [.lit (.bool false)], args := [d1, d2, d3, d4, d5, d6, d7] }
  | _ => none }
def RowAnyOneWrongFalsely : Prop := rowAnyOneRow.holds Tryz.pinned (OpenSpec.ofChange rowAnyOneWrong)

/-- 'ostrakonlaw11.RowCut': WHATEVER THE INPUT: true; the input reads as it did. -/
def rowCutSpec : ChangeSpec := { name := "rowCut", fn := fun _ => fun
  | [d1, d2, d3, d4, d5, d6] => { results := [.lit (.bool true)], args := [d1, d2, d3, d4, d5, d6] }
  | _ => none }
def rowCutRow : OpenClaim := { program := "ytmohcbniepdncaagreat", sum := "81e13b8139053b9fd1352906e068d664a0df271df772a865ccb5e48bfc67c9c4", func := "ostrakon/ostrakonlaw11.RowCut", spec := "rowCut", unfollowed := true, recurses := true, plainKeys := false, apart := false }
def RowCutSaid : Prop := rowCutRow.holds Tryz.pinned (OpenSpec.ofChange rowCutSpec)

/-- ITS FALSE NEIGHBOUR: 'it returns false'. Refute it at one input. -/
def rowCutWrong : ChangeSpec := { name := "rowCut", fn := fun _ => fun
  | [d1, d2, d3, d4, d5, d6] => { results := [.lit (.bool false)], args := [d1, d2, d3, d4, d5, d6] }
  | _ => none }
def RowCutWrongFalsely : Prop := rowCutRow.holds Tryz.pinned (OpenSpec.ofChange rowCutWrong)

/-- 'ostrakonlaw11.MediaForeign': WHATEVER THE INPUT: true; the input reads as it did. -/
def mediaForeignSpec : ChangeSpec := { name := "mediaForeign", fn := fun _ => fun
  | [d1, d2, d3, d4] => { results := [.lit (.bool true)], args := [d1, d2, d3, d4] }
  | _ => none }
def mediaForeignRow : OpenClaim := { program := "ytmohcbniepdncaagreat", sum := "81e13b8139053b9fd1352906e068d664a0df271df772a865ccb5e48bfc67c9c4", func := "ostrakon/ostrakonlaw11.MediaForeign", spec := "mediaForeign", unfollowed := true, recurses := true, plainKeys := false, apart := false }
def MediaForeignSaid : Prop := mediaForeignRow.holds Tryz.pinned (OpenSpec.ofChange mediaForeignSpec)

/-- ITS FALSE NEIGHBOUR: 'it returns false'. Refute it at one input. -/
def mediaForeignWrong : ChangeSpec := { name := "mediaForeign", fn := fun _ => fun
  | [d1, d2, d3, d4] => { results := [.lit (.bool false)], args := [d1, d2, d3, d4] }
  | _ => none }
def MediaForeignWrongFalsely : Prop := mediaForeignRow.holds Tryz.pinned (OpenSpec.ofChange mediaForeignWrong)

/-- 'ostrakonlaw11.RowTwo': WHATEVER THE INPUT: true; the input reads as it did. -/
def rowTwoSpec : ChangeSpec := { name := "rowTwo", fn := fun _ => fun
  | [d1, d2, d3, d4, d5, d6] => { results := [.lit (.bool true)], args := [d1, d2, d3, d4, d5, d6] }
  | _ => none }
def rowTwoRow : OpenClaim := { program := "ytmohcbniepdncaagreat", sum := "81e13b8139053b9fd1352906e068d664a0df271df772a865ccb5e48bfc67c9c4", func := "ostrakon/ostrakonlaw11.RowTwo", spec := "rowTwo", unfollowed := true, recurses := true, plainKeys := false, apart := false }
def RowTwoSaid : Prop := rowTwoRow.holds Tryz.pinned (OpenSpec.ofChange rowTwoSpec)

/-- ITS FALSE NEIGHBOUR: 'it returns false'. Refute it at one input. -/
def rowTwoWrong : ChangeSpec := { name := "rowTwo", fn := fun _ => fun
  | [d1, d2, d3, d4, d5, d6] => { results := [.lit (.bool false)], args := [d1, d2, d3, d4, d5, d6] }
  | _ => none }
def RowTwoWrongFalsely : Prop := rowTwoRow.holds Tryz.pinned (OpenSpec.ofChange rowTwoWrong)

/-- 'ostrakonlaw11.RowStale': WHATEVER THE INPUT: true; the input reads as it did. -/
def rowStaleSpec : ChangeSpec := { name := "rowStale", fn := fun _ => fun
  | [d1, d2, d3, d4, d5] => { results := [.lit (.bool true)], args := [d1, d2, d3, d4, d5] }
  | _ => none }
def rowStaleRow : OpenClaim := { program := "ytmohcbniepdncaagreat", sum := "81e13b8139053b9fd1352906e068d664a0df271df772a865ccb5e48bfc67c9c4", func := "ostrakon/ostrakonlaw11.RowStale", spec := "rowStale", unfollowed := true, recurses := true, plainKeys := false, apart := false }
def RowStaleSaid : Prop := rowStaleRow.holds Tryz.pinned (OpenSpec.ofChange rowStaleSpec)

/-- ITS FALSE NEIGHBOUR: 'it returns false'. Refute it at one input. -/
def rowStaleWrong : ChangeSpec := { name := "rowStale", fn := fun _ => fun
  | [d1, d2, d3, d4, d5] => { results := [.lit (.bool false)], args := [d1, d2, d3, d4, d5] }
  | _ => none }
def RowStaleWrongFalsely : Prop := rowStaleRow.holds Tryz.pinned (OpenSpec.ofChange rowStaleWrong)

/- THE SECOND FORM. 'bulk': how many values and letters a reading holds, each counted each time it is reached (what is shared counts as often as it is met; a slice's spare places count too). A statement '..UptoSaid' is the law's where the arguments, and the package variables that the reading takes, are together of bulk at most 1048576: NARROWER than '..Said'. Prove '..Said' where nothing that the law and all that it calls make is longer than what came in: it says more and counts as full. Else prove '..UptoSaid'. A law counts once. -/
mutual
def uptoBulk {H : Type} : DataW H → Nat
  | .lit (.string bytes) => bytes.length + 1
  | .lit _ => 1
  | .nil => 1
  | .ptr d => uptoBulk d + 1
  | .slice elems spare => uptoBulkAll elems + uptoBulkAll spare + 1
  | .agg parts => uptoBulkAll parts + 1
  | .iface _ d => uptoBulk d + 1
  | .map entries => uptoBulkEntries entries + 1
  | .held _ => 1
def uptoBulkAll {H : Type} : List (DataW H) → Nat
  | [] => 0
  | d :: r => uptoBulk d + uptoBulkAll r
def uptoBulkEntries {H : Type} : List (Lit × DataW H) → Nat
  | [] => 0
  | x :: r => uptoBulkEntry x + uptoBulkEntries r
def uptoBulkEntry {H : Type} : Lit × DataW H → Nat
  | (.string bytes, d) => bytes.length + uptoBulk d + 1
  | (_, d) => uptoBulk d + 1
 end
def uptoSmall : (H : Type) → List (DataW H) → Bool := fun _ ds => decide (uptoBulkAll ds ≤ 1048576)
def OpenSpec.upto (s : _root_.Go.ChangeSpec) : _root_.Go.OpenSpec := { _root_.Go.OpenSpec.ofChange s with cond := some uptoSmall }

/-- 'ostrakonlaw11.MediaAll', WHERE WHAT IT READS IS OF BULK AT MOST 1048576: true; the input reads as it did. -/
def mediaAllUptoRow : OpenClaim := { program := "ytmohcbniepdncaagreat", sum := "81e13b8139053b9fd1352906e068d664a0df271df772a865ccb5e48bfc67c9c4", func := "ostrakon/ostrakonlaw11.MediaAll", spec := "mediaAll", unfollowed := true, recurses := true, plainKeys := false, apart := false, narrowed := true }
def MediaAllUptoSaid : Prop := mediaAllUptoRow.holds Tryz.pinned (OpenSpec.upto mediaAllSpec)

/-- 'ostrakonlaw11.RowAnyOne', WHERE WHAT IT READS IS OF BULK AT MOST 1048576: true; the input reads as it did. -/
def rowAnyOneUptoRow : OpenClaim := { program := "ytmohcbniepdncaagreat", sum := "81e13b8139053b9fd1352906e068d664a0df271df772a865ccb5e48bfc67c9c4", func := "ostrakon/ostrakonlaw11.RowAnyOne", spec := "rowAnyOne", unfollowed := true, recurses := true, plainKeys := false, apart := false, narrowed := true }
def RowAnyOneUptoSaid : Prop := rowAnyOneUptoRow.holds Tryz.pinned (OpenSpec.upto rowAnyOneSpec)

/-- 'ostrakonlaw11.RowCut', WHERE WHAT IT READS IS OF BULK AT MOST 1048576: true; the input reads as it did. -/
def rowCutUptoRow : OpenClaim := { program := "ytmohcbniepdncaagreat", sum := "81e13b8139053b9fd1352906e068d664a0df271df772a865ccb5e48bfc67c9c4", func := "ostrakon/ostrakonlaw11.RowCut", spec := "rowCut", unfollowed := true, recurses := true, plainKeys := false, apart := false, narrowed := true }
def RowCutUptoSaid : Prop := rowCutUptoRow.holds Tryz.pinned (OpenSpec.upto rowCutSpec)

/-- 'ostrakonlaw11.MediaForeign', WHERE WHAT IT READS IS OF BULK AT MOST 1048576: true; the input reads as it did. -/
def mediaForeignUptoRow : OpenClaim := { program := "ytmohcbniepdncaagreat", sum := "81e13b8139053b9fd1352906e068d664a0df271df772a865ccb5e48bfc67c9c4", func := "ostrakon/ostrakonlaw11.MediaForeign", spec := "mediaForeign", unfollowed := true, recurses := true, plainKeys := false, apart := false, narrowed := true }
def MediaForeignUptoSaid : Prop := mediaForeignUptoRow.holds Tryz.pinned (OpenSpec.upto mediaForeignSpec)

/-- 'ostrakonlaw11.RowTwo', WHERE WHAT IT READS IS OF BULK AT MOST 1048576: true; the input reads as it did. -/
def rowTwoUptoRow : OpenClaim := { program := "ytmohcbniepdncaagreat", sum := "81e13b8139053b9fd1352906e068d664a0df271df772a865ccb5e48bfc67c9c4", func := "ostrakon/ostrakonlaw11.RowTwo", spec := "rowTwo", unfollowed := true, recurses := true, plainKeys := false, apart := false, narrowed := true }
def RowTwoUptoSaid : Prop := rowTwoUptoRow.holds Tryz.pinned (OpenSpec.upto rowTwoSpec)

/-- 'ostrakonlaw11.RowStale', WHERE WHAT IT READS IS OF BULK AT MOST 1048576: true; the input reads as it did. -/
def rowStaleUptoRow : OpenClaim := { program := "ytmohcbniepdncaagreat", sum := "81e13b8139053b9fd1352906e068d664a0df271df772a865ccb5e48bfc67c9c4", func := "ostrakon/ostrakonlaw11.RowStale", spec := "rowStale", unfollowed := true, recurses := true, plainKeys := false, apart := false, narrowed := true }
def RowStaleUptoSaid : Prop := rowStaleUptoRow.holds Tryz.pinned (OpenSpec.upto rowStaleSpec)

end Rows
end Go.Proofs.YtmohcbniepdncaaGreat
