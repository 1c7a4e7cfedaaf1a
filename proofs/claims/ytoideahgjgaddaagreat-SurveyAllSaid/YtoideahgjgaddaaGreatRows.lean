/-
  No cell of these rows narrows 'for every input' (looked for: loops, veiled, ifaces, maps, wideKeys, modest, calm, conditions, laid).
  DERIVED. THE GIVEN ROWS OF THIS SEAT. 10 by the template 'for every input the law returns true; each argument reads behind the call as it read before'; 0 by the template 'total and deterministic' (their statements: YtoideahgjgaddaaGreatTotals.lean).
  GIVEN WITH THE SEED: the statements are not yours to turn. If you find one false, say at which input.
  Laid BY PROGRAM, IN A SANDBOX (cutbox-rows.mjs): the forced cells as the released guide's own fill.sh prints them over the translation 2b3af5aaa331b8bf… (all of the seat's roots in one cut). By AI agents, Wed Nov 11 2026. No macro, syntax, notation, axiom, sorry.
-/
import Derived.Test.YtoideahgjgaddaaGreatChecked
import GoSem.Claim
import GoSem.ClaimJoined
import GoSem.ClaimMapViews
import Derived.JoinedTies
import Derived.KernelRfl
namespace Go.Proofs.YtoideahgjgaddaaGreat
/- THE CELL 'sum', in the pinned program and in every row, IS THE sha256 OF THE DUMP (.gsa) THAT YtoideahgjgaddaaGreatProg.lean LOADS. Nothing in Lean hashes anything: it is a label: what it is worth is what the hold of that sum in a sandbox is worth. -/
noncomputable def Tryz.pinned : Pinned := { name := "ytoideahgjgaddaagreat", sum := "2b3af5aaa331b8bfd5beaba45de9381e85cf4a04ef03655aa6714ae730277c18", checked := Tryz.checked }
namespace Rows
def none {H : Type} : Left H := { results := [], args := [] }

/-- 'ostrakonlaw16.SurveyAll': WHATEVER THE INPUT: true; the input reads as it did. -/
def surveyAllSpec : ChangeSpec := { name := "surveyAll", fn := fun _ => fun
  | [d1, d2, d3, d4, d5] => { results := [.lit (.bool true)], args := [d1, d2, d3, d4, d5] }
  | _ => none }
def surveyAllRow : OpenClaim := { program := "ytoideahgjgaddaagreat", sum := "2b3af5aaa331b8bfd5beaba45de9381e85cf4a04ef03655aa6714ae730277c18", func := "ostrakon/ostrakonlaw16.SurveyAll", spec := "surveyAll", unfollowed := true, recurses := true, plainKeys := false, apart := false }
def SurveyAllSaid : Prop := surveyAllRow.holds Tryz.pinned (OpenSpec.ofChange surveyAllSpec)

/-- ITS FALSE NEIGHBOUR: 'it returns false'. Refute it at one input. -/
def surveyAllWrong : ChangeSpec := { name := "surveyAll", fn := fun _ => fun
  | [d1, d2, d3, d4, d5] => { results := [.lit (.bool false)], args := [d1, d2, d3, d4, d5] }
  | _ => none }
def SurveyAllWrongFalsely : Prop := surveyAllRow.holds Tryz.pinned (OpenSpec.ofChange surveyAllWrong)

/-- 'ostrakonlaw16.SurveyAgain': WHATEVER THE INPUT: true; the input reads as it did. -/
def surveyAgainSpec : ChangeSpec := { name := "surveyAgain", fn := fun _ => fun
  | [d1, d2, d3] => { results := [.lit (.bool true)], args := [d1, d2, d3] }
  | _ => none }
def surveyAgainRow : OpenClaim := { program := "ytoideahgjgaddaagreat", sum := "2b3af5aaa331b8bfd5beaba45de9381e85cf4a04ef03655aa6714ae730277c18", func := "ostrakon/ostrakonlaw16.SurveyAgain", spec := "surveyAgain", unfollowed := true, recurses := true, plainKeys := false, apart := false }
def SurveyAgainSaid : Prop := surveyAgainRow.holds Tryz.pinned (OpenSpec.ofChange surveyAgainSpec)

/-- ITS FALSE NEIGHBOUR: 'it returns false'. Refute it at one input. -/
def surveyAgainWrong : ChangeSpec := { name := "surveyAgain", fn := fun _ => fun
  | [d1, d2, d3] => { results := [.lit (.bool false)], args := [d1, d2, d3] }
  | _ => none }
def SurveyAgainWrongFalsely : Prop := surveyAgainRow.holds Tryz.pinned (OpenSpec.ofChange surveyAgainWrong)

/-- 'ostrakonlaw16.SurveyLost': WHATEVER THE INPUT: true; the input reads as it did. -/
def surveyLostSpec : ChangeSpec := { name := "surveyLost", fn := fun _ => fun
  | [d1, d2, d3] => { results := [.lit (.bool true)], args := [d1, d2, d3] }
  | _ => none }
def surveyLostRow : OpenClaim := { program := "ytoideahgjgaddaagreat", sum := "2b3af5aaa331b8bfd5beaba45de9381e85cf4a04ef03655aa6714ae730277c18", func := "ostrakon/ostrakonlaw16.SurveyLost", spec := "surveyLost", unfollowed := true, recurses := true, plainKeys := false, apart := false }
def SurveyLostSaid : Prop := surveyLostRow.holds Tryz.pinned (OpenSpec.ofChange surveyLostSpec)

/-- ITS FALSE NEIGHBOUR: 'it returns false'. Refute it at one input. -/
def surveyLostWrong : ChangeSpec := { name := "surveyLost", fn := fun _ => fun
  | [d1, d2, d3] => { results := [.lit (.bool false)], args := [d1, d2, d3] }
  | _ => none }
def SurveyLostWrongFalsely : Prop := surveyLostRow.holds Tryz.pinned (OpenSpec.ofChange surveyLostWrong)

/-- 'ostrakonlaw16.DeskAll': WHATEVER THE INPUT: true; the input reads as it did. -/
def deskAllSpec : ChangeSpec := { name := "deskAll", fn := fun _ => fun
  | [d] => { results := [.lit (.bool true)], args := [d] }
  | _ => none }
def deskAllRow : OpenClaim := { program := "ytoideahgjgaddaagreat", sum := "2b3af5aaa331b8bfd5beaba45de9381e85cf4a04ef03655aa6714ae730277c18", func := "ostrakon/ostrakonlaw16.DeskAll", spec := "deskAll", unfollowed := true, recurses := true, plainKeys := false, apart := false }
def DeskAllSaid : Prop := deskAllRow.holds Tryz.pinned (OpenSpec.ofChange deskAllSpec)

/-- ITS FALSE NEIGHBOUR: 'it returns false'. Refute it at one input. -/
def deskAllWrong : ChangeSpec := { name := "deskAll", fn := fun _ => fun
  | [d] => { results := [.lit (.bool false)], args := [d] }
  | _ => none }
def DeskAllWrongFalsely : Prop := deskAllRow.holds Tryz.pinned (OpenSpec.ofChange deskAllWrong)

/-- 'ostrakonlaw16.DeskNone': WHATEVER THE INPUT: true; the input reads as it did. -/
def deskNoneSpec : ChangeSpec := { name := "deskNone", fn := fun _ => fun
  | [] => { results := [.lit (.bool true)], args := [] }
  | _ => none }
def deskNoneRow : OpenClaim := { program := "ytoideahgjgaddaagreat", sum := "2b3af5aaa331b8bfd5beaba45de9381e85cf4a04ef03655aa6714ae730277c18", func := "ostrakon/ostrakonlaw16.DeskNone", spec := "deskNone", unfollowed := true, recurses := true, plainKeys := false, apart := false }
def DeskNoneSaid : Prop := deskNoneRow.holds Tryz.pinned (OpenSpec.ofChange deskNoneSpec)

/-- ITS FALSE NEIGHBOUR: 'it returns false'. Refute it at one input. -/
def deskNoneWrong : ChangeSpec := { name := "deskNone", fn := fun _ => fun
  | [] => { results := [.lit (.bool false)], args := [] }
  | _ => none }
def DeskNoneWrongFalsely : Prop := deskNoneRow.holds Tryz.pinned (OpenSpec.ofChange deskNoneWrong)

/-- 'ostrakonlaw16.SurveyNewest': WHATEVER THE INPUT: true; the input reads as it did. -/
def surveyNewestSpec : ChangeSpec := { name := "surveyNewest", fn := fun _ => fun
  | [d1, d2] => { results := [.lit (.bool true)], args := [d1, d2] }
  | _ => none }
def surveyNewestRow : OpenClaim := { program := "ytoideahgjgaddaagreat", sum := "2b3af5aaa331b8bfd5beaba45de9381e85cf4a04ef03655aa6714ae730277c18", func := "ostrakon/ostrakonlaw16.SurveyNewest", spec := "surveyNewest", unfollowed := true, recurses := true, plainKeys := false, apart := false }
def SurveyNewestSaid : Prop := surveyNewestRow.holds Tryz.pinned (OpenSpec.ofChange surveyNewestSpec)

/-- ITS FALSE NEIGHBOUR: 'it returns false'. Refute it at one input. -/
def surveyNewestWrong : ChangeSpec := { name := "surveyNewest", fn := fun _ => fun
  | [d1, d2] => { results := [.lit (.bool false)], args := [d1, d2] }
  | _ => none }
def SurveyNewestWrongFalsely : Prop := surveyNewestRow.holds Tryz.pinned (OpenSpec.ofChange surveyNewestWrong)

/-- 'ostrakonlaw16.SurveyTorn': WHATEVER THE INPUT: true; the input reads as it did. -/
def surveyTornSpec : ChangeSpec := { name := "surveyTorn", fn := fun _ => fun
  | [d1, d2, d3] => { results := [.lit (.bool true)], args := [d1, d2, d3] }
  | _ => none }
def surveyTornRow : OpenClaim := { program := "ytoideahgjgaddaagreat", sum := "2b3af5aaa331b8bfd5beaba45de9381e85cf4a04ef03655aa6714ae730277c18", func := "ostrakon/ostrakonlaw16.SurveyTorn", spec := "surveyTorn", unfollowed := true, recurses := true, plainKeys := false, apart := false }
def SurveyTornSaid : Prop := surveyTornRow.holds Tryz.pinned (OpenSpec.ofChange surveyTornSpec)

/-- ITS FALSE NEIGHBOUR: 'it returns false'. Refute it at one input. -/
def surveyTornWrong : ChangeSpec := { name := "surveyTorn", fn := fun _ => fun
  | [d1, d2, d3] => { results := [.lit (.bool false)], args := [d1, d2, d3] }
  | _ => none }
def SurveyTornWrongFalsely : Prop := surveyTornRow.holds Tryz.pinned (OpenSpec.ofChange surveyTornWrong)

/-- 'ostrakonlaw16.SurveyAlike': WHATEVER THE INPUT: true; the input reads as it did. -/
def surveyAlikeSpec : ChangeSpec := { name := "surveyAlike", fn := fun _ => fun
  | [d1, d2, d3] => { results := [.lit (.bool true)], args := [d1, d2, d3] }
  | _ => none }
def surveyAlikeRow : OpenClaim := { program := "ytoideahgjgaddaagreat", sum := "2b3af5aaa331b8bfd5beaba45de9381e85cf4a04ef03655aa6714ae730277c18", func := "ostrakon/ostrakonlaw16.SurveyAlike", spec := "surveyAlike", unfollowed := true, recurses := true, plainKeys := false, apart := false }
def SurveyAlikeSaid : Prop := surveyAlikeRow.holds Tryz.pinned (OpenSpec.ofChange surveyAlikeSpec)

/-- ITS FALSE NEIGHBOUR: 'it returns false'. Refute it at one input. -/
def surveyAlikeWrong : ChangeSpec := { name := "surveyAlike", fn := fun _ => fun
  | [d1, d2, d3] => { results := [.lit (.bool false)], args := [d1, d2, d3] }
  | _ => none }
def SurveyAlikeWrongFalsely : Prop := surveyAlikeRow.holds Tryz.pinned (OpenSpec.ofChange surveyAlikeWrong)

/-- 'ostrakonlaw16.SurveyCopy': WHATEVER THE INPUT: true; the input reads as it did. -/
def surveyCopySpec : ChangeSpec := { name := "surveyCopy", fn := fun _ => fun
  | [d1, d2, d3] => { results := [.lit (.bool true)], args := [d1, d2, d3] }
  | _ => none }
def surveyCopyRow : OpenClaim := { program := "ytoideahgjgaddaagreat", sum := "2b3af5aaa331b8bfd5beaba45de9381e85cf4a04ef03655aa6714ae730277c18", func := "ostrakon/ostrakonlaw16.SurveyCopy", spec := "surveyCopy", unfollowed := true, recurses := true, plainKeys := false, apart := false }
def SurveyCopySaid : Prop := surveyCopyRow.holds Tryz.pinned (OpenSpec.ofChange surveyCopySpec)

/-- ITS FALSE NEIGHBOUR: 'it returns false'. Refute it at one input. -/
def surveyCopyWrong : ChangeSpec := { name := "surveyCopy", fn := fun _ => fun
  | [d1, d2, d3] => { results := [.lit (.bool false)], args := [d1, d2, d3] }
  | _ => none }
def SurveyCopyWrongFalsely : Prop := surveyCopyRow.holds Tryz.pinned (OpenSpec.ofChange surveyCopyWrong)

/-- 'ostrakonlaw16.DeskOrder': WHATEVER THE INPUT: true; the input reads as it did. -/
def deskOrderSpec : ChangeSpec := { name := "deskOrder", fn := fun _ => fun
  | [d] => { results := [.lit (.bool true)], args := [d] }
  | _ => none }
def deskOrderRow : OpenClaim := { program := "ytoideahgjgaddaagreat", sum := "2b3af5aaa331b8bfd5beaba45de9381e85cf4a04ef03655aa6714ae730277c18", func := "ostrakon/ostrakonlaw16.DeskOrder", spec := "deskOrder", unfollowed := true, recurses := true, plainKeys := false, apart := false }
def DeskOrderSaid : Prop := deskOrderRow.holds Tryz.pinned (OpenSpec.ofChange deskOrderSpec)

/-- ITS FALSE NEIGHBOUR: 'it returns false'. Refute it at one input. -/
def deskOrderWrong : ChangeSpec := { name := "deskOrder", fn := fun _ => fun
  | [d] => { results := [.lit (.bool false)], args := [d] }
  | _ => none }
def DeskOrderWrongFalsely : Prop := deskOrderRow.holds Tryz.pinned (OpenSpec.ofChange deskOrderWrong)

/- THE SECOND FORM. 'bulk': how many values and letters a reading holds, each counted each time it is reached (what is shared counts as often as it is met; a slice's spare places count too). A statement '..UptoSaid' is the law's where the arguments, and the package variables that the reading takes, are together of bulk at most 1048576: NARROWER than '..Said'. Prove '..Said' where nothing that the law and all that it calls make is longer than what came in: it says more and counts as full. Else prove '..UptoSaid'. A law counts once. -/
mutual
def uptoBulk {H : Type} : DataW H → Nat
  | .lit (.string bytes) => bytes.length + 1
  | .lit _ => 1
  | .nil => 1
  | .ptr d => uptoBulk d + 1
  | .slice elems spare => uptoBulkAll elems + uptoBulkAll spare + 1
  | .agg parts => uptoBulkAll parts + 1
  | .iface _ d => uptoBulk d + 1
  | .map entries => uptoBulkEntries entries + 1
  | .held _ => 1
def uptoBulkAll {H : Type} : List (DataW H) → Nat
  | [] => 0
  | d :: r => uptoBulk d + uptoBulkAll r
def uptoBulkEntries {H : Type} : List (Lit × DataW H) → Nat
  | [] => 0
  | x :: r => uptoBulkEntry x + uptoBulkEntries r
def uptoBulkEntry {H : Type} : Lit × DataW H → Nat
  | (.string bytes, d) => bytes.length + uptoBulk d + 1
  | (_, d) => uptoBulk d + 1
 end
def uptoSmall : (H : Type) → List (DataW H) → Bool := fun _ ds => decide (uptoBulkAll ds ≤ 1048576)
def OpenSpec.upto (s : _root_.Go.ChangeSpec) : _root_.Go.OpenSpec := { _root_.Go.OpenSpec.ofChange s with cond := some uptoSmall }

/-- 'ostrakonlaw16.SurveyAll', WHERE WHAT IT READS IS OF BULK AT MOST 1048576: true; the input reads as it did. -/
def surveyAllUptoRow : OpenClaim := { program := "ytoideahgjgaddaagreat", sum := "2b3af5aaa331b8bfd5beaba45de9381e85cf4a04ef03655aa6714ae730277c18", func := "ostrakon/ostrakonlaw16.SurveyAll", spec := "surveyAll", unfollowed := true, recurses := true, plainKeys := false, apart := false, narrowed := true }
def SurveyAllUptoSaid : Prop := surveyAllUptoRow.holds Tryz.pinned (OpenSpec.upto surveyAllSpec)

/-- 'ostrakonlaw16.SurveyAgain', WHERE WHAT IT READS IS OF BULK AT MOST 1048576: true; the input reads as it did. -/
def surveyAgainUptoRow : OpenClaim := { program := "ytoideahgjgaddaagreat", sum := "2b3af5aaa331b8bfd5beaba45de9381e85cf4a04ef03655aa6714ae730277c18", func := "ostrakon/ostrakonlaw16.SurveyAgain", spec := "surveyAgain", unfollowed := true, recurses := true, plainKeys := false, apart := false, narrowed := true }
def SurveyAgainUptoSaid : Prop := surveyAgainUptoRow.holds Tryz.pinned (OpenSpec.upto surveyAgainSpec)

/-- 'ostrakonlaw16.SurveyLost', WHERE WHAT IT READS IS OF BULK AT MOST 1048576: true; the input reads as it did. -/
def surveyLostUptoRow : OpenClaim := { program := "ytoideahgjgaddaagreat", sum := "2b3af5aaa331b8bfd5beaba45de9381e85cf4a04ef03655aa6714ae730277c18", func := "ostrakon/ostrakonlaw16.SurveyLost", spec := "surveyLost", unfollowed := true, recurses := true, plainKeys := false, apart := false, narrowed := true }
def SurveyLostUptoSaid : Prop := surveyLostUptoRow.holds Tryz.pinned (OpenSpec.upto surveyLostSpec)

/-- 'ostrakonlaw16.DeskAll', WHERE WHAT IT READS IS OF BULK AT MOST 1048576: true; the input reads as it did. -/
def deskAllUptoRow : OpenClaim := { program := "ytoideahgjgaddaagreat", sum := "2b3af5aaa331b8bfd5beaba45de9381e85cf4a04ef03655aa6714ae730277c18", func := "ostrakon/ostrakonlaw16.DeskAll", spec := "deskAll", unfollowed := true, recurses := true, plainKeys := false, apart := false, narrowed := true }
def DeskAllUptoSaid : Prop := deskAllUptoRow.holds Tryz.pinned (OpenSpec.upto deskAllSpec)

/-- 'ostrakonlaw16.DeskNone', WHERE WHAT IT READS IS OF BULK AT MOST 1048576: true; the input reads as it did. -/
def deskNoneUptoRow : OpenClaim := { program := "ytoideahgjgaddaagreat", sum := "2b3af5aaa331b8bfd5beaba45de9381e85cf4a04ef03655aa6714ae730277c18", func := "ostrakon/ostrakonlaw16.DeskNone", spec := "deskNone", unfollowed := true, recurses := true, plainKeys := false, apart := false, narrowed := true }
def DeskNoneUptoSaid : Prop := deskNoneUptoRow.holds Tryz.pinned (OpenSpec.upto deskNoneSpec)

/-- 'ostrakonlaw16.SurveyNewest', WHERE WHAT IT READS IS OF BULK AT MOST 1048576: true; the input reads as it did. -/
def surveyNewestUptoRow : OpenClaim := { program := "ytoideahgjgaddaagreat", sum := "2b3af5aaa331b8bfd5beaba45de9381e85cf4a04ef03655aa6714ae730277c18", func := "ostrakon/ostrakonlaw16.SurveyNewest", spec := "surveyNewest", unfollowed := true, recurses := true, plainKeys := false, apart := false, narrowed := true }
def SurveyNewestUptoSaid : Prop := surveyNewestUptoRow.holds Tryz.pinned (OpenSpec.upto surveyNewestSpec)

/-- 'ostrakonlaw16.SurveyTorn', WHERE WHAT IT READS IS OF BULK AT MOST 1048576: true; the input reads as it did. -/
def surveyTornUptoRow : OpenClaim := { program := "ytoideahgjgaddaagreat", sum := "2b3af5aaa331b8bfd5beaba45de9381e85cf4a04ef03655aa6714ae730277c18", func := "ostrakon/ostrakonlaw16.SurveyTorn", spec := "surveyTorn", unfollowed := true, recurses := true, plainKeys := false, apart := false, narrowed := true }
def SurveyTornUptoSaid : Prop := surveyTornUptoRow.holds Tryz.pinned (OpenSpec.upto surveyTornSpec)

/-- 'ostrakonlaw16.SurveyAlike', WHERE WHAT IT READS IS OF BULK AT MOST 1048576: true; the input reads as it did. -/
def surveyAlikeUptoRow : OpenClaim := { program := "ytoideahgjgaddaagreat", sum := "2b3af5aaa331b8bfd5beaba45de9381e85cf4a04ef03655aa6714ae730277c18", func := "ostrakon/ostrakonlaw16.SurveyAlike", spec := "surveyAlike", unfollowed := true, recurses := true, plainKeys := false, apart := false, narrowed := true }
def SurveyAlikeUptoSaid : Prop := surveyAlikeUptoRow.holds Tryz.pinned (OpenSpec.upto surveyAlikeSpec)

/-- 'ostrakonlaw16.SurveyCopy', WHERE WHAT IT READS IS OF BULK AT MOST 1048576: true; the input reads as it did. -/
def surveyCopyUptoRow : OpenClaim := { program := "ytoideahgjgaddaagreat", sum := "2b3af5aaa331b8bfd5beaba45de9381e85cf4a04ef03655aa6714ae730277c18", func := "ostrakon/ostrakonlaw16.SurveyCopy", spec := "surveyCopy", unfollowed := true, recurses := true, plainKeys := false, apart := false, narrowed := true }
def SurveyCopyUptoSaid : Prop := surveyCopyUptoRow.holds Tryz.pinned (OpenSpec.upto surveyCopySpec)

/-- 'ostrakonlaw16.DeskOrder', WHERE WHAT IT READS IS OF BULK AT MOST 1048576: true; the input reads as it did. -/
def deskOrderUptoRow : OpenClaim := { program := "ytoideahgjgaddaagreat", sum := "2b3af5aaa331b8bfd5beaba45de9381e85cf4a04ef03655aa6714ae730277c18", func := "ostrakon/ostrakonlaw16.DeskOrder", spec := "deskOrder", unfollowed := true, recurses := true, plainKeys := false, apart := false, narrowed := true }
def DeskOrderUptoSaid : Prop := deskOrderUptoRow.holds Tryz.pinned (OpenSpec.upto deskOrderSpec)

end Rows
end Go.Proofs.YtoideahgjgaddaaGreat
