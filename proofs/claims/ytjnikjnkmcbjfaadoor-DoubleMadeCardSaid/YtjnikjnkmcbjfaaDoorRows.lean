/-
  NARROWER THAN 'FOR EVERY INPUT', by the rows' own cells (each row's printed sentence says how): DoubleRuns: laid · DoubleBack: laid · DoubleSquares: laid · FeatureNames: laid · FeatureClasses: laid · FeatureNearest: laid · FeatureFar: laid · FeatureLeast: laid · FeatureBack: laid · DoubleMade: laid · FeatureTexts: laid.
  DERIVED. THE GIVEN ROWS OF THIS SEAT. 11 by the template 'for every input the law returns true; each argument reads behind the call as it read before'; 0 by the template 'total and deterministic' (their statements: YtjnikjnkmcbjfaaDoorTotals.lean).
  GIVEN WITH THE SEED: the statements are not yours to turn. If you find one false, say at which input.
  Laid BY PROGRAM, IN A SANDBOX (cutbox-rows.mjs): the forced cells as the released guide's own fill.sh prints them over the translation 04bbf73b75c82899… (all of the seat's roots in one cut). By AI agents, Wed Nov 11 2026. No macro, syntax, notation, axiom, sorry.
-/
import Derived.Test.YtjnikjnkmcbjfaaDoorChecked
import GoSem.PinnedTables
import GoSem.Claim
import GoSem.ClaimJoined
import GoSem.ClaimMapViews
import Derived.JoinedTies
import Derived.KernelRfl
namespace Go.Proofs.YtjnikjnkmcbjfaaDoor
/- THE CELL 'sum', in the pinned program and in every row, IS THE sha256 OF THE DUMP (.gsa) THAT YtjnikjnkmcbjfaaDoorProg.lean LOADS. Nothing in Lean hashes anything: it is a label: what it is worth is what the hold of that sum in a sandbox is worth. -/
noncomputable def Tryd.pinned : Pinned := { name := "ytjnikjnkmcbjfaadoor", sum := "04bbf73b75c828997e72307f774771fb552cfffeb58b80751602d81e05a576f3", checked := Tryd.checked }
namespace Rows
def none {H : Type} : Left H := { results := [], args := [] }

/- WHAT THE LISTED PACKAGE-LEVEL VARIABLES READ AS WHEN THE CALL BEGINS. Each datum BY PROGRAM (the guide's laid-datum.mjs) off the statement by which the dump's own 'gosem.cut.vars' lays the variable. In a bare row this is a premise. The card (YtjnikjnkmcbjfaaDoorCards.lean) ties it to the program's text. -/
def laid_unicode_utf8_acceptRanges {H : Type} : DataW H := .agg [.agg [.lit (.int .u8 128), .lit (.int .u8 191)], .agg [.lit (.int .u8 160), .lit (.int .u8 191)], .agg [.lit (.int .u8 128), .lit (.int .u8 159)], .agg [.lit (.int .u8 144), .lit (.int .u8 191)], .agg [.lit (.int .u8 128), .lit (.int .u8 143)], .agg [.lit (.int .u8 0), .lit (.int .u8 0)], .agg [.lit (.int .u8 0), .lit (.int .u8 0)], .agg [.lit (.int .u8 0), .lit (.int .u8 0)], .agg [.lit (.int .u8 0), .lit (.int .u8 0)], .agg [.lit (.int .u8 0), .lit (.int .u8 0)], .agg [.lit (.int .u8 0), .lit (.int .u8 0)], .agg [.lit (.int .u8 0), .lit (.int .u8 0)], .agg [.lit (.int .u8 0), .lit (.int .u8 0)], .agg [.lit (.int .u8 0), .lit (.int .u8 0)], .agg [.lit (.int .u8 0), .lit (.int .u8 0)], .agg [.lit (.int .u8 0), .lit (.int .u8 0)]]
/-- One of Go's own tables, pinned by name: the form's constant. -/
def laid_unicode_utf8_first : DataW Unit := Go.Pinned.utf8First

/-- 'cognatelaw15.DoubleRuns': WHATEVER THE INPUT: true; the input reads as it did. -/
def doubleRunsSpec : ChangeSpec := { name := "doubleRuns", fn := fun _ => fun
  | [d1, d2] => { results := [.lit (.bool true)], args := [d1, d2] }
  | _ => none }
def doubleRunsRow : OpenClaim := { program := "ytjnikjnkmcbjfaadoor", sum := "04bbf73b75c828997e72307f774771fb552cfffeb58b80751602d81e05a576f3", func := "cognate/cognatelaw15.DoubleRuns", spec := "doubleRuns", inPlace := ["internal/bytealg.IndexByteString", "internal/bytealg.IndexString"], unfollowed := true, recurses := true, named := ["unicode/utf8.first", "unicode/utf8.acceptRanges", "internal/bytealg.MaxLen"], apart := false, laid := [("unicode/utf8.acceptRanges", laid_unicode_utf8_acceptRanges), ("unicode/utf8.first", laid_unicode_utf8_first)] }
def DoubleRunsSaid : Prop := doubleRunsRow.holds Tryd.pinned (OpenSpec.ofChange doubleRunsSpec)

/-- ITS FALSE NEIGHBOUR: 'it returns false'. Refute it at one input. -/
def doubleRunsWrong : ChangeSpec := { name := "doubleRuns", fn := fun _ => fun
  | [d1, d2] => { results := [.lit (.bool false)], args := [d1, d2] }
  | _ => none }
def DoubleRunsWrongFalsely : Prop := doubleRunsRow.holds Tryd.pinned (OpenSpec.ofChange doubleRunsWrong)

/-- 'cognatelaw15.DoubleBack': WHATEVER THE INPUT: true; the input reads as it did. -/
def doubleBackSpec : ChangeSpec := { name := "doubleBack", fn := fun _ => fun
  | [d1, d2, d3] => { results := [.lit (.bool true)], args := [d1, d2, d3] }
  | _ => none }
def doubleBackRow : OpenClaim := { program := "ytjnikjnkmcbjfaadoor", sum := "04bbf73b75c828997e72307f774771fb552cfffeb58b80751602d81e05a576f3", func := "cognate/cognatelaw15.DoubleBack", spec := "doubleBack", inPlace := ["internal/bytealg.IndexByteString", "internal/bytealg.IndexString"], unfollowed := true, recurses := true, named := ["unicode/utf8.first", "unicode/utf8.acceptRanges", "internal/bytealg.MaxLen"], apart := false, laid := [("unicode/utf8.acceptRanges", laid_unicode_utf8_acceptRanges), ("unicode/utf8.first", laid_unicode_utf8_first)] }
def DoubleBackSaid : Prop := doubleBackRow.holds Tryd.pinned (OpenSpec.ofChange doubleBackSpec)

/-- ITS FALSE NEIGHBOUR: 'it returns false'. Refute it at one input. -/
def doubleBackWrong : ChangeSpec := { name := "doubleBack", fn := fun _ => fun
  | [d1, d2, d3] => { results := [.lit (.bool false)], args := [d1, d2, d3] }
  | _ => none }
def DoubleBackWrongFalsely : Prop := doubleBackRow.holds Tryd.pinned (OpenSpec.ofChange doubleBackWrong)

/-- 'cognatelaw15.DoubleSquares': WHATEVER THE INPUT: true; the input reads as it did. -/
def doubleSquaresSpec : ChangeSpec := { name := "doubleSquares", fn := fun _ => fun
  | [d1, d2] => { results := [.lit (.bool true)], args := [d1, d2] }
  | _ => none }
def doubleSquaresRow : OpenClaim := { program := "ytjnikjnkmcbjfaadoor", sum := "04bbf73b75c828997e72307f774771fb552cfffeb58b80751602d81e05a576f3", func := "cognate/cognatelaw15.DoubleSquares", spec := "doubleSquares", inPlace := ["internal/bytealg.IndexByteString", "internal/bytealg.IndexString"], unfollowed := true, recurses := true, named := ["unicode/utf8.first", "unicode/utf8.acceptRanges", "internal/bytealg.MaxLen"], apart := false, laid := [("unicode/utf8.acceptRanges", laid_unicode_utf8_acceptRanges), ("unicode/utf8.first", laid_unicode_utf8_first)] }
def DoubleSquaresSaid : Prop := doubleSquaresRow.holds Tryd.pinned (OpenSpec.ofChange doubleSquaresSpec)

/-- ITS FALSE NEIGHBOUR: 'it returns false'. Refute it at one input. -/
def doubleSquaresWrong : ChangeSpec := { name := "doubleSquares", fn := fun _ => fun
  | [d1, d2] => { results := [.lit (.bool false)], args := [d1, d2] }
  | _ => none }
def DoubleSquaresWrongFalsely : Prop := doubleSquaresRow.holds Tryd.pinned (OpenSpec.ofChange doubleSquaresWrong)

/-- 'cognatelaw02.FeatureNames': WHATEVER THE INPUT: true; the input reads as it did. -/
def featureNamesSpec : ChangeSpec := { name := "featureNames", fn := fun _ => fun
  | [] => { results := [.lit (.bool true)], args := [] }
  | _ => none }
def featureNamesRow : OpenClaim := { program := "ytjnikjnkmcbjfaadoor", sum := "04bbf73b75c828997e72307f774771fb552cfffeb58b80751602d81e05a576f3", func := "cognate/cognatelaw02.FeatureNames", spec := "featureNames", inPlace := ["internal/bytealg.IndexByteString", "internal/bytealg.IndexString", "internal/abi.NoEscape"], unfollowed := true, recurses := true, named := ["unicode/utf8.first", "unicode/utf8.acceptRanges", "internal/bytealg.MaxLen"], apart := false, laid := [("unicode/utf8.acceptRanges", laid_unicode_utf8_acceptRanges), ("unicode/utf8.first", laid_unicode_utf8_first)] }
def FeatureNamesSaid : Prop := featureNamesRow.holds Tryd.pinned (OpenSpec.ofChange featureNamesSpec)

/-- ITS FALSE NEIGHBOUR: 'it returns false'. Refute it at one input. -/
def featureNamesWrong : ChangeSpec := { name := "featureNames", fn := fun _ => fun
  | [] => { results := [.lit (.bool false)], args := [] }
  | _ => none }
def FeatureNamesWrongFalsely : Prop := featureNamesRow.holds Tryd.pinned (OpenSpec.ofChange featureNamesWrong)

/-- 'cognatelaw02.FeatureClasses': WHATEVER THE INPUT: true; the input reads as it did. -/
def featureClassesSpec : ChangeSpec := { name := "featureClasses", fn := fun _ => fun
  | [d1, d2, d3, d4, d5] => { results := [.lit (.bool true)], args := [d1, d2, d3, d4, d5] }
  | _ => none }
def featureClassesRow : OpenClaim := { program := "ytjnikjnkmcbjfaadoor", sum := "04bbf73b75c828997e72307f774771fb552cfffeb58b80751602d81e05a576f3", func := "cognate/cognatelaw02.FeatureClasses", spec := "featureClasses", inPlace := ["internal/bytealg.IndexByteString", "internal/bytealg.IndexString", "internal/abi.NoEscape"], unfollowed := true, recurses := true, named := ["unicode/utf8.first", "unicode/utf8.acceptRanges", "internal/bytealg.MaxLen"], apart := false, laid := [("unicode/utf8.acceptRanges", laid_unicode_utf8_acceptRanges), ("unicode/utf8.first", laid_unicode_utf8_first)] }
def FeatureClassesSaid : Prop := featureClassesRow.holds Tryd.pinned (OpenSpec.ofChange featureClassesSpec)

/-- ITS FALSE NEIGHBOUR: 'it returns false'. Refute it at one input. -/
def featureClassesWrong : ChangeSpec := { name := "featureClasses", fn := fun _ => fun
  | [d1, d2, d3, d4, d5] => { results := [.lit (.bool false)], args := [d1, d2, d3, d4, d5] }
  | _ => none }
def FeatureClassesWrongFalsely : Prop := featureClassesRow.holds Tryd.pinned (OpenSpec.ofChange featureClassesWrong)

/-- 'cognatelaw02.FeatureNearest': WHATEVER THE INPUT: true; the input reads as it did. -/
def featureNearestSpec : ChangeSpec := { name := "featureNearest", fn := fun _ => fun
  | [d1, d2, d3, d4] => { results := [.lit (.bool true)], args := [d1, d2, d3, d4] }
  | _ => none }
def featureNearestRow : OpenClaim := { program := "ytjnikjnkmcbjfaadoor", sum := "04bbf73b75c828997e72307f774771fb552cfffeb58b80751602d81e05a576f3", func := "cognate/cognatelaw02.FeatureNearest", spec := "featureNearest", inPlace := ["internal/bytealg.IndexByteString", "internal/bytealg.IndexString", "internal/abi.NoEscape"], unfollowed := true, recurses := true, named := ["unicode/utf8.first", "unicode/utf8.acceptRanges", "internal/bytealg.MaxLen"], apart := false, laid := [("unicode/utf8.acceptRanges", laid_unicode_utf8_acceptRanges), ("unicode/utf8.first", laid_unicode_utf8_first)] }
def FeatureNearestSaid : Prop := featureNearestRow.holds Tryd.pinned (OpenSpec.ofChange featureNearestSpec)

/-- ITS FALSE NEIGHBOUR: 'it returns false'. Refute it at one input. -/
def featureNearestWrong : ChangeSpec := { name := "featureNearest", fn := fun _ => fun
  | [d1, d2, d3, d4] => { results := [.lit (.bool false)], args := [d1, d2, d3, d4] }
  | _ => none }
def FeatureNearestWrongFalsely : Prop := featureNearestRow.holds Tryd.pinned (OpenSpec.ofChange featureNearestWrong)

/-- 'cognatelaw02.FeatureFar': WHATEVER THE INPUT: true; the input reads as it did. -/
def featureFarSpec : ChangeSpec := { name := "featureFar", fn := fun _ => fun
  | [d1, d2, d3, d4] => { results := [.lit (.bool true)], args := [d1, d2, d3, d4] }
  | _ => none }
def featureFarRow : OpenClaim := { program := "ytjnikjnkmcbjfaadoor", sum := "04bbf73b75c828997e72307f774771fb552cfffeb58b80751602d81e05a576f3", func := "cognate/cognatelaw02.FeatureFar", spec := "featureFar", inPlace := ["internal/bytealg.IndexByteString", "internal/bytealg.IndexString", "internal/abi.NoEscape"], unfollowed := true, recurses := true, named := ["unicode/utf8.first", "unicode/utf8.acceptRanges", "internal/bytealg.MaxLen"], apart := false, laid := [("unicode/utf8.acceptRanges", laid_unicode_utf8_acceptRanges), ("unicode/utf8.first", laid_unicode_utf8_first)] }
def FeatureFarSaid : Prop := featureFarRow.holds Tryd.pinned (OpenSpec.ofChange featureFarSpec)

/-- ITS FALSE NEIGHBOUR: 'it returns false'. Refute it at one input. -/
def featureFarWrong : ChangeSpec := { name := "featureFar", fn := fun _ => fun
  | [d1, d2, d3, d4] => { results := [.lit (.bool false)], args := [d1, d2, d3, d4] }
  | _ => none }
def FeatureFarWrongFalsely : Prop := featureFarRow.holds Tryd.pinned (OpenSpec.ofChange featureFarWrong)

/-- 'cognatelaw02.FeatureLeast': WHATEVER THE INPUT: true; the input reads as it did. -/
def featureLeastSpec : ChangeSpec := { name := "featureLeast", fn := fun _ => fun
  | [d1, d2, d3, d4] => { results := [.lit (.bool true)], args := [d1, d2, d3, d4] }
  | _ => none }
def featureLeastRow : OpenClaim := { program := "ytjnikjnkmcbjfaadoor", sum := "04bbf73b75c828997e72307f774771fb552cfffeb58b80751602d81e05a576f3", func := "cognate/cognatelaw02.FeatureLeast", spec := "featureLeast", inPlace := ["internal/bytealg.IndexByteString", "internal/bytealg.IndexString", "internal/abi.NoEscape"], unfollowed := true, recurses := true, named := ["unicode/utf8.first", "unicode/utf8.acceptRanges", "internal/bytealg.MaxLen"], apart := false, laid := [("unicode/utf8.acceptRanges", laid_unicode_utf8_acceptRanges), ("unicode/utf8.first", laid_unicode_utf8_first)] }
def FeatureLeastSaid : Prop := featureLeastRow.holds Tryd.pinned (OpenSpec.ofChange featureLeastSpec)

/-- ITS FALSE NEIGHBOUR: 'it returns false'. Refute it at one input. -/
def featureLeastWrong : ChangeSpec := { name := "featureLeast", fn := fun _ => fun
  | [d1, d2, d3, d4] => { results := [.lit (.bool false)], args := [d1, d2, d3, d4] }
  | _ => none }
def FeatureLeastWrongFalsely : Prop := featureLeastRow.holds Tryd.pinned (OpenSpec.ofChange featureLeastWrong)

/-- 'cognatelaw02.FeatureBack': WHATEVER THE INPUT: true; the input reads as it did. -/
def featureBackSpec : ChangeSpec := { name := "featureBack", fn := fun _ => fun
  | [d1, d2, d3, d4] => { results := [.lit (.bool true)], args := [d1, d2, d3, d4] }
  | _ => none }
def featureBackRow : OpenClaim := { program := "ytjnikjnkmcbjfaadoor", sum := "04bbf73b75c828997e72307f774771fb552cfffeb58b80751602d81e05a576f3", func := "cognate/cognatelaw02.FeatureBack", spec := "featureBack", inPlace := ["internal/bytealg.IndexByteString", "internal/bytealg.IndexString", "internal/abi.NoEscape"], unfollowed := true, recurses := true, named := ["unicode/utf8.first", "unicode/utf8.acceptRanges", "internal/bytealg.MaxLen"], apart := false, laid := [("unicode/utf8.acceptRanges", laid_unicode_utf8_acceptRanges), ("unicode/utf8.first", laid_unicode_utf8_first)] }
def FeatureBackSaid : Prop := featureBackRow.holds Tryd.pinned (OpenSpec.ofChange featureBackSpec)

/-- ITS FALSE NEIGHBOUR: 'it returns false'. Refute it at one input. -/
def featureBackWrong : ChangeSpec := { name := "featureBack", fn := fun _ => fun
  | [d1, d2, d3, d4] => { results := [.lit (.bool false)], args := [d1, d2, d3, d4] }
  | _ => none }
def FeatureBackWrongFalsely : Prop := featureBackRow.holds Tryd.pinned (OpenSpec.ofChange featureBackWrong)

/-- 'cognatelaw15.DoubleMade': WHATEVER THE INPUT: true; the input reads as it did. -/
def doubleMadeSpec : ChangeSpec := { name := "doubleMade", fn := fun _ => fun
  | [d1, d2, d3, d4] => { results := [.lit (.bool true)], args := [d1, d2, d3, d4] }
  | _ => none }
def doubleMadeRow : OpenClaim := { program := "ytjnikjnkmcbjfaadoor", sum := "04bbf73b75c828997e72307f774771fb552cfffeb58b80751602d81e05a576f3", func := "cognate/cognatelaw15.DoubleMade", spec := "doubleMade", inPlace := ["internal/bytealg.IndexByteString", "internal/bytealg.IndexString"], unfollowed := true, recurses := true, named := ["unicode/utf8.first", "unicode/utf8.acceptRanges", "internal/bytealg.MaxLen"], apart := false, laid := [("unicode/utf8.acceptRanges", laid_unicode_utf8_acceptRanges), ("unicode/utf8.first", laid_unicode_utf8_first)] }
def DoubleMadeSaid : Prop := doubleMadeRow.holds Tryd.pinned (OpenSpec.ofChange doubleMadeSpec)

/-- ITS FALSE NEIGHBOUR: 'it returns false'. Refute it at one input. -/
def doubleMadeWrong : ChangeSpec := { name := "doubleMade", fn := fun _ => fun
  | [d1, d2, d3, d4] => { results := [.lit (.bool false)], args := [d1, d2, d3, d4] }
  | _ => none }
def DoubleMadeWrongFalsely : Prop := doubleMadeRow.holds Tryd.pinned (OpenSpec.ofChange doubleMadeWrong)

/-- 'cognatelaw02.FeatureTexts': WHATEVER THE INPUT: true; the input reads as it did. -/
def featureTextsSpec : ChangeSpec := { name := "featureTexts", fn := fun _ => fun
  | [d1, d2, d3, d4, d5] => { results := [.lit (.bool true)], args := [d1, d2, d3, d4, d5] }
  | _ => none }
def featureTextsRow : OpenClaim := { program := "ytjnikjnkmcbjfaadoor", sum := "04bbf73b75c828997e72307f774771fb552cfffeb58b80751602d81e05a576f3", func := "cognate/cognatelaw02.FeatureTexts", spec := "featureTexts", inPlace := ["internal/bytealg.IndexByteString", "internal/bytealg.IndexString", "internal/abi.NoEscape"], unfollowed := true, recurses := true, named := ["unicode/utf8.first", "unicode/utf8.acceptRanges", "internal/bytealg.MaxLen"], apart := false, laid := [("unicode/utf8.acceptRanges", laid_unicode_utf8_acceptRanges), ("unicode/utf8.first", laid_unicode_utf8_first)] }
def FeatureTextsSaid : Prop := featureTextsRow.holds Tryd.pinned (OpenSpec.ofChange featureTextsSpec)

/-- ITS FALSE NEIGHBOUR: 'it returns false'. Refute it at one input. -/
def featureTextsWrong : ChangeSpec := { name := "featureTexts", fn := fun _ => fun
  | [d1, d2, d3, d4, d5] => { results := [.lit (.bool false)], args := [d1, d2, d3, d4, d5] }
  | _ => none }
def FeatureTextsWrongFalsely : Prop := featureTextsRow.holds Tryd.pinned (OpenSpec.ofChange featureTextsWrong)

/- THE SECOND FORM. 'bulk': how many values and letters a reading holds, each counted each time it is reached (what is shared counts as often as it is met; a slice's spare places count too). A statement '..UptoSaid' is the law's where the arguments, and the package variables that the reading takes, are together of bulk at most 1048576: NARROWER than '..Said'. Prove '..Said' where nothing that the law and all that it calls make is longer than what came in: it says more and counts as full. Else prove '..UptoSaid'. A law counts once. -/
mutual
def uptoBulk {H : Type} : DataW H → Nat
  | .lit (.string bytes) => bytes.length + 1
  | .lit _ => 1
  | .nil => 1
  | .ptr d => uptoBulk d + 1
  | .slice elems spare => uptoBulkAll elems + uptoBulkAll spare + 1
  | .agg parts => uptoBulkAll parts + 1
  | .iface _ d => uptoBulk d + 1
  | .map entries => uptoBulkEntries entries + 1
  | .held _ => 1
def uptoBulkAll {H : Type} : List (DataW H) → Nat
  | [] => 0
  | d :: r => uptoBulk d + uptoBulkAll r
def uptoBulkEntries {H : Type} : List (Lit × DataW H) → Nat
  | [] => 0
  | x :: r => uptoBulkEntry x + uptoBulkEntries r
def uptoBulkEntry {H : Type} : Lit × DataW H → Nat
  | (.string bytes, d) => bytes.length + uptoBulk d + 1
  | (_, d) => uptoBulk d + 1
 end
def uptoSmall : (H : Type) → List (DataW H) → Bool := fun _ ds => decide (uptoBulkAll ds ≤ 1048576)
def OpenSpec.upto (s : _root_.Go.ChangeSpec) : _root_.Go.OpenSpec := { _root_.Go.OpenSpec.ofChange s with cond := some uptoSmall }

/-- 'cognatelaw15.DoubleRuns', WHERE WHAT IT READS IS OF BULK AT MOST 1048576: true; the input reads as it did. -/
def doubleRunsUptoRow : OpenClaim := { program := "ytjnikjnkmcbjfaadoor", sum := "04bbf73b75c828997e72307f774771fb552cfffeb58b80751602d81e05a576f3", func := "cognate/cognatelaw15.DoubleRuns", spec := "doubleRuns", inPlace := ["internal/bytealg.IndexByteString", "internal/bytealg.IndexString"], unfollowed := true, recurses := true, named := ["unicode/utf8.first", "unicode/utf8.acceptRanges", "internal/bytealg.MaxLen"], apart := false, laid := [("unicode/utf8.acceptRanges", laid_unicode_utf8_acceptRanges), ("unicode/utf8.first", laid_unicode_utf8_first)], narrowed := true }
def DoubleRunsUptoSaid : Prop := doubleRunsUptoRow.holds Tryd.pinned (OpenSpec.upto doubleRunsSpec)

/-- 'cognatelaw15.DoubleBack', WHERE WHAT IT READS IS OF BULK AT MOST 1048576: true; the input reads as it did. -/
def doubleBackUptoRow : OpenClaim := { program := "ytjnikjnkmcbjfaadoor", sum := "04bbf73b75c828997e72307f774771fb552cfffeb58b80751602d81e05a576f3", func := "cognate/cognatelaw15.DoubleBack", spec := "doubleBack", inPlace := ["internal/bytealg.IndexByteString", "internal/bytealg.IndexString"], unfollowed := true, recurses := true, named := ["unicode/utf8.first", "unicode/utf8.acceptRanges", "internal/bytealg.MaxLen"], apart := false, laid := [("unicode/utf8.acceptRanges", laid_unicode_utf8_acceptRanges), ("unicode/utf8.first", laid_unicode_utf8_first)], narrowed := true }
def DoubleBackUptoSaid : Prop := doubleBackUptoRow.holds Tryd.pinned (OpenSpec.upto doubleBackSpec)

/-- 'cognatelaw15.DoubleSquares', WHERE WHAT IT READS IS OF BULK AT MOST 1048576: true; the input reads as it did. -/
def doubleSquaresUptoRow : OpenClaim := { program := "ytjnikjnkmcbjfaadoor", sum := "04bbf73b75c828997e72307f774771fb552cfffeb58b80751602d81e05a576f3", func := "cognate/cognatelaw15.DoubleSquares", spec := "doubleSquares", inPlace := ["internal/bytealg.IndexByteString", "internal/bytealg.IndexString"], unfollowed := true, recurses := true, named := ["unicode/utf8.first", "unicode/utf8.acceptRanges", "internal/bytealg.MaxLen"], apart := false, laid := [("unicode/utf8.acceptRanges", laid_unicode_utf8_acceptRanges), ("unicode/utf8.first", laid_unicode_utf8_first)], narrowed := true }
def DoubleSquaresUptoSaid : Prop := doubleSquaresUptoRow.holds Tryd.pinned (OpenSpec.upto doubleSquaresSpec)

/-- 'cognatelaw02.FeatureNames', WHERE WHAT IT READS IS OF BULK AT MOST 1048576: true; the input reads as it did. -/
def featureNamesUptoRow : OpenClaim := { program := "ytjnikjnkmcbjfaadoor", sum := "04bbf73b75c828997e72307f774771fb552cfffeb58b80751602d81e05a576f3", func := "cognate/cognatelaw02.FeatureNames", spec := "featureNames", inPlace := ["internal/bytealg.IndexByteString", "internal/bytealg.IndexString", "internal/abi.NoEscape"], unfollowed := true, recurses := true, named := ["unicode/utf8.first", "unicode/utf8.acceptRanges", "internal/bytealg.MaxLen"], apart := false, laid := [("unicode/utf8.acceptRanges", laid_unicode_utf8_acceptRanges), ("unicode/utf8.first", laid_unicode_utf8_first)], narrowed := true }
def FeatureNamesUptoSaid : Prop := featureNamesUptoRow.holds Tryd.pinned (OpenSpec.upto featureNamesSpec)

/-- 'cognatelaw02.FeatureClasses', WHERE WHAT IT READS IS OF BULK AT MOST 1048576: true; the input reads as it did. -/
def featureClassesUptoRow : OpenClaim := { program := "ytjnikjnkmcbjfaadoor", sum := "04bbf73b75c828997e72307f774771fb552cfffeb58b80751602d81e05a576f3", func := "cognate/cognatelaw02.FeatureClasses", spec := "featureClasses", inPlace := ["internal/bytealg.IndexByteString", "internal/bytealg.IndexString", "internal/abi.NoEscape"], unfollowed := true, recurses := true, named := ["unicode/utf8.first", "unicode/utf8.acceptRanges", "internal/bytealg.MaxLen"], apart := false, laid := [("unicode/utf8.acceptRanges", laid_unicode_utf8_acceptRanges), ("unicode/utf8.first", laid_unicode_utf8_first)], narrowed := true }
def FeatureClassesUptoSaid : Prop := featureClassesUptoRow.holds Tryd.pinned (OpenSpec.upto featureClassesSpec)

/-- 'cognatelaw02.FeatureNearest', WHERE WHAT IT READS IS OF BULK AT MOST 1048576: true; the input reads as it did. -/
def featureNearestUptoRow : OpenClaim := { program := "ytjnikjnkmcbjfaadoor", sum := "04bbf73b75c828997e72307f774771fb552cfffeb58b80751602d81e05a576f3", func := "cognate/cognatelaw02.FeatureNearest", spec := "featureNearest", inPlace := ["internal/bytealg.IndexByteString", "internal/bytealg.IndexString", "internal/abi.NoEscape"], unfollowed := true, recurses := true, named := ["unicode/utf8.first", "unicode/utf8.acceptRanges", "internal/bytealg.MaxLen"], apart := false, laid := [("unicode/utf8.acceptRanges", laid_unicode_utf8_acceptRanges), ("unicode/utf8.first", laid_unicode_utf8_first)], narrowed := true }
def FeatureNearestUptoSaid : Prop := featureNearestUptoRow.holds Tryd.pinned (OpenSpec.upto featureNearestSpec)

/-- 'cognatelaw02.FeatureFar', WHERE WHAT IT READS IS OF BULK AT MOST 1048576: true; the input reads as it did. -/
def featureFarUptoRow : OpenClaim := { program := "ytjnikjnkmcbjfaadoor", sum := "04bbf73b75c828997e72307f774771fb552cfffeb58b80751602d81e05a576f3", func := "cognate/cognatelaw02.FeatureFar", spec := "featureFar", inPlace := ["internal/bytealg.IndexByteString", "internal/bytealg.IndexString", "internal/abi.NoEscape"], unfollowed := true, recurses := true, named := ["unicode/utf8.first", "unicode/utf8.acceptRanges", "internal/bytealg.MaxLen"], apart := false, laid := [("unicode/utf8.acceptRanges", laid_unicode_utf8_acceptRanges), ("unicode/utf8.first", laid_unicode_utf8_first)], narrowed := true }
def FeatureFarUptoSaid : Prop := featureFarUptoRow.holds Tryd.pinned (OpenSpec.upto featureFarSpec)

/-- 'cognatelaw02.FeatureLeast', WHERE WHAT IT READS IS OF BULK AT MOST 1048576: true; the input reads as it did. -/
def featureLeastUptoRow : OpenClaim := { program := "ytjnikjnkmcbjfaadoor", sum := "04bbf73b75c828997e72307f774771fb552cfffeb58b80751602d81e05a576f3", func := "cognate/cognatelaw02.FeatureLeast", spec := "featureLeast", inPlace := ["internal/bytealg.IndexByteString", "internal/bytealg.IndexString", "internal/abi.NoEscape"], unfollowed := true, recurses := true, named := ["unicode/utf8.first", "unicode/utf8.acceptRanges", "internal/bytealg.MaxLen"], apart := false, laid := [("unicode/utf8.acceptRanges", laid_unicode_utf8_acceptRanges), ("unicode/utf8.first", laid_unicode_utf8_first)], narrowed := true }
def FeatureLeastUptoSaid : Prop := featureLeastUptoRow.holds Tryd.pinned (OpenSpec.upto featureLeastSpec)

/-- 'cognatelaw02.FeatureBack', WHERE WHAT IT READS IS OF BULK AT MOST 1048576: true; the input reads as it did. -/
def featureBackUptoRow : OpenClaim := { program := "ytjnikjnkmcbjfaadoor", sum := "04bbf73b75c828997e72307f774771fb552cfffeb58b80751602d81e05a576f3", func := "cognate/cognatelaw02.FeatureBack", spec := "featureBack", inPlace := ["internal/bytealg.IndexByteString", "internal/bytealg.IndexString", "internal/abi.NoEscape"], unfollowed := true, recurses := true, named := ["unicode/utf8.first", "unicode/utf8.acceptRanges", "internal/bytealg.MaxLen"], apart := false, laid := [("unicode/utf8.acceptRanges", laid_unicode_utf8_acceptRanges), ("unicode/utf8.first", laid_unicode_utf8_first)], narrowed := true }
def FeatureBackUptoSaid : Prop := featureBackUptoRow.holds Tryd.pinned (OpenSpec.upto featureBackSpec)

/-- 'cognatelaw15.DoubleMade', WHERE WHAT IT READS IS OF BULK AT MOST 1048576: true; the input reads as it did. -/
def doubleMadeUptoRow : OpenClaim := { program := "ytjnikjnkmcbjfaadoor", sum := "04bbf73b75c828997e72307f774771fb552cfffeb58b80751602d81e05a576f3", func := "cognate/cognatelaw15.DoubleMade", spec := "doubleMade", inPlace := ["internal/bytealg.IndexByteString", "internal/bytealg.IndexString"], unfollowed := true, recurses := true, named := ["unicode/utf8.first", "unicode/utf8.acceptRanges", "internal/bytealg.MaxLen"], apart := false, laid := [("unicode/utf8.acceptRanges", laid_unicode_utf8_acceptRanges), ("unicode/utf8.first", laid_unicode_utf8_first)], narrowed := true }
def DoubleMadeUptoSaid : Prop := doubleMadeUptoRow.holds Tryd.pinned (OpenSpec.upto doubleMadeSpec)

/-- 'cognatelaw02.FeatureTexts', WHERE WHAT IT READS IS OF BULK AT MOST 1048576: true; the input reads as it did. -/
def featureTextsUptoRow : OpenClaim := { program := "ytjnikjnkmcbjfaadoor", sum := "04bbf73b75c828997e72307f774771fb552cfffeb58b80751602d81e05a576f3", func := "cognate/cognatelaw02.FeatureTexts", spec := "featureTexts", inPlace := ["internal/bytealg.IndexByteString", "internal/bytealg.IndexString", "internal/abi.NoEscape"], unfollowed := true, recurses := true, named := ["unicode/utf8.first", "unicode/utf8.acceptRanges", "internal/bytealg.MaxLen"], apart := false, laid := [("unicode/utf8.acceptRanges", laid_unicode_utf8_acceptRanges), ("unicode/utf8.first", laid_unicode_utf8_first)], narrowed := true }
def FeatureTextsUptoSaid : Prop := featureTextsUptoRow.holds Tryd.pinned (OpenSpec.upto featureTextsSpec)

end Rows
end Go.Proofs.YtjnikjnkmcbjfaaDoor
