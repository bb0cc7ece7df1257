/-
  DERIVED. GIVEN WITH THE SEED: THE CARDS: each row of YtjnikjnkmcbjfaaDoorRows.lean that lists a variable, with what it lists TIED to the program's text (the seventh form; the later family's looks); each row that meets fmt, with fmt's text TOLD by the authors' own Lean function (tested against real Go, not proved from fmt's source: count such statements apart). THE CARD IS WHAT COUNTS. Prove the row's statement (the work); the ties are given (YtjnikjnkmcbjfaaDoorTie.lean); close each card by the builder's one call (the guide's Derived/Test/ToyasCard.lean, 'card_holds'). Laid BY PROGRAM, IN A SANDBOX (cutbox-door.mjs). By AI agents, Wed Nov 11 2026. No macro, syntax, notation, axiom, sorry.
-/
import Derived.Test.YtjnikjnkmcbjfaaDoorRows
import GoSem.ClaimSeven
namespace Go.Proofs.YtjnikjnkmcbjfaaDoor
namespace Rows

/-- THE TIED CARD OF 'cognatelaw15.DoubleRuns'. -/
def doubleRunsCard : Claim7 := { stood := { row := doubleRunsRow, standIns := [], harness := (true, "07f19ef40abc015690a717b99995a9719242b791d3b60aa9dd7b432a3bb69ea5"), looks := false }, kinds := [], alts := [], laidByText := true, laidKinds := [.data, .pinned], laidTests := true, laidLooks := .later }
def DoubleRunsCardSaid : Prop := Claim7.holds Tryd.pinned (.plain (OpenSpec.ofChange doubleRunsSpec)) doubleRunsCard

/-- THE TIED CARD OF 'cognatelaw15.DoubleBack'. -/
def doubleBackCard : Claim7 := { stood := { row := doubleBackRow, standIns := [], harness := (true, "07f19ef40abc015690a717b99995a9719242b791d3b60aa9dd7b432a3bb69ea5"), looks := false }, kinds := [], alts := [], laidByText := true, laidKinds := [.data, .pinned], laidTests := true, laidLooks := .later }
def DoubleBackCardSaid : Prop := Claim7.holds Tryd.pinned (.plain (OpenSpec.ofChange doubleBackSpec)) doubleBackCard

/-- THE TIED CARD OF 'cognatelaw15.DoubleSquares'. -/
def doubleSquaresCard : Claim7 := { stood := { row := doubleSquaresRow, standIns := [], harness := (true, "07f19ef40abc015690a717b99995a9719242b791d3b60aa9dd7b432a3bb69ea5"), looks := false }, kinds := [], alts := [], laidByText := true, laidKinds := [.data, .pinned], laidTests := true, laidLooks := .later }
def DoubleSquaresCardSaid : Prop := Claim7.holds Tryd.pinned (.plain (OpenSpec.ofChange doubleSquaresSpec)) doubleSquaresCard

/-- THE TIED CARD OF 'cognatelaw02.FeatureNames'. -/
def featureNamesCard : Claim7 := { stood := { row := featureNamesRow, standIns := [], harness := (true, "07f19ef40abc015690a717b99995a9719242b791d3b60aa9dd7b432a3bb69ea5"), looks := false }, kinds := [], alts := [], laidByText := true, laidKinds := [.data, .pinned], laidTests := true, laidLooks := .later }
def FeatureNamesCardSaid : Prop := Claim7.holds Tryd.pinned (.plain (OpenSpec.ofChange featureNamesSpec)) featureNamesCard

/-- THE TIED CARD OF 'cognatelaw02.FeatureClasses'. -/
def featureClassesCard : Claim7 := { stood := { row := featureClassesRow, standIns := [], harness := (true, "07f19ef40abc015690a717b99995a9719242b791d3b60aa9dd7b432a3bb69ea5"), looks := false }, kinds := [], alts := [], laidByText := true, laidKinds := [.data, .pinned], laidTests := true, laidLooks := .later }
def FeatureClassesCardSaid : Prop := Claim7.holds Tryd.pinned (.plain (OpenSpec.ofChange featureClassesSpec)) featureClassesCard

/-- THE TIED CARD OF 'cognatelaw02.FeatureNearest'. -/
def featureNearestCard : Claim7 := { stood := { row := featureNearestRow, standIns := [], harness := (true, "07f19ef40abc015690a717b99995a9719242b791d3b60aa9dd7b432a3bb69ea5"), looks := false }, kinds := [], alts := [], laidByText := true, laidKinds := [.data, .pinned], laidTests := true, laidLooks := .later }
def FeatureNearestCardSaid : Prop := Claim7.holds Tryd.pinned (.plain (OpenSpec.ofChange featureNearestSpec)) featureNearestCard

/-- THE TIED CARD OF 'cognatelaw02.FeatureFar'. -/
def featureFarCard : Claim7 := { stood := { row := featureFarRow, standIns := [], harness := (true, "07f19ef40abc015690a717b99995a9719242b791d3b60aa9dd7b432a3bb69ea5"), looks := false }, kinds := [], alts := [], laidByText := true, laidKinds := [.data, .pinned], laidTests := true, laidLooks := .later }
def FeatureFarCardSaid : Prop := Claim7.holds Tryd.pinned (.plain (OpenSpec.ofChange featureFarSpec)) featureFarCard

/-- THE TIED CARD OF 'cognatelaw02.FeatureLeast'. -/
def featureLeastCard : Claim7 := { stood := { row := featureLeastRow, standIns := [], harness := (true, "07f19ef40abc015690a717b99995a9719242b791d3b60aa9dd7b432a3bb69ea5"), looks := false }, kinds := [], alts := [], laidByText := true, laidKinds := [.data, .pinned], laidTests := true, laidLooks := .later }
def FeatureLeastCardSaid : Prop := Claim7.holds Tryd.pinned (.plain (OpenSpec.ofChange featureLeastSpec)) featureLeastCard

/-- THE TIED CARD OF 'cognatelaw02.FeatureBack'. -/
def featureBackCard : Claim7 := { stood := { row := featureBackRow, standIns := [], harness := (true, "07f19ef40abc015690a717b99995a9719242b791d3b60aa9dd7b432a3bb69ea5"), looks := false }, kinds := [], alts := [], laidByText := true, laidKinds := [.data, .pinned], laidTests := true, laidLooks := .later }
def FeatureBackCardSaid : Prop := Claim7.holds Tryd.pinned (.plain (OpenSpec.ofChange featureBackSpec)) featureBackCard

/-- THE TIED CARD OF 'cognatelaw15.DoubleMade'. -/
def doubleMadeCard : Claim7 := { stood := { row := doubleMadeRow, standIns := [], harness := (true, "07f19ef40abc015690a717b99995a9719242b791d3b60aa9dd7b432a3bb69ea5"), looks := false }, kinds := [], alts := [], laidByText := true, laidKinds := [.data, .pinned], laidTests := true, laidLooks := .later }
def DoubleMadeCardSaid : Prop := Claim7.holds Tryd.pinned (.plain (OpenSpec.ofChange doubleMadeSpec)) doubleMadeCard

/-- THE TIED CARD OF 'cognatelaw02.FeatureTexts'. -/
def featureTextsCard : Claim7 := { stood := { row := featureTextsRow, standIns := [], harness := (true, "07f19ef40abc015690a717b99995a9719242b791d3b60aa9dd7b432a3bb69ea5"), looks := false }, kinds := [], alts := [], laidByText := true, laidKinds := [.data, .pinned], laidTests := true, laidLooks := .later }
def FeatureTextsCardSaid : Prop := Claim7.holds Tryd.pinned (.plain (OpenSpec.ofChange featureTextsSpec)) featureTextsCard

/-- THE SECOND FORM's CARD OF 'cognatelaw15.DoubleRuns'. -/
def doubleRunsUptoCard : Claim7 := { stood := { row := doubleRunsUptoRow, standIns := [], harness := (true, "07f19ef40abc015690a717b99995a9719242b791d3b60aa9dd7b432a3bb69ea5"), looks := false }, kinds := [], alts := [], laidByText := true, laidKinds := [.data, .pinned], laidTests := true, laidLooks := .later }
def DoubleRunsUptoCardSaid : Prop := Claim7.holds Tryd.pinned (.plain (OpenSpec.upto doubleRunsSpec)) doubleRunsUptoCard

/-- THE SECOND FORM's CARD OF 'cognatelaw15.DoubleBack'. -/
def doubleBackUptoCard : Claim7 := { stood := { row := doubleBackUptoRow, standIns := [], harness := (true, "07f19ef40abc015690a717b99995a9719242b791d3b60aa9dd7b432a3bb69ea5"), looks := false }, kinds := [], alts := [], laidByText := true, laidKinds := [.data, .pinned], laidTests := true, laidLooks := .later }
def DoubleBackUptoCardSaid : Prop := Claim7.holds Tryd.pinned (.plain (OpenSpec.upto doubleBackSpec)) doubleBackUptoCard

/-- THE SECOND FORM's CARD OF 'cognatelaw15.DoubleSquares'. -/
def doubleSquaresUptoCard : Claim7 := { stood := { row := doubleSquaresUptoRow, standIns := [], harness := (true, "07f19ef40abc015690a717b99995a9719242b791d3b60aa9dd7b432a3bb69ea5"), looks := false }, kinds := [], alts := [], laidByText := true, laidKinds := [.data, .pinned], laidTests := true, laidLooks := .later }
def DoubleSquaresUptoCardSaid : Prop := Claim7.holds Tryd.pinned (.plain (OpenSpec.upto doubleSquaresSpec)) doubleSquaresUptoCard

/-- THE SECOND FORM's CARD OF 'cognatelaw02.FeatureNames'. -/
def featureNamesUptoCard : Claim7 := { stood := { row := featureNamesUptoRow, standIns := [], harness := (true, "07f19ef40abc015690a717b99995a9719242b791d3b60aa9dd7b432a3bb69ea5"), looks := false }, kinds := [], alts := [], laidByText := true, laidKinds := [.data, .pinned], laidTests := true, laidLooks := .later }
def FeatureNamesUptoCardSaid : Prop := Claim7.holds Tryd.pinned (.plain (OpenSpec.upto featureNamesSpec)) featureNamesUptoCard

/-- THE SECOND FORM's CARD OF 'cognatelaw02.FeatureClasses'. -/
def featureClassesUptoCard : Claim7 := { stood := { row := featureClassesUptoRow, standIns := [], harness := (true, "07f19ef40abc015690a717b99995a9719242b791d3b60aa9dd7b432a3bb69ea5"), looks := false }, kinds := [], alts := [], laidByText := true, laidKinds := [.data, .pinned], laidTests := true, laidLooks := .later }
def FeatureClassesUptoCardSaid : Prop := Claim7.holds Tryd.pinned (.plain (OpenSpec.upto featureClassesSpec)) featureClassesUptoCard

/-- THE SECOND FORM's CARD OF 'cognatelaw02.FeatureNearest'. -/
def featureNearestUptoCard : Claim7 := { stood := { row := featureNearestUptoRow, standIns := [], harness := (true, "07f19ef40abc015690a717b99995a9719242b791d3b60aa9dd7b432a3bb69ea5"), looks := false }, kinds := [], alts := [], laidByText := true, laidKinds := [.data, .pinned], laidTests := true, laidLooks := .later }
def FeatureNearestUptoCardSaid : Prop := Claim7.holds Tryd.pinned (.plain (OpenSpec.upto featureNearestSpec)) featureNearestUptoCard

/-- THE SECOND FORM's CARD OF 'cognatelaw02.FeatureFar'. -/
def featureFarUptoCard : Claim7 := { stood := { row := featureFarUptoRow, standIns := [], harness := (true, "07f19ef40abc015690a717b99995a9719242b791d3b60aa9dd7b432a3bb69ea5"), looks := false }, kinds := [], alts := [], laidByText := true, laidKinds := [.data, .pinned], laidTests := true, laidLooks := .later }
def FeatureFarUptoCardSaid : Prop := Claim7.holds Tryd.pinned (.plain (OpenSpec.upto featureFarSpec)) featureFarUptoCard

/-- THE SECOND FORM's CARD OF 'cognatelaw02.FeatureLeast'. -/
def featureLeastUptoCard : Claim7 := { stood := { row := featureLeastUptoRow, standIns := [], harness := (true, "07f19ef40abc015690a717b99995a9719242b791d3b60aa9dd7b432a3bb69ea5"), looks := false }, kinds := [], alts := [], laidByText := true, laidKinds := [.data, .pinned], laidTests := true, laidLooks := .later }
def FeatureLeastUptoCardSaid : Prop := Claim7.holds Tryd.pinned (.plain (OpenSpec.upto featureLeastSpec)) featureLeastUptoCard

/-- THE SECOND FORM's CARD OF 'cognatelaw02.FeatureBack'. -/
def featureBackUptoCard : Claim7 := { stood := { row := featureBackUptoRow, standIns := [], harness := (true, "07f19ef40abc015690a717b99995a9719242b791d3b60aa9dd7b432a3bb69ea5"), looks := false }, kinds := [], alts := [], laidByText := true, laidKinds := [.data, .pinned], laidTests := true, laidLooks := .later }
def FeatureBackUptoCardSaid : Prop := Claim7.holds Tryd.pinned (.plain (OpenSpec.upto featureBackSpec)) featureBackUptoCard

/-- THE SECOND FORM's CARD OF 'cognatelaw15.DoubleMade'. -/
def doubleMadeUptoCard : Claim7 := { stood := { row := doubleMadeUptoRow, standIns := [], harness := (true, "07f19ef40abc015690a717b99995a9719242b791d3b60aa9dd7b432a3bb69ea5"), looks := false }, kinds := [], alts := [], laidByText := true, laidKinds := [.data, .pinned], laidTests := true, laidLooks := .later }
def DoubleMadeUptoCardSaid : Prop := Claim7.holds Tryd.pinned (.plain (OpenSpec.upto doubleMadeSpec)) doubleMadeUptoCard

/-- THE SECOND FORM's CARD OF 'cognatelaw02.FeatureTexts'. -/
def featureTextsUptoCard : Claim7 := { stood := { row := featureTextsUptoRow, standIns := [], harness := (true, "07f19ef40abc015690a717b99995a9719242b791d3b60aa9dd7b432a3bb69ea5"), looks := false }, kinds := [], alts := [], laidByText := true, laidKinds := [.data, .pinned], laidTests := true, laidLooks := .later }
def FeatureTextsUptoCardSaid : Prop := Claim7.holds Tryd.pinned (.plain (OpenSpec.upto featureTextsSpec)) featureTextsUptoCard
end Rows
end Go.Proofs.YtjnikjnkmcbjfaaDoor
