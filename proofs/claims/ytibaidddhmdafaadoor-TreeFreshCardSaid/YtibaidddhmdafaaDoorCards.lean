/-
  DERIVED. GIVEN WITH THE SEED: THE CARDS: each row of YtibaidddhmdafaaDoorRows.lean that lists a variable, with what it lists TIED to the program's text (the seventh form; the later family's looks); each row that meets fmt, with fmt's text TOLD by the authors' own Lean function (tested against real Go, not proved from fmt's source: count such statements apart). THE CARD IS WHAT COUNTS. Prove the row's statement (the work); the ties are given (YtibaidddhmdafaaDoorTie.lean); close each card by the builder's one call (the guide's Derived/Test/ToyasCard.lean, 'card_holds'). Laid BY PROGRAM, IN A SANDBOX (cutbox-door.mjs). By AI agents, Wed Nov 11 2026. No macro, syntax, notation, axiom, sorry.
-/
import Derived.Test.YtibaidddhmdafaaDoorRows
import GoSem.ClaimSeven
namespace Go.Proofs.YtibaidddhmdafaaDoor
namespace Rows

/-- THE TIED CARD OF 'recouplaw10.TreeBrackets'. -/
def treeBracketsCard : Claim7 := { stood := { row := treeBracketsRow, standIns := [], harness := (true, "b124946fb700b75e415a9d6c790fede15a25e7543135e8667d53036de2d57c1a"), looks := false }, kinds := [], alts := [], laidByText := true, laidKinds := [.data, .data, .data], laidTests := true, laidLooks := .later }
def TreeBracketsCardSaid : Prop := Claim7.holds Tryd.pinned (.plain (OpenSpec.ofChange treeBracketsSpec)) treeBracketsCard

/-- THE TIED CARD OF 'recouplaw10.TreeFresh'. -/
def treeFreshCard : Claim7 := { stood := { row := treeFreshRow, standIns := [], harness := (true, "b124946fb700b75e415a9d6c790fede15a25e7543135e8667d53036de2d57c1a"), looks := false }, kinds := [], alts := [], laidByText := true, laidKinds := [.data, .data, .data], laidTests := true, laidLooks := .later }
def TreeFreshCardSaid : Prop := Claim7.holds Tryd.pinned (.plain (OpenSpec.ofChange treeFreshSpec)) treeFreshCard

/-- THE TIED CARD OF 'recouplaw10.TreeMays'. -/
def treeMaysCard : Claim7 := { stood := { row := treeMaysRow, standIns := [], harness := (true, "b124946fb700b75e415a9d6c790fede15a25e7543135e8667d53036de2d57c1a"), looks := false }, kinds := [], alts := [], laidByText := true, laidKinds := [.data, .data, .data], laidTests := true, laidLooks := .later }
def TreeMaysCardSaid : Prop := Claim7.holds Tryd.pinned (.plain (OpenSpec.ofChange treeMaysSpec)) treeMaysCard

/-- THE TIED CARD OF 'recouplaw10.TreeNames'. -/
def treeNamesCard : Claim7 := { stood := { row := treeNamesRow, standIns := [], harness := (true, "b124946fb700b75e415a9d6c790fede15a25e7543135e8667d53036de2d57c1a"), looks := false }, kinds := [], alts := [], laidByText := true, laidKinds := [.data, .data, .data], laidTests := true, laidLooks := .later }
def TreeNamesCardSaid : Prop := Claim7.holds Tryd.pinned (.plain (OpenSpec.ofChange treeNamesSpec)) treeNamesCard

/-- THE TIED CARD OF 'recouplaw10.TreeOneText'. -/
def treeOneTextCard : Claim7 := { stood := { row := treeOneTextRow, standIns := [], harness := (true, "b124946fb700b75e415a9d6c790fede15a25e7543135e8667d53036de2d57c1a"), looks := false }, kinds := [], alts := [], laidByText := true, laidKinds := [.data, .data, .data], laidTests := true, laidLooks := .later }
def TreeOneTextCardSaid : Prop := Claim7.holds Tryd.pinned (.plain (OpenSpec.ofChange treeOneTextSpec)) treeOneTextCard

/-- THE TIED CARD OF 'recouplaw10.TreeSames'. -/
def treeSamesCard : Claim7 := { stood := { row := treeSamesRow, standIns := [], harness := (true, "b124946fb700b75e415a9d6c790fede15a25e7543135e8667d53036de2d57c1a"), looks := false }, kinds := [], alts := [], laidByText := true, laidKinds := [.data, .data, .data], laidTests := true, laidLooks := .later }
def TreeSamesCardSaid : Prop := Claim7.holds Tryd.pinned (.plain (OpenSpec.ofChange treeSamesSpec)) treeSamesCard

/-- THE TIED CARD OF 'recouplaw10.TreeTexts'. -/
def treeTextsCard : Claim7 := { stood := { row := treeTextsRow, standIns := [], harness := (true, "b124946fb700b75e415a9d6c790fede15a25e7543135e8667d53036de2d57c1a"), looks := false }, kinds := [], alts := [], laidByText := true, laidKinds := [.data, .data, .data], laidTests := true, laidLooks := .later }
def TreeTextsCardSaid : Prop := Claim7.holds Tryd.pinned (.plain (OpenSpec.ofChange treeTextsSpec)) treeTextsCard

/-- THE SECOND FORM's CARD OF 'recouplaw10.TreeBrackets'. -/
def treeBracketsUptoCard : Claim7 := { stood := { row := treeBracketsUptoRow, standIns := [], harness := (true, "b124946fb700b75e415a9d6c790fede15a25e7543135e8667d53036de2d57c1a"), looks := false }, kinds := [], alts := [], laidByText := true, laidKinds := [.data, .data, .data], laidTests := true, laidLooks := .later }
def TreeBracketsUptoCardSaid : Prop := Claim7.holds Tryd.pinned (.plain (OpenSpec.upto treeBracketsSpec)) treeBracketsUptoCard

/-- THE SECOND FORM's CARD OF 'recouplaw10.TreeFresh'. -/
def treeFreshUptoCard : Claim7 := { stood := { row := treeFreshUptoRow, standIns := [], harness := (true, "b124946fb700b75e415a9d6c790fede15a25e7543135e8667d53036de2d57c1a"), looks := false }, kinds := [], alts := [], laidByText := true, laidKinds := [.data, .data, .data], laidTests := true, laidLooks := .later }
def TreeFreshUptoCardSaid : Prop := Claim7.holds Tryd.pinned (.plain (OpenSpec.upto treeFreshSpec)) treeFreshUptoCard

/-- THE SECOND FORM's CARD OF 'recouplaw10.TreeMays'. -/
def treeMaysUptoCard : Claim7 := { stood := { row := treeMaysUptoRow, standIns := [], harness := (true, "b124946fb700b75e415a9d6c790fede15a25e7543135e8667d53036de2d57c1a"), looks := false }, kinds := [], alts := [], laidByText := true, laidKinds := [.data, .data, .data], laidTests := true, laidLooks := .later }
def TreeMaysUptoCardSaid : Prop := Claim7.holds Tryd.pinned (.plain (OpenSpec.upto treeMaysSpec)) treeMaysUptoCard

/-- THE SECOND FORM's CARD OF 'recouplaw10.TreeNames'. -/
def treeNamesUptoCard : Claim7 := { stood := { row := treeNamesUptoRow, standIns := [], harness := (true, "b124946fb700b75e415a9d6c790fede15a25e7543135e8667d53036de2d57c1a"), looks := false }, kinds := [], alts := [], laidByText := true, laidKinds := [.data, .data, .data], laidTests := true, laidLooks := .later }
def TreeNamesUptoCardSaid : Prop := Claim7.holds Tryd.pinned (.plain (OpenSpec.upto treeNamesSpec)) treeNamesUptoCard

/-- THE SECOND FORM's CARD OF 'recouplaw10.TreeOneText'. -/
def treeOneTextUptoCard : Claim7 := { stood := { row := treeOneTextUptoRow, standIns := [], harness := (true, "b124946fb700b75e415a9d6c790fede15a25e7543135e8667d53036de2d57c1a"), looks := false }, kinds := [], alts := [], laidByText := true, laidKinds := [.data, .data, .data], laidTests := true, laidLooks := .later }
def TreeOneTextUptoCardSaid : Prop := Claim7.holds Tryd.pinned (.plain (OpenSpec.upto treeOneTextSpec)) treeOneTextUptoCard

/-- THE SECOND FORM's CARD OF 'recouplaw10.TreeSames'. -/
def treeSamesUptoCard : Claim7 := { stood := { row := treeSamesUptoRow, standIns := [], harness := (true, "b124946fb700b75e415a9d6c790fede15a25e7543135e8667d53036de2d57c1a"), looks := false }, kinds := [], alts := [], laidByText := true, laidKinds := [.data, .data, .data], laidTests := true, laidLooks := .later }
def TreeSamesUptoCardSaid : Prop := Claim7.holds Tryd.pinned (.plain (OpenSpec.upto treeSamesSpec)) treeSamesUptoCard

/-- THE SECOND FORM's CARD OF 'recouplaw10.TreeTexts'. -/
def treeTextsUptoCard : Claim7 := { stood := { row := treeTextsUptoRow, standIns := [], harness := (true, "b124946fb700b75e415a9d6c790fede15a25e7543135e8667d53036de2d57c1a"), looks := false }, kinds := [], alts := [], laidByText := true, laidKinds := [.data, .data, .data], laidTests := true, laidLooks := .later }
def TreeTextsUptoCardSaid : Prop := Claim7.holds Tryd.pinned (.plain (OpenSpec.upto treeTextsSpec)) treeTextsUptoCard
end Rows
end Go.Proofs.YtibaidddhmdafaaDoor
