/-
  No cell of these rows narrows 'for every input' (looked for: loops, veiled, ifaces, maps, wideKeys, modest, calm, conditions, laid).
  DERIVED. THE GIVEN ROWS OF THIS SEAT. 12 by the template 'for every input the law returns true; each argument reads behind the call as it read before'; 0 by the template 'total and deterministic' (their statements: YtnbfkinebikneaaTotals.lean).
  GIVEN WITH THE SEED: the statements are not yours to turn. If you find one false, say at which input.
  Laid BY PROGRAM, IN A SANDBOX (cutbox-rows.mjs): the forced cells as the released guide's own fill.sh prints them over the translation 198f2b07a8160389… (all of the seat's roots in one cut). By AI agents, Wed Nov 11 2026. No macro, syntax, notation, axiom, sorry.
-/
import Derived.Test.YtnbfkinebikneaaChecked
import GoSem.Claim
import GoSem.ClaimJoined
import GoSem.ClaimMapViews
import Derived.JoinedTies
import Derived.KernelRfl
namespace Go.Proofs.Ytnbfkinebikneaa
/- THE CELL 'sum', in the pinned program and in every row, IS THE sha256 OF THE DUMP (.gsa) THAT YtnbfkinebikneaaProg.lean LOADS. Nothing in Lean hashes anything: it is a label: what it is worth is what the hold of that sum in a sandbox is worth. -/
noncomputable def Try.pinned : Pinned := { name := "ytnbfkinebikneaa", sum := "198f2b07a8160389d5d953efcdc6f70fc6cd7cda941a3c3eec8b618e74bce77e", checked := Try.checked }
namespace Rows
def none {H : Type} : Left H := { results := [], args := [] }

/-- 'recouplaw08.WireNums': WHATEVER THE INPUT: true; the input reads as it did. -/
def wireNumsSpec : ChangeSpec := { name := "wireNums", fn := fun _ => fun
  | [d1, d2] => { results := [.lit (.bool true)], args := [d1, d2] }
  | _ => none }
def wireNumsRow : OpenClaim := { program := "ytnbfkinebikneaa", sum := "198f2b07a8160389d5d953efcdc6f70fc6cd7cda941a3c3eec8b618e74bce77e", func := "recoup/recouplaw08.WireNums", spec := "wireNums", apart := false }
def WireNumsSaid : Prop := wireNumsRow.holds Try.pinned (OpenSpec.ofChange wireNumsSpec)

/-- ITS FALSE NEIGHBOUR: 'it returns false'. Refute it at one input. -/
def wireNumsWrong : ChangeSpec := { name := "wireNums", fn := fun _ => fun
  | [d1, d2] => { results := [.lit (.bool false)], args := [d1, d2] }
  | _ => none }
def WireNumsWrongFalsely : Prop := wireNumsRow.holds Try.pinned (OpenSpec.ofChange wireNumsWrong)

/-- 'recouplaw08.WireSums': WHATEVER THE INPUT: true; the input reads as it did. -/
def wireSumsSpec : ChangeSpec := { name := "wireSums", fn := fun _ => fun
  | [d] => { results := [.lit (.bool true)], args := [d] }
  | _ => none }
def wireSumsRow : OpenClaim := { program := "ytnbfkinebikneaa", sum := "198f2b07a8160389d5d953efcdc6f70fc6cd7cda941a3c3eec8b618e74bce77e", func := "recoup/recouplaw08.WireSums", spec := "wireSums", apart := false }
def WireSumsSaid : Prop := wireSumsRow.holds Try.pinned (OpenSpec.ofChange wireSumsSpec)

/-- ITS FALSE NEIGHBOUR: 'it returns false'. Refute it at one input. -/
def wireSumsWrong : ChangeSpec := { name := "wireSums", fn := fun _ => fun
  | [d] => { results := [.lit (.bool false)], args := [d] }
  | _ => none }
def WireSumsWrongFalsely : Prop := wireSumsRow.holds Try.pinned (OpenSpec.ofChange wireSumsWrong)

/-- 'recouplaw08.WireLinear': WHATEVER THE INPUT: true; the input reads as it did. -/
def wireLinearSpec : ChangeSpec := { name := "wireLinear", fn := fun _ => fun
  | [d1, d2, d3] => { results := [.lit (.bool true)], args := [d1, d2, d3] }
  | _ => none }
def wireLinearRow : OpenClaim := { program := "ytnbfkinebikneaa", sum := "198f2b07a8160389d5d953efcdc6f70fc6cd7cda941a3c3eec8b618e74bce77e", func := "recoup/recouplaw08.WireLinear", spec := "wireLinear", apart := false }
def WireLinearSaid : Prop := wireLinearRow.holds Try.pinned (OpenSpec.ofChange wireLinearSpec)

/-- ITS FALSE NEIGHBOUR: 'it returns false'. Refute it at one input. -/
def wireLinearWrong : ChangeSpec := { name := "wireLinear", fn := fun _ => fun
  | [d1, d2, d3] => { results := [.lit (.bool false)], args := [d1, d2, d3] }
  | _ => none }
def WireLinearWrongFalsely : Prop := wireLinearRow.holds Try.pinned (OpenSpec.ofChange wireLinearWrong)

/-- 'recouplaw08.WireTexts': WHATEVER THE INPUT: true; the input reads as it did. -/
def wireTextsSpec : ChangeSpec := { name := "wireTexts", fn := fun _ => fun
  | [d1, d2] => { results := [.lit (.bool true)], args := [d1, d2] }
  | _ => none }
def wireTextsRow : OpenClaim := { program := "ytnbfkinebikneaa", sum := "198f2b07a8160389d5d953efcdc6f70fc6cd7cda941a3c3eec8b618e74bce77e", func := "recoup/recouplaw08.WireTexts", spec := "wireTexts", apart := false }
def WireTextsSaid : Prop := wireTextsRow.holds Try.pinned (OpenSpec.ofChange wireTextsSpec)

/-- ITS FALSE NEIGHBOUR: 'it returns false'. Refute it at one input. -/
def wireTextsWrong : ChangeSpec := { name := "wireTexts", fn := fun _ => fun
  | [d1, d2] => { results := [.lit (.bool false)], args := [d1, d2] }
  | _ => none }
def WireTextsWrongFalsely : Prop := wireTextsRow.holds Try.pinned (OpenSpec.ofChange wireTextsWrong)

/-- 'recouplaw08.WireRows': WHATEVER THE INPUT: true; the input reads as it did. -/
def wireRowsSpec : ChangeSpec := { name := "wireRows", fn := fun _ => fun
  | [d] => { results := [.lit (.bool true)], args := [d] }
  | _ => none }
def wireRowsRow : OpenClaim := { program := "ytnbfkinebikneaa", sum := "198f2b07a8160389d5d953efcdc6f70fc6cd7cda941a3c3eec8b618e74bce77e", func := "recoup/recouplaw08.WireRows", spec := "wireRows", apart := false }
def WireRowsSaid : Prop := wireRowsRow.holds Try.pinned (OpenSpec.ofChange wireRowsSpec)

/-- ITS FALSE NEIGHBOUR: 'it returns false'. Refute it at one input. -/
def wireRowsWrong : ChangeSpec := { name := "wireRows", fn := fun _ => fun
  | [d] => { results := [.lit (.bool false)], args := [d] }
  | _ => none }
def WireRowsWrongFalsely : Prop := wireRowsRow.holds Try.pinned (OpenSpec.ofChange wireRowsWrong)

/-- 'recouplaw08.WireChunks': WHATEVER THE INPUT: true; the input reads as it did. -/
def wireChunksSpec : ChangeSpec := { name := "wireChunks", fn := fun _ => fun
  | [d1, d2] => { results := [.lit (.bool true)], args := [d1, d2] }
  | _ => none }
def wireChunksRow : OpenClaim := { program := "ytnbfkinebikneaa", sum := "198f2b07a8160389d5d953efcdc6f70fc6cd7cda941a3c3eec8b618e74bce77e", func := "recoup/recouplaw08.WireChunks", spec := "wireChunks", apart := false }
def WireChunksSaid : Prop := wireChunksRow.holds Try.pinned (OpenSpec.ofChange wireChunksSpec)

/-- ITS FALSE NEIGHBOUR: 'it returns false'. Refute it at one input. -/
def wireChunksWrong : ChangeSpec := { name := "wireChunks", fn := fun _ => fun
  | [d1, d2] => { results := [.lit (.bool false)], args := [d1, d2] }
  | _ => none }
def WireChunksWrongFalsely : Prop := wireChunksRow.holds Try.pinned (OpenSpec.ofChange wireChunksWrong)

/-- 'recouplaw08.WireBack': WHATEVER THE INPUT: true; the input reads as it did. -/
def wireBackSpec : ChangeSpec := { name := "wireBack", fn := fun _ => fun
  | [d1, d2, d3] => { results := [.lit (.bool true)], args := [d1, d2, d3] }
  | _ => none }
def wireBackRow : OpenClaim := { program := "ytnbfkinebikneaa", sum := "198f2b07a8160389d5d953efcdc6f70fc6cd7cda941a3c3eec8b618e74bce77e", func := "recoup/recouplaw08.WireBack", spec := "wireBack", apart := false }
def WireBackSaid : Prop := wireBackRow.holds Try.pinned (OpenSpec.ofChange wireBackSpec)

/-- ITS FALSE NEIGHBOUR: 'it returns false'. Refute it at one input. -/
def wireBackWrong : ChangeSpec := { name := "wireBack", fn := fun _ => fun
  | [d1, d2, d3] => { results := [.lit (.bool false)], args := [d1, d2, d3] }
  | _ => none }
def WireBackWrongFalsely : Prop := wireBackRow.holds Try.pinned (OpenSpec.ofChange wireBackWrong)

/-- 'recouplaw08.WireForms': WHATEVER THE INPUT: true; the input reads as it did. -/
def wireFormsSpec : ChangeSpec := { name := "wireForms", fn := fun _ => fun
  | [d] => { results := [.lit (.bool true)], args := [d] }
  | _ => none }
def wireFormsRow : OpenClaim := { program := "ytnbfkinebikneaa", sum := "198f2b07a8160389d5d953efcdc6f70fc6cd7cda941a3c3eec8b618e74bce77e", func := "recoup/recouplaw08.WireForms", spec := "wireForms", apart := false }
def WireFormsSaid : Prop := wireFormsRow.holds Try.pinned (OpenSpec.ofChange wireFormsSpec)

/-- ITS FALSE NEIGHBOUR: 'it returns false'. Refute it at one input. -/
def wireFormsWrong : ChangeSpec := { name := "wireForms", fn := fun _ => fun
  | [d] => { results := [.lit (.bool false)], args := [d] }
  | _ => none }
def WireFormsWrongFalsely : Prop := wireFormsRow.holds Try.pinned (OpenSpec.ofChange wireFormsWrong)

/-- 'recouplaw08.WireTurned': WHATEVER THE INPUT: true; the input reads as it did. -/
def wireTurnedSpec : ChangeSpec := { name := "wireTurned", fn := fun _ => fun
  | [d1, d2, d3] => { results := [.lit (.bool true)], args := [d1, d2, d3] }
  | _ => none }
def wireTurnedRow : OpenClaim := { program := "ytnbfkinebikneaa", sum := "198f2b07a8160389d5d953efcdc6f70fc6cd7cda941a3c3eec8b618e74bce77e", func := "recoup/recouplaw08.WireTurned", spec := "wireTurned", apart := false }
def WireTurnedSaid : Prop := wireTurnedRow.holds Try.pinned (OpenSpec.ofChange wireTurnedSpec)

/-- ITS FALSE NEIGHBOUR: 'it returns false'. Refute it at one input. -/
def wireTurnedWrong : ChangeSpec := { name := "wireTurned", fn := fun _ => fun
  | [d1, d2, d3] => { results := [.lit (.bool false)], args := [d1, d2, d3] }
  | _ => none }
def WireTurnedWrongFalsely : Prop := wireTurnedRow.holds Try.pinned (OpenSpec.ofChange wireTurnedWrong)

/-- 'recouplaw08.WireLines': WHATEVER THE INPUT: true; the input reads as it did. -/
def wireLinesSpec : ChangeSpec := { name := "wireLines", fn := fun _ => fun
  | [d] => { results := [.lit (.bool true)], args := [d] }
  | _ => none }
def wireLinesRow : OpenClaim := { program := "ytnbfkinebikneaa", sum := "198f2b07a8160389d5d953efcdc6f70fc6cd7cda941a3c3eec8b618e74bce77e", func := "recoup/recouplaw08.WireLines", spec := "wireLines", apart := false }
def WireLinesSaid : Prop := wireLinesRow.holds Try.pinned (OpenSpec.ofChange wireLinesSpec)

/-- ITS FALSE NEIGHBOUR: 'it returns false'. Refute it at one input. -/
def wireLinesWrong : ChangeSpec := { name := "wireLines", fn := fun _ => fun
  | [d] => { results := [.lit (.bool false)], args := [d] }
  | _ => none }
def WireLinesWrongFalsely : Prop := wireLinesRow.holds Try.pinned (OpenSpec.ofChange wireLinesWrong)

/-- 'recouplaw08.WireFresh': WHATEVER THE INPUT: true; the input reads as it did. -/
def wireFreshSpec : ChangeSpec := { name := "wireFresh", fn := fun _ => fun
  | [d1, d2] => { results := [.lit (.bool true)], args := [d1, d2] }
  | _ => none }
def wireFreshRow : OpenClaim := { program := "ytnbfkinebikneaa", sum := "198f2b07a8160389d5d953efcdc6f70fc6cd7cda941a3c3eec8b618e74bce77e", func := "recoup/recouplaw08.WireFresh", spec := "wireFresh", apart := false }
def WireFreshSaid : Prop := wireFreshRow.holds Try.pinned (OpenSpec.ofChange wireFreshSpec)

/-- ITS FALSE NEIGHBOUR: 'it returns false'. Refute it at one input. -/
def wireFreshWrong : ChangeSpec := { name := "wireFresh", fn := fun _ => fun
  | [d1, d2] => { results := [.lit (.bool false)], args := [d1, d2] }
  | _ => none }
def WireFreshWrongFalsely : Prop := wireFreshRow.holds Try.pinned (OpenSpec.ofChange wireFreshWrong)

/-- 'recouplaw09.TokenNames': WHATEVER THE INPUT: true; the input reads as it did. -/
def tokenNamesSpec : ChangeSpec := { name := "tokenNames", fn := fun _ => fun
  | [] => { results := [.lit (.bool true)], args := [] }
  | _ => none }
def tokenNamesRow : OpenClaim := { program := "ytnbfkinebikneaa", sum := "198f2b07a8160389d5d953efcdc6f70fc6cd7cda941a3c3eec8b618e74bce77e", func := "recoup/recouplaw09.TokenNames", spec := "tokenNames", apart := false }
def TokenNamesSaid : Prop := tokenNamesRow.holds Try.pinned (OpenSpec.ofChange tokenNamesSpec)

/-- ITS FALSE NEIGHBOUR: 'it returns false'. Refute it at one input. -/
def tokenNamesWrong : ChangeSpec := { name := "tokenNames", fn := fun _ => fun
  | [] => { results := [.lit (.bool false)], args := [] }
  | _ => none }
def TokenNamesWrongFalsely : Prop := tokenNamesRow.holds Try.pinned (OpenSpec.ofChange tokenNamesWrong)

/- THE SECOND FORM. 'bulk': how many values and letters a reading holds, each counted each time it is reached (what is shared counts as often as it is met; a slice's spare places count too). A statement '..UptoSaid' is the law's where the arguments, and the package variables that the reading takes, are together of bulk at most 1048576: NARROWER than '..Said'. Prove '..Said' where nothing that the law and all that it calls make is longer than what came in: it says more and counts as full. Else prove '..UptoSaid'. A law counts once. -/
mutual
def uptoBulk {H : Type} : DataW H → Nat
  | .lit (.string bytes) => bytes.length + 1
  | .lit _ => 1
  | .nil => 1
  | .ptr d => uptoBulk d + 1
  | .slice elems spare => uptoBulkAll elems + uptoBulkAll spare + 1
  | .agg parts => uptoBulkAll parts + 1
  | .iface _ d => uptoBulk d + 1
  | .map entries => uptoBulkEntries entries + 1
  | .held _ => 1
def uptoBulkAll {H : Type} : List (DataW H) → Nat
  | [] => 0
  | d :: r => uptoBulk d + uptoBulkAll r
def uptoBulkEntries {H : Type} : List (Lit × DataW H) → Nat
  | [] => 0
  | x :: r => uptoBulkEntry x + uptoBulkEntries r
def uptoBulkEntry {H : Type} : Lit × DataW H → Nat
  | (.string bytes, d) => bytes.length + uptoBulk d + 1
  | (_, d) => uptoBulk d + 1
 end
def uptoSmall : (H : Type) → List (DataW H) → Bool := fun _ ds => decide (uptoBulkAll ds ≤ 1048576)
def OpenSpec.upto (s : _root_.Go.ChangeSpec) : _root_.Go.OpenSpec := { _root_.Go.OpenSpec.ofChange s with cond := some uptoSmall }

/-- 'recouplaw08.WireNums', WHERE WHAT IT READS IS OF BULK AT MOST 1048576: true; the input reads as it did. -/
def wireNumsUptoRow : OpenClaim := { program := "ytnbfkinebikneaa", sum := "198f2b07a8160389d5d953efcdc6f70fc6cd7cda941a3c3eec8b618e74bce77e", func := "recoup/recouplaw08.WireNums", spec := "wireNums", apart := false, narrowed := true }
def WireNumsUptoSaid : Prop := wireNumsUptoRow.holds Try.pinned (OpenSpec.upto wireNumsSpec)

/-- 'recouplaw08.WireSums', WHERE WHAT IT READS IS OF BULK AT MOST 1048576: true; the input reads as it did. -/
def wireSumsUptoRow : OpenClaim := { program := "ytnbfkinebikneaa", sum := "198f2b07a8160389d5d953efcdc6f70fc6cd7cda941a3c3eec8b618e74bce77e", func := "recoup/recouplaw08.WireSums", spec := "wireSums", apart := false, narrowed := true }
def WireSumsUptoSaid : Prop := wireSumsUptoRow.holds Try.pinned (OpenSpec.upto wireSumsSpec)

/-- 'recouplaw08.WireLinear', WHERE WHAT IT READS IS OF BULK AT MOST 1048576: true; the input reads as it did. -/
def wireLinearUptoRow : OpenClaim := { program := "ytnbfkinebikneaa", sum := "198f2b07a8160389d5d953efcdc6f70fc6cd7cda941a3c3eec8b618e74bce77e", func := "recoup/recouplaw08.WireLinear", spec := "wireLinear", apart := false, narrowed := true }
def WireLinearUptoSaid : Prop := wireLinearUptoRow.holds Try.pinned (OpenSpec.upto wireLinearSpec)

/-- 'recouplaw08.WireTexts', WHERE WHAT IT READS IS OF BULK AT MOST 1048576: true; the input reads as it did. -/
def wireTextsUptoRow : OpenClaim := { program := "ytnbfkinebikneaa", sum := "198f2b07a8160389d5d953efcdc6f70fc6cd7cda941a3c3eec8b618e74bce77e", func := "recoup/recouplaw08.WireTexts", spec := "wireTexts", apart := false, narrowed := true }
def WireTextsUptoSaid : Prop := wireTextsUptoRow.holds Try.pinned (OpenSpec.upto wireTextsSpec)

/-- 'recouplaw08.WireRows', WHERE WHAT IT READS IS OF BULK AT MOST 1048576: true; the input reads as it did. -/
def wireRowsUptoRow : OpenClaim := { program := "ytnbfkinebikneaa", sum := "198f2b07a8160389d5d953efcdc6f70fc6cd7cda941a3c3eec8b618e74bce77e", func := "recoup/recouplaw08.WireRows", spec := "wireRows", apart := false, narrowed := true }
def WireRowsUptoSaid : Prop := wireRowsUptoRow.holds Try.pinned (OpenSpec.upto wireRowsSpec)

/-- 'recouplaw08.WireChunks', WHERE WHAT IT READS IS OF BULK AT MOST 1048576: true; the input reads as it did. -/
def wireChunksUptoRow : OpenClaim := { program := "ytnbfkinebikneaa", sum := "198f2b07a8160389d5d953efcdc6f70fc6cd7cda941a3c3eec8b618e74bce77e", func := "recoup/recouplaw08.WireChunks", spec := "wireChunks", apart := false, narrowed := true }
def WireChunksUptoSaid : Prop := wireChunksUptoRow.holds Try.pinned (OpenSpec.upto wireChunksSpec)

/-- 'recouplaw08.WireBack', WHERE WHAT IT READS IS OF BULK AT MOST 1048576: true; the input reads as it did. -/
def wireBackUptoRow : OpenClaim := { program := "ytnbfkinebikneaa", sum := "198f2b07a8160389d5d953efcdc6f70fc6cd7cda941a3c3eec8b618e74bce77e", func := "recoup/recouplaw08.WireBack", spec := "wireBack", apart := false, narrowed := true }
def WireBackUptoSaid : Prop := wireBackUptoRow.holds Try.pinned (OpenSpec.upto wireBackSpec)

/-- 'recouplaw08.WireForms', WHERE WHAT IT READS IS OF BULK AT MOST 1048576: true; the input reads as it did. -/
def wireFormsUptoRow : OpenClaim := { program := "ytnbfkinebikneaa", sum := "198f2b07a8160389d5d953efcdc6f70fc6cd7cda941a3c3eec8b618e74bce77e", func := "recoup/recouplaw08.WireForms", spec := "wireForms", apart := false, narrowed := true }
def WireFormsUptoSaid : Prop := wireFormsUptoRow.holds Try.pinned (OpenSpec.upto wireFormsSpec)

/-- 'recouplaw08.WireTurned', WHERE WHAT IT READS IS OF BULK AT MOST 1048576: true; the input reads as it did. -/
def wireTurnedUptoRow : OpenClaim := { program := "ytnbfkinebikneaa", sum := "198f2b07a8160389d5d953efcdc6f70fc6cd7cda941a3c3eec8b618e74bce77e", func := "recoup/recouplaw08.WireTurned", spec := "wireTurned", apart := false, narrowed := true }
def WireTurnedUptoSaid : Prop := wireTurnedUptoRow.holds Try.pinned (OpenSpec.upto wireTurnedSpec)

/-- 'recouplaw08.WireLines', WHERE WHAT IT READS IS OF BULK AT MOST 1048576: true; the input reads as it did. -/
def wireLinesUptoRow : OpenClaim := { program := "ytnbfkinebikneaa", sum := "198f2b07a8160389d5d953efcdc6f70fc6cd7cda941a3c3eec8b618e74bce77e", func := "recoup/recouplaw08.WireLines", spec := "wireLines", apart := false, narrowed := true }
def WireLinesUptoSaid : Prop := wireLinesUptoRow.holds Try.pinned (OpenSpec.upto wireLinesSpec)

/-- 'recouplaw08.WireFresh', WHERE WHAT IT READS IS OF BULK AT MOST 1048576: true; the input reads as it did. -/
def wireFreshUptoRow : OpenClaim := { program := "ytnbfkinebikneaa", sum := "198f2b07a8160389d5d953efcdc6f70fc6cd7cda941a3c3eec8b618e74bce77e", func := "recoup/recouplaw08.WireFresh", spec := "wireFresh", apart := false, narrowed := true }
def WireFreshUptoSaid : Prop := wireFreshUptoRow.holds Try.pinned (OpenSpec.upto wireFreshSpec)

/-- 'recouplaw09.TokenNames', WHERE WHAT IT READS IS OF BULK AT MOST 1048576: true; the input reads as it did. -/
def tokenNamesUptoRow : OpenClaim := { program := "ytnbfkinebikneaa", sum := "198f2b07a8160389d5d953efcdc6f70fc6cd7cda941a3c3eec8b618e74bce77e", func := "recoup/recouplaw09.TokenNames", spec := "tokenNames", apart := false, narrowed := true }
def TokenNamesUptoSaid : Prop := tokenNamesUptoRow.holds Try.pinned (OpenSpec.upto tokenNamesSpec)

end Rows
end Go.Proofs.Ytnbfkinebikneaa
