/-
  NARROWER THAN 'FOR EVERY INPUT', by the rows' own cells (each row's printed sentence says how): NumberEvals: loops · NumberNames: loops · NumberPuts: loops · NumberTurned: loops.
  DERIVED. THE GIVEN ROWS OF THIS SEAT. 5 by the template 'for every input the law returns true; each argument reads behind the call as it read before'; 0 by the template 'total and deterministic' (their statements: YtnojokempdcikaaTotals.lean).
  GIVEN WITH THE SEED: the statements are not yours to turn. If you find one false, say at which input.
  Laid BY PROGRAM, IN A SANDBOX (cutbox-rows.mjs): the forced cells as the released guide's own fill.sh prints them over the translation 1295e8e678b5bf3b… (all of the seat's roots in one cut). By AI agents, Wed Nov 11 2026. No macro, syntax, notation, axiom, sorry.
-/
import Derived.Test.YtnojokempdcikaaChecked
import GoSem.Claim
import GoSem.ClaimJoined
import GoSem.ClaimMapViews
import Derived.JoinedTies
import Derived.KernelRfl
namespace Go.Proofs.Ytnojokempdcikaa
/- THE CELL 'sum', in the pinned program and in every row, IS THE sha256 OF THE DUMP (.gsa) THAT YtnojokempdcikaaProg.lean LOADS. Nothing in Lean hashes anything: it is a label: what it is worth is what the hold of that sum in a sandbox is worth. -/
noncomputable def Try.pinned : Pinned := { name := "ytnojokempdcikaa", sum := "1295e8e678b5bf3b8896448243c17b848a214fa230e89dea9c1c59a8974f7659", checked := Try.checked }
namespace Rows
def none {H : Type} : Left H := { results := [], args := [] }

/-- 'recouplaw12.NumberEvals': WHATEVER THE INPUT: true; the input reads as it did. -/
def numberEvalsSpec : ChangeSpec := { name := "numberEvals", fn := fun _ => fun
  | [d1, d2] => { results := [.lit (.bool true)], args := [d1, d2] }
  | _ => none }
def numberEvalsRow : OpenClaim := { program := "ytnojokempdcikaa", sum := "1295e8e678b5bf3b8896448243c17b848a214fa230e89dea9c1c59a8974f7659", func := "recoup/recouplaw12.NumberEvals", spec := "numberEvals", inPlace := ["internal/bytealg.IndexByteString"], unfollowed := true, recurses := true, loops := true, apart := false }
def NumberEvalsSaid : Prop := numberEvalsRow.holds Try.pinned (OpenSpec.ofChange numberEvalsSpec)

/-- ITS FALSE NEIGHBOUR: 'it returns false'. Refute it at one input. -/
def numberEvalsWrong : ChangeSpec := { name := "numberEvals", fn := fun _ => fun
  | [d1, d2] => { results := [.lit (.bool false)], args := [d1, d2] }
  | _ => none }
def NumberEvalsWrongFalsely : Prop := numberEvalsRow.holds Try.pinned (OpenSpec.ofChange numberEvalsWrong)

/-- 'recouplaw12.NumberNames': WHATEVER THE INPUT: true; the input reads as it did. -/
def numberNamesSpec : ChangeSpec := { name := "numberNames", fn := fun _ => fun
  | [d1, d2, d3] => { results := [.lit (.bool true)], args := [d1, d2, d3] }
  | _ => none }
def numberNamesRow : OpenClaim := { program := "ytnojokempdcikaa", sum := "1295e8e678b5bf3b8896448243c17b848a214fa230e89dea9c1c59a8974f7659", func := "recoup/recouplaw12.NumberNames", spec := "numberNames", inPlace := ["internal/bytealg.IndexByteString"], unfollowed := true, recurses := true, loops := true, apart := false }
def NumberNamesSaid : Prop := numberNamesRow.holds Try.pinned (OpenSpec.ofChange numberNamesSpec)

/-- ITS FALSE NEIGHBOUR: 'it returns false'. Refute it at one input. -/
def numberNamesWrong : ChangeSpec := { name := "numberNames", fn := fun _ => fun
  | [d1, d2, d3] => { results := [.lit (.bool false)], args := [d1, d2, d3] }
  | _ => none }
def NumberNamesWrongFalsely : Prop := numberNamesRow.holds Try.pinned (OpenSpec.ofChange numberNamesWrong)

/-- 'recouplaw12.NumberParts': WHATEVER THE INPUT: true; the input reads as it did. -/
def numberPartsSpec : ChangeSpec := { name := "numberParts", fn := fun _ => fun
  | [d1, d2] => { results := [.lit (.bool true)], args := [d1, d2] }
  | _ => none }
def numberPartsRow : OpenClaim := { program := "ytnojokempdcikaa", sum := "1295e8e678b5bf3b8896448243c17b848a214fa230e89dea9c1c59a8974f7659", func := "recoup/recouplaw12.NumberParts", spec := "numberParts", inPlace := ["internal/bytealg.IndexByteString"], unfollowed := true, recurses := true, apart := false }
def NumberPartsSaid : Prop := numberPartsRow.holds Try.pinned (OpenSpec.ofChange numberPartsSpec)

/-- ITS FALSE NEIGHBOUR: 'it returns false'. Refute it at one input. -/
def numberPartsWrong : ChangeSpec := { name := "numberParts", fn := fun _ => fun
  | [d1, d2] => { results := [.lit (.bool false)], args := [d1, d2] }
  | _ => none }
def NumberPartsWrongFalsely : Prop := numberPartsRow.holds Try.pinned (OpenSpec.ofChange numberPartsWrong)

/-- 'recouplaw12.NumberPuts': WHATEVER THE INPUT: true; the input reads as it did. -/
def numberPutsSpec : ChangeSpec := { name := "numberPuts", fn := fun _ => fun
  | [d1, d2, d3] => { results := [.lit (.bool true)], args := [d1, d2, d3] }
  | _ => none }
def numberPutsRow : OpenClaim := { program := "ytnojokempdcikaa", sum := "1295e8e678b5bf3b8896448243c17b848a214fa230e89dea9c1c59a8974f7659", func := "recoup/recouplaw12.NumberPuts", spec := "numberPuts", inPlace := ["internal/bytealg.IndexByteString"], unfollowed := true, recurses := true, loops := true, apart := false }
def NumberPutsSaid : Prop := numberPutsRow.holds Try.pinned (OpenSpec.ofChange numberPutsSpec)

/-- ITS FALSE NEIGHBOUR: 'it returns false'. Refute it at one input. -/
def numberPutsWrong : ChangeSpec := { name := "numberPuts", fn := fun _ => fun
  | [d1, d2, d3] => { results := [.lit (.bool false)], args := [d1, d2, d3] }
  | _ => none }
def NumberPutsWrongFalsely : Prop := numberPutsRow.holds Try.pinned (OpenSpec.ofChange numberPutsWrong)

/-- 'recouplaw12.NumberTurned': WHATEVER THE INPUT: true; the input reads as it did. -/
def numberTurnedSpec : ChangeSpec := { name := "numberTurned", fn := fun _ => fun
  | [d1, d2] => { results := [.lit (.bool true)], args := [d1, d2] }
  | _ => none }
def numberTurnedRow : OpenClaim := { program := "ytnojokempdcikaa", sum := "1295e8e678b5bf3b8896448243c17b848a214fa230e89dea9c1c59a8974f7659", func := "recoup/recouplaw12.NumberTurned", spec := "numberTurned", inPlace := ["internal/bytealg.IndexByteString"], unfollowed := true, recurses := true, loops := true, apart := false }
def NumberTurnedSaid : Prop := numberTurnedRow.holds Try.pinned (OpenSpec.ofChange numberTurnedSpec)

/-- ITS FALSE NEIGHBOUR: 'it returns false'. Refute it at one input. -/
def numberTurnedWrong : ChangeSpec := { name := "numberTurned", fn := fun _ => fun
  | [d1, d2] => { results := [.lit (.bool false)], args := [d1, d2] }
  | _ => none }
def NumberTurnedWrongFalsely : Prop := numberTurnedRow.holds Try.pinned (OpenSpec.ofChange numberTurnedWrong)

/- THE SECOND FORM. 'bulk': how many values and letters a reading holds, each counted each time it is reached (what is shared counts as often as it is met; a slice's spare places count too). A statement '..UptoSaid' is the law's where the arguments, and the package variables that the reading takes, are together of bulk at most 1048576: NARROWER than '..Said'. Prove '..Said' where nothing that the law and all that it calls make is longer than what came in: it says more and counts as full. Else prove '..UptoSaid'. A law counts once. -/
mutual
def uptoBulk {H : Type} : DataW H → Nat
  | .lit (.string bytes) => bytes.length + 1
  | .lit _ => 1
  | .nil => 1
  | .ptr d => uptoBulk d + 1
  | .slice elems spare => uptoBulkAll elems + uptoBulkAll spare + 1
  | .agg parts => uptoBulkAll parts + 1
  | .iface _ d => uptoBulk d + 1
  | .map entries => uptoBulkEntries entries + 1
  | .held _ => 1
def uptoBulkAll {H : Type} : List (DataW H) → Nat
  | [] => 0
  | d :: r => uptoBulk d + uptoBulkAll r
def uptoBulkEntries {H : Type} : List (Lit × DataW H) → Nat
  | [] => 0
  | x :: r => uptoBulkEntry x + uptoBulkEntries r
def uptoBulkEntry {H : Type} : Lit × DataW H → Nat
  | (.string bytes, d) => bytes.length + uptoBulk d + 1
  | (_, d) => uptoBulk d + 1
 end
def uptoSmall : (H : Type) → List (DataW H) → Bool := fun _ ds => decide (uptoBulkAll ds ≤ 1048576)
def OpenSpec.upto (s : _root_.Go.ChangeSpec) : _root_.Go.OpenSpec := { _root_.Go.OpenSpec.ofChange s with cond := some uptoSmall }

/-- 'recouplaw12.NumberEvals', WHERE WHAT IT READS IS OF BULK AT MOST 1048576: true; the input reads as it did. -/
def numberEvalsUptoRow : OpenClaim := { program := "ytnojokempdcikaa", sum := "1295e8e678b5bf3b8896448243c17b848a214fa230e89dea9c1c59a8974f7659", func := "recoup/recouplaw12.NumberEvals", spec := "numberEvals", inPlace := ["internal/bytealg.IndexByteString"], unfollowed := true, recurses := true, loops := true, apart := false, narrowed := true }
def NumberEvalsUptoSaid : Prop := numberEvalsUptoRow.holds Try.pinned (OpenSpec.upto numberEvalsSpec)

/-- 'recouplaw12.NumberNames', WHERE WHAT IT READS IS OF BULK AT MOST 1048576: true; the input reads as it did. -/
def numberNamesUptoRow : OpenClaim := { program := "ytnojokempdcikaa", sum := "1295e8e678b5bf3b8896448243c17b848a214fa230e89dea9c1c59a8974f7659", func := "recoup/recouplaw12.NumberNames", spec := "numberNames", inPlace := ["internal/bytealg.IndexByteString"], unfollowed := true, recurses := true, loops := true, apart := false, narrowed := true }
def NumberNamesUptoSaid : Prop := numberNamesUptoRow.holds Try.pinned (OpenSpec.upto numberNamesSpec)

/-- 'recouplaw12.NumberParts', WHERE WHAT IT READS IS OF BULK AT MOST 1048576: true; the input reads as it did. -/
def numberPartsUptoRow : OpenClaim := { program := "ytnojokempdcikaa", sum := "1295e8e678b5bf3b8896448243c17b848a214fa230e89dea9c1c59a8974f7659", func := "recoup/recouplaw12.NumberParts", spec := "numberParts", inPlace := ["internal/bytealg.IndexByteString"], unfollowed := true, recurses := true, apart := false, narrowed := true }
def NumberPartsUptoSaid : Prop := numberPartsUptoRow.holds Try.pinned (OpenSpec.upto numberPartsSpec)

/-- 'recouplaw12.NumberPuts', WHERE WHAT IT READS IS OF BULK AT MOST 1048576: true; the input reads as it did. -/
def numberPutsUptoRow : OpenClaim := { program := "ytnojokempdcikaa", sum := "1295e8e678b5bf3b8896448243c17b848a214fa230e89dea9c1c59a8974f7659", func := "recoup/recouplaw12.NumberPuts", spec := "numberPuts", inPlace := ["internal/bytealg.IndexByteString"], unfollowed := true, recurses := true, loops := true, apart := false, narrowed := true }
def NumberPutsUptoSaid : Prop := numberPutsUptoRow.holds Try.pinned (OpenSpec.upto numberPutsSpec)

/-- 'recouplaw12.NumberTurned', WHERE WHAT IT READS IS OF BULK AT MOST 1048576: true; the input reads as it did. -/
def numberTurnedUptoRow : OpenClaim := { program := "ytnojokempdcikaa", sum := "1295e8e678b5bf3b8896448243c17b848a214fa230e89dea9c1c59a8974f7659", func := "recoup/recouplaw12.NumberTurned", spec := "numberTurned", inPlace := ["internal/bytealg.IndexByteString"], unfollowed := true, recurses := true, loops := true, apart := false, narrowed := true }
def NumberTurnedUptoSaid : Prop := numberTurnedUptoRow.holds Try.pinned (OpenSpec.upto numberTurnedSpec)

end Rows
end Go.Proofs.Ytnojokempdcikaa
