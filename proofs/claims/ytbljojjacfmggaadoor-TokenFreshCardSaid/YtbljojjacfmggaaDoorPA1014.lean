/- Printed by a program of this repo over the kit's printer: functions of the given program as plain Lean functions, each with the proof that the call does what it says. -/
import Derived.Test.YtbljojjacfmggaaDoorPA0
import Derived.Test.YtbljojjacfmggaaDoorPA1032
import Derived.Deep.WholeRow
import Derived.Laws.Tables
namespace Go.Proofs.YtbljojjacfmggaaDoor.PA
open Go.RowKit Go.Proofs.YtbljojjacfmggaaDoorW.PrintWords Go.Proofs.YtbljojjacfmggaaDoorW.PrintLast Go.Proofs.YtbljojjacfmggaaDoorW.PrintMore
attribute [local go_sem] max2_int min2_int max_two min_two max_three min_three max_four min_four   -- for this text's walks alone
set_option linter.unusedVariables false
set_option linter.unusedSimpArgs false

/-! ### token_Words: function 14 -/
--OWNPART Derived.Deep.WholeRow Derived.Laws.Tables
open Go.RowKit
def token_Words.f : Option (List ByteArray) := some wordList
theorem token_Words.walk (w : World) : Calls Tryd.prog 14 #[] w fun e w' => ∃ g, e = .returned (.slice (some ⟨g, 0, none⟩) 17 17) ∧ w'.heap[g]? = some (.cells wordCells 63) ∧ Below w.heap.size w w' := by
  obtain ⟨hz, hi0⟩ := zero_of_info words_info
  have HI := Aside0.mk (show (Tryd.prog.info? 63).map (·.size) = some wordCells.size from hi0)
  clear hi0
  go_enter Tryd.func14, Tryd.ntmps14
  go_wp2_with (first | (go_at_call 32; refine (token_words.calls _).mono ?_; rintro e w1 ⟨rfl, hb⟩; have HB := Aside0.mk hb; clear hb) | (refine wpList_store_row rfl 63 _ _ rfl w1.heap.size wordCells rfl rfl 63 wordNone (words_heap _ _) HI.out rfl wordCells_one ?_; rw [World.setRow_alloc_new]))
  go_ret
  exact ⟨w1.heap.size, rfl, words_heap _ _, HB.out.alloc HB.out.size _⟩

end Go.Proofs.YtbljojjacfmggaaDoor.PA
