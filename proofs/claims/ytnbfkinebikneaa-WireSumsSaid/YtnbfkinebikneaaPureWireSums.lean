/-
  Every sum: the code's, out of a table, and the document's, bit by bit, are one, for every list of bytes.
-/
import Derived.Test.YtnbfkinebikneaaPA6
import Derived.Test.YtnbfkinebikneaaCrcP
namespace Go.Proofs.Ytnbfkinebikneaa.Pure
open Go.RowKit Go.Proofs.Ytnbfkinebikneaa.PA Go.Proofs.YtnbfkinebikneaaW.PrintWords Go.Proofs.YtnbfkinebikneaaW.PrintLast

theorem WireSums : recouplaw08_WireSums.Pure := by
  intro l hm hz hb
  refine ⟨10 * l.length + 1, ?_⟩
  have hl : ∀ x ∈ l, 0 ≤ x ∧ x ≤ 255 := fun x hx => wf_u8 (hb x hx)
  unfold recouplaw08_WireSums.f recouplaw08_anchored.f
  rw [Sum_f l hl, rSum_f _ l hl (by omega) (by omega)]
  simp only [Option.bind_some, if_true]

end Go.Proofs.Ytnbfkinebikneaa.Pure
