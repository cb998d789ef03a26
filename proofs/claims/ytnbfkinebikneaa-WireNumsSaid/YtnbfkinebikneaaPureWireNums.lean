/-
  Every number's form, and every number that is read, or its error: the code's and the document's are one, for every number and every list of bytes.
-/
import Derived.Test.YtnbfkinebikneaaPA2
import Derived.Test.YtnbfkinebikneaaNumP
namespace Go.Proofs.Ytnbfkinebikneaa.Pure
open Go.RowKit Go.Proofs.Ytnbfkinebikneaa.PA Go.Proofs.YtnbfkinebikneaaW.PrintWords Go.Proofs.YtnbfkinebikneaaW.PrintLast

theorem WireNums : recouplaw08_WireNums.Pure := by
  intro a l hw hm hz hb
  refine ⟨19, ?_⟩
  have ha := wf_i64 hw
  have hl : ∀ x ∈ l, 0 ≤ x ∧ x ≤ 255 := fun x hx => wf_u8 (hb x hx)
  unfold recouplaw08_WireNums.f
  rw [Num_f 19 (by omega) a (by omega), rNum_f 19 (by omega) a (by omega), ReadNum_f 19 (by omega) l hl (by omega), rReadNum_f 19 (by omega) l hl (by omega)]
  simp only [Option.bind_some, Same_refl, if_true]
  simp

end Go.Proofs.Ytnbfkinebikneaa.Pure
