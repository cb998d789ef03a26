/-
  Every text's form, and every text that is read, or its error: the code's and the document's are one, for every list of bytes and every bound.
-/
import Derived.Test.YtnbfkinebikneaaPA10
import Derived.Test.YtnbfkinebikneaaTextP
namespace Go.Proofs.Ytnbfkinebikneaa.Pure
open Go.RowKit Go.Proofs.Ytnbfkinebikneaa.PA Go.Proofs.YtnbfkinebikneaaW.PrintWords Go.Proofs.YtnbfkinebikneaaW.PrintLast

theorem WireTexts : recouplaw08_WireTexts.Pure := by
  intro l a hm hz hb hw
  refine ⟨19, ?_⟩
  have hl : Bytes l := fun x hx => wf_u8 (hb x hx)
  unfold recouplaw08_WireTexts.f
  rw [Text_f 19 (by omega) l (by omega), rText_f 19 (by omega) l (by omega), ReadText_f 19 (by omega) l a hl (by omega), rReadText_f 19 (by omega) l a hl (by omega)]
  simp only [Option.bind_some, Same_refl, if_true]
  simp

end Go.Proofs.Ytnbfkinebikneaa.Pure
