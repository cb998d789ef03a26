/-
  Every chunk's form, and every chunk that is read, or its error: the code's and the document's are one, for every chunk and every list of bytes.
-/
import Derived.Test.YtnbfkinebikneaaXWireChunks
import Derived.Test.YtnbfkinebikneaaTextP
namespace Go.Proofs.Ytnbfkinebikneaa.Pure
open Go.RowKit Go.Proofs.Ytnbfkinebikneaa.PA Go.Proofs.YtnbfkinebikneaaW.PrintWords Go.Proofs.YtnbfkinebikneaaW.PrintLast

theorem Like_refl (a : Int) (l : List Int) : recoupref08_Like.f a l a l = some true := by
  unfold recoupref08_Like.f
  rw [if_pos rfl, Same_refl, Option.bind_some]

theorem WireChunks : recouplaw08_WireChunks.PureS := by
  intro tag body l hg hz hb
  refine ⟨10 * l.length + 41943160, ?_⟩
  have ht : 0 ≤ tag ∧ tag ≤ 255 := wf_u8 hg.1
  have hbo : Bytes body := fun x hx => wf_u8 (hg.2.2 x hx)
  have hbl : body.length ≤ 9223372036854775807 := hg.2.1
  have hl : Bytes l := fun x hx => wf_u8 (hb.2 x hx)
  unfold recouplaw08_WireChunks.f
  rw [Write_f _ (by omega) tag body ht hbo (by omega), rWrite_f _ tag body ht hbo (by omega) (by omega), Read_f _ (by omega) l hl (by omega), rRead_f _ l hl (by omega) (by omega)]
  simp only [Option.bind_some, Same_refl, Like_refl, if_true]
  simp

end Go.Proofs.Ytnbfkinebikneaa.Pure
