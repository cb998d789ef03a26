/-
  What is read, as a number or as a chunk, is written as the bytes that were read, for every list of bytes.
-/
import Derived.Test.YtnbfkinebikneaaPA15
import Derived.Test.YtnbfkinebikneaaTextP
namespace Go.Proofs.Ytnbfkinebikneaa.Pure
open Go.RowKit Go.Proofs.Ytnbfkinebikneaa.PA Go.Proofs.YtnbfkinebikneaaW.PrintWords Go.Proofs.YtnbfkinebikneaaW.PrintLast

theorem forms_j0 (k : Nat) (hk : 20 ≤ k) (l : List Int) (hl : Bytes l) (h : l.length < 140737488355328) : recouplaw08_WireForms.j0 k l = some true := by
  obtain ⟨k, rfl⟩ : ∃ m, k = m + 1 := ⟨k - 1, by omega⟩
  simp only [recouplaw08_WireForms.j0, recouplaw08_anchored.f, Option.bind_some]
  rw [Read_f k (by omega) l hl h, Option.bind_some]
  by_cases he : (readChunkA l).2.2.2 = 0
  · obtain ⟨h1, h2, h3, h4, h5, h6, h7⟩ := form_of_read l hl he
    rw [if_pos he, Write_f k (by omega) _ _ ⟨h5, h6⟩ h7 (by omega), Option.bind_some, h1]
    simp only
    rw [if_pos trivial, if_neg (by omega), if_neg (by omega), if_pos (by omega), if_pos (by omega), Same_refl, Option.bind_some, if_pos rfl]
  · rw [if_neg he]

theorem WireForms : recouplaw08_WireForms.Pure := by
  intro l hm hz hb
  refine ⟨20, ?_⟩
  have hl : Bytes l := fun x hx => wf_u8 (hb x hx)
  unfold recouplaw08_WireForms.f
  rw [ReadNum_f 20 (by omega) l hl (by omega), Option.bind_some]
  have hj := forms_j0 20 (by omega) l hl (by omega)
  by_cases he : (readA l).2.2 = 0
  · obtain ⟨h1, h2, h3, h4⟩ := num_of_read l hl he
    rw [if_pos he, Num_f 20 (by omega) _ h4, Option.bind_some, h1]
    simp only
    rw [if_pos trivial, if_neg (by omega), if_neg (by omega), if_pos (by omega), if_pos (by omega), Same_refl, Option.bind_some, if_pos rfl, hj]
  · rw [if_neg he, hj]

end Go.Proofs.Ytnbfkinebikneaa.Pure
