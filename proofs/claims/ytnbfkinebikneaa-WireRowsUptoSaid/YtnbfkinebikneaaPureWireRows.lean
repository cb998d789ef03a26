/-
  Every All, or its error and place: the code's and the document's are one, for every list of bytes of at most 1048576 values.
-/
import Derived.Test.YtnbfkinebikneaaXWireRows
import Derived.Test.YtnbfkinebikneaaAllP
import Derived.Test.YtnbfkinebikneaaPureWireChunks
namespace Go.Proofs.Ytnbfkinebikneaa.Pure
open Go.RowKit Go.Proofs.Ytnbfkinebikneaa.PA Go.Proofs.YtnbfkinebikneaaW.PrintWords Go.Proofs.YtnbfkinebikneaaW.PrintLast

theorem rows_l0 (xs : List S53) (h : xs.length < 9223372036854775807) (d : Nat) : ∀ (k i : Nat), i + d = xs.length → d < k → recouplaw08_WireRows.l0 k xs xs (i : Int) = some true := by
  induction d with
  | zero =>
    intro k i hi hk
    obtain ⟨k, rfl⟩ : ∃ m, k = m + 1 := ⟨k - 1, by omega⟩
    simp only [recouplaw08_WireRows.l0, recouplaw08_anchored.f, Option.bind_some]
    rw [if_neg (by omega)]
  | succ d ih =>
    intro k i hi hk
    obtain ⟨k, rfl⟩ : ∃ m, k = m + 1 := ⟨k - 1, by omega⟩
    simp only [recouplaw08_WireRows.l0, recouplaw08_anchored.f, Option.bind_some]
    rw [if_pos (by omega), if_pos (by omega), if_pos (by omega), Like_refl, Option.bind_some, if_pos rfl, wrap64_id (by omega) (by omega)]
    have := ih k (i + 1) (by omega) (by omega)
    rw [show ((i + 1 : Nat) : Int) = (i : Int) + 1 by omega] at this
    exact this
theorem allA_len (l : List Int) (f : Nat) : ∀ (p : Nat) (acc : List S53), (allA f l p acc).1.length ≤ acc.length + f := by
  induction f with
  | zero => intro p acc; simp [allA]
  | succ f ih =>
    intro p acc
    rw [allA]
    split
    · split
      · have := ih (p + (readChunkA (l.drop p)).2.2.1.toNat) (acc ++ [⟨(readChunkA (l.drop p)).1, (readChunkA (l.drop p)).2.1⟩])
        rw [List.length_append, List.length_singleton] at this
        omega
      · simp
    · simp

theorem WireRows : recouplaw08_WireRows.PureU := by
  intro l hz hb hm
  have hl : Bytes l := fun x hx => wf_u8 (hb.2 x hx)
  have hlen : l.length ≤ 1048576 := by
    have h1 : ∀ q : List Int, (q.map fun _ => 1).sum = q.length := by
      intro q
      induction q with
      | nil => rfl
      | cons a q ih => rw [List.map_cons, List.sum_cons, ih, List.length_cons]; omega
    have := h1 l
    omega
  refine ⟨11 * l.length + 22, ?_⟩
  unfold recouplaw08_WireRows.f
  rw [All_f _ l hl (by omega) (by omega), rAll_f _ l hl (by omega) (by omega), Option.bind_some, Option.bind_some, if_pos rfl, if_pos rfl]
  have hal := allA_len l (l.length + 1) 0 []
  rw [List.length_nil] at hal
  generalize allA (l.length + 1) l 0 [] = r at hal ⊢
  rw [show 11 * l.length + 22 = (11 * l.length + 21) + 1 by omega]
  simp only [recouplaw08_WireRows.j0]
  rw [if_neg (by simp)]
  exact rows_l0 r.1 (by omega) r.1.length _ 0 (by omega) (by omega)

end Go.Proofs.Ytnbfkinebikneaa.Pure
