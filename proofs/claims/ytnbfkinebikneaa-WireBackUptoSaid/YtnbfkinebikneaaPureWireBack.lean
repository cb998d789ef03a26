/-
  What is written is read, as a number, a chunk, a text, with any bytes behind it, for arguments of at most 1048576 values and letters.
-/
import Derived.Test.YtnbfkinebikneaaXWireBack
import Derived.Test.YtnbfkinebikneaaTextP
import Derived.Test.YtnbfkinebikneaaPureWireChunks
namespace Go.Proofs.Ytnbfkinebikneaa.Pure
open Go.RowKit Go.Proofs.Ytnbfkinebikneaa.PA Go.Proofs.YtnbfkinebikneaaW.PrintWords Go.Proofs.YtnbfkinebikneaaW.PrintLast Go.Proofs.Ytnbfkinebikneaa.Num

theorem back_j0 (k : Nat) (hk : 20 ≤ k) (n : Nat) (hn : n < 9223372036854775808) (tag : Int) (body behind : List Int) (ht : 0 ≤ tag ∧ tag ≤ 255) (hb : Bytes body) (hbl : body.length ≤ 4194304) (hh : Bytes behind) (hhl : behind.length ≤ 1048576) :
    recouplaw08_WireBack.j0 k (n : Int) behind tag body = some true := by
  obtain ⟨k, rfl⟩ : ∃ m, k = m + 1 := ⟨k - 1, by omega⟩
  have h9 := numL_len9 n hn
  have h9b := numL_len9 body.length (by omega)
  obtain ⟨hr, he, h6, hlen⟩ := read_back tag body behind ht hb hbl
  obtain ⟨ht1, ht2⟩ := text_back body behind hbl
  have hnum : numA (n : Int) = (numL n, 0) := by unfold numA; rw [if_neg (by omega), Int.toNat_natCast]
  have hwb : Bytes (writeA tag body).1 := by
    have h9 : (writeA tag body).1 = (tag :: (textA body).1) ++ four (sumA (tag :: (textA body).1)) := by
      unfold writeA at he ⊢
      by_cases h0 : (textA body).2 = 0
      · rw [if_pos h0]
      · rw [if_neg h0] at he; exact absurd he h0
    rw [h9]
    exact ((textA_bytes body hb).cons ht).append (bytes_four _)
  have e1 := Num_f k (by omega) (n : Int) (by omega)
  have e2 := ReadNum_f k (by omega) (numL n ++ behind) ((bytes_numL n).append hh) (by rw [List.length_append]; omega)
  have e3 := Write_f k (by omega) tag body ht hb (by omega)
  have e4 := Read_f k (by omega) ((writeA tag body).1 ++ behind) (hwb.append hh) (by rw [List.length_append]; omega)
  have e5 := Text_f k (by omega) body (by omega)
  have e6 := ReadText_f k (by omega) (numL body.length ++ body ++ behind) (body.length : Int) (((bytes_numL _).append hb).append hh) (by simp only [List.length_append]; omega)
  rw [hnum] at e1
  rw [readA_back n behind hn] at e2
  rw [hr] at e4
  rw [ht1] at e5
  rw [ht2] at e6
  have hw : writeA tag body = ((writeA tag body).1, 0) := by rw [← he]
  simp only [recouplaw08_WireBack.j0, recouplaw08_anchored.f]
  rw [e1]
  simp only [Option.bind_some]
  rw [Copy_f _ (by omega)]
  simp only [Option.bind_some]
  rw [if_pos (by omega), e2]
  simp only [Option.bind_some]
  rw [e3, hw]
  simp only [Option.bind_some]
  rw [Copy_f _ (by omega)]
  simp only [Option.bind_some]
  rw [if_pos (by omega), e4]
  simp only [Option.bind_some]
  rw [e5]
  simp only [Option.bind_some]
  rw [Copy_f _ (by simp only [List.length_append]; omega)]
  simp only [Option.bind_some]
  rw [if_pos (by simp only [List.length_append]; omega), e6]
  simp only [Option.bind_some, Like_refl, Same_refl, if_true]
  simp

theorem WireBack : recouplaw08_WireBack.PureU := by
  intro n tag body behind hw hg hz hb hm
  have hn := wf_i64 hw
  have ht : 0 ≤ tag ∧ tag ≤ 255 := wf_u8 hg.1
  have hbo : Bytes body := fun x hx => wf_u8 (hg.2.2 x hx)
  have hbl : body.length ≤ 9223372036854775807 := hg.2.1
  have hh : Bytes behind := fun x hx => wf_u8 (hb.2 x hx)
  have h1 : ∀ q : List Int, (q.map fun _ => 1).sum = q.length := by
    intro q
    induction q with
    | nil => rfl
    | cons a q ih => rw [List.map_cons, List.sum_cons, ih, List.length_cons]; omega
  have hhl : behind.length ≤ 1048576 := by have := h1 behind; omega
  refine ⟨20, ?_⟩
  unfold recouplaw08_WireBack.f
  by_cases hl : (body.length : Int) > 4194304
  · rw [if_pos hl]; rfl
  · rw [if_neg hl]
    by_cases h0 : n < 0
    · rw [if_pos h0, wrap64_id (n := n + 1) (by omega) (by omega), wrap64_id (by omega) (by omega)]
      have := back_j0 20 (by omega) (-(n + 1)).toNat (by omega) tag body behind ht hbo (by omega) hh hhl
      rw [Int.toNat_of_nonneg (by omega)] at this
      exact this
    · rw [if_neg h0]
      have := back_j0 20 (by omega) n.toNat (by omega) tag body behind ht hbo (by omega) hh hhl
      rw [Int.toNat_of_nonneg (by omega)] at this
      exact this

end Go.Proofs.Ytnbfkinebikneaa.Pure
