/-
  What is read of a number's bytes is that number; what is read is written as the bytes that were read.
-/
import Derived.Test.YtpdemfnemkmelaaDoorNum
namespace Go.Proofs.YtpdemfnemkmelaaDoor.Num
open Go
set_option linter.unusedVariables false
set_option linter.unusedSimpArgs false

theorem readL_ok (f : Nat) : ∀ (i : Nat) (t : List Int) (a : Int), f + i = 9 → (∀ x ∈ t, 0 ≤ x ∧ x ≤ 255) → (readL f i t a).2.2 = 0 →
    ∃ m : Nat, (readL f i t a).1 = a + m * 128 ^ i ∧ (readL f i t a).2.1 = (i : Int) + (numL m).length ∧ (numL m).length ≤ t.length ∧ t.take (numL m).length = numL m ∧ m < 128 ^ f ∧ (0 < i → m ≠ 0) := by
  induction f with
  | zero => intro i t a hf hb h; simp [readL] at h
  | succ f ih =>
    intro i t a hf hb h
    cases t with
    | nil => simp [readL] at h
    | cons c t =>
      have hc := hb c (by simp)
      by_cases hbad : (0 < i ∧ c = 0) ∨ (i = 8 ∧ 128 ≤ c)
      · simp only [readL] at h; rw [if_pos hbad] at h; simp at h
      · by_cases hs : c < 128
        · simp only [readL] at h ⊢
          rw [if_neg hbad, if_pos hs]
          obtain ⟨m, rfl⟩ := Int.eq_ofNat_of_zero_le hc.1
          refine ⟨m, rfl, ?_, ?_, ?_, ?_, ?_⟩
          · rw [numL_small (by omega)]; rfl
          · rw [numL_small (by omega)]; simp
          · rw [numL_small (by omega)]; simp
          · have : 128 ^ 1 ≤ 128 ^ (f + 1) := Nat.pow_le_pow_right (by decide) (by omega)
            omega
          · intro hi hm
            exact hbad (.inl ⟨hi, by omega⟩)
        · have h' : (readL f (i + 1) t (a + (c - 128) * 128 ^ i)).2.2 = 0 := by
            simp only [readL] at h; rwa [if_neg hbad, if_neg hs] at h
          have hr : readL (f + 1) i (c :: t) a = readL f (i + 1) t (a + (c - 128) * 128 ^ i) := by
            simp only [readL]; rw [if_neg hbad, if_neg hs]
          obtain ⟨m, h1, h2, h3, h4, h5, h6⟩ := ih (i + 1) t (a + (c - 128) * 128 ^ i) (by omega) (fun x hx => hb x (by simp [hx])) h'
          have hm := h6 (by omega)
          obtain ⟨c', rfl⟩ : ∃ c' : Nat, c = ((c' + 128 : Nat) : Int) := ⟨(c - 128).toNat, by omega⟩
          have hc' : c' < 128 := by omega
          have hn : numL (c' + 128 * m) = ((c' + 128 : Nat) : Int) :: numL m := by
            rw [numL_big (by omega), show (c' + 128 * m) % 128 = c' by omega, show (c' + 128 * m) / 128 = m by omega]
          rw [hr]
          refine ⟨c' + 128 * m, ?_, ?_, ?_, ?_, ?_, ?_⟩
          · rw [h1, Int.pow_succ]
            have e : ((c' + 128 : Nat) : Int) - 128 = (c' : Int) := by omega
            have e2 : ((c' + 128 * m : Nat) : Int) = (c' : Int) + 128 * (m : Int) := by omega
            rw [e, e2]
            generalize (128 : Int) ^ i = p
            grind
          · rw [h2, hn, List.length_cons]; push_cast; omega
          · rw [hn, List.length_cons, List.length_cons]; omega
          · rw [hn, List.length_cons, List.take_succ_cons, h4]
          · rw [Nat.pow_succ]; omega
          · intro _; omega

theorem readL_back (f : Nat) : ∀ (i n : Nat) (a : Int) (rest : List Int), f + i = 9 → n < 128 ^ f → (0 < i → n ≠ 0) →
    readL f i (numL n ++ rest) a = (a + n * 128 ^ i, (i : Int) + (numL n).length, 0) := by
  induction f with
  | zero => intro i n a rest hf hn h0; exact absurd (h0 (by omega)) (by omega)
  | succ f ih =>
    intro i n a rest hf hn h0
    by_cases h : 128 ≤ n
    · have hf1 : 0 < f := by
        rcases Nat.eq_zero_or_pos f with h1 | h1
        · subst h1; omega
        · exact h1
      rw [numL_big h, List.cons_append]
      simp only [readL]
      rw [if_neg (by omega), if_neg (by omega), ih (i + 1) (n / 128) _ rest (by omega) (by rw [Nat.pow_succ] at hn; omega) (by omega)]
      simp only [Prod.mk.injEq, and_true]
      constructor
      · have e : ((n % 128 + 128 : Nat) : Int) - 128 = ((n % 128 : Nat) : Int) := by omega
        have e2 : (n : Int) = ((n % 128 : Nat) : Int) + ((n / 128 : Nat) : Int) * 128 := by omega
        rw [e, Int.pow_succ, e2]
        generalize (128 : Int) ^ i = p
        grind
      · rw [List.length_cons]; push_cast; omega
    · rw [numL_small (by omega), List.singleton_append]
      simp only [readL]
      rw [if_neg (by omega), if_pos (by omega)]
      rfl

/-- A number is read by its bytes. -/
theorem readL_err (f : Nat) : ∀ (i : Nat) (t : List Int) (a : Int), (readL f i t a).2.2 ≠ 0 → readL f i t a = (0, 0, 7) ∨ readL f i t a = (0, 0, 8) := by
  induction f with
  | zero => intro i t a h; exact .inr rfl
  | succ f ih =>
    intro i t a h
    cases t with
    | nil => exact .inl rfl
    | cons c t =>
      simp only [readL] at h ⊢
      by_cases hbad : (0 < i ∧ c = 0) ∨ (i = 8 ∧ 128 ≤ c)
      · rw [if_pos hbad]; exact .inr rfl
      · rw [if_neg hbad] at h ⊢
        by_cases hs : c < 128
        · rw [if_pos hs] at h; simp at h
        · rw [if_neg hs] at h ⊢; exact ih _ _ _ h
end Go.Proofs.YtpdemfnemkmelaaDoor.Num
