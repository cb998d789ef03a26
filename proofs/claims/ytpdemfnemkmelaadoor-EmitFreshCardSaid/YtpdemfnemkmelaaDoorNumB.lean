/-
  The printed functions of numbers in wire form come to the plain law's words.
-/
import Derived.Test.YtpdemfnemkmelaaDoorPAM0
import Derived.Test.YtpdemfnemkmelaaDoorNum
import Derived.OpenShut
namespace Go.Proofs.YtpdemfnemkmelaaDoor.PA
open Go Go.RowKit Go.Proofs.YtpdemfnemkmelaaDoorW.PrintWords Go.Proofs.YtpdemfnemkmelaaDoorW.PrintLast Go.Proofs.YtpdemfnemkmelaaDoorW.PrintMore Go.Proofs.YtpdemfnemkmelaaDoor.Num
set_option linter.unusedVariables false
set_option linter.unusedSimpArgs false

theorem wf_i64 {a : Int} (h : (Lit.int .i64 a).wf = true) : -9223372036854775808 ≤ a ∧ a ≤ 9223372036854775807 := bounds_i64 h
theorem wf_u8 {a : Int} (h : (Lit.int .u8 a).wf = true) : 0 ≤ a ∧ a ≤ 255 := bounds_u8 h

/-- What Num answers. -/
def numA (a : Int) : List Int × Int := if a < 0 then ([], 2) else (numL a.toNat, 0)

/-- What ReadNum answers. -/
def readA (b : List Int) : Int × Int × Int := readL 9 0 b 0

theorem rd_drop (l : List Int) (i : Nat) (h : i < l.length) : l.drop i = rd l i :: l.drop (i + 1) := by
  rw [List.drop_eq_getElem_cons h]; unfold rd; simp [h]
theorem rd_mem (l : List Int) (i : Nat) (h : i < l.length) : rd l i ∈ l := by
  unfold rd; simp [h]

theorem wrap64_id {n : Int} (h : -9223372036854775808 ≤ n) (h1 : n < 9223372036854775808) : wrap64 n = n := by unfold wrap64; omega

theorem shl_group (c : Int) (i : Nat) (hi : i ≤ 8) : shl .i64 c (7 * (i : Int)) = IntKind.i64.wrap (c * 2 ^ (7 * i)) := by
  unfold shl
  have : min (7 * (i : Int)).toNat IntKind.i64.bits = 7 * i := by have : IntKind.i64.bits = 64 := rfl; omega
  rw [this]

theorem grow_group (i : Nat) (a c : Int) (ha : 0 ≤ a) (ha1 : a < 128 ^ i) (hc : 0 ≤ c) (hc1 : c < 128) : 0 ≤ a + c * 128 ^ i ∧ a + c * 128 ^ i < 128 ^ (i + 1) := by
  have hp : (0 : Int) < 128 ^ i := Int.pow_pos (by decide)
  have h0 : 0 ≤ c * 128 ^ i := Int.mul_nonneg hc (by omega)
  have h1 : c * 128 ^ i ≤ 127 * 128 ^ i := Int.mul_le_mul_of_nonneg_right (by omega) (by omega)
  rw [Int.pow_succ]
  omega

theorem ReadNum_l0 (l : List Int) (hw : ∀ x ∈ l, 0 ≤ x ∧ x ≤ 255) (hl : l.length < 9223372036854775808) (f : Nat) : ∀ (k i : Nat) (a : Int), f + i = 9 → 2 * f < k → 0 ≤ a → a < 128 ^ i →
    wire_ReadNum.l0 k l a i = some (readL f i (l.drop i) a) := by
  induction f with
  | zero =>
    intro k i a hf hk ha ha1
    obtain ⟨k, rfl⟩ : ∃ m, k = m + 1 := ⟨k - 1, by omega⟩
    simp only [wire_ReadNum.l0]
    rw [if_neg (by omega)]; rfl
  | succ f ih =>
    intro k i a hf hk ha ha1
    obtain ⟨k, rfl⟩ : ∃ m, k = m + 2 := ⟨k - 2, by omega⟩
    simp only [wire_ReadNum.l0]
    rw [if_pos (by omega)]
    by_cases hlen : i < l.length
    · rw [if_neg (by omega), if_pos (by omega), if_pos (by omega), rd_drop l i hlen]
      have hc := hw _ (rd_mem l i hlen)
      generalize rd l i = c at hc ⊢
      have hbit := bits_and_top c hc.1 (by omega)
      have hjoin : ∀ b : Bool, b = decide ((0 < i ∧ c = 0) ∨ (i = 8 ∧ 128 ≤ c)) → wire_ReadNum.j1 (k + 1) l a i c i b = some (readL (f + 1) i (c :: l.drop (i + 1)) a) := by
        intro b hb
        simp only [wire_ReadNum.j1, readL]
        by_cases hbad : (0 < i ∧ c = 0) ∨ (i = 8 ∧ 128 ≤ c)
        · rw [if_pos hbad, if_pos (by rw [hb]; exact decide_eq_true hbad)]
        · rw [if_neg hbad, if_neg (by rw [hb]; simpa using hbad)]
          rw [wrap64_id (n := 7 * (i : Int)) (by omega) (by omega), if_pos (by omega), hbit, bits_andNot_top c hc.1 (by omega), wrap64_id (n := c % 128) (by omega) (by omega), shl_group _ _ (by omega),
            join_group i (by omega) a (c % 128) ha ha1 (by omega) (by omega), wrap64_id (n := (i : Int) + 1) (by omega) (by omega)]
          by_cases hs : c < 128
          · rw [if_pos hs, if_pos rfl, if_pos hs, show c % 128 = c by omega]
          · rw [if_neg hs, if_neg (by decide), if_neg hs, show c % 128 = c - 128 by omega]
            have hg := grow_group i a (c - 128) ha ha1 (by omega) (by omega)
            have := ih k (i + 1) (a + (c - 128) * 128 ^ i) (by omega) (by omega) hg.1 hg.2
            rw [← this]; rfl
      by_cases h0 : 0 < i
      · rw [if_pos (by omega)]
        by_cases hz : c = 0
        · rw [if_pos hz]; exact hjoin true (by simp [h0, hz])
        · rw [if_neg hz]
          by_cases h8 : i = 8
          · rw [if_pos (by omega)]
            refine hjoin _ ?_
            rw [hbit]
            by_cases hs : c < 128
            · rw [if_pos hs]; symm; simp [h0, hz, h8]; omega
            · rw [if_neg hs]; symm; simp [h0, hz, h8]; omega
          · rw [if_neg (by omega)]; exact hjoin false (by simp [h0, hz, h8])
      · rw [if_neg (by omega)]
        rw [if_neg (by omega)]
        refine hjoin false ?_
        symm; simp; omega
    · rw [if_pos (by omega), List.drop_eq_nil_of_le (by omega)]; rfl

theorem ReadNum_f (k : Nat) (hk : 19 ≤ k) (l : List Int) (hw : ∀ x ∈ l, 0 ≤ x ∧ x ≤ 255) (hl : l.length < 9223372036854775808) : wire_ReadNum.f k l = some (readA l) := by
  unfold wire_ReadNum.f readA
  have := ReadNum_l0 l hw hl 9 k 0 0 (by omega) (by omega) (by omega) (by simp)
  simpa using this

theorem rnum_l0 (d : Nat) : ∀ k (n : Nat) xs, n < 9223372036854775808 → n < 128 ^ (d + 1) → d < k → xs.length + d + 1 < 140737488355328 → recoupref08_Num.l0 k (n : Int) xs = some (xs ++ numL n, 0) := by
  induction d with
  | zero =>
    intro k n xs h63 hn hk hl
    obtain ⟨k, rfl⟩ : ∃ m, k = m + 1 := ⟨k - 1, by omega⟩
    simp only [recoupref08_Num.l0]
    rw [if_neg (by omega), if_pos (by omega), numL_small (by omega), show (n : Int) % 256 = n by omega]
  | succ d ih =>
    intro k n xs h63 hn hk hl
    obtain ⟨k, rfl⟩ : ∃ m, k = m + 1 := ⟨k - 1, by omega⟩
    simp only [recoupref08_Num.l0]
    by_cases h : 128 ≤ n
    · have e1 : Int.tdiv (n : Int) 128 = ((n / 128 : Nat) : Int) := by rw [Int.tdiv_eq_ediv_of_nonneg (by omega)]; omega
      have e2 : Int.tmod (n : Int) 128 = ((n % 128 : Nat) : Int) := by rw [Int.tmod_eq_emod_of_nonneg (by omega)]; omega
      rw [if_pos (by omega), if_pos (by omega), e1, e2, wrap64_id (by omega) (by omega), wrap64_id (by omega) (by omega), show (((n % 128 : Nat) : Int) + 128) % 256 = ((n % 128 + 128 : Nat) : Int) by omega,
        ih k (n / 128) _ (by omega) (by rw [Nat.pow_succ] at hn; omega) (by omega) (by rw [List.length_append, List.length_singleton]; omega), numL_big h, List.append_assoc]; rfl
    · rw [if_neg (by omega), if_pos (by omega), numL_small (by omega), show (n : Int) % 256 = n by omega]

theorem rNum_f (k : Nat) (hk : 9 ≤ k) (a : Int) (h : a < 9223372036854775808) : recoupref08_Num.f k a = some (numA a) := by
  unfold recoupref08_Num.f numA
  by_cases h0 : a < 0
  · rw [if_pos h0, if_pos h0]
  · rw [if_neg h0, if_neg h0]
    have := rnum_l0 8 k a.toNat [] (by omega) (by omega) (by omega) (by simp)
    rw [show ((a.toNat : Nat) : Int) = a by omega, List.nil_append] at this
    rw [this]

theorem rReadNum_l0 (l : List Int) (hw : ∀ x ∈ l, 0 ≤ x ∧ x ≤ 255) (hl : l.length < 9223372036854775808) (f : Nat) : ∀ (k i : Nat) (a : Int), f + i = 9 → 2 * f < k → 0 ≤ a → a < 128 ^ i →
    recoupref08_ReadNum.l0 k l a i = some (readL f i (l.drop i) a) := by
  induction f with
  | zero =>
    intro k i a hf hk ha ha1
    obtain ⟨k, rfl⟩ : ∃ m, k = m + 1 := ⟨k - 1, by omega⟩
    simp only [recoupref08_ReadNum.l0]
    rw [if_neg (by omega)]; rfl
  | succ f ih =>
    intro k i a hf hk ha ha1
    obtain ⟨k, rfl⟩ : ∃ m, k = m + 2 := ⟨k - 2, by omega⟩
    simp only [recoupref08_ReadNum.l0]
    rw [if_pos (by omega)]
    by_cases hlen : i < l.length
    · rw [if_neg (by omega), rd_drop l i hlen]
      have hc := hw _ (rd_mem l i hlen)
      have hjoin : ∀ b : Bool, b = decide ((0 < i ∧ rd l i = 0) ∨ (i = 8 ∧ 128 ≤ rd l i)) → recoupref08_ReadNum.j1 (k + 1) l a i b = some (readL (f + 1) i (rd l i :: l.drop (i + 1)) a) := by
        intro b hb
        simp only [recoupref08_ReadNum.j1, readL]
        by_cases hbad : (0 < i ∧ rd l i = 0) ∨ (i = 8 ∧ 128 ≤ rd l i)
        · rw [if_pos hbad, if_pos (by rw [hb]; exact decide_eq_true hbad)]
        · rw [if_neg hbad, if_neg (by rw [hb]; simpa using hbad)]
          have hu : IntKind.u64.wrap (7 * (i : Int)) = 7 * (i : Int) := by rw [IntKind.wrap_u64]; omega
          rw [if_pos (by omega), if_pos (by omega), wrap64_id (n := 7 * (i : Int)) (by omega) (by omega), hu, if_pos (by omega)]
          generalize rd l i = c at hc hbad ⊢
          have e2 : Int.tmod c 128 = c % 128 := Int.tmod_eq_emod_of_nonneg (by omega)
          rw [e2, wrap64_id (n := c % 128) (by omega) (by omega), shl_group _ _ (by omega),
            join_group i (by omega) a (c % 128) ha ha1 (by omega) (by omega), wrap64_id (n := (i : Int) + 1) (by omega) (by omega)]
          by_cases hs : c < 128
          · rw [if_pos hs, if_pos hs, show c % 128 = c by omega]
          · rw [if_neg hs, if_neg hs, show c % 128 = c - 128 by omega]
            have hg := grow_group i a (c - 128) ha ha1 (by omega) (by omega)
            have := ih k (i + 1) (a + (c - 128) * 128 ^ i) (by omega) (by omega) hg.1 hg.2
            rw [← this]; rfl
      by_cases h0 : 0 < i
      · rw [if_pos (by omega), if_pos (by omega), if_pos (by omega)]
        by_cases hz : rd l i = 0
        · rw [if_pos hz]; exact hjoin true (by simp [h0, hz])
        · rw [if_neg hz]
          by_cases h8 : i = 8
          · rw [if_pos (by omega)]
            refine hjoin _ ?_
            rw [decide_eq_decide]
            constructor
            · intro h; exact .inr ⟨h8, by omega⟩
            · rintro (h | h)
              · exact absurd h.2 hz
              · omega
          · rw [if_neg (by omega)]; exact hjoin false (by simp [h0, hz, h8])
      · rw [if_neg (by omega), if_neg (by omega)]
        refine hjoin false ?_
        symm; simp; omega
    · rw [if_pos (by omega), List.drop_eq_nil_of_le (by omega)]; rfl

theorem rReadNum_f (k : Nat) (hk : 19 ≤ k) (l : List Int) (hw : ∀ x ∈ l, 0 ≤ x ∧ x ≤ 255) (hl : l.length < 9223372036854775808) : recoupref08_ReadNum.f k l = some (readA l) := by
  unfold recoupref08_ReadNum.f readA
  have := rReadNum_l0 l hw hl 9 k 0 0 (by omega) (by omega) (by omega) (by simp)
  simpa using this

theorem Same_refl (l : List Int) : recoupref01_Same.f l l = some true := by unfold recoupref01_Same.f; simp
end Go.Proofs.YtpdemfnemkmelaaDoor.PA
