/-
  The plain law of numbers in wire form: the groups of seven bits, and how they are read.
-/
import Derived.Laws.BitsAllLaws
import Derived.Laws.BitsLemmas
import Derived.Laws.BytesArg
namespace Go.Proofs.YtpdemfnemkmelaaDoor.Num
open Go
set_option linter.unusedVariables false
set_option linter.unusedSimpArgs false

/-- A number's bytes. -/
def numL (n : Nat) : List Int := if h : 128 ≤ n then ((n % 128 + 128 : Nat) : Int) :: numL (n / 128) else [(n : Int)]
termination_by n
decreasing_by omega

theorem numL_small {n : Nat} (h : n < 128) : numL n = [(n : Int)] := by rw [numL, dif_neg (by omega)]
theorem numL_big {n : Nat} (h : 128 ≤ n) : numL n = ((n % 128 + 128 : Nat) : Int) :: numL (n / 128) := by rw [numL, dif_pos h]

theorem numL_pos (n : Nat) : 0 < (numL n).length := by
  by_cases h : 128 ≤ n
  · rw [numL_big h]; simp
  · rw [numL_small (by omega)]; simp

theorem numL_length (d : Nat) : ∀ n, n < 128 ^ (d + 1) → (numL n).length ≤ d + 1 := by
  induction d with
  | zero => intro n h; rw [numL_small (by omega)]; simp
  | succ d ih =>
    intro n h
    by_cases h1 : 128 ≤ n
    · rw [numL_big h1, List.length_cons]
      have := ih (n / 128) (by rw [Nat.pow_succ] at h; omega)
      omega
    · rw [numL_small (by omega)]; simp

theorem numL_byte (n : Nat) : ∀ x ∈ numL n, 0 ≤ x ∧ x < 256 := by
  induction n using Nat.strongRecOn with
  | _ n ih =>
    by_cases h1 : 128 ≤ n
    · rw [numL_big h1]; intro x hx
      rcases List.mem_cons.1 hx with rfl | hx
      · omega
      · exact ih _ (by omega) x hx
    · rw [numL_small (by omega)]; intro x hx; simp at hx; omega

theorem or_top : ∀ m : Nat, m < 256 → (m ||| 128 : Nat) = m % 128 + 128 := by decide +kernel

theorem bits_top (n : Nat) : bits .or .u8 ((n : Int) % 256) 128 = ((n % 128 + 128 : Nat) : Int) := by
  have h := u8_or ((n : Int) % 256) 128 (by omega) (by omega) (by omega) (by omega)
  rw [h, show (128 : Int).toNat = 128 from rfl, or_top _ (by omega)]
  omega

/-- What reading a number says: from place i on, with so many places left; the rest of the bytes; what was read. -/
def readL : Nat → Nat → List Int → Int → Int × Int × Int
  | 0, _, _, _ => (0, 0, 8)
  | _ + 1, _, [], _ => (0, 0, 7)
  | f + 1, i, c :: t, a =>
    if (0 < i ∧ c = 0) ∨ (i = 8 ∧ 128 ≤ c) then (0, 0, 8)
    else if c < 128 then (a + c * 128 ^ i, (i : Int) + 1, 0)
    else readL f (i + 1) t (a + (c - 128) * 128 ^ i)

theorem and_top : ∀ m : Nat, m < 256 → (m &&& 128 : Nat) = if m < 128 then 0 else 128 := by decide +kernel
theorem andNot_top : ∀ m : Nat, m < 256 → (m &&& (255 - 128) : Nat) = m % 128 := by decide +kernel

theorem bits_and_top (c : Int) (h0 : 0 ≤ c) (h1 : c < 256) : bits .and .u8 c 128 = if c < 128 then 0 else 128 := by
  rw [u8_and c 128 h0 h1 (by omega) (by omega)]
  have : (128 : Int).toNat = 128 := rfl
  rw [this, and_top _ (by omega)]
  by_cases h : c < 128
  · rw [if_pos h, if_pos (by omega)]; rfl
  · rw [if_neg h, if_neg (by omega)]; rfl
theorem bits_andNot_top (c : Int) (h0 : 0 ≤ c) (h1 : c < 256) : bits .andNot .u8 c 128 = c % 128 := by
  rw [u8_andNot c 128 h0 h1 (by omega) (by omega)]
  have : (128 : Int).toNat = 128 := rfl
  rw [this, andNot_top _ (by omega)]
  omega

theorem wraps_i64 (n : Int) (h₀ : 0 ≤ n) (h₁ : n < 2 ^ 63) : IntKind.i64.wrap n = n := by rw [IntKind.wrap_i64]; omega

theorem pow_128 (i : Nat) : (128 : Int) ^ i = 2 ^ (7 * i) := by rw [Int.pow_mul]; rfl

/-- One group is put to those that were read. -/
theorem join_group (i : Nat) (hi : i ≤ 8) (a c : Int) (ha : 0 ≤ a) (ha1 : a < 128 ^ i) (hc : 0 ≤ c) (hc1 : c < 128) :
    bits .or .i64 a (IntKind.i64.wrap (c * 2 ^ (7 * i))) = a + c * 128 ^ i := by
  have hp : (2 : Int) ^ (7 * i) ≤ 2 ^ 56 := by
    have : (2 : Nat) ^ (7 * i) ≤ 2 ^ 56 := Nat.pow_le_pow_right (by decide) (by omega)
    exact_mod_cast this
  have hp0 : (0 : Int) < 2 ^ (7 * i) := Int.pow_pos (by decide)
  have hm : c * 2 ^ (7 * i) ≤ 127 * 2 ^ 56 := Int.mul_le_mul (by omega) hp (by omega) (by decide)
  have hm0 : 0 ≤ c * 2 ^ (7 * i) := Int.mul_nonneg hc (by omega)
  rw [wraps_i64 _ hm0 (by omega)]
  rw [pow_128] at ha1
  have hcomm : bits .or .i64 a (c * 2 ^ (7 * i)) = bits .or .i64 (c * 2 ^ (7 * i)) a := by
    unfold bits; simp only [BitVec.or_comm]
  rw [hcomm, bits_join .i64 63 (by decide) wraps_i64 (7 * i) (c * 2 ^ (7 * i)) a hm0 (Int.mul_emod_left _ _) (by omega) ha ha1 (by omega), pow_128]
  omega
end Go.Proofs.YtpdemfnemkmelaaDoor.Num
