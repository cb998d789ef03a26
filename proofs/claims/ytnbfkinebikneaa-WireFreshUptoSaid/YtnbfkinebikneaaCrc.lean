/-
  The plain law of sums: a register's steps are linear over exclusive or; a table's step is eight steps.
-/
import Derived.Laws.BitsAllLaws
import Derived.Laws.BitsLemmas
namespace Go.Proofs.Ytnbfkinebikneaa.Crc
open Go

/-- One bit of a register, of natural numbers. -/
def stepN (x : Nat) : Nat := if x % 2 = 1 then (x / 2) ^^^ 3988292384 else x / 2
def stepsN : Nat → Nat → Nat
  | 0, x => x
  | k + 1, x => stepsN k (stepN x)

theorem xor_div2 (a b : Nat) : (a ^^^ b) / 2 = (a / 2) ^^^ (b / 2) := by
  apply Nat.eq_of_testBit_eq; intro i
  simp [Nat.testBit_div_two, Nat.testBit_xor]
theorem xor_mod2 (a b : Nat) : (a ^^^ b) % 2 = (a % 2 + b % 2) % 2 := by
  have h := Nat.testBit_xor a b 0
  simp only [Nat.testBit_zero] at h
  have ha : a % 2 = 0 ∨ a % 2 = 1 := by omega
  have hb : b % 2 = 0 ∨ b % 2 = 1 := by omega
  have hc : (a ^^^ b) % 2 = 0 ∨ (a ^^^ b) % 2 = 1 := by omega
  rcases ha with ha | ha <;> rcases hb with hb | hb <;> rcases hc with hc | hc <;> simp_all

theorem stepN_xor (a b : Nat) : stepN (a ^^^ b) = stepN a ^^^ stepN b := by
  unfold stepN
  rw [xor_div2, xor_mod2]
  have ha : a % 2 = 0 ∨ a % 2 = 1 := by omega
  have hb : b % 2 = 0 ∨ b % 2 = 1 := by omega
  rcases ha with ha | ha <;> rcases hb with hb | hb <;> simp only [ha, hb] <;> simp
  · rw [Nat.xor_assoc]
  · rw [Nat.xor_assoc, Nat.xor_comm (b / 2), Nat.xor_assoc]
  · rw [Nat.xor_assoc, Nat.xor_comm (b / 2) 3988292384, ← Nat.xor_assoc 3988292384, Nat.xor_self, Nat.zero_xor]
theorem stepsN_xor (k a b : Nat) : stepsN k (a ^^^ b) = stepsN k a ^^^ stepsN k b := by
  induction k generalizing a b with
  | zero => rfl
  | succ k ih => rw [stepsN, stepN_xor, ih]; rfl
theorem stepsN_shift (k x : Nat) : stepsN k (x * 2 ^ k) = x := by
  induction k generalizing x with
  | zero => simp [stepsN]
  | succ k ih =>
    rw [stepsN]
    have h : stepN (x * 2 ^ (k + 1)) = x * 2 ^ k := by
      unfold stepN
      rw [Nat.pow_succ, ← Nat.mul_assoc, if_neg (by omega)]
      omega
    rw [h, ih]
theorem stepN_lt (x : Nat) (h : x < 4294967296) : stepN x < 4294967296 := by
  unfold stepN
  split
  · exact Nat.xor_lt_two_pow (n := 32) (by omega) (by decide)
  · omega
theorem stepsN_lt (k x : Nat) (h : x < 4294967296) : stepsN k x < 4294967296 := by
  induction k generalizing x with
  | zero => exact h
  | succ k ih => exact ih _ (stepN_lt x h)

/-- A register's low byte put together with a byte; the rest. -/
theorem split_byte (x c : Nat) (_hc : c < 256) : x ^^^ c = (x / 256 * 256) ^^^ ((x % 256) ^^^ c) := by
  rw [← Nat.xor_assoc]
  congr 1
  apply Nat.eq_of_testBit_eq; intro i
  rw [show (256 : Nat) = 2 ^ 8 from rfl, Nat.testBit_xor, Nat.testBit_mod_two_pow, Nat.testBit_mul_two_pow, Nat.testBit_div_two_pow]
  by_cases h : i < 8
  · have h' : ¬ 8 ≤ i := by omega
    simp [h, h']
  · have h' : 8 ≤ i := by omega
    simp [h, h']
/-- Eight steps of a register with a byte: the table's way. -/
theorem byte_step (x c : Nat) (hc : c < 256) : stepsN 8 (x ^^^ c) = (x / 256) ^^^ stepsN 8 ((x % 256) ^^^ c) := by
  rw [split_byte x c hc, stepsN_xor]
  congr 1
  exact stepsN_shift 8 (x / 256)
end Go.Proofs.Ytnbfkinebikneaa.Crc
