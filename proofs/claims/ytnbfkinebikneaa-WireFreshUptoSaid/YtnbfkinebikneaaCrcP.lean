/-
  The printed sums come to the plain law's words.
-/
import Derived.Test.YtnbfkinebikneaaPA1020
import Derived.Test.YtnbfkinebikneaaPA1039
import Derived.Test.YtnbfkinebikneaaCrc
import Derived.Test.YtnbfkinebikneaaNumP
namespace Go.Proofs.Ytnbfkinebikneaa.PA
open Go Go.RowKit Go.Proofs.YtnbfkinebikneaaW.PrintWords Go.Proofs.YtnbfkinebikneaaW.PrintLast Go.Proofs.YtnbfkinebikneaaW.PrintMore Go.Proofs.Ytnbfkinebikneaa.Crc
set_option linter.unusedVariables false
set_option linter.unusedSimpArgs false

theorem xor_u32_nat (a b : Nat) (ha : a < 4294967296) (hb : b < 4294967296) : Go.bits .xor .u32 (a : Int) (b : Int) = ((a ^^^ b : Nat) : Int) := u32_xor_nat a b ha hb
theorem crcStep_nat (n : Nat) (h : n < 4294967296) : crcStep (n : Int) = ((stepN n : Nat) : Int) := by
  unfold crcStep stepN
  have h1 : Go.bits .and .u32 (n : Int) 1 = ((n % 2 : Nat) : Int) := by
    have := u32_and_nat n 1 h (by decide)
    rw [Nat.and_one_is_mod] at this
    exact this
  rw [h1]
  by_cases hm : n % 2 = 1
  · rw [if_pos (by omega), if_pos hm, show (n : Int) / 2 = ((n / 2 : Nat) : Int) by omega]
    exact xor_u32_nat (n / 2) 3988292384 (by omega) (by decide)
  · rw [if_neg (by omega), if_neg hm]; omega
theorem crcSteps_nat (k n : Nat) (h : n < 4294967296) : crcSteps k (n : Int) = ((stepsN k n : Nat) : Int) := by
  induction k generalizing n with
  | zero => rfl
  | succ k ih => rw [crcSteps, crcStep_nat n h, ih _ (stepN_lt n h)]; rfl

/-- A byte goes into a register. -/
def byteN (x : Nat) (c : Int) : Nat := stepsN 8 (x ^^^ c.toNat)
theorem byteN_lt (x : Nat) (c : Int) (h : x < 4294967296) (h0 : 0 ≤ c) (h1 : c ≤ 255) : byteN x c < 4294967296 :=
  stepsN_lt 8 _ (Nat.xor_lt_two_pow (n := 32) h (by omega))
/-- The register behind bytes. -/
def regN (x : Nat) (l : List Int) : Nat := l.foldl byteN x
theorem regN_lt (l : List Int) (hw : ∀ c ∈ l, 0 ≤ c ∧ c ≤ 255) (x : Nat) (h : x < 4294967296) : regN x l < 4294967296 := by
  induction l generalizing x with
  | nil => exact h
  | cons c l ih =>
    have hc := hw c (by simp)
    exact ih (fun d hd => hw d (by simp [hd])) _ (byteN_lt x c h hc.1 hc.2)
/-- The sum. -/
def sumA (l : List Int) : Int := ((4294967295 ^^^ regN 4294967295 l : Nat) : Int)

theorem sumStep_nat (x : Nat) (c : Int) (h : x < 4294967296) (h0 : 0 ≤ c) (h1 : c ≤ 255) : sumStep (x : Int) c = ((byteN x c : Nat) : Int) := by
  unfold sumStep byteN
  obtain ⟨c, rfl⟩ := Int.eq_ofNat_of_zero_le h0
  have e1 : Go.bits .xor .u8 ((x : Int) % 256) (c : Int) = (((x % 256) ^^^ c : Nat) : Int) := by
    rw [show (x : Int) % 256 = ((x % 256 : Nat) : Int) by omega]
    exact u8_xor_nat (x % 256) c (by omega) (by omega)
  have hlt : (x % 256) ^^^ c < 4294967296 := Nat.xor_lt_two_pow (n := 32) (by omega) (by omega)
  rw [e1, crcSteps_nat 8 _ hlt, show (x : Int) / 256 = ((x / 256 : Nat) : Int) by omega, xor_u32_nat _ _ (by omega) (stepsN_lt 8 _ hlt), Int.toNat_natCast, byte_step x c (by omega)]
theorem sumFold_nat (l : List Int) (hw : ∀ c ∈ l, 0 ≤ c ∧ c ≤ 255) (x : Nat) (h : x < 4294967296) : l.foldl sumStep (x : Int) = ((regN x l : Nat) : Int) := by
  induction l generalizing x with
  | nil => rfl
  | cons c l ih =>
    have hc := hw c (by simp)
    rw [List.foldl_cons, sumStep_nat x c h hc.1 hc.2, ih (fun d hd => hw d (by simp [hd])) _ (byteN_lt x c h hc.1 hc.2)]; rfl
theorem Sum_f (l : List Int) (hw : ∀ c ∈ l, 0 ≤ c ∧ c ≤ 255) : wire_Sum.f l = some (sumA l) := by
  unfold wire_Sum.f sumFold sumA
  have h := sumFold_nat l hw 4294967295 (by decide)
  rw [show ((4294967295 : Nat) : Int) = 4294967295 from rfl] at h
  rw [h]
  congr 1
  exact xor_u32_nat 4294967295 _ (by decide) (regN_lt l hw _ (by decide))

theorem rSum_l1 (l : List Int) (i : Int) (e : Nat) : ∀ (k : Nat) (j x : Int), 0 ≤ j → j + e = 8 → recoupref08_Sum.l1 (k + e + 1) l x i j = recoupref08_Sum.l0 k l (crcSteps e x) (wrap64 (i + 1)) := by
  induction e with
  | zero =>
    intro k j x h0 hj
    simp only [recoupref08_Sum.l1]
    rw [if_neg (by omega)]; rfl
  | succ e ih =>
    intro k j x h0 hj
    obtain ⟨m, hm⟩ : ∃ m, m = k + e + 1 := ⟨_, rfl⟩
    rw [show k + (e + 1) + 1 = m + 1 by omega]
    simp only [recoupref08_Sum.l1]
    rw [if_pos (by omega), wrap64_id (n := j + 1) (by omega) (by omega), hm]
    by_cases hb : Go.bits .and .u32 x 1 = 1
    · rw [if_pos hb, ih k (j + 1) _ (by omega) (by omega), crcSteps, crcStep, if_pos hb]
    · rw [if_neg hb, ih k (j + 1) _ (by omega) (by omega), crcSteps, crcStep, if_neg hb]
theorem rSum_l0 (l : List Int) (hw : ∀ c ∈ l, 0 ≤ c ∧ c ≤ 255) (hl : l.length < 9223372036854775807) (d : Nat) : ∀ (k i x : Nat), i + d = l.length → 10 * d < k → x < 4294967296 →
    recoupref08_Sum.l0 k l (x : Int) (i : Int) = some (Go.bits .xor .u32 4294967295 ((regN x (l.drop i) : Nat) : Int)) := by
  induction d with
  | zero =>
    intro k i x hi hk hx
    obtain ⟨k, rfl⟩ : ∃ m, k = m + 1 := ⟨k - 1, by omega⟩
    simp only [recoupref08_Sum.l0]
    rw [if_neg (by omega), List.drop_eq_nil_of_le (by omega)]; rfl
  | succ d ih =>
    intro k i x hi hk hx
    obtain ⟨k, rfl⟩ : ∃ m, k = m + 10 := ⟨k - 10, by omega⟩
    have hlen : i < l.length := by omega
    have hc := hw _ (rd_mem l i hlen)
    obtain ⟨m, hm⟩ : ∃ m, m = k + 8 + 1 := ⟨_, rfl⟩
    rw [show k + 10 = m + 1 by omega]
    simp only [recoupref08_Sum.l0]
    rw [if_pos (by omega), if_pos (by omega), hm, rSum_l1 l i 8 k 0 _ (by omega) (by omega), wrap64_id (by omega) (by omega), rd_drop l i hlen]
    generalize rd l i = c at hc ⊢
    obtain ⟨c, rfl⟩ := Int.eq_ofNat_of_zero_le hc.1
    rw [show (c : Int) % 4294967296 = (c : Int) by omega, xor_u32_nat x c hx (by omega), crcSteps_nat 8 _ (Nat.xor_lt_two_pow (n := 32) hx (by omega))]
    have := ih k (i + 1) (stepsN 8 (x ^^^ c)) (by omega) (by omega) (stepsN_lt 8 _ (Nat.xor_lt_two_pow (n := 32) hx (by omega)))
    rw [show ((i + 1 : Nat) : Int) = (i : Int) + 1 by omega] at this
    rw [this]; rfl
theorem rSum_f (k : Nat) (l : List Int) (hw : ∀ c ∈ l, 0 ≤ c ∧ c ≤ 255) (hl : l.length < 9223372036854775807) (hk : 10 * l.length < k) : recoupref08_Sum.f k l = some (sumA l) := by
  unfold recoupref08_Sum.f sumA
  have h := rSum_l0 l hw hl l.length k 0 4294967295 (by omega) hk (by decide)
  rw [List.drop_zero] at h
  rw [show (4294967295 : Int) = ((4294967295 : Nat) : Int) from rfl, show (0 : Int) = ((0 : Nat) : Int) from rfl, h]
  congr 1
  exact xor_u32_nat 4294967295 _ (by decide) (regN_lt l hw _ (by decide))

/-- Three registers put against one another. -/
theorem byteN_xor3 (x y z : Nat) (a b c : Int) (d : Int) (ha : 0 ≤ a) (hb : 0 ≤ b) (hc : 0 ≤ c) (hd : d = ((a.toNat ^^^ b.toNat ^^^ c.toNat : Nat) : Int)) :
    byteN (x ^^^ y ^^^ z) d = byteN x a ^^^ byteN y b ^^^ byteN z c := by
  unfold byteN
  rw [← stepsN_xor, ← stepsN_xor, hd, Int.toNat_natCast]
  congr 1
  ac_rfl
theorem sumA_lt (l : List Int) (hw : ∀ c ∈ l, 0 ≤ c ∧ c ≤ 255) : 0 ≤ sumA l ∧ sumA l < 4294967296 := by
  unfold sumA
  have := Nat.xor_lt_two_pow (n := 32) (x := 4294967295) (by decide) (regN_lt l hw 4294967295 (by decide))
  omega
end Go.Proofs.Ytnbfkinebikneaa.PA
