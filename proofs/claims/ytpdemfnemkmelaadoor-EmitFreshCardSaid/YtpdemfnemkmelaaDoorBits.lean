/- The numbers of a set, in plain words: what clears the lowest bit, what is asked bit by bit. No conditions. -/
import Derived.Lib.TrailingZeros
import Derived.Test.YtpdemfnemkmelaaDoorEng6
import Derived.Test.YtpdemfnemkmelaaDoorPAM0
namespace Go.Proofs.YtpdemfnemkmelaaDoor.E
open Go Go.RowKit Go.Proofs.YtpdemfnemkmelaaDoorW.PrintWords Go.Proofs.YtpdemfnemkmelaaDoorW.PrintLast Go.Proofs.YtpdemfnemkmelaaDoorW.PrintMore Go.Proofs.YtpdemfnemkmelaaDoor.PA
set_option linter.unusedVariables false
set_option linter.unusedSimpArgs false
/-- The numbers of a set. -/
def bitsN (x : Nat) : List Nat := (List.range 64).filter (fun i => x.testBit i)
def bitsL (x : Nat) : List Int := (bitsN x).map Int.ofNat
theorem bitsN_zero : bitsN 0 = [] := by unfold bitsN; simp
theorem range_split {t : Nat} (ht : t < 64) : List.range 64 = List.range t ++ (t :: (List.range (63 - t)).map (fun i => t + 1 + i)) := by
  apply List.ext_getElem?
  intro i
  by_cases h1 : i < t
  · rw [List.getElem?_append_left (by simpa using h1), List.getElem?_range (by omega), List.getElem?_range h1]
  · rw [List.getElem?_append_right (by simpa using h1), List.length_range]
    by_cases h2 : i = t
    · subst h2; simp [List.getElem?_range ht]
    · obtain ⟨j, hj⟩ : ∃ j, i - t = j + 1 := ⟨i - t - 1, by omega⟩
      rw [hj, List.getElem?_cons_succ, List.getElem?_map]
      by_cases h3 : i < 64
      · rw [List.getElem?_range h3, List.getElem?_range (by omega)]; simp; omega
      · rw [List.getElem?_eq_none (by simp; omega), List.getElem?_eq_none (by simp; omega)]; rfl
theorem odd_bits (t m i : Nat) : (2 ^ t * (2 * m + 1)).testBit i = (decide (i = t) || (2 ^ t * (2 * m)).testBit i) := by
  rw [Nat.testBit_two_pow_mul, Nat.testBit_two_pow_mul]
  by_cases h : i < t
  · have h1 : decide (i ≥ t) = false := decide_eq_false (by omega)
    have h2 : decide (i = t) = false := decide_eq_false (by omega)
    rw [h1, h2]; rfl
  · by_cases h2 : i = t
    · subst h2; simp
    · obtain ⟨j, hj⟩ : ∃ j, i - t = j + 1 := ⟨i - t - 1, by omega⟩
      have h3 : decide (i = t) = false := decide_eq_false h2
      rw [hj, h3, Nat.testBit_succ, Nat.testBit_succ]
      congr 2
      have e1 : (2 * m + 1) / 2 = m := by omega
      have e2 : 2 * m / 2 = m := by omega
      rw [e1, e2]
theorem even_low (t m i : Nat) (h : i ≤ t) : (2 ^ t * (2 * m)).testBit i = false := by
  rw [Nat.testBit_two_pow_mul]
  by_cases h2 : i < t
  · rw [decide_eq_false (by omega)]; rfl
  · have : i - t = 0 := by omega
    rw [this]; simp
theorem clear_low (t m : Nat) : (2 ^ t * (2 * m + 1)) &&& (2 ^ t * (2 * m + 1) - 1) = 2 ^ t * (2 * m) := by
  have hp := Nat.two_pow_pos t
  have e : 2 ^ t * (2 * m + 1) - 1 = 2 ^ t * (2 * m) + (2 ^ t - 1) := by rw [Nat.mul_add]; omega
  apply Nat.eq_of_testBit_eq
  intro i
  rw [Nat.testBit_and, odd_bits, e, Nat.testBit_two_pow_mul_add _ (by omega)]
  by_cases h : i < t
  · rw [if_pos h, even_low t m i (by omega), decide_eq_false (by omega)]; rfl
  · rw [if_neg h]
    by_cases h2 : i = t
    · subst h2
      rw [even_low i m i (by omega)]; simp
    · rw [decide_eq_false h2, Bool.false_or, Nat.testBit_two_pow_mul]
      rw [decide_eq_true (by omega)]; simp
theorem bitsN_next {x : Nat} (h0 : x ≠ 0) (h : x < 2 ^ 64) : Lib.ctz 64 x < 64 ∧ (x &&& (x - 1)) < x ∧ bitsN x = Lib.ctz 64 x :: bitsN (x &&& (x - 1)) := by
  obtain ⟨m, hx, ht⟩ := Lib.ctzFrom_spec 64 x (by omega) h
  have hc : Lib.ctz 64 x = Lib.ctzFrom 64 x := by unfold Lib.ctz; rw [if_neg h0]
  rw [hc]
  generalize Lib.ctzFrom 64 x = t at hx ht
  subst hx
  rw [clear_low]
  have hp := Nat.two_pow_pos t
  refine ⟨ht, by rw [Nat.mul_add]; omega, ?_⟩
  unfold bitsN
  rw [range_split ht, List.filter_append, List.filter_append, List.filter_cons, List.filter_cons]
  have e1 : (List.range t).filter (fun i => (2 ^ t * (2 * m + 1)).testBit i) = [] := by
    rw [List.filter_eq_nil_iff]
    intro i hi
    rw [List.mem_range] at hi
    rw [odd_bits, even_low t m i (by omega), decide_eq_false (by omega)]; simp
  have e2 : (List.range t).filter (fun i => (2 ^ t * (2 * m)).testBit i) = [] := by
    rw [List.filter_eq_nil_iff]
    intro i hi
    rw [List.mem_range] at hi
    rw [even_low t m i (by omega)]; simp
  have e3 : (2 ^ t * (2 * m + 1)).testBit t = true := by rw [odd_bits]; simp
  have e4 : (2 ^ t * (2 * m)).testBit t = false := even_low t m t (by omega)
  rw [e1, e2, e3, e4]
  simp only [if_true, List.nil_append]
  rw [if_neg (by simp)]
  congr 1
  apply List.filter_congr
  intro i hi
  obtain ⟨j, _, rfl⟩ := List.mem_map.1 hi
  rw [odd_bits, decide_eq_false (by omega), Bool.false_or]
theorem bitsN_lt (x : Nat) : ∀ i ∈ bitsN x, i < 64 := fun i hi => by
  unfold bitsN at hi
  simpa using (List.mem_filter.1 hi).1
theorem bitsN_len (x : Nat) : (bitsN x).length ≤ 64 := by
  unfold bitsN
  have := List.length_filter_le (fun i => x.testBit i) (List.range 64)
  simpa using this
theorem bitsL_len (x : Nat) : (bitsL x).length ≤ 64 := by unfold bitsL; rw [List.length_map]; exact bitsN_len x
theorem bitsL_mem {x : Nat} {n : Int} (h : n ∈ bitsL x) : 0 ≤ n ∧ n ≤ 63 := by
  unfold bitsL at h
  obtain ⟨i, hi, rfl⟩ := List.mem_map.1 h
  have := bitsN_lt x i hi
  have e : Int.ofNat i = (i : Int) := rfl
  omega
/-! The reference's. -/
theorem has_ok (x : Nat) (hx : x < 2 ^ 64) (i : Nat) (hi : i < 64) : recoupref06_Has.f (x : Int) (i : Int) = some (x.testBit i) := by
  have hw : IntKind.u64.wrap (i : Int) = i := by rw [IntKind.wrap_u64]; omega
  unfold recoupref06_Has.f
  rw [if_pos (by omega), if_pos (by omega), hw, if_pos (by omega)]
  congr 1
  have hb : IntKind.u64.bits = 64 := rfl
  have e1 : shr .u64 (x : Int) (i : Int) = ((x / 2 ^ i : Nat) : Int) := by
    unfold shr
    have : min (i : Int).toNat IntKind.u64.bits = i := by omega
    rw [this]
    push_cast
    rfl
  rw [e1]
  have h1 : x / 2 ^ i < 2 ^ 64 := Nat.lt_of_le_of_lt (Nat.div_le_self _ _) hx
  rw [Nat.testBit, Nat.shiftRight_eq_div_pow, Nat.one_and_eq_mod_two]
  generalize x / 2 ^ i = q at h1 ⊢
  have e2 : Go.bits .and .u64 ((q : Nat) : Int) 1 = ((q % 2 : Nat) : Int) := by
    unfold Go.bits
    have e3 : (BitVec.ofInt IntKind.u64.bits ((q : Nat) : Int) &&& BitVec.ofInt IntKind.u64.bits 1).toNat = q % 2 := by
      rw [BitVec.toNat_and, BitVec.toNat_ofInt, BitVec.toNat_ofInt, hb]
      have a1 : (((q : Nat) : Int) % ((2 ^ 64 : Nat) : Int)).toNat = q := by omega
      have a2 : ((1 : Int) % ((2 ^ 64 : Nat) : Int)).toNat = 1 := rfl
      rw [a1, a2, Nat.and_one_is_mod]
    simp only [e3]
    rw [IntKind.wrap_u64]
    omega
  rw [e2]
  have : q % 2 = 0 ∨ q % 2 = 1 := by omega
  rcases this with h | h <;> rw [h] <;> rfl
theorem rlist_l0 (x : Nat) (hx : x < 2 ^ 64) : ∀ (d i k : Nat) (acc : List Int), i + d = 64 → d < k → acc.length ≤ i → recoupref06_List.l0 k (x : Int) acc (i : Int) = some (acc ++ (((List.range d).map (fun j => i + j)).filter (fun j => x.testBit j)).map Int.ofNat) := by
  intro d
  induction d with
  | zero =>
    intro i k acc h hk _
    obtain ⟨k, rfl⟩ : ∃ m, k = m + 1 := ⟨k - 1, by omega⟩
    simp only [recoupref06_List.l0]
    rw [if_neg (by omega)]; simp
  | succ d ih =>
    intro i k acc h hk hl
    obtain ⟨k, rfl⟩ : ∃ m, k = m + 1 := ⟨k - 1, by omega⟩
    simp only [recoupref06_List.l0]
    have hw : wrap64 ((i : Int) + 1) = ((i + 1 : Nat) : Int) := by unfold wrap64; omega
    have hr : (List.range (d + 1)).map (fun j => i + j) = i :: (List.range d).map (fun j => i + 1 + j) := by
      rw [List.range_succ_eq_map, List.map_cons, List.map_map]
      congr 1
      apply List.map_congr_left
      intro j _
      show i + (j + 1) = i + 1 + j
      omega
    rw [if_pos (by omega), has_ok x hx i (by omega), hr, List.filter_cons, hw]
    simp only [Option.bind_some]
    cases hb : x.testBit i with
    | true =>
      rw [if_pos rfl, if_pos (by omega), ih (i + 1) k (acc ++ [(i : Int)]) (by omega) (by omega) (by rw [List.length_append, List.length_singleton]; omega)]
      simp
    | false =>
      rw [if_neg (by simp), ih (i + 1) k acc (by omega) (by omega) (by omega)]
      simp
theorem rlist_ok (x : Nat) (hx : x < 2 ^ 64) : recoupref06_List.f 65 (x : Int) = some (bitsL x) := by
  unfold recoupref06_List.f
  have h := rlist_l0 x hx 64 0 65 [] (by omega) (by omega) (by simp)
  rw [show ((0 : Nat) : Int) = 0 from rfl] at h
  rw [h, List.nil_append]
  unfold bitsL bitsN
  congr 3
end Go.Proofs.YtpdemfnemkmelaaDoor.E
