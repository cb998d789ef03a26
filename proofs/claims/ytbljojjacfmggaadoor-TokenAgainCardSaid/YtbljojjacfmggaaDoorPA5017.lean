/- Printed by a program of this repo over the kit's printer: functions of the given program as plain Lean functions, each with the proof that the call does what it says. -/
import Derived.Test.YtbljojjacfmggaaDoorPA0
import Derived.Test.YtbljojjacfmggaaDoorPA1016
import Derived.Test.YtbljojjacfmggaaDoorPA1032
import Derived.Test.YtbljojjacfmggaaDoorPA1036
import Derived.Test.YtbljojjacfmggaaDoorPA1037
import Derived.Test.YtbljojjacfmggaaDoorPA1047
namespace Go.Proofs.YtbljojjacfmggaaDoor.PA
open Go.RowKit Go.Proofs.YtbljojjacfmggaaDoorW.PrintWords Go.Proofs.YtbljojjacfmggaaDoorW.PrintLast Go.Proofs.YtbljojjacfmggaaDoorW.PrintMore
attribute [local go_sem] max2_int min2_int max_two min_two max_three min_three max_four min_four   -- for this text's walks alone
set_option linter.unusedVariables false
set_option linter.unusedSimpArgs false

--OWNPART 
/-! Names, in plain words. -/
def kindOf (c : Int) : Int := if 97 ≤ c ∧ c ≤ 122 then 1 else if 48 ≤ c ∧ c ≤ 57 then 2 else if c = 32 ∨ c = 9 ∨ c = 10 then 4 else if c = 35 then 5 else
  if Lib.indexByte (⟨#[61, 59, 44, 40, 41, 91, 93, 43, 45, 42, 47, 37]⟩ : ByteArray).data.toList c.toNat.toUInt8 ≥ 0 then 3 else 0
theorem kind_ok (k : Nat) (c : Int) : token_kind.f (k + 2) c = some (kindOf c) := by
  unfold token_kind.f kindOf
  simp only [token_kind.j0, token_kind.j1, strings_IndexByte.f, Option.bind_some]
  by_cases c1 : 97 ≤ c
  · by_cases c2 : c ≤ 122
    · simp [c1, c2]
    · have c3 : ¬ c ≤ 57 := by omega
      have c4 : 48 ≤ c := by omega
      have c5 : ¬ c = 32 := by omega
      have c6 : ¬ c = 9 := by omega
      have c7 : ¬ c = 10 := by omega
      have c8 : ¬ c = 35 := by omega
      simp only [ge_iff_le, c1, c2, c3, c4, c5, c6, c7, c8, if_true, if_false, decide_false, and_false, or_self, Bool.false_eq_true]
      split <;> rfl
  · by_cases d1 : 48 ≤ c
    · by_cases d2 : c ≤ 57
      · simp [c1, d1, d2]
      · have c5 : ¬ c = 32 := by omega
        have c6 : ¬ c = 9 := by omega
        have c7 : ¬ c = 10 := by omega
        have c8 : ¬ c = 35 := by omega
        simp only [ge_iff_le, c1, d1, d2, c5, c6, c7, c8, if_true, if_false, false_and, and_false, or_self, Bool.false_eq_true]
        split <;> rfl
    · by_cases e1 : c = 32
      · subst e1; rfl
      · by_cases e2 : c = 9
        · subst e2; rfl
        · by_cases e3 : c = 10
          · subst e3; rfl
          · by_cases e4 : c = 35
            · subst e4; rfl
            · simp only [ge_iff_le, c1, d1, e1, e2, e3, e4, if_true, if_false, false_and, and_false, or_self, Bool.false_eq_true]
              split <;> rfl
def isLetter (c : Int) : Bool := decide (97 ≤ c ∧ c ≤ 122)
def isDigit (c : Int) : Bool := decide (48 ≤ c ∧ c ≤ 57)
theorem kindOf_letter (c : Int) : kindOf c = 1 ↔ isLetter c = true := by
  unfold kindOf isLetter
  rw [decide_eq_true_iff]
  constructor
  · intro h
    by_cases c1 : 97 ≤ c ∧ c ≤ 122
    · exact c1
    · rw [if_neg c1] at h
      repeat' split at h
      all_goals omega
  · intro h; rw [if_pos h]
theorem kindOf_digit (c : Int) : kindOf c = 2 ↔ isDigit c = true := by
  unfold kindOf isDigit
  rw [decide_eq_true_iff]
  constructor
  · intro h
    by_cases c1 : 48 ≤ c ∧ c ≤ 57
    · exact c1
    · repeat' split at h
      all_goals omega
  · intro h; rw [if_neg (by omega), if_pos h]
/-- Letters and digits from place i on, at the very first place a letter. -/
def nameFrom (s : ByteArray) : Nat → Nat → Bool
  | 0, _ => true
  | m + 1, i => (isLetter (bt s i) || (isDigit (bt s i) && decide (i ≠ 0))) && nameFrom s m (i + 1)
def nameText (s : ByteArray) : Bool := nameFrom s s.size 0 && (decide (1 ≤ s.size) && decide (s.size ≤ 16))
def nameOk (s : ByteArray) : Bool := nameText s && !wordIn wordList s
theorem named_loop (s : ByteArray) (hs : s.size ≤ 9223372036854775807) : ∀ (m i k : Nat), i + m = s.size → token_named.l0 (k + m + 3) s (s.size : Int) (i : Int) = some (nameFrom s m i && (decide (1 ≤ s.size) && decide (s.size ≤ 16)))
  | 0, i, k, h => by
    show token_named.l0 ((k + 2) + 1) s _ _ = _
    simp only [token_named.l0]
    rw [if_neg (by omega)]
    unfold nameFrom
    by_cases c : (s.size : Int) ≥ 1
    · rw [if_pos c]
      have c' : 1 ≤ s.size := by omega
      have e : decide ((s.size : Int) ≤ 16) = decide (s.size ≤ 16) := decide_eq_decide.2 (by omega)
      rw [e, decide_eq_true c']; rfl
    · rw [if_neg c]
      have c' : ¬ 1 ≤ s.size := by omega
      rw [decide_eq_false c']; rfl
  | m + 1, i, k, h => by
    have ew : wrap64 ((i : Int) + 1) = ((i + 1 : Nat) : Int) := by rw [xw64 (by omega) (by omega)]; omega
    have ih := named_loop s hs m (i + 1) k (by omega)
    have hk := kind_ok (k + m + 1) (bt s i)
    show token_named.l0 ((k + m + 3) + 1) s _ _ = _
    generalize k + m + 3 = K at ih hk ⊢
    simp only [token_named.l0]
    rw [if_pos (by omega), if_pos (by omega), if_pos (by omega), hk, Option.bind_some, ew, ih]
    show _ = some ((isLetter (bt s i) || (isDigit (bt s i) && decide (i ≠ 0))) && nameFrom s m (i + 1) && _)
    by_cases c1 : kindOf (bt s i) = 1
    · rw [if_pos c1, (kindOf_letter _).1 c1]; simp
    · rw [if_neg c1, Bool.eq_false_iff.2 (fun e => c1 ((kindOf_letter _).2 e))]
      by_cases c2 : kindOf (bt s i) = 2
      · rw [if_pos c2, (kindOf_digit _).1 c2]
        by_cases c3 : i = 0
        · subst c3; simp
        · rw [if_neg (by omega)]; simp [c3]
      · rw [if_neg c2, Bool.eq_false_iff.2 (fun e => c2 ((kindOf_digit _).2 e))]; simp
theorem named_ok (s : ByteArray) (hs : s.size ≤ 9223372036854775807) : token_named.f (s.size + 3) s = some (nameText s) := by
  unfold token_named.f
  have h := named_loop s hs s.size 0 0 (by omega)
  rw [Nat.zero_add] at h
  exact h
theorem may_name (s : ByteArray) (hs : s.size ≤ 9223372036854775807) : token_May.f (s.size + 3) 1 s 0 0 0 = some (nameOk s) := by
  unfold token_May.f
  rw [if_pos rfl, if_pos rfl, named_ok s hs, Option.bind_some]
  unfold nameOk
  cases h : nameText s
  · rfl
  · rw [if_pos rfl]; rfl
/-- Is it a number? -/
def numOk (n : Int) : Bool := decide (-2147483647 ≤ n ∧ n ≤ 2147483647)

end Go.Proofs.YtbljojjacfmggaaDoor.PA
