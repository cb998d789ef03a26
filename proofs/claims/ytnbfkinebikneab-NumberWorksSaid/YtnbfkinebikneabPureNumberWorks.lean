/-
  What an operation comes to: the program's answer and the document's are one.
-/
import Derived.Test.YtnbfkinebikneabXNumberWorks
import Derived.OpenShut
namespace Go.Proofs.Ytnbfkinebikneab.Pure
open Go Go.RowKit Go.Proofs.Ytnbfkinebikneab.PA Go.Proofs.YtnbfkinebikneabW.PrintWords Go.Proofs.YtnbfkinebikneabW.PrintLast Go.Proofs.YtnbfkinebikneabW.PrintMore

theorem number_f (a : Int) : recoupref12_Number.f a = some (decide (-2147483647 ≤ a ∧ a ≤ 2147483647)) := by
  unfold recoupref12_Number.f
  by_cases c : a ≥ -2147483647
  · rw [if_pos c]
    by_cases d : a ≤ 2147483647
    · rw [decide_eq_true d, decide_eq_true (⟨c, d⟩ : _ ∧ _)]
    · rw [decide_eq_false d, decide_eq_false (fun h => d h.2)]
  · rw [if_neg c, decide_eq_false (fun h => c h.1)]
theorem answer_f (n : Int) : ((recoupref12_Number.f n).bind fun t => if t = true then some (n, (0 : Int)) else some (0, 120)) = some (if -2147483647 ≤ n ∧ n ≤ 2147483647 then (n, 0) else (0, 120)) := by
  rw [number_f]
  simp only [Option.bind_some]
  by_cases c : -2147483647 ≤ n ∧ n ≤ 2147483647
  · rw [decide_eq_true c, if_pos rfl, if_pos c]
  · rw [decide_eq_false c, if_neg (by decide), if_neg c]
theorem wrap_small (n : Int) (h : -4611686014132420609 ≤ n ∧ n ≤ 4611686014132420609) : wrap64 n = n := by unfold wrap64; omega
theorem refWork (op a b : Int) (k : Nat) : recoupref12_Work.f (k + 2) op a b = some (workPair op a b) := by
  unfold recoupref12_Work.f workPair
  by_cases c : 3 ≤ op ∧ op ≤ 8 ∧ (-2147483647 ≤ a ∧ a ≤ 2147483647) ∧ (-2147483647 ≤ b ∧ b ≤ 2147483647)
  · obtain ⟨h3, h8, ha, hb⟩ := c
    rw [if_neg (by omega), if_neg (by omega), number_f, number_f, decide_eq_true ha, decide_eq_true hb, if_pos ⟨h3, h8, ha, hb⟩]
    simp only [Option.bind_some, if_true, Bool.not_true, recoupref12_Work.j0, Bool.false_eq_true, if_false, recoupref12_Work.j1]
    have hs : -4611686014132420609 ≤ a * b ∧ a * b ≤ 4611686014132420609 := op_mul a b ha hb
    rw [wrap_small (-a) (by omega), wrap_small (a + b) (by omega), wrap_small (a - b) (by omega), wrap_small (a * b) hs, op_tdiv a b ha]
    simp only [answer_f]
    have ho : op = 3 ∨ op = 4 ∨ op = 5 ∨ op = 6 ∨ op = 7 ∨ op = 8 := by omega
    by_cases z : b = 0
    · subst z
      rcases ho with rfl | rfl | rfl | rfl | rfl | rfl <;> simp
    · rcases ho with rfl | rfl | rfl | rfl | rfl | rfl <;> simp [z]
  · rw [if_neg c]
    by_cases c3 : op < 3
    · rw [if_pos c3]; simp only [recoupref12_Work.j0, if_true]
    · rw [if_neg c3]
      by_cases c8 : op > 8
      · rw [if_pos c8]; simp only [recoupref12_Work.j0, if_true]
      · rw [if_neg c8, number_f, number_f]
        simp only [Option.bind_some]
        by_cases ha : -2147483647 ≤ a ∧ a ≤ 2147483647
        · rw [decide_eq_true ha, if_pos rfl, decide_eq_false (fun hb => c ⟨by omega, by omega, ha, hb⟩)]
          simp only [recoupref12_Work.j0, Bool.not_false, if_true]
        · rw [decide_eq_false ha, if_neg (by decide)]
          simp only [recoupref12_Work.j0, if_true]
theorem NumberWorks : recouplaw12_NumberWorks.PureS := by
  intro op a b hop _ _
  have h0 : 0 ≤ op ∧ op < 256 := by
    have : (0 : Int) ≤ op ∧ op ≤ 255 := bounds_u8 hop
    omega
  refine ⟨2, ?_⟩
  have h1 : number_Work.f op a b = some (workPair op a b) := by unfold number_Work.f; rw [if_pos h0]
  simp only [recouplaw12_NumberWorks.f, h1, refWork op a b 0, Option.bind_some, if_true, beq_self_eq_true]
end Go.Proofs.Ytnbfkinebikneab.Pure
