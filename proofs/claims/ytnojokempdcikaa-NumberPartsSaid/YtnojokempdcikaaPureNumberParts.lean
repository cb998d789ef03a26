/-
  Quotient and rest, difference: what Work tells of them hangs together.
-/
import Derived.Test.YtnojokempdcikaaXNumberParts
import Derived.Test.YtnojokempdcikaaRefNum
import Derived.OpenShut
namespace Go.Proofs.Ytnojokempdcikaa.Pure
open Go Go.RowKit Go.Proofs.Ytnojokempdcikaa.PA Go.Proofs.YtnojokempdcikaaW.PrintWords Go.Proofs.YtnojokempdcikaaW.PrintLast Go.Proofs.YtnojokempdcikaaW.PrintMore

theorem word_a : wordIn wordList ⟨#[97]⟩ = false := by
  simp [wordIn, wordList, Go.ByteArray.toList_eq]
theorem name_a : nameOk ⟨#[97]⟩ = true := by
  unfold nameOk
  rw [word_a]
  decide
theorem anchored_ok : recouplaw12_anchored.f = some true := by
  have hk : knownGo ([(⟨(⟨#[97]⟩ : ByteArray), 9⟩ : S54)] : List S54) [] = some true := by
    simp only [knownGo, envGet, name_a]
    rfl
  have hp : exprParts ⟨2, 0, ⟨#[97]⟩, [], 0, 0⟩ = some 0 := by
    unfold exprParts
    simp [name_a]
  have hx : xexpr 16 ⟨2, 0, ⟨#[97]⟩, [], 0, 0⟩ 8192 = (1, 8191) := by
    have e : xexpr 16 ⟨2, 0, ⟨#[97]⟩, [], 0, 0⟩ 8192 = (if wrap64 (8192 - 1) < 0 then (0, wrap64 (8192 - 1)) else
      match exprParts ⟨2, 0, ⟨#[97]⟩, [], 0, 0⟩ with
      | none => (0, wrap64 (8192 - 1))
      | some p => if ((([] : List S25).length : Int)) = p then xexprs (xexpr 15) [] 0 (wrap64 (8192 - 1)) else (0, wrap64 (8192 - 1))) := rfl
    rw [e, hp, w64 (n := 8192 - 1) (by omega) (by omega), if_neg (by omega)]
    dsimp only
    rw [if_pos (by simp)]
    simp only [xexprs]
    rw [w64 (by omega) (by omega)]
    rfl
  have hm : tree_MayExpr.f 2 0 ⟨#[97]⟩ [] 0 0 = some true := by
    unfold tree_MayExpr.f
    rw [if_pos (by rfl), hx]
    rfl
  have he : number_Eval.f 2 0 ⟨#[97]⟩ [] 0 0 ([(⟨(⟨#[97]⟩ : ByteArray), 9⟩ : S54)] : List S54) = some (9, 0, 0, 0) := by
    unfold number_Eval.f
    rw [if_pos (by decide), hk, Option.bind_some, if_pos rfl, hm, Option.bind_some, if_pos rfl]
    rfl
  unfold recouplaw12_anchored.f
  rw [he]
  rfl
theorem work_f (op a b : Int) (h : 0 ≤ op ∧ op < 256) : number_Work.f op a b = some (workPair op a b) := by unfold number_Work.f; rw [if_pos h]
theorem numOk_iff (n : Int) : numOk n = true ↔ -2147483647 ≤ n ∧ n ≤ 2147483647 := by unfold numOk; rw [decide_eq_true_iff]
theorem work_in (op a b n : Int) (ho : 3 ≤ op ∧ op ≤ 8) (ha : -2147483647 ≤ a ∧ a ≤ 2147483647) (hb : -2147483647 ≤ b ∧ b ≤ 2147483647) (hz : ¬ (b = 0 ∧ 7 ≤ op))
    (hn : (if op = 3 then -a else if op = 4 then a + b else if op = 5 then a - b else if op = 6 then a * b else if op = 7 then a.tdiv b else a.tmod b) = n) : workPair op a b = if -2147483647 ≤ n ∧ n ≤ 2147483647 then (n, 0) else (0, 120) := by
  unfold workPair
  rw [if_pos ⟨ho.1, ho.2, ha, hb⟩, if_neg hz]
  simp only [hn]
theorem quot_facts (x y : Int) (hy : y ≠ 0) : x.tdiv y * y + x.tmod y = x ∧ (0 ≤ x → 0 ≤ x.tmod y ∧ x.tmod y ≤ x) ∧ (x < 0 → x.tmod y ≤ 0 ∧ x ≤ x.tmod y) ∧ (x.tmod y).natAbs < y.natAbs ∧ (x.tdiv y).natAbs ≤ x.natAbs := by
  have h1 := Int.mul_tdiv_add_tmod x y
  have h2 : (x.tmod y).natAbs = x.natAbs % y.natAbs := Int.natAbs_tmod x y
  have h3 : (x.tdiv y).natAbs = x.natAbs / y.natAbs := Int.natAbs_tdiv x y
  have hy' : 0 < y.natAbs := by omega
  have h4 := Nat.mod_lt x.natAbs hy'
  have h5 := Nat.mod_le x.natAbs y.natAbs
  have h6 := Nat.div_le_self x.natAbs y.natAbs
  refine ⟨by rw [Int.mul_comm]; exact h1, fun h => ?_, fun h => ?_, by omega, by omega⟩
  · have := Int.tmod_nonneg y h
    omega
  · have h7 : (-x).tmod y = -(x.tmod y) := Int.neg_tmod x y
    have := Int.tmod_nonneg y (show 0 ≤ -x by omega)
    omega
theorem NumberParts : recouplaw12_NumberParts.PureS := by
  intro a0 a1 h0 h1
  have b0 : -2147483648 ≤ a0 ∧ a0 ≤ 2147483647 := by have := bounds_i32 h0; omega
  have b1 : -2147483648 ≤ a1 ∧ a1 ≤ 2147483647 := by have := bounds_i32 h1; omega
  refine ⟨1, ?_⟩
  unfold recouplaw12_NumberParts.f
  rw [w64 (n := a0) (by omega) (by omega), w64 (n := a1) (by omega) (by omega), refNumber, refNumber]
  simp only [Option.bind_some]
  have bad : (numOk a0 = false ∨ numOk a1 = false) → recouplaw12_NumberParts.j0 1 a0 a1 true = some true := by
    intro h
    have hw : workPair 4 a0 a1 = (0, 2) := by
      unfold workPair
      rw [if_neg]
      rintro ⟨_, _, p, q⟩
      rcases h with h | h
      · exact absurd ((numOk_iff a0).2 p) (by rw [h]; simp)
      · exact absurd ((numOk_iff a1).2 q) (by rw [h]; simp)
    simp only [recouplaw12_NumberParts.j0, if_true]
    rw [work_f 4 a0 a1 (by omega), hw, anchored_ok]
    rfl
  cases c0 : numOk a0 with
  | false => rw [if_neg (by simp)]; exact bad (.inl c0)
  | true =>
    rw [if_pos rfl]
    cases c1 : numOk a1 with
    | false => exact bad (.inr c1)
    | true =>
      have r0 := (numOk_iff a0).1 c0
      have r1 := (numOk_iff a1).1 c1
      simp only [recouplaw12_NumberParts.j0, Bool.not_true, Bool.false_eq_true, if_false]
      rw [work_f 7 a0 a1 (by omega), work_f 8 a0 a1 (by omega), anchored_ok]
      simp only [Option.bind_some, if_true]
      by_cases z : a1 = 0
      · subst z
        have w7 : workPair 7 a0 0 = (0, 5) := by unfold workPair; rw [if_pos ⟨by omega, by omega, r0, r1⟩, if_pos ⟨rfl, by omega⟩]
        have w8 : workPair 8 a0 0 = (0, 5) := by unfold workPair; rw [if_pos ⟨by omega, by omega, r0, r1⟩, if_pos ⟨rfl, by omega⟩]
        rw [w7, w8]; rfl
      · obtain ⟨f1, f2, f3, f4, f5⟩ := quot_facts a0 a1 z
        have w7 : workPair 7 a0 a1 = (a0.tdiv a1, 0) := by
          rw [work_in 7 a0 a1 _ (by omega) r0 r1 (fun h => z h.1) (by simp; rfl), if_pos (by omega)]
        have w8 : workPair 8 a0 a1 = (a0.tmod a1, 0) := by
          rw [work_in 8 a0 a1 _ (by omega) r0 r1 (fun h => z h.1) (by simp; rfl), if_pos (by omega)]
        rw [if_neg z, w7, w8]
        generalize a0.tdiv a1 = q at *
        generalize a0.tmod a1 = r at *
        have w6 : workPair 6 q a1 = (q * a1, 0) := by
          rw [work_in 6 q a1 _ (by omega) (by omega) r1 (by omega) (by simp; rfl), if_pos (by omega)]
        have w4 : workPair 4 (q * a1) r = (a0, 0) := by
          rw [work_in 4 (q * a1) r a0 (by omega) (by omega) (by omega) (by omega) (by simp; omega), if_pos (by omega)]
        dsimp only
        rw [work_f 6 q a1 (by omega), w6]
        simp only [Option.bind_some]
        rw [work_f 4 _ r (by omega), w4, work_f 5 a0 a1 (by omega)]
        simp only [Option.bind_some, if_true]
        have hm : mx a1 (wrap64 (-a1)) = (a1.natAbs : Int) := by
          rw [w64 (n := -a1) (by omega) (by omega)]
          unfold mx
          split <;> omega
        have hd : (if (workPair 5 a0 a1).2 = 120 then some true else if (workPair 5 a0 a1).2 = 0 then some (wrap64 ((workPair 5 a0 a1).1 + a1) == a0) else some false) = some true := by
          rw [work_in 5 a0 a1 (a0 - a1) (by omega) r0 r1 (by omega) (by simp)]
          by_cases c : -2147483647 ≤ a0 - a1 ∧ a0 - a1 ≤ 2147483647
          · rw [if_pos c]
            have e : wrap64 (a0 - a1 + a1) = a0 := by rw [w64 (by omega) (by omega)]; omega
            simp [w64 (n := a0) (by omega) (by omega)]
          · rw [if_neg c]; rfl
        rw [hm, w64 (n := -r) (by omega) (by omega), if_pos (by omega), if_pos (by omega)]
        by_cases hr : r = 0
        · rw [if_pos hr]; exact hd
        · rw [if_neg hr]
          have hs : (decide (r < 0) == decide (a0 < 0)) = true := by
            by_cases c : a0 < 0
            · have := f3 c
              rw [decide_eq_true c, decide_eq_true (show r < 0 by omega)]; rfl
            · have := f2 (by omega)
              rw [decide_eq_false c, decide_eq_false (show ¬ r < 0 by omega)]; rfl
          rw [if_pos hs]; exact hd
end Go.Proofs.Ytnojokempdcikaa.Pure
