/-
  What the program's own expressions are: what may be, what it comes to; the anchor's two calls.
-/
import Derived.Test.YtnojokempdcikaaPAM2
import Derived.Test.YtnojokempdcikaaPAM1
import Derived.Test.YtnojokempdcikaaPAKinds
import Derived.OpenShut
namespace Go.Proofs.Ytnojokempdcikaa.PureN
open Go Go.RowKit Go.Proofs.Ytnojokempdcikaa.PA Go.Proofs.YtnojokempdcikaaW.PrintWords Go.Proofs.YtnojokempdcikaaW.PrintLast Go.Proofs.YtnojokempdcikaaW.PrintMore

theorem up {α : Type} {f : Nat → Option α} (hm : ∀ k, LeO (f k) (f (k + 1))) {k m : Nat} (h : k ≤ m) {r : α} (e : f k = some r) : f m = some r := by
  induction m with
  | zero => obtain rfl : k = 0 := by omega
            exact e
  | succ m ih =>
    by_cases c : k = m + 1
    · subst c; exact e
    · exact hm m r (ih (by omega))
theorem w64 {n : Int} (h : -9223372036854775808 ≤ n) (h1 : n < 9223372036854775808) : wrap64 n = n := by unfold wrap64; omega
/-! words and names -/
theorem small_of : ∀ (n : Nat) (x : S25), G25 x → smallB n x = true
  | 0, _, _ => rfl
  | n + 1, x, h => by
    obtain ⟨_, _, h2, ⟨_, h3⟩, _, _⟩ := (G25_iff x).1 h
    have h2' : x.f2.size ≤ 9223372036854775807 := h2
    simp only [smallB, Bool.and_eq_true, decide_eq_true_iff, List.all_eq_true]
    exact ⟨h2', fun y hy => small_of n y (h3 y hy)⟩
def mayE (x : S25) : Bool := decide ((xexpr 16 x 8192).1 > 0)
theorem may_prog (x : S25) (h : G25 x) : tree_MayExpr.f x.f0 x.f1 x.f2 x.f3 x.f4 x.f5 = some (mayE x) := by
  unfold tree_MayExpr.f mayE
  rw [if_pos (show smallB 16 ⟨x.f0, x.f1, x.f2, x.f3, x.f4, x.f5⟩ = true from small_of 16 x h)]
  rfl
theorem xexprs_parts (f : S25 → Int → Int × Int) : ∀ (l : List S25) (d left : Int), (xexprs f l d left).1 ≠ 0 → ∀ p ∈ l, ∃ lf, (f p lf).1 ≠ 0
  | [], _, _, _ => fun p hp => by cases hp
  | q :: ps, d, left, h => by
    simp only [xexprs] at h
    by_cases e : (f q left).1 = 0
    · rw [if_pos e] at h; exact absurd rfl h
    · rw [if_neg e] at h
      intro p hp
      rcases List.mem_cons.1 hp with rfl | hp
      · exact ⟨left, e⟩
      · exact xexprs_parts f ps _ _ h p hp
theorem parts_kind (x : S25) (p : Int) (h : exprParts x = some p) : 1 ≤ x.f0 ∧ x.f0 ≤ 8 ∧ (x.f0 ≤ 2 → p = 0) := by
  unfold exprParts at h
  by_cases k1 : x.f0 = 1
  · rw [if_pos k1] at h
    repeat' split at h
    all_goals first | (cases h; omega) | cases h
  · rw [if_neg k1] at h
    by_cases k2 : x.f0 = 2
    · rw [if_pos k2] at h
      repeat' split at h
      all_goals first | (cases h; omega) | cases h
    · rw [if_neg k2] at h
      by_cases k3 : x.f0 = 3
      · omega
      · rw [if_neg k3] at h
        by_cases k4 : x.f0 = 4 ∨ x.f0 = 5 ∨ x.f0 = 6 ∨ x.f0 = 7 ∨ x.f0 = 8
        · omega
        · rw [if_neg k4] at h; cases h
theorem xpartsN_mono {f g : S25 → Option (Int × Int × Int × Int)} (h : ∀ x, LeO (f x) (g x)) : ∀ (l : List S25) (i : Nat) (a b : Int), LeO (xparts f l i a b) (xparts g l i a b)
  | [], _, _, _ => LeO.refl _
  | p :: ps, i, a, b => by
    simp only [xparts]
    refine LeO.bind (h p) (fun r => ?_)
    exact LeO.ite (xpartsN_mono h ps _ _ _) (LeO.refl _)
theorem parts_some (f : S25 → Option (Int × Int × Int × Int)) : ∀ (l : List S25), (∀ p ∈ l, ∃ r, f p = some r) → ∀ (i : Nat) (a b : Int), ∃ R, xparts f l i a b = some R
  | [], _, i, a, b => ⟨_, rfl⟩
  | q :: ps, h, i, a, b => by
    obtain ⟨r, h1⟩ := h q List.mem_cons_self
    simp only [xparts, h1, Option.bind_some]
    by_cases c : r.2.1 = 0
    · rw [if_pos c]
      exact parts_some f ps (fun p hp => h p (List.mem_cons_of_mem _ hp)) _ _ _
    · rw [if_neg c]; exact ⟨_, rfl⟩
theorem work_f (op a b : Int) (h : 0 ≤ op ∧ op < 256) : number_Work.f op a b = some (workPair op a b) := by unfold number_Work.f; rw [if_pos h]
theorem numOk_iff (n : Int) : numOk n = true ↔ -2147483647 ≤ n ∧ n ≤ 2147483647 := by unfold numOk; rw [decide_eq_true_iff]
/-- What may be comes to something. -/
theorem value_one (F : ByteArray → Option Int) : ∀ (n : Nat) (x : S25), G25 x → ∀ left, (xexpr n x left).1 ≠ 0 → ∃ r, xeval F n x = some r
  | 0, x, _, left, h => absurd rfl h
  | n + 1, x, hx, left, h => by
    obtain ⟨_, _, h2, ⟨_, h3⟩, _, _⟩ := (G25_iff x).1 hx
    have h2' : x.f2.size ≤ 9223372036854775807 := h2
    simp only [xexpr] at h
    by_cases c : wrap64 (left - 1) < 0
    · rw [if_pos c] at h; exact absurd rfl h
    · rw [if_neg c] at h
      cases hp : exprParts x with
      | none => rw [hp] at h; exact absurd rfl h
      | some p =>
        rw [hp] at h
        dsimp only at h
        by_cases e : (x.f3.length : Int) = p
        · rw [if_pos e] at h
          have hle := exprParts_le x p hp
          obtain ⟨q1, q8, _⟩ := parts_kind x p hp
          have hl : x.f3.length ≤ 2 := by omega
          simp only [xeval]
          by_cases k1 : x.f0 = 1
          · rw [if_pos k1]; exact ⟨_, rfl⟩
          · rw [if_neg k1]
            by_cases k2 : x.f0 = 2
            · rw [if_pos k2, if_pos h2']
              split <;> exact ⟨_, rfl⟩
            · rw [if_neg k2, if_pos hl]
              obtain ⟨R, hR⟩ := parts_some (xeval F n) x.f3 (fun y hy => by
                obtain ⟨lf, hlf⟩ := xexprs_parts _ _ _ _ h y hy
                exact value_one F n y (h3 y hy) lf hlf) 0 0 0
              rw [hR, Option.bind_some]
              by_cases c0 : R.2.1 = 0
              · rw [if_pos c0, work_f _ _ _ (by omega), Option.bind_some]
                split <;> exact ⟨_, rfl⟩
              · rw [if_neg c0]; exact ⟨_, rfl⟩
        · rw [if_neg e] at h; exact absurd rfl h
theorem word_a : wordIn wordList ⟨#[97]⟩ = false := by
  simp [wordIn, wordList, Go.ByteArray.toList_eq]
theorem name_a : nameOk ⟨#[97]⟩ = true := by
  unfold nameOk
  rw [word_a]
  decide
theorem anchored_ok : recouplaw12_anchored.f = some true := by
  have hk : knownGo ([(⟨(⟨#[97]⟩ : ByteArray), 9⟩ : S54)] : List S54) [] = some true := by
    simp only [knownGo, envGet, name_a]
    rfl
  have hp : exprParts ⟨2, 0, ⟨#[97]⟩, [], 0, 0⟩ = some 0 := by
    unfold exprParts
    simp [name_a]
  have hx : xexpr 16 ⟨2, 0, ⟨#[97]⟩, [], 0, 0⟩ 8192 = (1, 8191) := by
    have e : xexpr 16 ⟨2, 0, ⟨#[97]⟩, [], 0, 0⟩ 8192 = (if wrap64 (8192 - 1) < 0 then (0, wrap64 (8192 - 1)) else
      match exprParts ⟨2, 0, ⟨#[97]⟩, [], 0, 0⟩ with
      | none => (0, wrap64 (8192 - 1))
      | some p => if ((([] : List S25).length : Int)) = p then xexprs (xexpr 15) [] 0 (wrap64 (8192 - 1)) else (0, wrap64 (8192 - 1))) := rfl
    rw [e, hp, xw64 (n := 8192 - 1) (by omega) (by omega), if_neg (by omega)]
    dsimp only
    rw [if_pos (by simp)]
    simp only [xexprs]
    rw [xw64 (by omega) (by omega)]
    rfl
  have hm : tree_MayExpr.f 2 0 ⟨#[97]⟩ [] 0 0 = some true := by
    unfold tree_MayExpr.f
    rw [if_pos (by rfl), hx]
    rfl
  have he : number_Eval.f 2 0 ⟨#[97]⟩ [] 0 0 ([(⟨(⟨#[97]⟩ : ByteArray), 9⟩ : S54)] : List S54) = some (9, 0, 0, 0) := by
    unfold number_Eval.f
    rw [if_pos (by decide), hk, Option.bind_some, if_pos rfl, hm, Option.bind_some, if_pos rfl]
    rfl
  unfold recouplaw12_anchored.f
  rw [he]
  rfl
end Go.Proofs.Ytnojokempdcikaa.PureN
