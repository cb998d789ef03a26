/-
  What expressions come to: the program's answer and the document's are one.
-/
import Derived.Test.YtnojokempdcikaaXNumberEvals
import Derived.Test.YtnojokempdcikaaRefNum
namespace Go.Proofs.Ytnojokempdcikaa.Pure
open Go Go.RowKit Go.Proofs.Ytnojokempdcikaa.PA Go.Proofs.YtnojokempdcikaaW.PrintWords Go.Proofs.YtnojokempdcikaaW.PrintLast Go.Proofs.YtnojokempdcikaaW.PrintMore

/-- Both Evals, at once. -/
theorem eval_both (x : S25) (hx : G25 x) (l1 : List S54) (hl : l1.length ≤ 4611686018427387903) (hg : ∀ c ∈ l1, c.f0.size ≤ 9223372036854775807) :
    ∃ k r, number_Eval.f x.f0 x.f1 x.f2 x.f3 x.f4 x.f5 l1 = some r ∧ recoupref12_Eval.f k x.f0 x.f1 x.f2 x.f3 x.f4 x.f5 l1 = some r := by
  obtain ⟨k1, hk1⟩ := may_ref x hx
  obtain ⟨k2, b, hk2, hb⟩ := env_ref l1 hl hg
  have hm := may_prog x hx
  obtain ⟨J, hJ⟩ : ∃ J, J = k1 + k2 + 16 := ⟨_, rfl⟩
  have a1 := up (f := fun k => recoupref10_MayExpr.f k x.f0 x.f1 x.f2 x.f3 x.f4 x.f5) (recoupref10_MayExpr.mono _ _ _ _ _ _) (show k1 ≤ J by omega) hk1
  have a2 := up (f := fun k => recoupref12_MayEnv.f k l1) (recoupref12_MayEnv.mono _) (show k2 ≤ J by omega) hk2
  try dsimp only at a1 a2
  unfold number_Eval.f recoupref12_Eval.f
  refine ⟨J, ?_⟩
  rw [if_pos hl, hb, a1, hm, Option.bind_some, Option.bind_some]
  cases hM : mayE x with
  | false =>
    refine ⟨(0, 2, 0, 0), ?_, ?_⟩
    · cases b <;> simp
    · rw [Option.bind_some, if_neg (by simp)]
  | true =>
    rw [if_pos rfl, a2]
    cases b with
    | false => exact ⟨(0, 2, 0, 0), by simp, by simp⟩
    | true =>
      have h0 : (xexpr 16 x 8192).1 ≠ 0 := by
        unfold mayE at hM
        have := of_decide_eq_true hM
        omega
      obtain ⟨r, e1, e2⟩ := value_both l1 16 x hx 8192 h0
      have a3 := up (f := fun k => recoupref12_Value.f k x.f0 x.f1 x.f2 x.f3 x.f4 x.f5 l1) (recoupref12_Value.mono _ _ _ _ _ _ _) (show 16 ≤ J by omega) (show recoupref12_Value.f 16 x.f0 x.f1 x.f2 x.f3 x.f4 x.f5 l1 = some r by unfold recoupref12_Value.f; rw [if_pos hl]; exact e2)
      try dsimp only at a3
      refine ⟨r, ?_, ?_⟩
      · simp only [Option.bind_some, if_true]; exact e1
      · simp only [Option.bind_some, if_true, a3]
theorem NumberEvals : recouplaw12_NumberEvals.PureS := by
  intro a0 a1 a2 l3 a4 a5 l1 hx hl1 hl2
  obtain ⟨k, r, h1, h2⟩ := eval_both ⟨a0, a1, a2, l3, a4, a5⟩ hx l1 (by omega) (fun c hc => (hl2.2 c hc).1)
  refine ⟨k, ?_⟩
  unfold recouplaw12_NumberEvals.f
  try dsimp only at h1 h2
  rw [h1, h2]
  simp
end Go.Proofs.Ytnojokempdcikaa.Pure
