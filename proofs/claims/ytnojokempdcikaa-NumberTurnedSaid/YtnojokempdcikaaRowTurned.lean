/- The law NumberTurned, for every argument: the row, out of the law's walk over the engine. No conditions. -/
import Derived.Test.YtnojokempdcikaaRows
import Derived.Test.YtnojokempdcikaaLawTurned
import Derived.WalkKit
import Derived.ProofKit
import Derived.OpenShut
import Derived.ShutString
import Derived.ChangeOld
import Derived.Below
import Derived.SizedLaws
import Derived.JoinedCond
import Derived.Deep.CondSized
namespace Go.Proofs.Ytnojokempdcikaa.numberTurnedS
open Go Go.ChangeShapes Go.WideShapes Go.ChangeAt Go.RowKit Go.Proofs.YtnojokempdcikaaW.PrintWords Go.Proofs.Ytnojokempdcikaa.Open Go.Proofs.Ytnojokempdcikaa.PA
open Go.ChangeMaps (open_string shut_string)
set_option linter.unusedVariables false
theorem own : ownKnob Try.prog.godebug = none := by kernel_rfl
theorem laidOut : laidOutB Try.prog = true := by kernel_rfl
set_option maxRecDepth 100000 in
theorem lifted (os : Os) (started : os.Started) (H : Type) (enc : TypeId × Value → H) :
    ReturnsInHanded {} Try.checked os 7 .any (Rows.numberTurnedSpec.pre6 enc Try.prog Try.f7 Rows.numberTurnedRow.domain false) (Rows.numberTurnedSpec.post enc Try.prog Try.f7 false true false false) := by
  refine returnsInHanded_of_change_sized (C := Try.checked) own started (by kernel_rfl) Try.func7
    (ChangeSpec.witness6 (enc := enc) (C := Try.checked) false ⟨#[], #[.agg #[.int .u8 0, .int .i64 0, .string ByteArray.empty, .slice none 0 0, .int .i64 0, .int .i64 0], .slice none 0 0], []⟩ 8 (by kernel_rfl) (by kernel_rfl) (by kernel_rfl) (by kernel_rfl)) ?_
  intro W base args ds gs before hval0 hW hcnd hsz0 _
  have hsz : (DataW.weightsEach Try.prog (Try.f7.params.toList ++ Rows.numberTurnedSpec.plain.varTypes Try.prog) (ds ++ gs)).all (· ≤ reachBytes) = true := hsz0
  have hval : ∀ (j : Nat) t v, Try.f7.params[j]? = some t → args[j]? = some v → Value.okWide Try.prog W .any base t v := hval0
  have hW' := hW
  obtain ⟨p, q, hA0, hV, rfl, hfz, hnd⟩ := hW
  have hA : DataW.TrodAll enc Try.prog W 0 (fun _ => true) true Try.f7.params.toList args.toList ds p := hA0
  rw [Try.params7] at hA hval hsz
  obtain ⟨v0, vs0, d0, ds0, p0, q0, hargs, rfl, rfl, h0, r0⟩ := trodAll_cons hA
  obtain ⟨v1, vs1, d1, ds1, p1, q1, rfl, rfl, rfl, h1, r1⟩ := trodAll_cons r0
  obtain ⟨rfl, rfl, rfl⟩ := trodAll_nil r1
  obtain rfl : args = #[v0, v1] := by cases args; simp_all
  obtain ⟨rfl, rfl⟩ := trodVars_none hV
  obtain ⟨cs0, rfl, hz0⟩ := okWide_struct Try.underlying25 (hval 0 25 v0 rfl rfl)
  have k0 := h0
  have lt0 : ∀ x ∈ p0, x.block < W.heap.size := by obtain ⟨m, hm⟩ := k0; exact DataW.trod_lt m _ _ _ hm
  obtain ⟨f0, hf0⟩ := h0
  obtain ⟨x0, K0, g0, b0⟩ := (opens25 f0) enc W _ _ f0 _ _ _ (by omega) hf0
  obtain ⟨A0_3_, c0_3_, e0, l0_3_, r0_3_⟩ := k25_open K0
  obtain rfl : cs0 = #[Value.int .u8 x0.f0, Value.int .i64 x0.f1, Value.string x0.f2, Value.slice A0_3_ x0.f3.length c0_3_, Value.int .i64 x0.f4, Value.int .i64 x0.f5] := array_of e0
  obtain ⟨a1, len1, cap1, rfl⟩ := okWide_slice Try.underlying26 (hval 1 26 v1 rfl rfl)
  have k1 := h1
  have lt1 : ∀ x ∈ p1, x.block < W.heap.size := by obtain ⟨m, hm⟩ := k1; exact DataW.trod_lt m _ _ _ hm
  have y1 : len1 * 24 ≤ 140737488351232 := sized_any hsz (j := 1) (t := 26) rfl rfl Try.underlying26 (by kernel_rfl) h1
  obtain ⟨f1, hf1⟩ := h1
  obtain ⟨l1, K1, g1, b1⟩ := (opens_slice (T := 26) Try.underlying26 (by kernel_rfl) (opens54 f1)) enc W _ _ f1 _ _ _ (by omega) hf1
  obtain ⟨A1, c1, hcs1, hc1, hr1⟩ := K1
  have hcs1_ : [Value.slice a1 len1 cap1] = [Value.slice A1 l1.length c1] := hcs1
  obtain ⟨rfl, rfl, rfl⟩ : a1 = A1 ∧ len1 = l1.length ∧ cap1 = c1 := by simpa using hcs1_
  clear hA0 hval0 hsz0 hsz
  refine (E.law_NumberTurned x0 A0_3_ c0_3_ a1 cap1 l1 W g0 r0_3_ l0_3_ hr1 hc1 (by omega) (fun c hc => (g1.2 c hc).1)).mono fun e W' ⟨he, bel0⟩ => ?_
  have bel : Below W.heap.size W W' := bel0
  subst he
  exact ⟨_, rfl, _, _, _, [], _, [], hW', trodAll_mk1 (shut_bool Try.underlying4 _), (trodAll_cons_mk (Below.trod laidOut (by kernel_rfl) (of_decide_eq_true (by kernel_rfl)) k0 bel lt0) (trodAll_cons_mk (Below.trod laidOut (by kernel_rfl) (of_decide_eq_true (by kernel_rfl)) k1 bel lt1) trodAll_mk0)), rfl, bel.frame _, fun h => by cases h⟩
theorem over : Rows.numberTurnedRow.holds Try.pinned (OpenSpec.ofChange Rows.numberTurnedSpec) :=
  OpenClaim.holds_of_wide 7 Try.f7 rfl rfl rfl rfl rfl rfl rfl ⟨rfl, rfl, rfl, rfl, rfl⟩ rfl rfl rfl rfl rfl (by kernel_rfl) Try.func7 (by kernel_rfl)
    (of_decide_eq_true (by kernel_rfl)) (by unfold Func.isWrapper; first | (rw [if_pos (by decide +kernel)]; kernel_rfl) | (rw [if_neg (by decide +kernel)]; exact ⟨rfl, rfl⟩))
    (fun os started H enc _ => lifted os started H enc)
end Go.Proofs.Ytnojokempdcikaa.numberTurnedS
namespace Go.Proofs.Ytnojokempdcikaa
/-- The row, under a short name, for the claim. -/
theorem numberTurned_holds : Rows.NumberTurnedSaid := numberTurnedS.over
#print axioms numberTurned_holds
end Go.Proofs.Ytnojokempdcikaa
