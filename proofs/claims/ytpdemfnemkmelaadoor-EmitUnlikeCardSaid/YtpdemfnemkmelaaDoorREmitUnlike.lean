/- The card of EmitUnlike: two programs that are not the same have neither the same bytes nor the same lines. -/
import Derived.Test.YtpdemfnemkmelaaDoorRows
import Derived.Test.YtpdemfnemkmelaaDoorCards
import Derived.Test.YtpdemfnemkmelaaDoorTie
import Derived.Test.YtpdemfnemkmelaaDoorPAKinds
import Derived.Test.YtpdemfnemkmelaaDoorLawU
import Derived.WalkKit
import Derived.ProofKit
import Derived.OpenShut
import Derived.ShutString
import Derived.ChangeOld
import Derived.Below
import Derived.SizedLaws
import Derived.JoinedCond
import Derived.Deep.CondSized
import Derived.Deep.DeepHandedRow
import Derived.LaidMore
import Derived.LaidHandle
import Derived.LaidLaws
import Derived.Stop.Joined
import Derived.SevenTiedAt
import Derived.Stop.LaidErr
import Derived.Lib.LaidTab
namespace Go.Proofs.YtpdemfnemkmelaaDoor.emitUnlikeS
open Go Go.ChangeShapes Go.WideShapes Go.ChangeAt Go.RowKit Go.Proofs.YtpdemfnemkmelaaDoorW.PrintWords Go.Proofs.YtpdemfnemkmelaaDoor.Open Go.Proofs.YtpdemfnemkmelaaDoor.PA Go.Proofs.YtpdemfnemkmelaaDoor.E
open Go.ChangeMaps (open_string shut_string)
set_option linter.unusedVariables false
theorem own : ownKnob Tryd.prog.godebug = none := by kernel_rfl
theorem gPow : Tryd.prog.globalNamed "internal/strconv.uint64pow10" = some 2 := by kernel_rfl
theorem gPowT : (Tryd.prog.globals[2]?).map (·.type) = some 140 := by kernel_rfl
theorem cellsPow : Tryd.prog.cellsOf 140 = 20 := by kernel_rfl
theorem cellsEPow : Tryd.prog.cellsOf 23 = 1 := by kernel_rfl
theorem hPow {W : World} (h : laidMetH Tryd.prog Rows.emitUnlikeRow.laid W) : Pow10 W := by
  have hL : laidMet Tryd.prog Rows.emitUnlikeRow.laid W := h
  exact Lib.tabIs_of_head gPow gPowT Tryd.underlying140 Tryd.underlying23 cellsEPow cellsPow hL.tail.tail
theorem gDb : Tryd.prog.globalNamed "math/bits.deBruijn64tab" = some 0 := by kernel_rfl
theorem gDbT : (Tryd.prog.globals[0]?).map (·.type) = some 120 := by kernel_rfl
theorem cellsDb : Tryd.prog.cellsOf 120 = 64 := by kernel_rfl
theorem cellsEDb : Tryd.prog.cellsOf 5 = 1 := by kernel_rfl
theorem hDb {W : World} (h : laidMetH Tryd.prog Rows.emitUnlikeRow.laid W) : DB W := by
  have hL : laidMet Tryd.prog Rows.emitUnlikeRow.laid W := h
  exact Lib.tabIs_of_head gDb gDbT Tryd.underlying120 Tryd.underlying5 cellsEDb cellsDb hL.tail
theorem laidOut : laidOutB Tryd.prog = true := by kernel_rfl
theorem met (os : Os) : laidMetH Tryd.prog Rows.emitUnlikeRow.laid ((World.doorLaid Tryd.prog 72 os).forCall (fun _ _ => 0) ⟨#[], #[.agg #[.slice none 0 0, .int .i64 0, .int .i64 0, .int .u64 0], .agg #[.slice none 0 0, .int .i64 0, .int .i64 0, .int .u64 0]], []⟩).memory :=
  laidMet_of_run' 8 (by kernel_rfl) (by kernel_rfl)
theorem reads (os : Os) {H : Type} (enc : TypeId × Value → H) : ∃ places, DataW.whole enc Tryd.prog ((World.doorLaid Tryd.prog 72 os).forCall (fun _ _ => 0) ⟨#[], #[.agg #[.slice none 0 0, .int .i64 0, .int .i64 0, .int .u64 0], .agg #[.slice none 0 0, .int .i64 0, .int .i64 0, .int .u64 0]], []⟩).memory Tryd.f8.params.toList Rows.emitUnlikeSpec.vars false (#[.agg #[.slice none 0 0, .int .i64 0, .int .i64 0, .int .u64 0], .agg #[.slice none 0 0, .int .i64 0, .int .i64 0, .int .u64 0]] : Array Value).toList 8 = some ([.agg [.nil, .lit (.int .i64 0), .lit (.int .i64 0), .lit (.int .u64 0)], .agg [.nil, .lit (.int .i64 0), .lit (.int .i64 0), .lit (.int .u64 0)]], [], places) :=
  ⟨[], by kernel_rfl⟩
theorem okIn (os : Os) : Input.okWideB Tryd.prog ((World.doorLaid Tryd.prog 72 os).forCall (fun _ _ => 0) ⟨#[], #[.agg #[.slice none 0 0, .int .i64 0, .int .i64 0, .int .u64 0], .agg #[.slice none 0 0, .int .i64 0, .int .i64 0, .int .u64 0]], []⟩) 8 ⟨#[], #[.agg #[.slice none 0 0, .int .i64 0, .int .i64 0, .int .u64 0], .agg #[.slice none 0 0, .int .i64 0, .int .i64 0, .int .u64 0]], []⟩ = true := by kernel_rfl
set_option maxRecDepth 100000 in
theorem lifted (os : Os) (started : os.Started) (H : Type) (enc : TypeId × Value → H) (F : Stop.Interp) :
    ReturnsInHanded {} Tryd.checked os 8 .any ((OpenSpec.ofChange Rows.emitUnlikeSpec).preRow enc Tryd.prog Tryd.f8 Rows.emitUnlikeRow.domain false Rows.emitUnlikeRow.laid) (((OpenSpec.ofChange Rows.emitUnlikeSpec).at F).post enc Tryd.prog Tryd.f8 false true false false) := by
  obtain ⟨places, hx⟩ := reads os enc
  refine returnsInHanded_of_row (C := Tryd.checked) (s := (OpenSpec.ofChange Rows.emitUnlikeSpec)) own started (by kernel_rfl) Tryd.func8
    ⟨World.doorLaid Tryd.prog 72 os, fun _ _ => 0, ⟨#[], #[.agg #[.slice none 0 0, .int .i64 0, .int .i64 0, .int .u64 0], .agg #[.slice none 0 0, .int .i64 0, .int .i64 0, .int .u64 0]], []⟩, rfl, World.shaped_of_RefB (by kernel_rfl) (by kernel_rfl), rfl, (Input.okWide_of_okWideB (okIn os)).2, OpenSpec.preRow_of_cond 8 hx (by kernel_rfl) (fun k hk => by cases hk) (by kernel_rfl) (met os), by
      simp only [Assume.holds]
      exact ⟨by simp, by simp, fun _ => Modest.zero, by simp, by simp⟩⟩ ?_
  intro W base args ds gs before hval0 hW hcnd _ hsz0 hL _ _
  have hsz : (DataW.weightsEach Tryd.prog (Tryd.f8.params.toList ++ Rows.emitUnlikeSpec.plain.varTypes Tryd.prog) (ds ++ gs)).all (· ≤ reachBytes) = true := hsz0
  have hval : ∀ (j : Nat) t v, Tryd.f8.params[j]? = some t → args[j]? = some v → Value.okWide Tryd.prog W .any base t v := hval0
  have hW' := hW
  obtain ⟨p, q, hA0, hV, rfl, hfz, hnd⟩ := hW
  have hA : DataW.TrodAll enc Tryd.prog W 0 (fun _ => true) true Tryd.f8.params.toList args.toList ds p := hA0
  rw [Tryd.params8] at hA hval hsz
  obtain ⟨v0, vs0, d0, ds0, p0, q0, hargs, rfl, rfl, h0, r0⟩ := trodAll_cons hA
  obtain ⟨v1, vs1, d1, ds1, p1, q1, rfl, rfl, rfl, h1, r1⟩ := trodAll_cons r0
  obtain ⟨rfl, rfl, rfl⟩ := trodAll_nil r1
  obtain rfl : args = #[v0, v1] := by cases args; simp_all
  obtain ⟨rfl, rfl⟩ := trodVars_none hV
  obtain ⟨cs0, rfl, hz0⟩ := okWide_struct Tryd.underlying26 (hval 0 26 v0 rfl rfl)
  have k0 := h0
  have lt0 : ∀ x ∈ p0, x.block < W.heap.size := by obtain ⟨m, hm⟩ := k0; exact DataW.trod_lt m _ _ _ hm
  obtain ⟨f0, hf0⟩ := h0
  obtain ⟨x0, K0, g0, b0⟩ := (opens26 f0) enc W _ _ f0 _ _ _ (by omega) hf0
  obtain ⟨A0_0_, c0_0_, e0, l0_0_, r0_0_⟩ := k26_open K0
  obtain rfl : cs0 = #[Value.slice A0_0_ x0.f0.length c0_0_, Value.int .i64 x0.f1, Value.int .i64 x0.f2, Value.int .u64 x0.f3] := array_of e0
  obtain ⟨cs1, rfl, hz1⟩ := okWide_struct Tryd.underlying26 (hval 1 26 v1 rfl rfl)
  have k1 := h1
  have lt1 : ∀ x ∈ p1, x.block < W.heap.size := by obtain ⟨m, hm⟩ := k1; exact DataW.trod_lt m _ _ _ hm
  obtain ⟨f1, hf1⟩ := h1
  obtain ⟨x1, K1, g1, b1⟩ := (opens26 f1) enc W _ _ f1 _ _ _ (by omega) hf1
  obtain ⟨A1_0_, c1_0_, e1, l1_0_, r1_0_⟩ := k26_open K1
  obtain rfl : cs1 = #[Value.slice A1_0_ x1.f0.length c1_0_, Value.int .i64 x1.f1, Value.int .i64 x1.f2, Value.int .u64 x1.f3] := array_of e1
  clear hA0 hval0 hsz0
  have hs0 : ∀ s ∈ x0.f0, 0 ≤ s.f0 ∧ 0 ≤ s.f3 ∧ s.f3 ≤ 255 := fun s hs => by have h1 := (g0.1.2 s hs).1; have h2 := (g0.1.2 s hs).2.2.2; have e1 : IntKind.u8.min = 0 := rfl; have e2 : IntKind.u8.max = 255 := rfl; simp [Lit.wf, e1, e2] at h1 h2; omega
  have hr0 : 0 ≤ x0.f3 ∧ x0.f3 < 18446744073709551616 := by have h1 := g0.2.2.2; have e1 : IntKind.u64.min = 0 := rfl; have e2 : IntKind.u64.max = 18446744073709551615 := rfl; simp [Lit.wf, e1, e2] at h1; omega
  obtain ⟨n0, hn0⟩ : ∃ n : Nat, x0.f3 = (n : Int) := ⟨x0.f3.toNat, by omega⟩
  have hs1 : ∀ s ∈ x1.f0, 0 ≤ s.f0 ∧ 0 ≤ s.f3 ∧ s.f3 ≤ 255 := fun s hs => by have h1 := (g1.1.2 s hs).1; have h2 := (g1.1.2 s hs).2.2.2; have e1 : IntKind.u8.min = 0 := rfl; have e2 : IntKind.u8.max = 255 := rfl; simp [Lit.wf, e1, e2] at h1 h2; omega
  have hr1 : 0 ≤ x1.f3 ∧ x1.f3 < 18446744073709551616 := by have h1 := g1.2.2.2; have e1 : IntKind.u64.min = 0 := rfl; have e2 : IntKind.u64.max = 18446744073709551615 := rfl; simp [Lit.wf, e1, e2] at h1; omega
  obtain ⟨n1, hn1⟩ : ∃ n : Nat, x1.f3 = (n : Int) := ⟨x1.f3.toNat, by omega⟩
  have hw := law_EmitUnlike A0_0_ c0_0_ x0.f0 x0.f1 x0.f2 n0 (by omega) A1_0_ c1_0_ x1.f0 x1.f1 x1.f2 n1 (by omega) W r0_0_ l0_0_ hs0 r1_0_ l1_0_ hs1 (hPow hL) (hDb hL)
  rw [← hn0, ← hn1] at hw
  refine (hw).mono fun e W' ⟨he, bel⟩ => ?_
  subst he
  exact ⟨_, rfl, _, _, _, [], _, [], hW', trodAll_mk1 (shut_bool Tryd.underlying4 _), (trodAll_cons_mk (Below.trod laidOut (by kernel_rfl) (of_decide_eq_true (by kernel_rfl)) k0 bel lt0) (trodAll_cons_mk (Below.trod laidOut (by kernel_rfl) (of_decide_eq_true (by kernel_rfl)) k1 bel lt1) trodAll_mk0)), rfl, bel.frame _, fun h => by cases h⟩
theorem said : Rows.EmitUnlikeSaid :=
  OpenClaim.holds_of_cond 8 Tryd.f8 rfl rfl rfl rfl rfl rfl rfl ⟨rfl, rfl, rfl, rfl, rfl⟩ rfl rfl rfl rfl rfl (by kernel_rfl) Tryd.func8 (by kernel_rfl)
    (of_decide_eq_true (by kernel_rfl)) (by unfold Func.isWrapper; first | (rw [if_pos (by decide +kernel)]; kernel_rfl) | (rw [if_neg (by decide +kernel)]; exact ⟨rfl, rfl⟩))
    (fun os started H enc _ F => by rw [OpenClaim.pre_eq_preRow]; exact lifted os started H enc F)
theorem plain (f : FuncId) (fn : Func) (hf : Tryd.pinned.checked.prog.funcNamed "recoup/recouplaw24.EmitUnlike" = some f) (hfn : Tryd.pinned.checked.prog.funcs[f]? = some fn) :
    true = Tryd.pinned.checked.prog.looks [] ∧ ∀ (j : Nat) t, fn.params[j]? = some t → Tryd.pinned.checked.prog.wantsStandIn t = false := by
  obtain rfl : f = 8 := Option.some.inj ((show Tryd.prog.funcNamed "recoup/recouplaw24.EmitUnlike" = some 8 by kernel_rfl).symm.trans hf) |>.symm
  obtain rfl : fn = Tryd.f8 := (Option.some.inj (Tryd.func8.symm.trans hfn)).symm
  refine ⟨by kernel_rfl, fun j t ht => ?_⟩
  rw [Tryd.params8] at ht
  have hm : t = 26 ∨ t = 26 := by have h := Array.mem_of_getElem? ht; simpa using h
  rcases hm with rfl | rfl
  · exact (show Tryd.prog.wantsStandIn 26 = false by kernel_rfl)
  · exact (show Tryd.prog.wantsStandIn 26 = false by kernel_rfl)
theorem over : Rows.EmitUnlikeCardSaid :=
  Claim7.holds_tied_plain_at .later [] _ _ _ _ said (fun _ h => by cases h) (by kernel_rfl) (fun _ h => by cases h) emitUnlike_row_tie rfl ⟨rfl, rfl⟩ (by kernel_rfl) rfl plain (by kernel_rfl)
end Go.Proofs.YtpdemfnemkmelaaDoor.emitUnlikeS
namespace Go.Proofs.YtpdemfnemkmelaaDoor
/-- The row, under a short name, for the claim. -/
theorem emitUnlike_holds : Rows.EmitUnlikeCardSaid := emitUnlikeS.over
#print axioms emitUnlike_holds
end Go.Proofs.YtpdemfnemkmelaaDoor
