/- The card of EmitFresh: what is handed in stays, what is answered is new memory. -/
import Derived.Test.YtpdemfnemkmelaaDoorRows
import Derived.Test.YtpdemfnemkmelaaDoorCards
import Derived.Test.YtpdemfnemkmelaaDoorTie
import Derived.Test.YtpdemfnemkmelaaDoorPAKinds
import Derived.Test.YtpdemfnemkmelaaDoorLawF
import Derived.WalkKit
import Derived.ProofKit
import Derived.OpenShut
import Derived.ShutString
import Derived.ChangeOld
import Derived.Below
import Derived.SizedLaws
import Derived.JoinedCond
import Derived.Deep.CondSized
import Derived.Deep.DeepHandedRow
import Derived.LaidMore
import Derived.LaidHandle
import Derived.LaidLaws
import Derived.Stop.Joined
import Derived.SevenTiedAt
import Derived.Stop.LaidErr
import Derived.Lib.LaidTab
namespace Go.Proofs.YtpdemfnemkmelaaDoor.emitFreshS
open Go Go.ChangeShapes Go.WideShapes Go.ChangeAt Go.RowKit Go.Proofs.YtpdemfnemkmelaaDoorW.PrintWords Go.Proofs.YtpdemfnemkmelaaDoor.Open Go.Proofs.YtpdemfnemkmelaaDoor.PA Go.Proofs.YtpdemfnemkmelaaDoor.E
open Go.ChangeMaps (open_string shut_string)
set_option linter.unusedVariables false
theorem own : ownKnob Tryd.prog.godebug = none := by kernel_rfl
theorem gPow : Tryd.prog.globalNamed "internal/strconv.uint64pow10" = some 2 := by kernel_rfl
theorem gPowT : (Tryd.prog.globals[2]?).map (·.type) = some 140 := by kernel_rfl
theorem cellsPow : Tryd.prog.cellsOf 140 = 20 := by kernel_rfl
theorem cellsEPow : Tryd.prog.cellsOf 23 = 1 := by kernel_rfl
theorem hPow {W : World} (h : laidMetH Tryd.prog Rows.emitFreshRow.laid W) : Pow10 W := by
  have hL : laidMet Tryd.prog Rows.emitFreshRow.laid W := h
  exact Lib.tabIs_of_head gPow gPowT Tryd.underlying140 Tryd.underlying23 cellsEPow cellsPow hL.tail.tail
theorem gDb : Tryd.prog.globalNamed "math/bits.deBruijn64tab" = some 0 := by kernel_rfl
theorem gDbT : (Tryd.prog.globals[0]?).map (·.type) = some 120 := by kernel_rfl
theorem cellsDb : Tryd.prog.cellsOf 120 = 64 := by kernel_rfl
theorem cellsEDb : Tryd.prog.cellsOf 5 = 1 := by kernel_rfl
theorem hDb {W : World} (h : laidMetH Tryd.prog Rows.emitFreshRow.laid W) : DB W := by
  have hL : laidMet Tryd.prog Rows.emitFreshRow.laid W := h
  exact Lib.tabIs_of_head gDb gDbT Tryd.underlying120 Tryd.underlying5 cellsEDb cellsDb hL.tail
set_option maxRecDepth 100000 in
theorem len_prog {H : Type} {enc : TypeId × Value → H} {W : World} {base : Nat} {spare : Nat → Bool} {held : Bool} {A : Option Addr} {n c : Nat} {v1 v2 v3 : Value} {d : DataW H} {ps : List MemPlace} {ts : List TypeId} {ds : List (DataW H)}
    (hsz : (DataW.weightsEach Tryd.prog (26 :: ts) (d :: ds)).all (· ≤ reachBytes) = true) (h : DataW.Trod enc Tryd.prog W base spare held 26 (.agg #[.slice A n c, v1, v2, v3]) d ps) : n * 32 ≤ 140737488351232 := by
  obtain ⟨fuel, hf⟩ := h
  obtain ⟨xs, m, hn, hx, hl, hxl, hfld⟩ := DataW.trod_struct Tryd.underlying26 hf
  obtain ⟨rfl, _⟩ := Prod.mk.inj hx
  obtain ⟨q0, q1, q2, q3, rfl⟩ : ∃ q0 q1 q2 q3, xs = [q0, q1, q2, q3] := by
    match xs, hxl with
    | [_, _, _, _], _ => exact ⟨_, _, _, _, rfl⟩
  have h0 : DataW.trod enc Tryd.prog W base spare held m 22 ((([.slice A n c, v1, v2, v3] : List Value).drop 0).take (Tryd.prog.cellsOf 22)) = some (q0.1, q0.2) := hfld 0 _ rfl
  rw [show Tryd.prog.cellsOf 22 = 1 by kernel_rfl] at h0
  have hw : (DataW.weightsEach Tryd.prog [22, 3, 3, 24] [q0.1, q1.1, q2.1, q3.1]).all (· ≤ reachBytes) = true := by
    have e : DataW.weightsEach Tryd.prog (26 :: ts) (.agg ([q0, q1, q2, q3].map (·.1)) :: ds) = DataW.weightsEach Tryd.prog [22, 3, 3, 24] [q0.1, q1.1, q2.1, q3.1] ++ DataW.weightsEach Tryd.prog ts ds := by
      rw [DataW.weightsEach]
      congr 1
    rw [e, List.all_append, Bool.and_eq_true] at hsz
    exact hsz.1
  exact sized_any hw (j := 0) (t := 22) rfl rfl Tryd.underlying22 (by kernel_rfl) ⟨m, h0⟩
theorem laidOut : laidOutB Tryd.prog = true := by kernel_rfl
theorem met (os : Os) : laidMetH Tryd.prog Rows.emitFreshRow.laid ((World.doorLaid Tryd.prog 72 os).forCall (fun _ _ => 0) ⟨#[], #[.agg #[.slice none 0 0, .int .i64 0, .int .i64 0, .int .u64 0], .slice none 0 0], []⟩).memory :=
  laidMet_of_run' 8 (by kernel_rfl) (by kernel_rfl)
theorem reads (os : Os) {H : Type} (enc : TypeId × Value → H) : ∃ places, DataW.whole enc Tryd.prog ((World.doorLaid Tryd.prog 72 os).forCall (fun _ _ => 0) ⟨#[], #[.agg #[.slice none 0 0, .int .i64 0, .int .i64 0, .int .u64 0], .slice none 0 0], []⟩).memory Tryd.f5.params.toList Rows.emitFreshSpec.vars false (#[.agg #[.slice none 0 0, .int .i64 0, .int .i64 0, .int .u64 0], .slice none 0 0] : Array Value).toList 8 = some ([.agg [.nil, .lit (.int .i64 0), .lit (.int .i64 0), .lit (.int .u64 0)], .nil], [], places) :=
  ⟨[], by kernel_rfl⟩
theorem okIn (os : Os) : Input.okWideB Tryd.prog ((World.doorLaid Tryd.prog 72 os).forCall (fun _ _ => 0) ⟨#[], #[.agg #[.slice none 0 0, .int .i64 0, .int .i64 0, .int .u64 0], .slice none 0 0], []⟩) 5 ⟨#[], #[.agg #[.slice none 0 0, .int .i64 0, .int .i64 0, .int .u64 0], .slice none 0 0], []⟩ = true := by kernel_rfl
set_option maxRecDepth 100000 in
theorem lifted (os : Os) (started : os.Started) (H : Type) (enc : TypeId × Value → H) (F : Stop.Interp) :
    ReturnsInHanded {} Tryd.checked os 5 .any ((OpenSpec.ofChange Rows.emitFreshSpec).preRow enc Tryd.prog Tryd.f5 Rows.emitFreshRow.domain false Rows.emitFreshRow.laid) (((OpenSpec.ofChange Rows.emitFreshSpec).at F).post enc Tryd.prog Tryd.f5 false true false false) := by
  obtain ⟨places, hx⟩ := reads os enc
  refine returnsInHanded_of_row (C := Tryd.checked) (s := (OpenSpec.ofChange Rows.emitFreshSpec)) own started (by kernel_rfl) Tryd.func5
    ⟨World.doorLaid Tryd.prog 72 os, fun _ _ => 0, ⟨#[], #[.agg #[.slice none 0 0, .int .i64 0, .int .i64 0, .int .u64 0], .slice none 0 0], []⟩, rfl, World.shaped_of_RefB (by kernel_rfl) (by kernel_rfl), rfl, (Input.okWide_of_okWideB (okIn os)).2, OpenSpec.preRow_of_cond 8 hx (by kernel_rfl) (fun k hk => by cases hk) (by kernel_rfl) (met os), by
      simp only [Assume.holds]
      exact ⟨by simp, by simp, fun _ => Modest.zero, by simp, by simp⟩⟩ ?_
  intro W base args ds gs before hval0 hW hcnd _ hsz0 hL _ _
  have hsz : (DataW.weightsEach Tryd.prog (Tryd.f5.params.toList ++ Rows.emitFreshSpec.plain.varTypes Tryd.prog) (ds ++ gs)).all (· ≤ reachBytes) = true := hsz0
  have hval : ∀ (j : Nat) t v, Tryd.f5.params[j]? = some t → args[j]? = some v → Value.okWide Tryd.prog W .any base t v := hval0
  have hW' := hW
  obtain ⟨p, q, hA0, hV, rfl, hfz, hnd⟩ := hW
  have hA : DataW.TrodAll enc Tryd.prog W 0 (fun _ => true) true Tryd.f5.params.toList args.toList ds p := hA0
  rw [Tryd.params5] at hA hval hsz
  obtain ⟨v0, vs0, d0, ds0, p0, q0, hargs, rfl, rfl, h0, r0⟩ := trodAll_cons hA
  obtain ⟨v1, vs1, d1, ds1, p1, q1, rfl, rfl, rfl, h1, r1⟩ := trodAll_cons r0
  obtain ⟨rfl, rfl, rfl⟩ := trodAll_nil r1
  obtain rfl : args = #[v0, v1] := by cases args; simp_all
  obtain ⟨rfl, rfl⟩ := trodVars_none hV
  obtain ⟨cs0, rfl, hz0⟩ := okWide_struct Tryd.underlying26 (hval 0 26 v0 rfl rfl)
  have k0 := h0
  have lt0 : ∀ x ∈ p0, x.block < W.heap.size := by obtain ⟨m, hm⟩ := k0; exact DataW.trod_lt m _ _ _ hm
  obtain ⟨f0, hf0⟩ := h0
  obtain ⟨x0, K0, g0, b0⟩ := (opens26 f0) enc W _ _ f0 _ _ _ (by omega) hf0
  obtain ⟨A0_0_, c0_0_, e0, l0_0_, r0_0_⟩ := k26_open K0
  obtain rfl : cs0 = #[Value.slice A0_0_ x0.f0.length c0_0_, Value.int .i64 x0.f1, Value.int .i64 x0.f2, Value.int .u64 x0.f3] := array_of e0
  obtain ⟨a1, len1, cap1, rfl⟩ := okWide_slice Tryd.underlying27 (hval 1 27 v1 rfl rfl)
  have k1 := h1
  have lt1 : ∀ x ∈ p1, x.block < W.heap.size := by obtain ⟨m, hm⟩ := k1; exact DataW.trod_lt m _ _ _ hm
  have y1 : len1 * 1 ≤ 140737488351232 := sized_any hsz (j := 1) (t := 27) rfl rfl Tryd.underlying27 (by kernel_rfl) h1
  obtain ⟨f1, hf1⟩ := h1
  obtain ⟨l1, K1, g1, b1⟩ := (opens_slice (T := 27) Tryd.underlying27 (by kernel_rfl) (opens_int Tryd.underlying5 f1)) enc W _ _ f1 _ _ _ (by omega) hf1
  obtain ⟨A1, c1, hcs1, hc1, hr1⟩ := K1
  have hcs1_ : [Value.slice a1 len1 cap1] = [Value.slice A1 l1.length c1] := hcs1
  obtain ⟨rfl, rfl, rfl⟩ : a1 = A1 ∧ len1 = l1.length ∧ cap1 = c1 := by simpa using hcs1_
  clear hA0 hval0 hsz0
  have hs0 : ∀ s ∈ x0.f0, 0 ≤ s.f0 ∧ 0 ≤ s.f3 ∧ s.f3 ≤ 255 := fun s hs => by have h1 := (g0.1.2 s hs).1; have h2 := (g0.1.2 s hs).2.2.2; have e1 : IntKind.u8.min = 0 := rfl; have e2 : IntKind.u8.max = 255 := rfl; simp [Lit.wf, e1, e2] at h1 h2; omega
  have hr0 : 0 ≤ x0.f3 ∧ x0.f3 < 18446744073709551616 := by have h1 := g0.2.2.2; have e1 : IntKind.u64.min = 0 := rfl; have e2 : IntKind.u64.max = 18446744073709551615 := rfl; simp [Lit.wf, e1, e2] at h1; omega
  obtain ⟨n0, hn0⟩ : ∃ n : Nat, x0.f3 = (n : Int) := ⟨x0.f3.toNat, by omega⟩
  have hby1 : byteL l1 := fun x hx => by have h1 := g1.2 x hx; have e1 : IntKind.u8.min = 0 := rfl; have e2 : IntKind.u8.max = 255 := rfl; simp [Lit.wf, e1, e2] at h1; omega
  have hlen0 : x0.f0.length < 4398046511104 := by have h1 := len_prog hsz k0; omega
  have hw := law_EmitFresh A0_0_ c0_0_ x0.f0 x0.f1 x0.f2 n0 (by omega) W r0_0_ hs0 l0_0_ hlen0 a1 cap1 l1 hr1 hc1 hby1 (by omega) (hPow hL) (hDb hL)
  rw [← hn0] at hw
  refine (hw).mono fun e W' ⟨he, bel⟩ => ?_
  subst he
  exact ⟨_, rfl, _, _, _, [], _, [], hW', trodAll_mk1 (shut_bool Tryd.underlying4 _), (trodAll_cons_mk (Below.trod laidOut (by kernel_rfl) (of_decide_eq_true (by kernel_rfl)) k0 bel lt0) (trodAll_cons_mk (Below.trod laidOut (by kernel_rfl) (of_decide_eq_true (by kernel_rfl)) k1 bel lt1) trodAll_mk0)), rfl, bel.frame _, fun h => by cases h⟩
theorem said : Rows.EmitFreshSaid :=
  OpenClaim.holds_of_cond 5 Tryd.f5 rfl rfl rfl rfl rfl rfl rfl ⟨rfl, rfl, rfl, rfl, rfl⟩ rfl rfl rfl rfl rfl (by kernel_rfl) Tryd.func5 (by kernel_rfl)
    (of_decide_eq_true (by kernel_rfl)) (by unfold Func.isWrapper; first | (rw [if_pos (by decide +kernel)]; kernel_rfl) | (rw [if_neg (by decide +kernel)]; exact ⟨rfl, rfl⟩))
    (fun os started H enc _ F => by rw [OpenClaim.pre_eq_preRow]; exact lifted os started H enc F)
theorem plain (f : FuncId) (fn : Func) (hf : Tryd.pinned.checked.prog.funcNamed "recoup/recouplaw24.EmitFresh" = some f) (hfn : Tryd.pinned.checked.prog.funcs[f]? = some fn) :
    true = Tryd.pinned.checked.prog.looks [] ∧ ∀ (j : Nat) t, fn.params[j]? = some t → Tryd.pinned.checked.prog.wantsStandIn t = false := by
  obtain rfl : f = 5 := Option.some.inj ((show Tryd.prog.funcNamed "recoup/recouplaw24.EmitFresh" = some 5 by kernel_rfl).symm.trans hf) |>.symm
  obtain rfl : fn = Tryd.f5 := (Option.some.inj (Tryd.func5.symm.trans hfn)).symm
  refine ⟨by kernel_rfl, fun j t ht => ?_⟩
  rw [Tryd.params5] at ht
  have hm : t = 26 ∨ t = 27 := by have h := Array.mem_of_getElem? ht; simpa using h
  rcases hm with rfl | rfl
  · exact (show Tryd.prog.wantsStandIn 26 = false by kernel_rfl)
  · exact (show Tryd.prog.wantsStandIn 27 = false by kernel_rfl)
theorem over : Rows.EmitFreshCardSaid :=
  Claim7.holds_tied_plain_at .later [] _ _ _ _ said (fun _ h => by cases h) (by kernel_rfl) (fun _ h => by cases h) emitFresh_row_tie rfl ⟨rfl, rfl⟩ (by kernel_rfl) rfl plain (by kernel_rfl)
end Go.Proofs.YtpdemfnemkmelaaDoor.emitFreshS
namespace Go.Proofs.YtpdemfnemkmelaaDoor
/-- The row, under a short name, for the claim. -/
theorem emitFresh_holds : Rows.EmitFreshCardSaid := emitFreshS.over
#print axioms emitFresh_holds
end Go.Proofs.YtpdemfnemkmelaaDoor
