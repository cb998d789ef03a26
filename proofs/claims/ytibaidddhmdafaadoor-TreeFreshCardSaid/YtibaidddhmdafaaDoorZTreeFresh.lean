/- The card of TreeFresh: what is answered is new memory. -/
import Derived.ArgAppend
import Derived.Below
import Derived.BigCall
import Derived.BigQuiet
import Derived.ChangeArms
import Derived.ChangeOld
import Derived.DataReads
import Derived.Deep.AppendLies
import Derived.Deep.CondSized
import Derived.Deep.CutBlock
import Derived.Deep.DeepCutAuto
import Derived.Deep.DeepHandedRow
import Derived.Deep.Draws
import Derived.Deep.LoopGhost
import Derived.Deep.OwnRows
import Derived.Deep.QuietTactic
import Derived.Deep.RegionHeld3
import Derived.Deep.Slices
import Derived.Deep.WholeRow
import Derived.JoinedCond
import Derived.KernelRfl
import Derived.LaidHandle
import Derived.LaidLaws
import Derived.LaidMore
import Derived.Laws.AppendOwn
import Derived.Laws.BitsLemmas
import Derived.Laws.BytesArg
import Derived.Laws.CopyRow
import Derived.Laws.Externs
import Derived.Laws.IdiomCopy
import Derived.Laws.MakeOwn
import Derived.Laws.OwnMore
import Derived.Laws.Rows
import Derived.Laws.Slices
import Derived.Laws.StructEq
import Derived.Laws.Tables
import Derived.Lib.AppendStr
import Derived.Lib.Builder
import Derived.Lib.Bytealg
import Derived.Lib.ConvBytes
import Derived.Lib.ItoaLen
import Derived.Lib.ItoaMem
import Derived.Lib.LaidTab
import Derived.Lib.Strings
import Derived.Lib.Walk
import Derived.Maps.AppendAt
import Derived.OpenShut
import Derived.OrdersHeld
import Derived.OwnWalk
import Derived.ProofKit
import Derived.RowKit
import Derived.RowKit3
import Derived.ScopeJumps
import Derived.SevenTiedAt
import Derived.Shelf.LaysM
import Derived.Shelf.Strconv.Itoa3
import Derived.Shelf.Strings.Builder1
import Derived.ShutString
import Derived.SizedLaws
import Derived.Sort.Grow
import Derived.Stop.Joined
import Derived.Stop.LaidErr
import Derived.Tactics
import Derived.Test.YtibaidddhmdafaaDoorCards
import Derived.Test.YtibaidddhmdafaaDoorProg
import Derived.Test.YtibaidddhmdafaaDoorRows
import Derived.Test.YtibaidddhmdafaaDoorTie
import Derived.WalkKit
import Derived.WideLaws
import Derived.Test.YtibaidddhmdafaaDoorZTreeFresh6
import Derived.Test.YtibaidddhmdafaaDoorZTreeFresh19
section
namespace Go.Proofs.YtibaidddhmdafaaDoor.treeFreshS
open Go Go.ChangeShapes Go.WideShapes Go.ChangeAt Go.RowKit Go.Proofs.YtibaidddhmdafaaDoorW.PrintWords Go.Proofs.YtibaidddhmdafaaDoor.Open Go.Proofs.YtibaidddhmdafaaDoor.PA Go.Proofs.YtibaidddhmdafaaDoor.E
open Go.ChangeMaps (open_string shut_string)
set_option linter.unusedVariables false
theorem own : ownKnob Tryd.prog.godebug = none := by kernel_rfl
theorem gPow : Tryd.prog.globalNamed "internal/strconv.uint64pow10" = some 0 := by kernel_rfl
theorem gPowT : (Tryd.prog.globals[0]?).map (·.type) = some 141 := by kernel_rfl
theorem cellsPow : Tryd.prog.cellsOf 141 = 20 := by kernel_rfl
theorem cellsEPow : Tryd.prog.cellsOf 133 = 1 := by kernel_rfl
theorem hPow {W : World} (h : laidMetH Tryd.prog Rows.treeFreshRow.laid W) : Pow10 W := by
  have hL : laidMet Tryd.prog Rows.treeFreshRow.laid W := h
  exact Lib.tabIs_of_head gPow gPowT Tryd.underlying141 Tryd.underlying133 cellsEPow cellsPow hL.tail.tail
theorem small_of : ∀ (n : Nat) (x : S25), G25 x → smallX n x
  | 0, _, _ => trivial
  | n + 1, x, h => by
    cases h with
    | mk _ h0 h1 h2 h3 r3 h4 h5 => exact ⟨h2, fun p hp => small_of n p (r3 p hp)⟩
theorem small_ofS : ∀ (n : Nat) (x : S42), G42 x → smallS n x
  | 0, _, _ => trivial
  | n + 1, x, h => by
    cases h with
    | mk _ h0 h1 h2 h3 r3 h4 h5 h6 => exact ⟨h1, fun p hp => small_of 16 p (h2.2 p hp), fun p hp => small_ofS n p (r3 p hp), fun r hr p hp => small_of 16 p ((h4.2 r hr).2 p hp)⟩
theorem small_ofI (x : S45) (h : G45 x) : smallI x := by
  obtain ⟨i0, i1, i2, i3, i4, i5, i6, i7⟩ := h
  exact ⟨i1, small_of 16 _ i2, small_ofS 16 _ i3, fun p hp => small_of 16 _ (i5.2 p hp)⟩
theorem laidOut : laidOutB Tryd.prog = true := by kernel_rfl
theorem met (os : Os) : laidMetH Tryd.prog Rows.treeFreshRow.laid ((World.doorLaid Tryd.prog 24 os).forCall (fun _ _ => 0) ⟨#[], #[.slice none 0 0], []⟩).memory :=
  laidMet_of_run' 8 (by kernel_rfl) (by kernel_rfl)
theorem reads (os : Os) {H : Type} (enc : TypeId × Value → H) : ∃ places, DataW.whole enc Tryd.prog ((World.doorLaid Tryd.prog 24 os).forCall (fun _ _ => 0) ⟨#[], #[.slice none 0 0], []⟩).memory Tryd.f4.params.toList Rows.treeFreshSpec.vars false (#[.slice none 0 0] : Array Value).toList 8 = some ([.nil], [], places) :=
  ⟨[], by kernel_rfl⟩
theorem okIn (os : Os) : Input.okWideB Tryd.prog ((World.doorLaid Tryd.prog 24 os).forCall (fun _ _ => 0) ⟨#[], #[.slice none 0 0], []⟩) 4 ⟨#[], #[.slice none 0 0], []⟩ = true := by kernel_rfl
set_option maxRecDepth 100000 in
theorem lifted (os : Os) (started : os.Started) (H : Type) (enc : TypeId × Value → H) (F : Stop.Interp) :
    ReturnsInHanded {} Tryd.checked os 4 .any ((OpenSpec.ofChange Rows.treeFreshSpec).preRow enc Tryd.prog Tryd.f4 Rows.treeFreshRow.domain false Rows.treeFreshRow.laid) (((OpenSpec.ofChange Rows.treeFreshSpec).at F).post enc Tryd.prog Tryd.f4 false true false false) := by
  obtain ⟨places, hx⟩ := reads os enc
  refine returnsInHanded_of_row (C := Tryd.checked) (s := (OpenSpec.ofChange Rows.treeFreshSpec)) own started (by kernel_rfl) Tryd.func4
    ⟨World.doorLaid Tryd.prog 24 os, fun _ _ => 0, ⟨#[], #[.slice none 0 0], []⟩, rfl, World.shaped_of_RefB (by kernel_rfl) (by kernel_rfl), rfl, (Input.okWide_of_okWideB (okIn os)).2, OpenSpec.preRow_of_cond 8 hx (by kernel_rfl) (fun k hk => by cases hk) (by kernel_rfl) (met os), by
      simp only [Assume.holds]
      exact ⟨by simp, by simp, fun _ => Modest.zero, by simp, by simp⟩⟩ ?_
  intro W base args ds gs before hval0 hW hcnd _ hsz0 hL _ _
  have hsz : (DataW.weightsEach Tryd.prog (Tryd.f4.params.toList ++ Rows.treeFreshSpec.plain.varTypes Tryd.prog) (ds ++ gs)).all (· ≤ reachBytes) = true := hsz0
  have hval : ∀ (j : Nat) t v, Tryd.f4.params[j]? = some t → args[j]? = some v → Value.okWide Tryd.prog W .any base t v := hval0
  have hW' := hW
  obtain ⟨p, q, hA0, hV, rfl, hfz, hnd⟩ := hW
  have hA : DataW.TrodAll enc Tryd.prog W 0 (fun _ => true) true Tryd.f4.params.toList args.toList ds p := hA0
  rw [Tryd.params4] at hA hval hsz
  obtain ⟨v0, vs0, d0, ds0, p0, q0, hargs, rfl, rfl, h0, r0⟩ := trodAll_cons hA
  obtain ⟨rfl, rfl, rfl⟩ := trodAll_nil r0
  obtain rfl : args = #[v0] := by cases args; simp_all
  obtain ⟨rfl, rfl⟩ := trodVars_none hV
  obtain ⟨a0, len0, cap0, rfl⟩ := okWide_slice Tryd.underlying32 (hval 0 32 v0 rfl rfl)
  have k0 := h0
  have lt0 : ∀ x ∈ p0, x.block < W.heap.size := by obtain ⟨m, hm⟩ := k0; exact DataW.trod_lt m _ _ _ hm
  have y0 : len0 * 256 ≤ 140737488351232 := sized_any hsz (j := 0) (t := 32) rfl rfl Tryd.underlying32 (by kernel_rfl) h0
  obtain ⟨f0, hf0⟩ := h0
  obtain ⟨l0, K0, g0, b0⟩ := (opens_slice (T := 32) Tryd.underlying32 (by kernel_rfl) (opens45 f0)) enc W _ _ f0 _ _ _ (by omega) hf0
  obtain ⟨A0, c0, hcs0, hc0, hr0⟩ := K0
  have hcs0_ : [Value.slice a0 len0 cap0] = [Value.slice A0 l0.length c0] := hcs0
  obtain ⟨rfl, rfl, rfl⟩ : a0 = A0 ∧ len0 = l0.length ∧ cap0 = c0 := by simpa using hcs0_
  clear hA0 hval0 hsz0
  refine (law_TreeFresh a0 cap0 l0 W hr0 (fun p hp => small_ofI p (g0.2 p hp)) (hPow hL)).mono fun e W' ⟨he, bel⟩ => ?_
  subst he
  exact ⟨_, rfl, _, _, _, [], _, [], hW', trodAll_mk1 (shut_bool Tryd.underlying4 _), (trodAll_cons_mk (Below.trod laidOut (by kernel_rfl) (of_decide_eq_true (by kernel_rfl)) k0 bel lt0) trodAll_mk0), rfl, bel.frame _, fun h => by cases h⟩
theorem said : Rows.TreeFreshSaid :=
  OpenClaim.holds_of_cond 4 Tryd.f4 rfl rfl rfl rfl rfl rfl rfl ⟨rfl, rfl, rfl, rfl, rfl⟩ rfl rfl rfl rfl rfl (by kernel_rfl) Tryd.func4 (by kernel_rfl)
    (of_decide_eq_true (by kernel_rfl)) (by unfold Func.isWrapper; first | (rw [if_pos (by decide +kernel)]; kernel_rfl) | (rw [if_neg (by decide +kernel)]; exact ⟨rfl, rfl⟩))
    (fun os started H enc _ F => by rw [OpenClaim.pre_eq_preRow]; exact lifted os started H enc F)
theorem plain (f : FuncId) (fn : Func) (hf : Tryd.pinned.checked.prog.funcNamed "recoup/recouplaw10.TreeFresh" = some f) (hfn : Tryd.pinned.checked.prog.funcs[f]? = some fn) :
    false = Tryd.pinned.checked.prog.looks [] ∧ ∀ (j : Nat) t, fn.params[j]? = some t → Tryd.pinned.checked.prog.wantsStandIn t = false := by
  obtain rfl : f = 4 := Option.some.inj ((show Tryd.prog.funcNamed "recoup/recouplaw10.TreeFresh" = some 4 by kernel_rfl).symm.trans hf) |>.symm
  obtain rfl : fn = Tryd.f4 := (Option.some.inj (Tryd.func4.symm.trans hfn)).symm
  refine ⟨by kernel_rfl, fun j t ht => ?_⟩
  rw [Tryd.params4] at ht
  have hm : t = 32 := by have h := Array.mem_of_getElem? ht; simpa using h
  rcases hm with rfl
  · exact (show Tryd.prog.wantsStandIn 32 = false by kernel_rfl)
theorem over : Rows.TreeFreshCardSaid :=
  Claim7.holds_tied_plain_at .later [] _ _ _ _ said (fun _ h => by cases h) (by kernel_rfl) (fun _ h => by cases h) treeFresh_row_tie rfl ⟨rfl, rfl⟩ (by kernel_rfl) rfl plain (by kernel_rfl)
end Go.Proofs.YtibaidddhmdafaaDoor.treeFreshS
namespace Go.Proofs.YtibaidddhmdafaaDoor
/-- The row, under a short name, for the claim. -/
theorem treeFresh_holds : Rows.TreeFreshCardSaid := treeFreshS.over
end Go.Proofs.YtibaidddhmdafaaDoor
end
