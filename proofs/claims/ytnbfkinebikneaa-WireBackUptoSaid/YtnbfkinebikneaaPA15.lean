/- Printed by a program of this repo over the kit's printer: functions of the given program as plain Lean functions, each with the proof that the call does what it says. -/
import Derived.Test.YtnbfkinebikneaaPA0
import Derived.Test.YtnbfkinebikneaaPA1
import Derived.Test.YtnbfkinebikneaaPA2
import Derived.Test.YtnbfkinebikneaaPA5
import Derived.Test.YtnbfkinebikneaaPA8
import Derived.Test.YtnbfkinebikneaaPA10
import Derived.Test.YtnbfkinebikneaaPA11
import Derived.Test.YtnbfkinebikneaaPA12
import Derived.Test.YtnbfkinebikneaaPA14
namespace Go.Proofs.Ytnbfkinebikneaa.PA
open Go.RowKit Go.Proofs.YtnbfkinebikneaaW.PrintWords Go.Proofs.YtnbfkinebikneaaW.PrintLast Go.Proofs.YtnbfkinebikneaaW.PrintMore
attribute [local go_sem] max2_int min2_int max_two min_two max_three min_three max_four min_four   -- for this text's walks alone
set_option linter.unusedVariables false
set_option linter.unusedSimpArgs false

/-! ### recouplaw08_WireBack: function 9 -/
def recouplaw08_WireBack.j0 : Nat → Int → List Int → Int → List Int → Option (Bool)
  | 0, _, _, _, _ => none
  | k + 1, x0, x2, x345000, x345001 => (wire_Num.f k x0).bind fun bt346 => ((recoupref01_Copy.f bt346.1).bind fun t350 => (if t350.length + x2.length < 140737488355328 then ((wire_ReadNum.f k (t350 ++ x2)).bind fun bt356 => ((wire_Write.f k x345000 x345001).bind fun bt359 => ((recoupref01_Copy.f bt359.1).bind fun t363 => (if t363.length + x2.length < 140737488355328 then ((wire_Read.f k (t363 ++ x2)).bind fun bt369 => ((wire_Text.f k x345001).bind fun bt376 => ((recoupref01_Copy.f bt376.1).bind fun t380 => (if t380.length + x2.length < 140737488355328 then ((wire_ReadText.f k (t380 ++ x2) (x345001.length : Int)).bind fun bt386 => ((recouplaw08_anchored.f).bind fun t391 => (if t391 = true then (if bt346.2 = 0 then (if bt356.2.2 = 0 then (if bt359.2 = 0 then (if bt369.2.2.2 = 0 then (if bt376.2 = 0 then (if bt386.2.2 = 0 then (if bt356.1 = x0 then (if bt356.2.1 = (bt346.1.length : Int) then ((recoupref08_Like.f bt369.1 bt369.2.1 x345000 x345001).bind fun t392 => (if t392 = true then (if bt369.2.2.1 = (bt359.1.length : Int) then ((recoupref01_Same.f bt386.1 x345001).bind fun t393 => (if t393 = true then (some (bt386.2.1 == (bt376.1.length : Int))) else (none))) else (none)) else (none))) else (none)) else (none)) else (none)) else (none)) else (none)) else (none)) else (none)) else (none)) else (none)))) else (none))))) else (none))))) else (none)))
def recouplaw08_WireBack.f (k : Nat) (a0 : Int) (a1_0 : Int) (l1_1 : List Int) (l2 : List Int) : Option (Bool) := if (l1_1.length : Int) > 4194304 then ((recouplaw08_anchored.f).bind fun t345 => (some t345)) else (if a0 < 0 then (recouplaw08_WireBack.j0 k (wrap64 (-(wrap64 (a0 + 1)))) l2 a1_0 l1_1) else (recouplaw08_WireBack.j0 k a0 l2 a1_0 l1_1))
theorem recouplaw08_WireBack.mono_l : ∀ k, (∀ y0 y1 y2 y3, LeO (recouplaw08_WireBack.j0 k y0 y1 y2 y3) (recouplaw08_WireBack.j0 (k + 1) y0 y1 y2 y3))
  | 0 => fun _ _ _ _ r h => by simp [recouplaw08_WireBack.j0] at h
  | k + 1 => by
    have ih0 := recouplaw08_WireBack.mono_l k
    · intro y0 y1 y2 y3
      unfold recouplaw08_WireBack.j0
      repeat' first
      | (with_reducible exact ih0 _ _ _ _)
      | (with_reducible exact wire_Num.mono _ _)
      | (with_reducible exact wire_Read.mono _ _)
      | (with_reducible exact wire_ReadNum.mono _ _)
      | (with_reducible exact wire_ReadText.mono _ _ _)
      | (with_reducible exact wire_Text.mono _ _)
      | (with_reducible exact wire_Write.mono _ _ _)
      | (with_reducible exact LeO.refl _)
      | (with_reducible exact LeO.none _)
      | (with_reducible refine LeO.ite ?_ ?_)
      | (with_reducible refine LeO.bind ?_ (fun _ => ?_))
      | exact ih0 _ _ _ _
      | exact wire_Num.mono _ _
      | exact wire_Read.mono _ _
      | exact wire_ReadNum.mono _ _
      | exact wire_ReadText.mono _ _ _
      | exact wire_Text.mono _ _
      | exact wire_Write.mono _ _ _
      | exact LeO.none _
      | refine LeO.ite ?_ ?_
      | refine LeO.bind ?_ (fun _ => ?_)
theorem recouplaw08_WireBack.mono : ∀ a0 a1 a2 a3 k, LeO (recouplaw08_WireBack.f k a0 a1 a2 a3) (recouplaw08_WireBack.f (k + 1) a0 a1 a2 a3) := by
  intro a0 a1 a2 a3 k
  have ih0 := recouplaw08_WireBack.mono_l k
  unfold recouplaw08_WireBack.f
  repeat' first
      | (with_reducible exact ih0 _ _ _ _)
      | (with_reducible exact wire_Num.mono _ _)
      | (with_reducible exact wire_Read.mono _ _)
      | (with_reducible exact wire_ReadNum.mono _ _)
      | (with_reducible exact wire_ReadText.mono _ _ _)
      | (with_reducible exact wire_Text.mono _ _)
      | (with_reducible exact wire_Write.mono _ _ _)
      | (with_reducible exact LeO.refl _)
      | (with_reducible exact LeO.none _)
      | (with_reducible refine LeO.ite ?_ ?_)
      | (with_reducible refine LeO.bind ?_ (fun _ => ?_))
      | exact ih0 _ _ _ _
      | exact wire_Num.mono _ _
      | exact wire_Read.mono _ _
      | exact wire_ReadNum.mono _ _
      | exact wire_ReadText.mono _ _ _
      | exact wire_Text.mono _ _
      | exact wire_Write.mono _ _ _
      | exact LeO.none _
      | refine LeO.ite ?_ ?_
      | refine LeO.bind ?_ (fun _ => ?_)
def recouplaw08_WireBack.T10 : Bool × List (List Nat × List Nat) := (true, [([], []), ([0], [0]), ([], []), ([1, 2, 1], [1, 2]), ([], []), ([4], [4]), ([5], [5]), ([3, 6, 3], [3, 6]), ([7], [7]), ([8], [8]), ([8], [8]), ([8], [8]), ([9, 7, 0, 1, 2, 3, 4, 5, 6, 7, 8, 9], [9]), ([10, 12, 0, 1, 2, 3, 4, 5, 6, 7, 8, 9, 10, 12], [10]), ([11, 13, 0, 1, 2, 3, 4, 5, 6, 7, 8, 9, 10, 11, 12, 13], [11])])
def recouplaw08_WireBack.B10 : List Nat := [0, 1, 0, 7, 0, 16, 48, 127, 255, 511, 511, 511, 1023, 6143, 16383]
theorem recouplaw08_WireBack.tab10 : rtab .any (opsOf Try.f9 10) = recouplaw08_WireBack.T10 := by kernel_rfl
theorem recouplaw08_WireBack.bits10 : waitsOk recouplaw08_WireBack.T10.2 recouplaw08_WireBack.B10 = true := by kernel_rfl
set_option maxHeartbeats 8000000 in
set_option maxRecDepth 100000 in
theorem recouplaw08_WireBack.calls (k : Nat) (a0 : Int) (a1_0 : Int) (A1_1 : Option Addr) (c1_1 : Nat) (l1_1 : List Int) (A2 : Option Addr) (c2 : Nat) (l2 : List Int) (r : Bool) (w : World) (hr1_1 : Kd.C (Kd.int .u8) w A1_1 l1_1.length l1_1) (hc1_1 : l1_1.length ≤ c1_1) (hr2 : Kd.C (Kd.int .u8) w A2 l2.length l2) (hc2 : l2.length ≤ c2) (h : recouplaw08_WireBack.f k a0 a1_0 l1_1 l2 = some r) :
    Calls Try.prog 9 #[.int .i64 a0, .agg #[.int .u8 a1_0, .slice A1_1 l1_1.length c1_1], .slice A2 l2.length c2] w fun e w' => e = .returned (.bool r) ∧ Below w.heap.size w w' := by
  have hu53 := Try.underlying53
  have HR1_1 := Aside0.mk hr1_1
  have HC1_1 := Aside0.mk hc1_1
  clear hr1_1 hc1_1
  have HR2 := Aside0.mk hr2
  have HC2 := Aside0.mk hc2
  clear hr2 hc2
  have HB := Aside0.mk (Below.refl w.heap.size w)
  have H : (if (l1_1.length : Int) > 4194304 then ((recouplaw08_anchored.f).bind fun t345 => (some t345)) else (if a0 < 0 then (recouplaw08_WireBack.j0 k (wrap64 (-(wrap64 (a0 + 1)))) l2 a1_0 l1_1) else (recouplaw08_WireBack.j0 k a0 l2 a1_0 l1_1))) = some r := h
  clear h
  by_cases c4 : (l1_1.length : Int) > 4194304
  · rw [if_pos c4] at H
    have c4b0 : decide (4194304 < (l1_1.length : Int)) = true := decide_eq_true c4
    have c4b1 : decide (4194304 < l1_1.length) = true := decide_eq_true (by omega)
    clear c4
    replace H := Option.bind_eq_some_iff.mp H
    obtain ⟨t345, A50, H⟩ := H
    replace H : (some t345) = some r := H
    have A5 := Aside0.mk A50
    clear A50
    obtain rfl := Option.some.inj H
    go_enter Try.func9, Try.ntmps9
    go_wp2_with (first | ((with_reducible refine gate_dst (N := 4) rfl ?_); (try (refine gate_guard (by rfl) ?_; dsimp only)); refine box_event ?hg (N := 4) ?hd (cs := #[.int .u8 a1_0, .slice A1_1 l1_1.length c1_1]) (t := 53) ?hr ?_; (case hd => rfl); (case hg => rfl); (case hr => first | (go_simp; done) | (go_simp; rfl)); intro gb344 hg w6 hbox hb; have n0_ := Aside0.mk (below_step (by repeat (first | (with_reducible first | exact HB.out | apply below_alloc | apply pw_below_drewN | apply below_drew1) | exact HB.out)) hb); have n1_ := Aside0.mk (hbox); have n2_ := Aside0.mk ((by rw [hg]; exact (below_size (by repeat (first | (with_reducible first | exact HB.out | apply below_alloc | apply pw_below_drewN | apply below_drew1) | exact HB.out))) : w.heap.size ≤ gb344)); have n3_ := Aside0.mk ((by rw [hg]; exact (below_size (by repeat (first | (with_reducible first | exact HB.out | apply below_alloc | apply pw_below_drewN | apply below_drew1) | exact HB.out))) : w.heap.size ≤ gb344)); clear HB; have HB := n0_; have BK344 := n1_; have GW344 := n2_; have GE344 := n3_; clear n0_ n1_ n2_ n3_; clear hb hbox hg; have hcz7_0 : w6.cell? ⟨gb344, 0, none⟩ = some (.int .u8 a1_0) := (blk_cell BK344.out 0).trans rfl; have hcz7_1 : w6.cell? ⟨gb344, 1, none⟩ = some (.slice A1_1 l1_1.length c1_1) := (blk_cell BK344.out 1).trans rfl; have hfz7_0 := blk_frozen BK344.out 0; have hfz7_1 := blk_frozen BK344.out 1) | ((with_reducible refine gate_callee (f := 22) rfl ?_); refine goesL_ (some 26) rfl rfl Try.func22 (by kernel_rfl) rfl #[] rfl (by (try simp only [List.map_toArray, List.map_cons, List.map_nil]); first | done | rfl | (simp only [List.length_drop, List.length_take]; rfl)) ?_; (with_reducible refine (recouplaw08_anchored.calls  t345 _ A5.out).mono ?_); rintro e w8 ⟨rfl, hb⟩; refine ⟨_, rfl, ?_⟩; have n0_ := Aside0.mk (blk_below (g := gb344) (o := .cells #[.int .u8 a1_0, .slice A1_1 l1_1.length c1_1] 53 (0, 0)) (by (with_reducible repeat (first | refine blk_drewN ?_ _ | refine blk_drew ?_ | refine blk_alloc ?_ _)); exact BK344.out) hb); have n1_ := Aside0.mk (below_step (by repeat (first | (with_reducible first | exact HB.out | apply below_alloc | apply pw_below_drewN | apply below_drew1 | refine below_set ?_ GE344.out) | exact HB.out)) hb); clear BK344; clear HB; have BK344 := n0_; have HB := n1_; clear n0_ n1_; (try clear hb); (try clear hb2); (try clear hk); (try clear hi)))
    go_ret
    exact ⟨by first | rfl | (simp [errW_none, errW_some] <;> rfl) | (simp [*, errW_none, errW_some] <;> rfl), by repeat (first | (with_reducible first | exact HB.out | apply below_alloc | apply pw_below_drewN | apply below_drew1 | refine below_set ?_ GE344.out) | exact HB.out)⟩
  · rw [if_neg c4] at H
    have c4b0 : decide (4194304 < (l1_1.length : Int)) = false := decide_eq_false c4
    have c4b1 : decide (4194304 < l1_1.length) = false := decide_eq_false (by omega)
    clear c4
    have HC9 := Aside0.mk H
    clear H
    go_enter Try.func9, Try.ntmps9
    go_upto_if 28 with (first | ((with_reducible refine gate_dst (N := 4) rfl ?_); (try (refine gate_guard (by rfl) ?_; dsimp only)); refine box_event ?hg (N := 4) ?hd (cs := #[.int .u8 a1_0, .slice A1_1 l1_1.length c1_1]) (t := 53) ?hr ?_; (case hd => rfl); (case hg => rfl); (case hr => first | (go_simp; done) | (go_simp; rfl)); intro gb344 hg w10 hbox hb; have n0_ := Aside0.mk (below_step (by repeat (first | (with_reducible first | exact HB.out | apply below_alloc | apply pw_below_drewN | apply below_drew1) | exact HB.out)) hb); have n1_ := Aside0.mk (hbox); have n2_ := Aside0.mk ((by rw [hg]; exact (below_size (by repeat (first | (with_reducible first | exact HB.out | apply below_alloc | apply pw_below_drewN | apply below_drew1) | exact HB.out))) : w.heap.size ≤ gb344)); have n3_ := Aside0.mk ((by rw [hg]; exact (below_size (by repeat (first | (with_reducible first | exact HB.out | apply below_alloc | apply pw_below_drewN | apply below_drew1) | exact HB.out))) : w.heap.size ≤ gb344)); clear HB; have HB := n0_; have BK344 := n1_; have GW344 := n2_; have GE344 := n3_; clear n0_ n1_ n2_ n3_; clear hb hbox hg; have hcz11_0 : w10.cell? ⟨gb344, 0, none⟩ = some (.int .u8 a1_0) := (blk_cell BK344.out 0).trans rfl; have hcz11_1 : w10.cell? ⟨gb344, 1, none⟩ = some (.slice A1_1 l1_1.length c1_1) := (blk_cell BK344.out 1).trans rfl; have hfz11_0 := blk_frozen BK344.out 0; have hfz11_1 := blk_frozen BK344.out 1))
    (try simp only [Act.put, List.setIfInBounds_toArray, List.set_cons_zero, List.set_cons_succ])
    go_cut [0] (fun v0 wc => ∃ (kq : Nat) (x0_8 : Int), v0 = .int .i64 x0_8 ∧ Aside0 (recouplaw08_WireBack.j0 kq x0_8 l2 a1_0 l1_1 = some r) ∧ Aside0 (kq ≤ k) ∧ Aside0 (wc.heap[gb344]? = some (.cells #[.int .u8 a1_0, (.slice A1_1 l1_1.length c1_1)] 53 (0, 0))) ∧ Aside0 (Below w.heap.size w wc))
    case first =>
      have H := HC9.out
      clear HC9
      by_cases c12 : a0 < 0
      · rw [if_pos c12] at H
        have c12b0 : decide (a0 < 0) = true := decide_eq_true c12
        clear c12
        (first | rw [c12b0] | (simp only [i64_w, i32_w]; rw [c12b0]) | skip)
        have H' := Aside0.mk H
        clear H
        go_wp2
        go_meet
        case rel => exact ⟨_, (wrap64 (-(wrap64 (a0 + 1)))), (by first | rfl | (simp; done) | (simp [*]; done)), H', ⟨by first | omega | exact Nat.le_refl _⟩, ⟨by (with_reducible repeat (first | refine blk_drewN ?_ _ | refine blk_drew ?_ | refine blk_alloc ?_ _)); exact BK344.out⟩, ⟨by repeat (first | (with_reducible first | exact HB.out | apply below_alloc | apply pw_below_drewN | apply below_drew1 | refine below_set ?_ GE344.out) | exact HB.out)⟩⟩
      · rw [if_neg c12] at H
        have c12b0 : decide (a0 < 0) = false := decide_eq_false c12
        clear c12
        (first | rw [c12b0] | (simp only [i64_w, i32_w]; rw [c12b0]) | skip)
        have H' := Aside0.mk H
        clear H
        go_wp2
        go_meet
        case rel => exact ⟨_, (a0), (by first | rfl | (simp; done) | (simp [*]; done)), H', ⟨by first | omega | exact Nat.le_refl _⟩, ⟨by (with_reducible repeat (first | refine blk_drewN ?_ _ | refine blk_drew ?_ | refine blk_alloc ?_ _)); exact BK344.out⟩, ⟨by repeat (first | (with_reducible first | exact HB.out | apply below_alloc | apply pw_below_drewN | apply below_drew1 | refine below_set ?_ GE344.out) | exact HB.out)⟩⟩
    case rest =>
      clear HC9
      try clear c1
      try clear c2
      try clear p2
      try clear c4
      try clear c4b0
      try clear c4b1
      try clear p6
      try clear c9
      try clear c12
      try clear c12b0
      try clear hcz11_0
      try clear hcz11_1
      try clear hcz7_0
      try clear hcz7_1
      try clear hfz11_0
      try clear hfz11_1
      try clear hfz7_0
      try clear hfz7_1
      obtain ⟨kq, x0_8, rfl, HA, HJ8, BK344, HB⟩ := hcut
      cases kq with
      | zero => exact absurd HA.out (by simp [recouplaw08_WireBack.j0])
      | succ kj8 =>
        have H := HA.out
        clear HA
        simp only [recouplaw08_WireBack.j0] at H
        replace H := Option.bind_eq_some_iff.mp H
        obtain ⟨⟨t346, t347⟩, A130, H⟩ := H
        replace H : ((recoupref01_Copy.f t346).bind fun t350 => (if t350.length + l2.length < 140737488355328 then ((wire_ReadNum.f kj8 (t350 ++ l2)).bind fun bt356 => ((wire_Write.f kj8 a1_0 l1_1).bind fun bt359 => ((recoupref01_Copy.f bt359.1).bind fun t363 => (if t363.length + l2.length < 140737488355328 then ((wire_Read.f kj8 (t363 ++ l2)).bind fun bt369 => ((wire_Text.f kj8 l1_1).bind fun bt376 => ((recoupref01_Copy.f bt376.1).bind fun t380 => (if t380.length + l2.length < 140737488355328 then ((wire_ReadText.f kj8 (t380 ++ l2) (l1_1.length : Int)).bind fun bt386 => ((recouplaw08_anchored.f).bind fun t391 => (if t391 = true then (if t347 = 0 then (if bt356.2.2 = 0 then (if bt359.2 = 0 then (if bt369.2.2.2 = 0 then (if bt376.2 = 0 then (if bt386.2.2 = 0 then (if bt356.1 = x0_8 then (if bt356.2.1 = (t346.length : Int) then ((recoupref08_Like.f bt369.1 bt369.2.1 a1_0 l1_1).bind fun t392 => (if t392 = true then (if bt369.2.2.1 = (bt359.1.length : Int) then ((recoupref01_Same.f bt386.1 l1_1).bind fun t393 => (if t393 = true then (some (bt386.2.1 == (bt376.1.length : Int))) else (none))) else (none)) else (none))) else (none)) else (none)) else (none)) else (none)) else (none)) else (none)) else (none)) else (none)) else (none)))) else (none))))) else (none))))) else (none))) = some r := H
        have A13 := Aside0.mk A130
        clear A130
        replace H := Option.bind_eq_some_iff.mp H
        obtain ⟨t350, A140, H⟩ := H
        replace H : (if t350.length + l2.length < 140737488355328 then ((wire_ReadNum.f kj8 (t350 ++ l2)).bind fun bt356 => ((wire_Write.f kj8 a1_0 l1_1).bind fun bt359 => ((recoupref01_Copy.f bt359.1).bind fun t363 => (if t363.length + l2.length < 140737488355328 then ((wire_Read.f kj8 (t363 ++ l2)).bind fun bt369 => ((wire_Text.f kj8 l1_1).bind fun bt376 => ((recoupref01_Copy.f bt376.1).bind fun t380 => (if t380.length + l2.length < 140737488355328 then ((wire_ReadText.f kj8 (t380 ++ l2) (l1_1.length : Int)).bind fun bt386 => ((recouplaw08_anchored.f).bind fun t391 => (if t391 = true then (if t347 = 0 then (if bt356.2.2 = 0 then (if bt359.2 = 0 then (if bt369.2.2.2 = 0 then (if bt376.2 = 0 then (if bt386.2.2 = 0 then (if bt356.1 = x0_8 then (if bt356.2.1 = (t346.length : Int) then ((recoupref08_Like.f bt369.1 bt369.2.1 a1_0 l1_1).bind fun t392 => (if t392 = true then (if bt369.2.2.1 = (bt359.1.length : Int) then ((recoupref01_Same.f bt386.1 l1_1).bind fun t393 => (if t393 = true then (some (bt386.2.1 == (bt376.1.length : Int))) else (none))) else (none)) else (none))) else (none)) else (none)) else (none)) else (none)) else (none)) else (none)) else (none)) else (none)) else (none)))) else (none))))) else (none))))) else (none)) = some r := H
        have A14 := Aside0.mk A140
        clear A140
        by_cases c15 : t350.length + l2.length < 140737488355328
        · rw [if_pos c15] at H
          have LMc15 := Aside0.mk c15
          clear c15
          obtain ⟨y353, hy353⟩ : ∃ y_ : List Int, y_ = (t350 ++ l2) := ⟨_, rfl⟩
          replace H : ((wire_ReadNum.f kj8 y353).bind fun bt356 => ((wire_Write.f kj8 a1_0 l1_1).bind fun bt359 => ((recoupref01_Copy.f bt359.1).bind fun t363 => (if t363.length + l2.length < 140737488355328 then ((wire_Read.f kj8 (t363 ++ l2)).bind fun bt369 => ((wire_Text.f kj8 l1_1).bind fun bt376 => ((recoupref01_Copy.f bt376.1).bind fun t380 => (if t380.length + l2.length < 140737488355328 then ((wire_ReadText.f kj8 (t380 ++ l2) (l1_1.length : Int)).bind fun bt386 => ((recouplaw08_anchored.f).bind fun t391 => (if t391 = true then (if t347 = 0 then (if bt356.2.2 = 0 then (if bt359.2 = 0 then (if bt369.2.2.2 = 0 then (if bt376.2 = 0 then (if bt386.2.2 = 0 then (if bt356.1 = x0_8 then (if bt356.2.1 = (t346.length : Int) then ((recoupref08_Like.f bt369.1 bt369.2.1 a1_0 l1_1).bind fun t392 => (if t392 = true then (if bt369.2.2.1 = (bt359.1.length : Int) then ((recoupref01_Same.f bt386.1 l1_1).bind fun t393 => (if t393 = true then (some (bt386.2.1 == (bt376.1.length : Int))) else (none))) else (none)) else (none))) else (none)) else (none)) else (none)) else (none)) else (none)) else (none)) else (none)) else (none)) else (none)))) else (none))))) else (none))))) = some r := by first | (rw [hy353]; with_reducible exact H) | (have H2_ := (Option.bind_some _ _).symm.trans H; rw [hy353]; with_reducible exact H2_) | (have H2_ := (Option.bind_some _ _).symm.trans H; with_reducible exact H2_) | with_reducible exact H | (rw [hy353]; exact H) | exact H
          have Ny353 := Aside0.mk hy353
          clear hy353
          replace H := Option.bind_eq_some_iff.mp H
          obtain ⟨⟨t356, t357, t358⟩, A160, H⟩ := H
          replace H : ((wire_Write.f kj8 a1_0 l1_1).bind fun bt359 => ((recoupref01_Copy.f bt359.1).bind fun t363 => (if t363.length + l2.length < 140737488355328 then ((wire_Read.f kj8 (t363 ++ l2)).bind fun bt369 => ((wire_Text.f kj8 l1_1).bind fun bt376 => ((recoupref01_Copy.f bt376.1).bind fun t380 => (if t380.length + l2.length < 140737488355328 then ((wire_ReadText.f kj8 (t380 ++ l2) (l1_1.length : Int)).bind fun bt386 => ((recouplaw08_anchored.f).bind fun t391 => (if t391 = true then (if t347 = 0 then (if t358 = 0 then (if bt359.2 = 0 then (if bt369.2.2.2 = 0 then (if bt376.2 = 0 then (if bt386.2.2 = 0 then (if t356 = x0_8 then (if t357 = (t346.length : Int) then ((recoupref08_Like.f bt369.1 bt369.2.1 a1_0 l1_1).bind fun t392 => (if t392 = true then (if bt369.2.2.1 = (bt359.1.length : Int) then ((recoupref01_Same.f bt386.1 l1_1).bind fun t393 => (if t393 = true then (some (bt386.2.1 == (bt376.1.length : Int))) else (none))) else (none)) else (none))) else (none)) else (none)) else (none)) else (none)) else (none)) else (none)) else (none)) else (none)) else (none)))) else (none))))) else (none)))) = some r := H
          have A16 := Aside0.mk A160
          clear A160
          replace H := Option.bind_eq_some_iff.mp H
          obtain ⟨⟨t359, t362⟩, A170, H⟩ := H
          replace H : ((recoupref01_Copy.f t359).bind fun t363 => (if t363.length + l2.length < 140737488355328 then ((wire_Read.f kj8 (t363 ++ l2)).bind fun bt369 => ((wire_Text.f kj8 l1_1).bind fun bt376 => ((recoupref01_Copy.f bt376.1).bind fun t380 => (if t380.length + l2.length < 140737488355328 then ((wire_ReadText.f kj8 (t380 ++ l2) (l1_1.length : Int)).bind fun bt386 => ((recouplaw08_anchored.f).bind fun t391 => (if t391 = true then (if t347 = 0 then (if t358 = 0 then (if t362 = 0 then (if bt369.2.2.2 = 0 then (if bt376.2 = 0 then (if bt386.2.2 = 0 then (if t356 = x0_8 then (if t357 = (t346.length : Int) then ((recoupref08_Like.f bt369.1 bt369.2.1 a1_0 l1_1).bind fun t392 => (if t392 = true then (if bt369.2.2.1 = (t359.length : Int) then ((recoupref01_Same.f bt386.1 l1_1).bind fun t393 => (if t393 = true then (some (bt386.2.1 == (bt376.1.length : Int))) else (none))) else (none)) else (none))) else (none)) else (none)) else (none)) else (none)) else (none)) else (none)) else (none)) else (none)) else (none)))) else (none))))) else (none))) = some r := H
          have A17 := Aside0.mk A170
          clear A170
          replace H := Option.bind_eq_some_iff.mp H
          obtain ⟨t363, A180, H⟩ := H
          replace H : (if t363.length + l2.length < 140737488355328 then ((wire_Read.f kj8 (t363 ++ l2)).bind fun bt369 => ((wire_Text.f kj8 l1_1).bind fun bt376 => ((recoupref01_Copy.f bt376.1).bind fun t380 => (if t380.length + l2.length < 140737488355328 then ((wire_ReadText.f kj8 (t380 ++ l2) (l1_1.length : Int)).bind fun bt386 => ((recouplaw08_anchored.f).bind fun t391 => (if t391 = true then (if t347 = 0 then (if t358 = 0 then (if t362 = 0 then (if bt369.2.2.2 = 0 then (if bt376.2 = 0 then (if bt386.2.2 = 0 then (if t356 = x0_8 then (if t357 = (t346.length : Int) then ((recoupref08_Like.f bt369.1 bt369.2.1 a1_0 l1_1).bind fun t392 => (if t392 = true then (if bt369.2.2.1 = (t359.length : Int) then ((recoupref01_Same.f bt386.1 l1_1).bind fun t393 => (if t393 = true then (some (bt386.2.1 == (bt376.1.length : Int))) else (none))) else (none)) else (none))) else (none)) else (none)) else (none)) else (none)) else (none)) else (none)) else (none)) else (none)) else (none)))) else (none))))) else (none)) = some r := H
          have A18 := Aside0.mk A180
          clear A180
          by_cases c19 : t363.length + l2.length < 140737488355328
          · rw [if_pos c19] at H
            have LMc19 := Aside0.mk c19
            clear c19
            obtain ⟨y366, hy366⟩ : ∃ y_ : List Int, y_ = (t363 ++ l2) := ⟨_, rfl⟩
            replace H : ((wire_Read.f kj8 y366).bind fun bt369 => ((wire_Text.f kj8 l1_1).bind fun bt376 => ((recoupref01_Copy.f bt376.1).bind fun t380 => (if t380.length + l2.length < 140737488355328 then ((wire_ReadText.f kj8 (t380 ++ l2) (l1_1.length : Int)).bind fun bt386 => ((recouplaw08_anchored.f).bind fun t391 => (if t391 = true then (if t347 = 0 then (if t358 = 0 then (if t362 = 0 then (if bt369.2.2.2 = 0 then (if bt376.2 = 0 then (if bt386.2.2 = 0 then (if t356 = x0_8 then (if t357 = (t346.length : Int) then ((recoupref08_Like.f bt369.1 bt369.2.1 a1_0 l1_1).bind fun t392 => (if t392 = true then (if bt369.2.2.1 = (t359.length : Int) then ((recoupref01_Same.f bt386.1 l1_1).bind fun t393 => (if t393 = true then (some (bt386.2.1 == (bt376.1.length : Int))) else (none))) else (none)) else (none))) else (none)) else (none)) else (none)) else (none)) else (none)) else (none)) else (none)) else (none)) else (none)))) else (none))))) = some r := by first | (rw [hy366]; with_reducible exact H) | (have H2_ := (Option.bind_some _ _).symm.trans H; rw [hy366]; with_reducible exact H2_) | (have H2_ := (Option.bind_some _ _).symm.trans H; with_reducible exact H2_) | with_reducible exact H | (rw [hy366]; exact H) | exact H
            have Ny366 := Aside0.mk hy366
            clear hy366
            replace H := Option.bind_eq_some_iff.mp H
            obtain ⟨⟨t369, t370, t373, t374⟩, A200, H⟩ := H
            replace H : ((wire_Text.f kj8 l1_1).bind fun bt376 => ((recoupref01_Copy.f bt376.1).bind fun t380 => (if t380.length + l2.length < 140737488355328 then ((wire_ReadText.f kj8 (t380 ++ l2) (l1_1.length : Int)).bind fun bt386 => ((recouplaw08_anchored.f).bind fun t391 => (if t391 = true then (if t347 = 0 then (if t358 = 0 then (if t362 = 0 then (if t374 = 0 then (if bt376.2 = 0 then (if bt386.2.2 = 0 then (if t356 = x0_8 then (if t357 = (t346.length : Int) then ((recoupref08_Like.f t369 t370 a1_0 l1_1).bind fun t392 => (if t392 = true then (if t373 = (t359.length : Int) then ((recoupref01_Same.f bt386.1 l1_1).bind fun t393 => (if t393 = true then (some (bt386.2.1 == (bt376.1.length : Int))) else (none))) else (none)) else (none))) else (none)) else (none)) else (none)) else (none)) else (none)) else (none)) else (none)) else (none)) else (none)))) else (none)))) = some r := H
            have A20 := Aside0.mk A200
            clear A200
            replace H := Option.bind_eq_some_iff.mp H
            obtain ⟨⟨t376, t377⟩, A210, H⟩ := H
            replace H : ((recoupref01_Copy.f t376).bind fun t380 => (if t380.length + l2.length < 140737488355328 then ((wire_ReadText.f kj8 (t380 ++ l2) (l1_1.length : Int)).bind fun bt386 => ((recouplaw08_anchored.f).bind fun t391 => (if t391 = true then (if t347 = 0 then (if t358 = 0 then (if t362 = 0 then (if t374 = 0 then (if t377 = 0 then (if bt386.2.2 = 0 then (if t356 = x0_8 then (if t357 = (t346.length : Int) then ((recoupref08_Like.f t369 t370 a1_0 l1_1).bind fun t392 => (if t392 = true then (if t373 = (t359.length : Int) then ((recoupref01_Same.f bt386.1 l1_1).bind fun t393 => (if t393 = true then (some (bt386.2.1 == (t376.length : Int))) else (none))) else (none)) else (none))) else (none)) else (none)) else (none)) else (none)) else (none)) else (none)) else (none)) else (none)) else (none)))) else (none))) = some r := H
            have A21 := Aside0.mk A210
            clear A210
            replace H := Option.bind_eq_some_iff.mp H
            obtain ⟨t380, A220, H⟩ := H
            replace H : (if t380.length + l2.length < 140737488355328 then ((wire_ReadText.f kj8 (t380 ++ l2) (l1_1.length : Int)).bind fun bt386 => ((recouplaw08_anchored.f).bind fun t391 => (if t391 = true then (if t347 = 0 then (if t358 = 0 then (if t362 = 0 then (if t374 = 0 then (if t377 = 0 then (if bt386.2.2 = 0 then (if t356 = x0_8 then (if t357 = (t346.length : Int) then ((recoupref08_Like.f t369 t370 a1_0 l1_1).bind fun t392 => (if t392 = true then (if t373 = (t359.length : Int) then ((recoupref01_Same.f bt386.1 l1_1).bind fun t393 => (if t393 = true then (some (bt386.2.1 == (t376.length : Int))) else (none))) else (none)) else (none))) else (none)) else (none)) else (none)) else (none)) else (none)) else (none)) else (none)) else (none)) else (none)))) else (none)) = some r := H
            have A22 := Aside0.mk A220
            clear A220
            by_cases c23 : t380.length + l2.length < 140737488355328
            · rw [if_pos c23] at H
              have LMc23 := Aside0.mk c23
              clear c23
              obtain ⟨y383, hy383⟩ : ∃ y_ : List Int, y_ = (t380 ++ l2) := ⟨_, rfl⟩
              replace H : ((wire_ReadText.f kj8 y383 (l1_1.length : Int)).bind fun bt386 => ((recouplaw08_anchored.f).bind fun t391 => (if t391 = true then (if t347 = 0 then (if t358 = 0 then (if t362 = 0 then (if t374 = 0 then (if t377 = 0 then (if bt386.2.2 = 0 then (if t356 = x0_8 then (if t357 = (t346.length : Int) then ((recoupref08_Like.f t369 t370 a1_0 l1_1).bind fun t392 => (if t392 = true then (if t373 = (t359.length : Int) then ((recoupref01_Same.f bt386.1 l1_1).bind fun t393 => (if t393 = true then (some (bt386.2.1 == (t376.length : Int))) else (none))) else (none)) else (none))) else (none)) else (none)) else (none)) else (none)) else (none)) else (none)) else (none)) else (none)) else (none)))) = some r := by first | (rw [hy383]; with_reducible exact H) | (have H2_ := (Option.bind_some _ _).symm.trans H; rw [hy383]; with_reducible exact H2_) | (have H2_ := (Option.bind_some _ _).symm.trans H; with_reducible exact H2_) | with_reducible exact H | (rw [hy383]; exact H) | exact H
              have Ny383 := Aside0.mk hy383
              clear hy383
              replace H := Option.bind_eq_some_iff.mp H
              obtain ⟨⟨t386, t387, t388⟩, A240, H⟩ := H
              replace H : ((recouplaw08_anchored.f).bind fun t391 => (if t391 = true then (if t347 = 0 then (if t358 = 0 then (if t362 = 0 then (if t374 = 0 then (if t377 = 0 then (if t388 = 0 then (if t356 = x0_8 then (if t357 = (t346.length : Int) then ((recoupref08_Like.f t369 t370 a1_0 l1_1).bind fun t392 => (if t392 = true then (if t373 = (t359.length : Int) then ((recoupref01_Same.f t386 l1_1).bind fun t393 => (if t393 = true then (some (t387 == (t376.length : Int))) else (none))) else (none)) else (none))) else (none)) else (none)) else (none)) else (none)) else (none)) else (none)) else (none)) else (none)) else (none))) = some r := H
              have A24 := Aside0.mk A240
              clear A240
              replace H := Option.bind_eq_some_iff.mp H
              obtain ⟨t391, A250, H⟩ := H
              replace H : (if t391 = true then (if t347 = 0 then (if t358 = 0 then (if t362 = 0 then (if t374 = 0 then (if t377 = 0 then (if t388 = 0 then (if t356 = x0_8 then (if t357 = (t346.length : Int) then ((recoupref08_Like.f t369 t370 a1_0 l1_1).bind fun t392 => (if t392 = true then (if t373 = (t359.length : Int) then ((recoupref01_Same.f t386 l1_1).bind fun t393 => (if t393 = true then (some (t387 == (t376.length : Int))) else (none))) else (none)) else (none))) else (none)) else (none)) else (none)) else (none)) else (none)) else (none)) else (none)) else (none)) else (none)) = some r := H
              have A25 := Aside0.mk A250
              clear A250
              by_cases c26 : t391 = true
              · subst c26
                have H1 : (if t347 = 0 then (if t358 = 0 then (if t362 = 0 then (if t374 = 0 then (if t377 = 0 then (if t388 = 0 then (if t356 = x0_8 then (if t357 = (t346.length : Int) then ((recoupref08_Like.f t369 t370 a1_0 l1_1).bind fun t392 => (if t392 = true then (if t373 = (t359.length : Int) then ((recoupref01_Same.f t386 l1_1).bind fun t393 => (if t393 = true then (some (t387 == (t376.length : Int))) else (none))) else (none)) else (none))) else (none)) else (none)) else (none)) else (none)) else (none)) else (none)) else (none)) else (none)) = some r := by rw [if_pos rfl] at H; exact H
                clear H
                have H := H1
                clear H1
                by_cases c27 : t347 = 0
                · rw [if_pos c27] at H
                  have c27b0 : (t347 == 0) = true := beq_iff_eq.mpr c27
                  have c27b1 : (t347 != 0) = false := bne_eq_false_iff_eq.mpr c27
                  clear c27
                  by_cases c28 : t358 = 0
                  · rw [if_pos c28] at H
                    have c28b0 : (t358 == 0) = true := beq_iff_eq.mpr c28
                    have c28b1 : (t358 != 0) = false := bne_eq_false_iff_eq.mpr c28
                    clear c28
                    by_cases c29 : t362 = 0
                    · rw [if_pos c29] at H
                      have c29b0 : (t362 == 0) = true := beq_iff_eq.mpr c29
                      have c29b1 : (t362 != 0) = false := bne_eq_false_iff_eq.mpr c29
                      clear c29
                      by_cases c30 : t374 = 0
                      · rw [if_pos c30] at H
                        have c30b0 : (t374 == 0) = true := beq_iff_eq.mpr c30
                        have c30b1 : (t374 != 0) = false := bne_eq_false_iff_eq.mpr c30
                        clear c30
                        by_cases c31 : t377 = 0
                        · rw [if_pos c31] at H
                          have c31b0 : (t377 == 0) = true := beq_iff_eq.mpr c31
                          have c31b1 : (t377 != 0) = false := bne_eq_false_iff_eq.mpr c31
                          clear c31
                          by_cases c32 : t388 = 0
                          · rw [if_pos c32] at H
                            have c32b0 : (t388 == 0) = true := beq_iff_eq.mpr c32
                            have c32b1 : (t388 != 0) = false := bne_eq_false_iff_eq.mpr c32
                            clear c32
                            by_cases c33 : t356 = x0_8
                            · rw [if_pos c33] at H
                              have c33b0 : (t356 == x0_8) = true := beq_iff_eq.mpr c33
                              have c33b1 : (t356 != x0_8) = false := bne_eq_false_iff_eq.mpr c33
                              clear c33
                              by_cases c34 : t357 = (t346.length : Int)
                              · rw [if_pos c34] at H
                                have c34b0 : (t357 == (t346.length : Int)) = true := beq_iff_eq.mpr c34
                                have c34b1 : (t357 != (t346.length : Int)) = false := bne_eq_false_iff_eq.mpr c34
                                clear c34
                                replace H := Option.bind_eq_some_iff.mp H
                                obtain ⟨t392, A350, H⟩ := H
                                replace H : (if t392 = true then (if t373 = (t359.length : Int) then ((recoupref01_Same.f t386 l1_1).bind fun t393 => (if t393 = true then (some (t387 == (t376.length : Int))) else (none))) else (none)) else (none)) = some r := H
                                have A35 := Aside0.mk A350
                                clear A350
                                by_cases c36 : t392 = true
                                · subst c36
                                  have H1 : (if t373 = (t359.length : Int) then ((recoupref01_Same.f t386 l1_1).bind fun t393 => (if t393 = true then (some (t387 == (t376.length : Int))) else (none))) else (none)) = some r := by rw [if_pos rfl] at H; exact H
                                  clear H
                                  have H := H1
                                  clear H1
                                  by_cases c37 : t373 = (t359.length : Int)
                                  · rw [if_pos c37] at H
                                    have c37b0 : (t373 == (t359.length : Int)) = true := beq_iff_eq.mpr c37
                                    have c37b1 : (t373 != (t359.length : Int)) = false := bne_eq_false_iff_eq.mpr c37
                                    clear c37
                                    replace H := Option.bind_eq_some_iff.mp H
                                    obtain ⟨t393, A380, H⟩ := H
                                    replace H : (if t393 = true then (some (t387 == (t376.length : Int))) else (none)) = some r := H
                                    have A38 := Aside0.mk A380
                                    clear A380
                                    by_cases c39 : t393 = true
                                    · subst c39
                                      have H1 : (some (t387 == (t376.length : Int))) = some r := by rw [if_pos rfl] at H; exact H
                                      clear H
                                      have H := H1
                                      clear H1
                                      obtain rfl := Option.some.inj H
                                      try go_wp2_with (first | ((with_reducible refine gate_callee (f := 15) rfl ?_); refine goesL_ (some 34) rfl rfl Try.func15 (by kernel_rfl) rfl #[.int .i64 x0_8] rfl (by (try simp only [List.map_toArray, List.map_cons, List.map_nil]); first | done | rfl | (simp only [List.length_drop, List.length_take]; rfl)) ?_; (with_reducible refine (wire_Num.calls kj8 x0_8 t346 t347 _ A13.out).mono ?_); rintro e w40 ⟨v348, rfl, ho0, hb⟩; refine ⟨_, rfl, ?_⟩; have n0_ := Aside0.mk (Kd.R_lower ho0 (below_size (by repeat (first | (with_reducible first | exact HB.out | apply below_alloc | apply pw_below_drewN | apply below_drew1 | refine below_set ?_ GE344.out) | exact HB.out)))); have n1_ := Aside0.mk (blk_below (g := gb344) (o := .cells #[.int .u8 a1_0, .slice A1_1 l1_1.length c1_1] 53 (0, 0)) (by (with_reducible repeat (first | refine blk_drewN ?_ _ | refine blk_drew ?_ | refine blk_alloc ?_ _)); exact BK344.out) hb); have n2_ := Aside0.mk (below_step (by repeat (first | (with_reducible first | exact HB.out | apply below_alloc | apply pw_below_drewN | apply below_drew1 | refine below_set ?_ GE344.out) | exact HB.out)) hb); clear BK344; clear HB; have HO349 := n0_; have BK344 := n1_; have HB := n2_; clear n0_ n1_ n2_; (try clear hb); (try clear hb2); (try clear hk); (try clear hi); (try clear ho0); obtain ⟨Ao41, co41, eo41⟩ := Kd.R_slice HO349.out; subst eo41) | ((with_reducible refine gate_callee (f := 34) rfl ?_); refine goesL_ (some 39) rfl rfl Try.func34 (by kernel_rfl) rfl #[.slice Ao41 t346.length co41] rfl (by (try simp only [List.map_toArray, List.map_cons, List.map_nil]); first | done | rfl | (simp only [List.length_drop, List.length_take]; rfl)) ?_; (with_reducible refine (recoupref01_Copy.calls _ _ t346 t350 _ ?side1 ?side2 A14.out).mono ?_); (case side1 => repeat (first | exact (Kd.R_reads' HO349.out).2.2 | (with_reducible refine Kd.C_alloc ?_ _) | (with_reducible refine Kd.C_drewN ?_ _) | (with_reducible refine Kd.C_drew ?_))); (case side2 => exact (Kd.R_reads' HO349.out).2.1); rintro e w42 ⟨v351, rfl, ho0, hb⟩; refine ⟨_, rfl, ?_⟩; have n0_ := Aside0.mk (Kd.R_elder' (by (with_reducible repeat (first | apply Kd.R_alloc | apply Kd.R_drewN | apply Kd.R_drew)); exact HO349.out) (Kd.R_base ho0) hb); have n1_ := Aside0.mk (Kd.R_lower (Kd.R_new' ho0 (Kd.R_lt (by (with_reducible repeat (first | apply Kd.R_alloc | apply Kd.R_drewN | apply Kd.R_drew)); exact HO349.out))) (below_size (by repeat (first | (with_reducible first | exact HB.out | apply below_alloc | apply pw_below_drewN | apply below_drew1 | refine below_set ?_ GE344.out) | exact HB.out)))); have n2_ := Aside0.mk (blk_below (g := gb344) (o := .cells #[.int .u8 a1_0, .slice A1_1 l1_1.length c1_1] 53 (0, 0)) (by (with_reducible repeat (first | refine blk_drewN ?_ _ | refine blk_drew ?_ | refine blk_alloc ?_ _)); exact BK344.out) hb); have n3_ := Aside0.mk (below_step (by repeat (first | (with_reducible first | exact HB.out | apply below_alloc | apply pw_below_drewN | apply below_drew1 | refine below_set ?_ GE344.out) | exact HB.out)) hb); clear HO349; clear BK344; clear HB; have HO349 := n0_; have HO352 := n1_; have BK344 := n2_; have HB := n3_; clear n0_ n1_ n2_ n3_; (try clear hb); (try clear hb2); (try clear hk); (try clear hi); (try clear ho0)) | ((with_reducible refine gate_builtin (b := .append) (xs := #[.tmp 39, .tmp 40]) rfl ?_); (try (refine gate_guard (by rfl) ?_; dsimp only)); at_builtin; refine Kd.R_append_rows (Kd.int .u8) (w0 := w) w.heap.size rfl (.tmp 39) (.tmp 40) 22 5 (.int .u8 0) 1 rfl Try.underlying22 info5 rfl (by decide) (by omega) v351 t350 l2 _ _ _ (fun k_ => some k_ ≠ (.slice Ao41 t346.length co41 : Value).ownBlock) (fun _ => False) rfl rfl ?aO ?aR (fun _ _ h => h) (fun _ h => h.elim) ?aF ?aB ?aS ?aL ?_; (case aR => repeat (first | exact (Kd.C_below HR2.out HB.out) | (with_reducible refine Kd.C_alloc ?_ _) | (with_reducible refine Kd.C_drewN ?_ _) | (with_reducible refine Kd.C_drew ?_))); (case aB => exact (by repeat (first | (with_reducible first | exact HB.out | apply below_alloc | apply pw_below_drewN | apply below_drew1 | refine below_set ?_ GE344.out) | exact HB.out))); (case aF => exact (fun k_ hk => Kd.fresh' (Kd.R_lt (by (with_reducible repeat (first | apply Kd.R_alloc | apply Kd.R_drewN | apply Kd.R_drew)); exact HO349.out)) k_ hk)); (case aO => exact (by (with_reducible repeat (first | apply Kd.R_alloc | apply Kd.R_drewN | apply Kd.R_drew)); (first | exact Kd.R_mono HO352.out (fun _ hk => hk.2) | exact Kd.R_mono HO352.out (fun k_ hk => by (try dsimp only at *); grind)))); (case aS => exact (below_size (by repeat (first | (with_reducible first | exact HB.out | apply below_alloc | apply pw_below_drewN | apply below_drew1 | refine below_set ?_ GE344.out) | exact HB.out)))); (case aL => have := LMc15.out; omega); intro v354 w43 ho hb hg hat; rw [← Ny353.out] at ho; have n0_ := Aside0.mk (blk_grown (g := gb344) (o := .cells #[.int .u8 a1_0, .slice A1_1 l1_1.length c1_1] 53 (0, 0)) (by (with_reducible repeat (first | refine blk_drewN ?_ _ | refine blk_drew ?_ | refine blk_alloc ?_ _)); exact BK344.out) hg (Kd.R_ne HO352.out BK344.out (by decide))); have n1_ := Aside0.mk (Kd.R_after (ok := (fun _ => True)) (by (with_reducible repeat (first | apply Kd.R_alloc | apply Kd.R_drewN | apply Kd.R_drew)); exact HO349.out) hg hat); have n2_ := Aside0.mk (hb); have n3_ := Aside0.mk (ho); clear BK344; clear HO349; clear HB; clear HO352; have BK344 := n0_; have HO349 := n1_; have HB := n2_; have HO355 := n3_; clear n0_ n1_ n2_ n3_; clear ho hb hg hat; obtain ⟨Ao44, co44, eo44⟩ := Kd.R_slice HO355.out; subst eo44) | ((with_reducible refine gate_callee (f := 17) rfl ?_); refine goesL_ (some 42) rfl rfl Try.func17 (by kernel_rfl) rfl #[.slice Ao44 y353.length co44] rfl (by (try simp only [List.map_toArray, List.map_cons, List.map_nil]); first | done | rfl | (simp only [List.length_drop, List.length_take]; rfl)) ?_; (with_reducible refine (wire_ReadNum.calls kj8 _ _ y353 t356 t357 t358 _ ?side1 ?side2 A16.out).mono ?_); (case side1 => repeat (first | exact (Kd.R_reads' HO355.out).2.2 | (with_reducible refine Kd.C_alloc ?_ _) | (with_reducible refine Kd.C_drewN ?_ _) | (with_reducible refine Kd.C_drew ?_))); (case side2 => exact (Kd.R_reads' HO355.out).2.1); rintro e w' ⟨rfl, ⟨nd, rfl⟩⟩; refine ⟨_, rfl, ?_⟩; (try (rw [drewN_self w43]; generalize hq_ : World.drewN w43 _ = w43; have n0_ : Aside0 (Kd.R (Kd.int .u8) 5 w43 w.heap.size (fun k_ => some k_ ≠ (.slice Ao44 y353.length co44 : Value).ownBlock) (.slice Ao41 t346.length co41) t346) := ⟨by rw [← hq_]; exact (by (with_reducible repeat (first | apply Kd.R_alloc | apply Kd.R_drewN | apply Kd.R_drew)); (first | exact Kd.R_mono HO349.out (fun _ hk => hk.2) | exact Kd.R_mono HO349.out (fun k_ hk => by (try dsimp only at *); grind)))⟩; have n1_ : Aside0 (Kd.R (Kd.int .u8) 5 w43 w.heap.size (fun k_ => some k_ ≠ (.slice Ao41 t346.length co41 : Value).ownBlock) (.slice Ao44 y353.length co44) y353) := ⟨by rw [← hq_]; exact (by (with_reducible repeat (first | apply Kd.R_alloc | apply Kd.R_drewN | apply Kd.R_drew)); exact HO355.out)⟩; have n2_ : Aside0 (w43.heap[gb344]? = some (.cells #[.int .u8 a1_0, .slice A1_1 l1_1.length c1_1] 53 (0, 0))) := ⟨by rw [← hq_]; exact (by (with_reducible repeat (first | refine blk_drewN ?_ _ | refine blk_drew ?_ | refine blk_alloc ?_ _)); exact BK344.out)⟩; have n3_ : Aside0 (Below w.heap.size w w43) := ⟨by rw [← hq_]; exact (by repeat (first | (with_reducible first | exact HB.out | apply below_alloc | apply pw_below_drewN | apply below_drew1 | refine below_set ?_ GE344.out) | exact HB.out))⟩; clear HO349 HO355 BK344 HB hq_; have HO349 := n0_; have HO355 := n1_; have BK344 := n2_; have HB := n3_; clear n0_ n1_ n2_ n3_)); have hcz45_0 : w43.cell? ⟨gb344, 0, none⟩ = some (.int .u8 a1_0) := (blk_cell BK344.out 0).trans rfl; have hcz45_1 : w43.cell? ⟨gb344, 1, none⟩ = some (.slice A1_1 l1_1.length c1_1) := (blk_cell BK344.out 1).trans rfl; have hfz45_0 := blk_frozen BK344.out 0; have hfz45_1 := blk_frozen BK344.out 1) | ((with_reducible refine gate_callee (f := 30) rfl ?_); refine goesL_ (some 48) rfl rfl Try.func30 (by kernel_rfl) rfl #[.agg #[.int .u8 a1_0, .slice A1_1 l1_1.length c1_1]] rfl (by (try simp only [List.map_toArray, List.map_cons, List.map_nil]); first | done | rfl | (simp only [List.length_drop, List.length_take]; rfl)) ?_; (with_reducible refine (wire_Write.calls kj8 a1_0 _ _ l1_1 t359 t362 _ ?side1 ?side2 A17.out).mono ?_); (case side1 => repeat (first | exact (Kd.C_below HR1_1.out HB.out) | (with_reducible refine Kd.C_alloc ?_ _) | (with_reducible refine Kd.C_drewN ?_ _) | (with_reducible refine Kd.C_drew ?_))); (case side2 => exact HC1_1.out); rintro e w46 ⟨v360, rfl, ho0, hb⟩; refine ⟨_, rfl, ?_⟩; have n0_ := Aside0.mk (Kd.R_elder' (by (with_reducible repeat (first | apply Kd.R_alloc | apply Kd.R_drewN | apply Kd.R_drew)); exact HO349.out) (Kd.R_base ho0) hb); have n1_ := Aside0.mk (Kd.R_elder' (by (with_reducible repeat (first | apply Kd.R_alloc | apply Kd.R_drewN | apply Kd.R_drew)); exact HO355.out) (Kd.R_base ho0) hb); have n2_ := Aside0.mk (Kd.R_lower (Kd.R_new' (Kd.R_new' ho0 (Kd.R_lt (by (with_reducible repeat (first | apply Kd.R_alloc | apply Kd.R_drewN | apply Kd.R_drew)); exact HO349.out))) (Kd.R_lt (by (with_reducible repeat (first | apply Kd.R_alloc | apply Kd.R_drewN | apply Kd.R_drew)); exact HO355.out))) (below_size (by repeat (first | (with_reducible first | exact HB.out | apply below_alloc | apply pw_below_drewN | apply below_drew1 | refine below_set ?_ GE344.out) | exact HB.out)))); have n3_ := Aside0.mk (blk_below (g := gb344) (o := .cells #[.int .u8 a1_0, .slice A1_1 l1_1.length c1_1] 53 (0, 0)) (by (with_reducible repeat (first | refine blk_drewN ?_ _ | refine blk_drew ?_ | refine blk_alloc ?_ _)); exact BK344.out) hb); have n4_ := Aside0.mk (below_step (by repeat (first | (with_reducible first | exact HB.out | apply below_alloc | apply pw_below_drewN | apply below_drew1 | refine below_set ?_ GE344.out) | exact HB.out)) hb); clear HO349; clear HO355; clear BK344; clear HB; have HO349 := n0_; have HO355 := n1_; have HO361 := n2_; have BK344 := n3_; have HB := n4_; clear n0_ n1_ n2_ n3_ n4_; (try clear hb); (try clear hb2); (try clear hk); (try clear hi); (try clear ho0); obtain ⟨Ao47, co47, eo47⟩ := Kd.R_slice HO361.out; subst eo47) | ((with_reducible refine gate_callee (f := 34) rfl ?_); refine goesL_ (some 53) rfl rfl Try.func34 (by kernel_rfl) rfl #[.slice Ao47 t359.length co47] rfl (by (try simp only [List.map_toArray, List.map_cons, List.map_nil]); first | done | rfl | (simp only [List.length_drop, List.length_take]; rfl)) ?_; (with_reducible refine (recoupref01_Copy.calls _ _ t359 t363 _ ?side1 ?side2 A18.out).mono ?_); (case side1 => repeat (first | exact (Kd.R_reads' HO361.out).2.2 | (with_reducible refine Kd.C_alloc ?_ _) | (with_reducible refine Kd.C_drewN ?_ _) | (with_reducible refine Kd.C_drew ?_))); (case side2 => exact (Kd.R_reads' HO361.out).2.1); rintro e w48 ⟨v364, rfl, ho0, hb⟩; refine ⟨_, rfl, ?_⟩; have n0_ := Aside0.mk (Kd.R_elder' (by (with_reducible repeat (first | apply Kd.R_alloc | apply Kd.R_drewN | apply Kd.R_drew)); exact HO349.out) (Kd.R_base ho0) hb); have n1_ := Aside0.mk (Kd.R_elder' (by (with_reducible repeat (first | apply Kd.R_alloc | apply Kd.R_drewN | apply Kd.R_drew)); exact HO355.out) (Kd.R_base ho0) hb); have n2_ := Aside0.mk (Kd.R_elder' (by (with_reducible repeat (first | apply Kd.R_alloc | apply Kd.R_drewN | apply Kd.R_drew)); exact HO361.out) (Kd.R_base ho0) hb); have n3_ := Aside0.mk (Kd.R_lower (Kd.R_new' (Kd.R_new' (Kd.R_new' ho0 (Kd.R_lt (by (with_reducible repeat (first | apply Kd.R_alloc | apply Kd.R_drewN | apply Kd.R_drew)); exact HO349.out))) (Kd.R_lt (by (with_reducible repeat (first | apply Kd.R_alloc | apply Kd.R_drewN | apply Kd.R_drew)); exact HO355.out))) (Kd.R_lt (by (with_reducible repeat (first | apply Kd.R_alloc | apply Kd.R_drewN | apply Kd.R_drew)); exact HO361.out))) (below_size (by repeat (first | (with_reducible first | exact HB.out | apply below_alloc | apply pw_below_drewN | apply below_drew1 | refine below_set ?_ GE344.out) | exact HB.out)))); have n4_ := Aside0.mk (blk_below (g := gb344) (o := .cells #[.int .u8 a1_0, .slice A1_1 l1_1.length c1_1] 53 (0, 0)) (by (with_reducible repeat (first | refine blk_drewN ?_ _ | refine blk_drew ?_ | refine blk_alloc ?_ _)); exact BK344.out) hb); have n5_ := Aside0.mk (below_step (by repeat (first | (with_reducible first | exact HB.out | apply below_alloc | apply pw_below_drewN | apply below_drew1 | refine below_set ?_ GE344.out) | exact HB.out)) hb); clear HO349; clear HO355; clear HO361; clear BK344; clear HB; have HO349 := n0_; have HO355 := n1_; have HO361 := n2_; have HO365 := n3_; have BK344 := n4_; have HB := n5_; clear n0_ n1_ n2_ n3_ n4_ n5_; (try clear hb); (try clear hb2); (try clear hk); (try clear hi); (try clear ho0)) | ((with_reducible refine gate_builtin (b := .append) (xs := #[.tmp 53, .tmp 54]) rfl ?_); (try (refine gate_guard (by rfl) ?_; dsimp only)); at_builtin; refine Kd.R_append_rows (Kd.int .u8) (w0 := w) w.heap.size rfl (.tmp 53) (.tmp 54) 22 5 (.int .u8 0) 1 rfl Try.underlying22 info5 rfl (by decide) (by omega) v364 t363 l2 _ _ _ (fun k_ => some k_ ≠ (.slice Ao41 t346.length co41 : Value).ownBlock ∧ some k_ ≠ (.slice Ao44 y353.length co44 : Value).ownBlock ∧ some k_ ≠ (.slice Ao47 t359.length co47 : Value).ownBlock) (fun _ => False) rfl rfl ?aO ?aR (fun _ _ h => h) (fun _ h => h.elim) ?aF ?aB ?aS ?aL ?_; (case aR => repeat (first | exact (Kd.C_below HR2.out HB.out) | (with_reducible refine Kd.C_alloc ?_ _) | (with_reducible refine Kd.C_drewN ?_ _) | (with_reducible refine Kd.C_drew ?_))); (case aB => exact (by repeat (first | (with_reducible first | exact HB.out | apply below_alloc | apply pw_below_drewN | apply below_drew1 | refine below_set ?_ GE344.out) | exact HB.out))); (case aF => exact (fun k_ hk => ⟨Kd.fresh' (Kd.R_lt (by (with_reducible repeat (first | apply Kd.R_alloc | apply Kd.R_drewN | apply Kd.R_drew)); exact HO349.out)) k_ hk, Kd.fresh' (Kd.R_lt (by (with_reducible repeat (first | apply Kd.R_alloc | apply Kd.R_drewN | apply Kd.R_drew)); exact HO355.out)) k_ hk, Kd.fresh' (Kd.R_lt (by (with_reducible repeat (first | apply Kd.R_alloc | apply Kd.R_drewN | apply Kd.R_drew)); exact HO361.out)) k_ hk⟩)); (case aO => exact (by (with_reducible repeat (first | apply Kd.R_alloc | apply Kd.R_drewN | apply Kd.R_drew)); (first | exact Kd.R_mono HO365.out (fun _ hk => ⟨hk.1.1.2, ⟨hk.1.2, hk.2⟩⟩) | exact Kd.R_mono HO365.out (fun k_ hk => by (try dsimp only at *); grind)))); (case aS => exact (below_size (by repeat (first | (with_reducible first | exact HB.out | apply below_alloc | apply pw_below_drewN | apply below_drew1 | refine below_set ?_ GE344.out) | exact HB.out)))); (case aL => have := LMc19.out; omega); intro v367 w49 ho hb hg hat; rw [← Ny366.out] at ho; have n0_ := Aside0.mk (blk_grown (g := gb344) (o := .cells #[.int .u8 a1_0, .slice A1_1 l1_1.length c1_1] 53 (0, 0)) (by (with_reducible repeat (first | refine blk_drewN ?_ _ | refine blk_drew ?_ | refine blk_alloc ?_ _)); exact BK344.out) hg (Kd.R_ne HO365.out BK344.out (by decide))); have n1_ := Aside0.mk (Kd.R_after (ok := (fun k_ => some k_ ≠ (.slice Ao44 y353.length co44 : Value).ownBlock ∧ some k_ ≠ (.slice Ao47 t359.length co47 : Value).ownBlock)) (by (with_reducible repeat (first | apply Kd.R_alloc | apply Kd.R_drewN | apply Kd.R_drew)); (first | exact Kd.R_mono HO349.out (fun _ hk => ⟨⟨hk.1.1.2, hk.1.2⟩, hk.2⟩) | exact Kd.R_mono HO349.out (fun k_ hk => by (try dsimp only at *); grind))) hg hat); have n2_ := Aside0.mk (Kd.R_after (ok := (fun k_ => some k_ ≠ (.slice Ao41 t346.length co41 : Value).ownBlock ∧ some k_ ≠ (.slice Ao47 t359.length co47 : Value).ownBlock)) (by (with_reducible repeat (first | apply Kd.R_alloc | apply Kd.R_drewN | apply Kd.R_drew)); exact HO355.out) hg hat); have n3_ := Aside0.mk (Kd.R_after (ok := (fun k_ => some k_ ≠ (.slice Ao41 t346.length co41 : Value).ownBlock ∧ some k_ ≠ (.slice Ao44 y353.length co44 : Value).ownBlock)) (by (with_reducible repeat (first | apply Kd.R_alloc | apply Kd.R_drewN | apply Kd.R_drew)); (first | exact Kd.R_mono HO361.out (fun _ hk => ⟨⟨hk.1.1.2, hk.1.2⟩, hk.2⟩) | exact Kd.R_mono HO361.out (fun k_ hk => by (try dsimp only at *); grind))) hg hat); have n4_ := Aside0.mk (hb); have n5_ := Aside0.mk (ho); clear BK344; clear HO349; clear HO355; clear HO361; clear HB; clear HO365; have BK344 := n0_; have HO349 := n1_; have HO355 := n2_; have HO361 := n3_; have HB := n4_; have HO368 := n5_; clear n0_ n1_ n2_ n3_ n4_ n5_; clear ho hb hg hat; obtain ⟨Ao50, co50, eo50⟩ := Kd.R_slice HO368.out; subst eo50) | ((with_reducible refine gate_callee (f := 32) rfl ?_); refine goesL_ (some 56) rfl rfl Try.func32 (by kernel_rfl) rfl #[.slice Ao50 y366.length co50] rfl (by (try simp only [List.map_toArray, List.map_cons, List.map_nil]); first | done | rfl | (simp only [List.length_drop, List.length_take]; rfl)) ?_; (with_reducible refine (wire_Read.calls kj8 _ _ y366 t369 t370 t373 t374 _ ?side1 ?side2 A20.out).mono ?_); (case side1 => repeat (first | exact (Kd.R_reads' HO368.out).2.2 | (with_reducible refine Kd.C_alloc ?_ _) | (with_reducible refine Kd.C_drewN ?_ _) | (with_reducible refine Kd.C_drew ?_))); (case side2 => exact (Kd.R_reads' HO368.out).2.1); rintro e w51 ⟨v371, rfl, ho0, hb⟩; refine ⟨_, rfl, ?_⟩; have n0_ := Aside0.mk (Kd.R_elder' (by (with_reducible repeat (first | apply Kd.R_alloc | apply Kd.R_drewN | apply Kd.R_drew)); exact HO349.out) (Kd.R_base ho0) hb); have n1_ := Aside0.mk (Kd.R_elder' (by (with_reducible repeat (first | apply Kd.R_alloc | apply Kd.R_drewN | apply Kd.R_drew)); exact HO355.out) (Kd.R_base ho0) hb); have n2_ := Aside0.mk (Kd.R_elder' (by (with_reducible repeat (first | apply Kd.R_alloc | apply Kd.R_drewN | apply Kd.R_drew)); exact HO361.out) (Kd.R_base ho0) hb); have n3_ := Aside0.mk (Kd.R_elder' (by (with_reducible repeat (first | apply Kd.R_alloc | apply Kd.R_drewN | apply Kd.R_drew)); exact HO368.out) (Kd.R_base ho0) hb); have n4_ := Aside0.mk (Kd.R_lower (Kd.R_new' (Kd.R_new' (Kd.R_new' (Kd.R_new' ho0 (Kd.R_lt (by (with_reducible repeat (first | apply Kd.R_alloc | apply Kd.R_drewN | apply Kd.R_drew)); exact HO349.out))) (Kd.R_lt (by (with_reducible repeat (first | apply Kd.R_alloc | apply Kd.R_drewN | apply Kd.R_drew)); exact HO355.out))) (Kd.R_lt (by (with_reducible repeat (first | apply Kd.R_alloc | apply Kd.R_drewN | apply Kd.R_drew)); exact HO361.out))) (Kd.R_lt (by (with_reducible repeat (first | apply Kd.R_alloc | apply Kd.R_drewN | apply Kd.R_drew)); exact HO368.out))) (below_size (by repeat (first | (with_reducible first | exact HB.out | apply below_alloc | apply pw_below_drewN | apply below_drew1 | refine below_set ?_ GE344.out) | exact HB.out)))); have n5_ := Aside0.mk (blk_below (g := gb344) (o := .cells #[.int .u8 a1_0, .slice A1_1 l1_1.length c1_1] 53 (0, 0)) (by (with_reducible repeat (first | refine blk_drewN ?_ _ | refine blk_drew ?_ | refine blk_alloc ?_ _)); exact BK344.out) hb); have n6_ := Aside0.mk (below_step (by repeat (first | (with_reducible first | exact HB.out | apply below_alloc | apply pw_below_drewN | apply below_drew1 | refine below_set ?_ GE344.out) | exact HB.out)) hb); clear HO349; clear HO355; clear HO361; clear HO368; clear BK344; clear HB; have HO349 := n0_; have HO355 := n1_; have HO361 := n2_; have HO368 := n3_; have HO372 := n4_; have BK344 := n5_; have HB := n6_; clear n0_ n1_ n2_ n3_ n4_ n5_ n6_; (try clear hb); (try clear hb2); (try clear hk); (try clear hi); (try clear ho0)) | ((with_reducible refine gate_dst (N := 14) rfl ?_); (try (refine gate_guard (by rfl) ?_; dsimp only)); refine box_event ?hg (N := 14) ?hd (cs := #[.int .u8 0, .slice none 0 0]) (t := 53) ?hr ?_; (case hd => rfl); (case hg => rfl); (case hr => first | (go_simp; done) | (go_simp; rfl)); intro gb375 hg w52 hbox hb; have n0_ := Aside0.mk (Kd.R_below (by (with_reducible repeat (first | apply Kd.R_alloc | apply Kd.R_drewN | apply Kd.R_drew)); exact HO349.out) hb); have n1_ := Aside0.mk (Kd.R_below (by (with_reducible repeat (first | apply Kd.R_alloc | apply Kd.R_drewN | apply Kd.R_drew)); exact HO355.out) hb); have n2_ := Aside0.mk (Kd.R_below (by (with_reducible repeat (first | apply Kd.R_alloc | apply Kd.R_drewN | apply Kd.R_drew)); exact HO361.out) hb); have n3_ := Aside0.mk (Kd.R_below (by (with_reducible repeat (first | apply Kd.R_alloc | apply Kd.R_drewN | apply Kd.R_drew)); exact HO368.out) hb); have n4_ := Aside0.mk (Kd.R_below (by (with_reducible repeat (first | apply Kd.R_alloc | apply Kd.R_drewN | apply Kd.R_drew)); exact HO372.out) hb); have n5_ := Aside0.mk (blk_below (g := gb344) (o := .cells #[.int .u8 a1_0, .slice A1_1 l1_1.length c1_1] 53 (0, 0)) (by (with_reducible repeat (first | refine blk_drewN ?_ _ | refine blk_drew ?_ | refine blk_alloc ?_ _)); exact BK344.out) hb); have n6_ := Aside0.mk (below_step (by repeat (first | (with_reducible first | exact HB.out | apply below_alloc | apply pw_below_drewN | apply below_drew1 | refine below_set ?_ GE344.out) | exact HB.out)) hb); have n7_ := Aside0.mk (hbox); have n8_ := Aside0.mk ((by rw [hg]; exact (below_size (by repeat (first | (with_reducible first | exact HB.out | apply below_alloc | apply pw_below_drewN | apply below_drew1 | refine below_set ?_ GE344.out) | exact HB.out))) : w.heap.size ≤ gb375)); have n9_ := Aside0.mk ((by rw [hg]; exact (below_size (by repeat (first | (with_reducible first | exact HB.out | apply below_alloc | apply pw_below_drewN | apply below_drew1 | refine below_set ?_ GE344.out) | exact HB.out))) : w.heap.size ≤ gb375)); have n10_ := Aside0.mk ((by rw [hg]; exact Nat.ne_of_lt (blk_lt (g := gb344) (o := .cells #[.int .u8 a1_0, .slice A1_1 l1_1.length c1_1] 53 (0, 0)) (by (with_reducible repeat (first | refine blk_drewN ?_ _ | refine blk_drew ?_ | refine blk_alloc ?_ _)); exact BK344.out)) : gb344 ≠ gb375)); have n11_ := Aside0.mk ((by rw [hg]; exact Nat.ne_of_gt (blk_lt (g := gb344) (o := .cells #[.int .u8 a1_0, .slice A1_1 l1_1.length c1_1] 53 (0, 0)) (by (with_reducible repeat (first | refine blk_drewN ?_ _ | refine blk_drew ?_ | refine blk_alloc ?_ _)); exact BK344.out)) : gb375 ≠ gb344)); clear HO349; clear HO355; clear HO361; clear HO368; clear HO372; clear BK344; clear HB; have HO349 := n0_; have HO355 := n1_; have HO361 := n2_; have HO368 := n3_; have HO372 := n4_; have BK344 := n5_; have HB := n6_; have BK375 := n7_; have GW375 := n8_; have GE375 := n9_; have NB344_375 := n10_; have NB375_344 := n11_; clear n0_ n1_ n2_ n3_ n4_ n5_ n6_ n7_ n8_ n9_ n10_ n11_; clear hb hbox hg; have hnb53 := NB375_344.out; have hnc53 := NB344_375.out; have hcz54_0 : w52.cell? ⟨gb375, 0, none⟩ = some (.int .u8 0) := (blk_cell BK375.out 0).trans rfl; have hcz54_1 : w52.cell? ⟨gb375, 1, none⟩ = some (.slice none 0 0) := (blk_cell BK375.out 1).trans rfl; have hfz54_0 := blk_frozen BK375.out 0; have hfz54_1 := blk_frozen BK375.out 1; obtain ⟨Ao55, co55, eo55⟩ := Kd.R_slice HO372.out; subst eo55; have hcz56_0 : w52.cell? ⟨gb344, 0, none⟩ = some (.int .u8 a1_0) := (blk_cell BK344.out 0).trans rfl; have hcz56_1 : w52.cell? ⟨gb344, 1, none⟩ = some (.slice A1_1 l1_1.length c1_1) := (blk_cell BK344.out 1).trans rfl; have hfz56_0 := blk_frozen BK344.out 0; have hfz56_1 := blk_frozen BK344.out 1) | ((with_reducible refine gate_callee (f := 23) rfl ?_); refine goesL_ (some 63) rfl rfl Try.func23 (by kernel_rfl) rfl #[.slice A1_1 l1_1.length c1_1] rfl (by (try simp only [List.map_toArray, List.map_cons, List.map_nil]); first | done | rfl | (simp only [List.length_drop, List.length_take]; rfl)) ?_; (with_reducible refine (wire_Text.calls kj8 _ _ l1_1 t376 t377 _ ?side1 ?side2 A21.out).mono ?_); (case side1 => exact Kd.C_below HR1_1.out (by repeat (first | (with_reducible first | exact HB.out | apply below_alloc | apply pw_below_drewN | apply below_drew1 | refine below_set ?_ GE344.out | refine below_set ?_ GE375.out) | exact HB.out))); (case side2 => exact HC1_1.out); rintro e w57 ⟨v378, rfl, ho0, hb⟩; refine ⟨_, rfl, ?_⟩; have n0_ := Aside0.mk (Kd.R_elder' (by (with_reducible repeat (first | apply Kd.R_alloc | apply Kd.R_drewN | apply Kd.R_drew)); exact (Kd.R_mono (Kd.R_far (p := ⟨gb375, 1, none⟩) (Kd.R_far (p := ⟨gb375, 0, none⟩) (Kd.R_types HO349.out BK375.out (by decide)) (fun _ hk => hk.2) (.int .u8 t369)) (fun _ hk => hk.2) (.slice Ao55 t370.length co55)) (fun _ h_ => h_.1))) (Kd.R_base ho0) hb); have n1_ := Aside0.mk (Kd.R_elder' (by (with_reducible repeat (first | apply Kd.R_alloc | apply Kd.R_drewN | apply Kd.R_drew)); exact (Kd.R_mono (Kd.R_far (p := ⟨gb375, 1, none⟩) (Kd.R_far (p := ⟨gb375, 0, none⟩) (Kd.R_types HO355.out BK375.out (by decide)) (fun _ hk => hk.2) (.int .u8 t369)) (fun _ hk => hk.2) (.slice Ao55 t370.length co55)) (fun _ h_ => h_.1))) (Kd.R_base ho0) hb); have n2_ := Aside0.mk (Kd.R_elder' (by (with_reducible repeat (first | apply Kd.R_alloc | apply Kd.R_drewN | apply Kd.R_drew)); exact (Kd.R_mono (Kd.R_far (p := ⟨gb375, 1, none⟩) (Kd.R_far (p := ⟨gb375, 0, none⟩) (Kd.R_types HO361.out BK375.out (by decide)) (fun _ hk => hk.2) (.int .u8 t369)) (fun _ hk => hk.2) (.slice Ao55 t370.length co55)) (fun _ h_ => h_.1))) (Kd.R_base ho0) hb); have n3_ := Aside0.mk (Kd.R_elder' (by (with_reducible repeat (first | apply Kd.R_alloc | apply Kd.R_drewN | apply Kd.R_drew)); exact (Kd.R_mono (Kd.R_far (p := ⟨gb375, 1, none⟩) (Kd.R_far (p := ⟨gb375, 0, none⟩) (Kd.R_types HO368.out BK375.out (by decide)) (fun _ hk => hk.2) (.int .u8 t369)) (fun _ hk => hk.2) (.slice Ao55 t370.length co55)) (fun _ h_ => h_.1))) (Kd.R_base ho0) hb); have n4_ := Aside0.mk (Kd.R_elder' (by (with_reducible repeat (first | apply Kd.R_alloc | apply Kd.R_drewN | apply Kd.R_drew)); exact (Kd.R_mono (Kd.R_far (p := ⟨gb375, 1, none⟩) (Kd.R_far (p := ⟨gb375, 0, none⟩) (Kd.R_types HO372.out BK375.out (by decide)) (fun _ hk => hk.2) (.int .u8 t369)) (fun _ hk => hk.2) (.slice Ao55 t370.length co55)) (fun _ h_ => h_.1))) (Kd.R_base ho0) hb); have n5_ := Aside0.mk (Kd.R_lower (Kd.R_new' (Kd.R_new' (Kd.R_new' (Kd.R_new' (Kd.R_new' ho0 (Kd.R_lt (by (with_reducible repeat (first | apply Kd.R_alloc | apply Kd.R_drewN | apply Kd.R_drew)); exact (Kd.R_mono (Kd.R_far (p := ⟨gb375, 1, none⟩) (Kd.R_far (p := ⟨gb375, 0, none⟩) (Kd.R_types HO349.out BK375.out (by decide)) (fun _ hk => hk.2) (.int .u8 t369)) (fun _ hk => hk.2) (.slice Ao55 t370.length co55)) (fun _ h_ => h_.1))))) (Kd.R_lt (by (with_reducible repeat (first | apply Kd.R_alloc | apply Kd.R_drewN | apply Kd.R_drew)); exact (Kd.R_mono (Kd.R_far (p := ⟨gb375, 1, none⟩) (Kd.R_far (p := ⟨gb375, 0, none⟩) (Kd.R_types HO355.out BK375.out (by decide)) (fun _ hk => hk.2) (.int .u8 t369)) (fun _ hk => hk.2) (.slice Ao55 t370.length co55)) (fun _ h_ => h_.1))))) (Kd.R_lt (by (with_reducible repeat (first | apply Kd.R_alloc | apply Kd.R_drewN | apply Kd.R_drew)); exact (Kd.R_mono (Kd.R_far (p := ⟨gb375, 1, none⟩) (Kd.R_far (p := ⟨gb375, 0, none⟩) (Kd.R_types HO361.out BK375.out (by decide)) (fun _ hk => hk.2) (.int .u8 t369)) (fun _ hk => hk.2) (.slice Ao55 t370.length co55)) (fun _ h_ => h_.1))))) (Kd.R_lt (by (with_reducible repeat (first | apply Kd.R_alloc | apply Kd.R_drewN | apply Kd.R_drew)); exact (Kd.R_mono (Kd.R_far (p := ⟨gb375, 1, none⟩) (Kd.R_far (p := ⟨gb375, 0, none⟩) (Kd.R_types HO368.out BK375.out (by decide)) (fun _ hk => hk.2) (.int .u8 t369)) (fun _ hk => hk.2) (.slice Ao55 t370.length co55)) (fun _ h_ => h_.1))))) (Kd.R_lt (by (with_reducible repeat (first | apply Kd.R_alloc | apply Kd.R_drewN | apply Kd.R_drew)); exact (Kd.R_mono (Kd.R_far (p := ⟨gb375, 1, none⟩) (Kd.R_far (p := ⟨gb375, 0, none⟩) (Kd.R_types HO372.out BK375.out (by decide)) (fun _ hk => hk.2) (.int .u8 t369)) (fun _ hk => hk.2) (.slice Ao55 t370.length co55)) (fun _ h_ => h_.1))))) (below_size (by repeat (first | (with_reducible first | exact HB.out | apply below_alloc | apply pw_below_drewN | apply below_drew1 | refine below_set ?_ GE344.out | refine below_set ?_ GE375.out) | exact HB.out)))); have n6_ := Aside0.mk (blk_below (g := gb344) (o := .cells #[.int .u8 a1_0, .slice A1_1 l1_1.length c1_1] 53 (0, 0)) (by (with_reducible repeat (first | refine blk_drewN ?_ _ | refine blk_drew ?_ | refine blk_alloc ?_ _)); refine blk_far ?_ NB344_375.out _; (with_reducible repeat (first | refine blk_drewN ?_ _ | refine blk_drew ?_ | refine blk_alloc ?_ _)); refine blk_far ?_ NB344_375.out _; (with_reducible repeat (first | refine blk_drewN ?_ _ | refine blk_drew ?_ | refine blk_alloc ?_ _)); exact BK344.out) hb); have n7_ := Aside0.mk (blk_below (g := gb375) (o := .cells #[.int .u8 t369, .slice Ao55 t370.length co55] 53 (0, 0)) (by (with_reducible repeat (first | refine blk_drewN ?_ _ | refine blk_drew ?_ | refine blk_alloc ?_ _)); refine blk_put (cs := #[.int .u8 t369, .slice none 0 0]) ?_ 1 _ rfl; (with_reducible repeat (first | refine blk_drewN ?_ _ | refine blk_drew ?_ | refine blk_alloc ?_ _)); refine blk_put (cs := #[.int .u8 0, .slice none 0 0]) ?_ 0 _ rfl; (with_reducible repeat (first | refine blk_drewN ?_ _ | refine blk_drew ?_ | refine blk_alloc ?_ _)); exact BK375.out) hb); have n8_ := Aside0.mk (below_step (by repeat (first | (with_reducible first | exact HB.out | apply below_alloc | apply pw_below_drewN | apply below_drew1 | refine below_set ?_ GE344.out | refine below_set ?_ GE375.out) | exact HB.out)) hb); clear HO349; clear HO355; clear HO361; clear HO368; clear HO372; clear BK344; clear BK375; clear HB; have HO349 := n0_; have HO355 := n1_; have HO361 := n2_; have HO368 := n3_; have HO372 := n4_; have HO379 := n5_; have BK344 := n6_; have BK375 := n7_; have HB := n8_; clear n0_ n1_ n2_ n3_ n4_ n5_ n6_ n7_ n8_; (try clear hb); (try clear hb2); (try clear hk); (try clear hi); (try clear ho0)))
                                      have n0_ := Aside0.mk (Kd.R_drew HO349.out)
                                      have n1_ := Aside0.mk (Kd.R_drew HO355.out)
                                      have n2_ := Aside0.mk (Kd.R_drew HO361.out)
                                      have n3_ := Aside0.mk (Kd.R_drew HO368.out)
                                      have n4_ := Aside0.mk (Kd.R_drew HO372.out)
                                      have n5_ := Aside0.mk (Kd.R_drew HO379.out)
                                      have n6_ := Aside0.mk (blk_drew BK344.out)
                                      have n7_ := Aside0.mk (blk_drew BK375.out)
                                      have n8_ := Aside0.mk (below_drew1 HB.out)
                                      clear HO349
                                      clear HO355
                                      clear HO361
                                      clear HO368
                                      clear HO372
                                      clear HO379
                                      clear BK344
                                      clear BK375
                                      clear HB
                                      have HO349 := n0_
                                      have HO355 := n1_
                                      have HO361 := n2_
                                      have HO368 := n3_
                                      have HO372 := n4_
                                      have HO379 := n5_
                                      have BK344 := n6_
                                      have BK375 := n7_
                                      have HB := n8_
                                      clear n0_ n1_ n2_ n3_ n4_ n5_ n6_ n7_ n8_
                                      obtain ⟨Ao59, co59, eo59⟩ := Kd.R_slice HO379.out
                                      (first | subst eo59 | (injection eo59 with f1_ f2_ f3_; have f4_ := f1_.symm; have f5_ := f3_.symm; clear f1_ f2_ f3_; subst f4_; subst f5_))
                                      refine start_ (n := 15) (S := fun w' => w'.cell? ⟨gb344, 0, none⟩ = some (.int .u8 a1_0) ∧ w'.cell? ⟨gb344, 1, none⟩ = some (.slice A1_1 l1_1.length c1_1)) (ds := []) #[false, false, false, false, false, false, false, false, false, false, false, false, false, false, false] (by kernel_rfl) rfl rfl ⟨(blk_cell BK344.out 0).trans rfl, (blk_cell BK344.out 1).trans rfl⟩ (fun hHeld => ?_); refine with_tabW recouplaw08_WireBack.tab10 recouplaw08_WireBack.bits10 (fun HT_ HW_ => ?_)
                                      generalize w57.drew = w58 at HO349 HO355 HO361 HO368 HO372 HO379 BK344 BK375 HB hHeld ⊢
                                      refine pure_ (i := 0) (N := some 67) (v := ?_) (a' := ?_) #[true, false, false, false, false, false, false, false, false, false, false, false, false, false, false] rfl rfl (any_of HT_.out (by kernel_rfl)) (fun _ _ _ h => h) (Or.inl ⟨by rfl, ?_⟩) ?_ ?_
                                      rotate_left
                                      · intro w'
                                        go_simp
                                        with_reducible rfl
                                      rotate_left
                                      · simp only [Act.put, List.setIfInBounds_toArray, List.set_cons_zero, List.set_cons_succ, i64_w, i32_w]
                                        rfl
                                      refine pure_ (i := 2) (N := some 69) (v := ?_) (a' := ?_) #[true, false, true, false, false, false, false, false, false, false, false, false, false, false, false] rfl rfl (any_of HT_.out (by kernel_rfl)) (fun _ _ _ h => h) (Or.inl ⟨by rfl, ?_⟩) ?_ ?_
                                      rotate_left
                                      · intro w'
                                        go_simp
                                        with_reducible rfl
                                      rotate_left
                                      · simp only [Act.put, List.setIfInBounds_toArray, List.set_cons_zero, List.set_cons_succ, i64_w, i32_w]
                                        rfl
                                      refine pure_ (i := 4) (N := some 71) (v := ?_) (a' := ?_) #[true, false, true, false, true, false, false, false, false, false, false, false, false, false, false] rfl rfl (any_of HT_.out (by kernel_rfl)) (fun _ _ _ h => h) (Or.inl ⟨by rfl, ?_⟩) ?_ ?_
                                      rotate_left
                                      · intro w'
                                        go_simp
                                        with_reducible rfl
                                      rotate_left
                                      · simp only [Act.put, List.setIfInBounds_toArray, List.set_cons_zero, List.set_cons_succ, i64_w, i32_w]
                                        rfl
                                      refine take_ (i := 5) (N := some 72) (v := ?_) (a' := ?_) #[true, false, true, false, true, true, false, false, false, false, false, false, false, false, false] rfl rfl (take_ofW HT_.out HW_.out (by kernel_rfl)) (fun _ _ _ h => h) (Or.inl ⟨by rfl, ?_⟩) hHeld ?_ ?_
                                      rotate_left
                                      · rintro w' ⟨s0, s1⟩
                                        go_simp
                                        with_reducible rfl
                                      rotate_left
                                      · simp only [Act.put, List.setIfInBounds_toArray, List.set_cons_zero, List.set_cons_succ, i64_w, i32_w]
                                        rfl
                                      refine pure_ (i := 6) (N := some 73) (v := ?_) (a' := ?_) #[true, false, true, false, true, true, true, false, false, false, false, false, false, false, false] rfl rfl (any_of HT_.out (by kernel_rfl)) (fun _ _ _ h => h) (Or.inl ⟨by rfl, ?_⟩) ?_ ?_
                                      rotate_left
                                      · intro w'
                                        go_simp
                                        with_reducible rfl
                                      rotate_left
                                      · simp only [Act.put, List.setIfInBounds_toArray, List.set_cons_zero, List.set_cons_succ, i64_w, i32_w]
                                        rfl
                                      refine one_ (i := 1) (N := some 68) #[true, true, true, false, true, true, true, false, false, false, false, false, false, false, false] rfl rfl (one_of HT_.out (by kernel_rfl)) (by decide) (fun K hK => ?_)
                                      refine goes_ Try.func34 (by kernel_rfl) rfl #[.slice Ao59 t376.length co59] (by rfl) rfl rfl (by (try simp only [List.map_toArray, List.map_cons, List.map_nil]); first | done | rfl | (simp only [List.length_drop, List.length_take]; rfl)) ?_
                                      with_reducible refine (recoupref01_Copy.calls _ _ t376 t380 _ ?side1 ?side2 A22.out).mono ?_
                                      (case side1 => repeat (first | exact (Kd.R_reads' HO379.out).2.2 | (with_reducible refine Kd.C_alloc ?_ _) | (with_reducible refine Kd.C_drewN ?_ _) | (with_reducible refine Kd.C_drew ?_)))
                                      (case side2 => exact (Kd.R_reads' HO379.out).2.1)
                                      rintro e w60 ⟨v381, rfl, ho0, hb⟩
                                      refine ⟨_, rfl, ?_⟩
                                      have n0_ := Aside0.mk (Kd.R_elder' (by (with_reducible repeat (first | apply Kd.R_alloc | apply Kd.R_drewN | apply Kd.R_drew)); exact HO349.out) (Kd.R_base ho0) hb)
                                      have n1_ := Aside0.mk (Kd.R_elder' (by (with_reducible repeat (first | apply Kd.R_alloc | apply Kd.R_drewN | apply Kd.R_drew)); exact HO355.out) (Kd.R_base ho0) hb)
                                      have n2_ := Aside0.mk (Kd.R_elder' (by (with_reducible repeat (first | apply Kd.R_alloc | apply Kd.R_drewN | apply Kd.R_drew)); exact HO361.out) (Kd.R_base ho0) hb)
                                      have n3_ := Aside0.mk (Kd.R_elder' (by (with_reducible repeat (first | apply Kd.R_alloc | apply Kd.R_drewN | apply Kd.R_drew)); exact HO368.out) (Kd.R_base ho0) hb)
                                      have n4_ := Aside0.mk (Kd.R_elder' (by (with_reducible repeat (first | apply Kd.R_alloc | apply Kd.R_drewN | apply Kd.R_drew)); exact HO372.out) (Kd.R_base ho0) hb)
                                      have n5_ := Aside0.mk (Kd.R_elder' (by (with_reducible repeat (first | apply Kd.R_alloc | apply Kd.R_drewN | apply Kd.R_drew)); exact HO379.out) (Kd.R_base ho0) hb)
                                      have n6_ := Aside0.mk (Kd.R_lower (Kd.R_new' (Kd.R_new' (Kd.R_new' (Kd.R_new' (Kd.R_new' (Kd.R_new' ho0 (Kd.R_lt (by (with_reducible repeat (first | apply Kd.R_alloc | apply Kd.R_drewN | apply Kd.R_drew)); exact HO349.out))) (Kd.R_lt (by (with_reducible repeat (first | apply Kd.R_alloc | apply Kd.R_drewN | apply Kd.R_drew)); exact HO355.out))) (Kd.R_lt (by (with_reducible repeat (first | apply Kd.R_alloc | apply Kd.R_drewN | apply Kd.R_drew)); exact HO361.out))) (Kd.R_lt (by (with_reducible repeat (first | apply Kd.R_alloc | apply Kd.R_drewN | apply Kd.R_drew)); exact HO368.out))) (Kd.R_lt (by (with_reducible repeat (first | apply Kd.R_alloc | apply Kd.R_drewN | apply Kd.R_drew)); exact HO372.out))) (Kd.R_lt (by (with_reducible repeat (first | apply Kd.R_alloc | apply Kd.R_drewN | apply Kd.R_drew)); exact HO379.out))) (below_size (by repeat (first | (with_reducible first | exact HB.out | apply below_alloc | apply pw_below_drewN | apply below_drew1 | refine below_set ?_ GE344.out | refine below_set ?_ GE375.out) | exact HB.out))))
                                      have n7_ := Aside0.mk (blk_below (g := gb344) (o := .cells #[.int .u8 a1_0, .slice A1_1 l1_1.length c1_1] 53 (0, 0)) (by (with_reducible repeat (first | refine blk_drewN ?_ _ | refine blk_drew ?_ | refine blk_alloc ?_ _)); exact BK344.out) hb)
                                      have n8_ := Aside0.mk (blk_below (g := gb375) (o := .cells #[.int .u8 t369, .slice Ao55 t370.length co55] 53 (0, 0)) (by (with_reducible repeat (first | refine blk_drewN ?_ _ | refine blk_drew ?_ | refine blk_alloc ?_ _)); exact BK375.out) hb)
                                      have n9_ := Aside0.mk (below_step (by repeat (first | (with_reducible first | exact HB.out | apply below_alloc | apply pw_below_drewN | apply below_drew1 | refine below_set ?_ GE344.out | refine below_set ?_ GE375.out) | exact HB.out)) hb)
                                      clear HO349
                                      clear HO355
                                      clear HO361
                                      clear HO368
                                      clear HO372
                                      clear HO379
                                      clear BK344
                                      clear BK375
                                      clear HB
                                      have HO349 := n0_
                                      have HO355 := n1_
                                      have HO361 := n2_
                                      have HO368 := n3_
                                      have HO372 := n4_
                                      have HO379 := n5_
                                      have HO382 := n6_
                                      have BK344 := n7_
                                      have BK375 := n8_
                                      have HB := n9_
                                      clear n0_ n1_ n2_ n3_ n4_ n5_ n6_ n7_ n8_ n9_
                                      (try clear hb)
                                      (try clear hb2)
                                      (try clear hk)
                                      (try clear hi)
                                      (try clear ho0)
                                      refine hK.out _ _ ⟨(blk_cell BK344.out 0).trans rfl, (blk_cell BK344.out 1).trans rfl⟩ (fun hHeld => ?_)
                                      clear hK K
                                      refine norm_ (a' := ?_) ?_ ?_
                                      rotate_left
                                      · show Act.put _ (some 68) _ = _
                                        simp only [Act.put, List.setIfInBounds_toArray, List.set_cons_zero, List.set_cons_succ, i64_w, i32_w]
                                        rfl
                                      refine one_ (i := 3) (N := some 70) #[true, true, true, true, true, true, true, false, false, false, false, false, false, false, false] rfl rfl (one_of HT_.out (by kernel_rfl)) (by decide) (fun K hK => ?_)
                                      refine Kd.R_append_rows_step (Kd.int .u8) (w0 := w) w.heap.size (by rfl) (.tmp 68) (.tmp 69) 22 5 (.int .u8 0) 1 rfl Try.underlying22 info5 rfl (by decide) (by omega) v381 t380 l2 _ _ _ (fun k_ => some k_ ≠ (.slice Ao41 t346.length co41 : Value).ownBlock ∧ some k_ ≠ (.slice Ao44 y353.length co44 : Value).ownBlock ∧ some k_ ≠ (.slice Ao47 t359.length co47 : Value).ownBlock ∧ some k_ ≠ (.slice Ao50 y366.length co50 : Value).ownBlock ∧ some k_ ≠ (.slice Ao55 t370.length co55 : Value).ownBlock ∧ some k_ ≠ (.slice Ao59 t376.length co59 : Value).ownBlock) (fun _ => False) rfl rfl ?aO ?aR (fun _ _ h => h) (fun _ h => h.elim) ?aF ?aB ?aS ?aL ?_
                                      (case aR => repeat (first | exact (Kd.C_below HR2.out HB.out) | (with_reducible refine Kd.C_alloc ?_ _) | (with_reducible refine Kd.C_drewN ?_ _) | (with_reducible refine Kd.C_drew ?_)))
                                      (case aB => exact (by repeat (first | (with_reducible first | exact HB.out | apply below_alloc | apply pw_below_drewN | apply below_drew1 | refine below_set ?_ GE344.out | refine below_set ?_ GE375.out) | exact HB.out)))
                                      (case aF => exact (fun k_ hk => ⟨Kd.fresh' (Kd.R_lt (by (with_reducible repeat (first | apply Kd.R_alloc | apply Kd.R_drewN | apply Kd.R_drew)); exact HO349.out)) k_ hk, Kd.fresh' (Kd.R_lt (by (with_reducible repeat (first | apply Kd.R_alloc | apply Kd.R_drewN | apply Kd.R_drew)); exact HO355.out)) k_ hk, Kd.fresh' (Kd.R_lt (by (with_reducible repeat (first | apply Kd.R_alloc | apply Kd.R_drewN | apply Kd.R_drew)); exact HO361.out)) k_ hk, Kd.fresh' (Kd.R_lt (by (with_reducible repeat (first | apply Kd.R_alloc | apply Kd.R_drewN | apply Kd.R_drew)); exact HO368.out)) k_ hk, Kd.fresh' (Kd.R_lt (by (with_reducible repeat (first | apply Kd.R_alloc | apply Kd.R_drewN | apply Kd.R_drew)); exact HO372.out)) k_ hk, Kd.fresh' (Kd.R_lt (by (with_reducible repeat (first | apply Kd.R_alloc | apply Kd.R_drewN | apply Kd.R_drew)); exact HO379.out)) k_ hk⟩))
                                      (case aO => exact (by (with_reducible repeat (first | apply Kd.R_alloc | apply Kd.R_drewN | apply Kd.R_drew)); (first | exact Kd.R_mono HO382.out (fun _ hk => ⟨hk.1.1.1.1.1.2, ⟨hk.1.1.1.1.2, ⟨hk.1.1.1.2, ⟨hk.1.1.2, ⟨hk.1.2, hk.2⟩⟩⟩⟩⟩) | exact Kd.R_mono HO382.out (fun k_ hk => by (try dsimp only at *); grind))))
                                      (case aS => exact (below_size (by repeat (first | (with_reducible first | exact HB.out | apply below_alloc | apply pw_below_drewN | apply below_drew1 | refine below_set ?_ GE344.out | refine below_set ?_ GE375.out) | exact HB.out))))
                                      (case aL => have := LMc23.out; omega)
                                      intro v384 w61 ho hb hg hat
                                      rw [← Ny383.out] at ho
                                      have n0_ := Aside0.mk (blk_grown (g := gb344) (o := .cells #[.int .u8 a1_0, .slice A1_1 l1_1.length c1_1] 53 (0, 0)) (by (with_reducible repeat (first | refine blk_drewN ?_ _ | refine blk_drew ?_ | refine blk_alloc ?_ _)); exact BK344.out) hg (Kd.R_ne HO382.out BK344.out (by decide)))
                                      have n1_ := Aside0.mk (Kd.R_after (ok := (fun k_ => some k_ ≠ (.slice Ao44 y353.length co44 : Value).ownBlock ∧ some k_ ≠ (.slice Ao47 t359.length co47 : Value).ownBlock ∧ some k_ ≠ (.slice Ao50 y366.length co50 : Value).ownBlock ∧ some k_ ≠ (.slice Ao55 t370.length co55 : Value).ownBlock ∧ some k_ ≠ (.slice Ao59 t376.length co59 : Value).ownBlock)) (by (with_reducible repeat (first | apply Kd.R_alloc | apply Kd.R_drewN | apply Kd.R_drew)); (first | exact Kd.R_mono HO349.out (fun _ hk => ⟨⟨hk.1.1.1.1.1, ⟨hk.1.1.1.1.2, ⟨hk.1.1.1.2, ⟨hk.1.1.2, hk.1.2⟩⟩⟩⟩, hk.2⟩) | exact Kd.R_mono HO349.out (fun k_ hk => by (try dsimp only at *); grind))) hg hat)
                                      have n2_ := Aside0.mk (Kd.R_after (ok := (fun k_ => some k_ ≠ (.slice Ao41 t346.length co41 : Value).ownBlock ∧ some k_ ≠ (.slice Ao47 t359.length co47 : Value).ownBlock ∧ some k_ ≠ (.slice Ao50 y366.length co50 : Value).ownBlock ∧ some k_ ≠ (.slice Ao55 t370.length co55 : Value).ownBlock ∧ some k_ ≠ (.slice Ao59 t376.length co59 : Value).ownBlock)) (by (with_reducible repeat (first | apply Kd.R_alloc | apply Kd.R_drewN | apply Kd.R_drew)); (first | exact Kd.R_mono HO355.out (fun _ hk => ⟨⟨hk.1.1.1.1.1, ⟨hk.1.1.1.1.2, ⟨hk.1.1.1.2, ⟨hk.1.1.2, hk.1.2⟩⟩⟩⟩, hk.2⟩) | exact Kd.R_mono HO355.out (fun k_ hk => by (try dsimp only at *); grind))) hg hat)
                                      have n3_ := Aside0.mk (Kd.R_after (ok := (fun k_ => some k_ ≠ (.slice Ao41 t346.length co41 : Value).ownBlock ∧ some k_ ≠ (.slice Ao44 y353.length co44 : Value).ownBlock ∧ some k_ ≠ (.slice Ao50 y366.length co50 : Value).ownBlock ∧ some k_ ≠ (.slice Ao55 t370.length co55 : Value).ownBlock ∧ some k_ ≠ (.slice Ao59 t376.length co59 : Value).ownBlock)) (by (with_reducible repeat (first | apply Kd.R_alloc | apply Kd.R_drewN | apply Kd.R_drew)); (first | exact Kd.R_mono HO361.out (fun _ hk => ⟨⟨hk.1.1.1.1.1, ⟨hk.1.1.1.1.2, ⟨hk.1.1.1.2, ⟨hk.1.1.2, hk.1.2⟩⟩⟩⟩, hk.2⟩) | exact Kd.R_mono HO361.out (fun k_ hk => by (try dsimp only at *); grind))) hg hat)
                                      have n4_ := Aside0.mk (Kd.R_after (ok := (fun k_ => some k_ ≠ (.slice Ao41 t346.length co41 : Value).ownBlock ∧ some k_ ≠ (.slice Ao44 y353.length co44 : Value).ownBlock ∧ some k_ ≠ (.slice Ao47 t359.length co47 : Value).ownBlock ∧ some k_ ≠ (.slice Ao55 t370.length co55 : Value).ownBlock ∧ some k_ ≠ (.slice Ao59 t376.length co59 : Value).ownBlock)) (by (with_reducible repeat (first | apply Kd.R_alloc | apply Kd.R_drewN | apply Kd.R_drew)); (first | exact Kd.R_mono HO368.out (fun _ hk => ⟨⟨hk.1.1.1.1, ⟨hk.1.1.1.2.1, ⟨hk.1.1.1.2.2, ⟨hk.1.1.2, hk.1.2⟩⟩⟩⟩, hk.2⟩) | exact Kd.R_mono HO368.out (fun k_ hk => by (try dsimp only at *); grind))) hg hat)
                                      have n5_ := Aside0.mk (Kd.R_after (ok := (fun k_ => some k_ ≠ (.slice Ao41 t346.length co41 : Value).ownBlock ∧ some k_ ≠ (.slice Ao44 y353.length co44 : Value).ownBlock ∧ some k_ ≠ (.slice Ao47 t359.length co47 : Value).ownBlock ∧ some k_ ≠ (.slice Ao50 y366.length co50 : Value).ownBlock ∧ some k_ ≠ (.slice Ao59 t376.length co59 : Value).ownBlock)) (by (with_reducible repeat (first | apply Kd.R_alloc | apply Kd.R_drewN | apply Kd.R_drew)); (first | exact Kd.R_mono HO372.out (fun _ hk => ⟨⟨hk.1.1.1.1.1.2, ⟨hk.1.1.1.1.2, ⟨hk.1.1.1.2, ⟨hk.1.1.2, hk.1.2⟩⟩⟩⟩, hk.2⟩) | exact Kd.R_mono HO372.out (fun k_ hk => by (try dsimp only at *); grind))) hg hat)
                                      have n6_ := Aside0.mk (blk_grown (g := gb375) (o := .cells #[.int .u8 t369, .slice Ao55 t370.length co55] 53 (0, 0)) (by (with_reducible repeat (first | refine blk_drewN ?_ _ | refine blk_drew ?_ | refine blk_alloc ?_ _)); exact BK375.out) hg (Kd.R_ne HO382.out BK375.out (by decide)))
                                      have n7_ := Aside0.mk (Kd.R_after (ok := (fun k_ => some k_ ≠ (.slice Ao41 t346.length co41 : Value).ownBlock ∧ some k_ ≠ (.slice Ao44 y353.length co44 : Value).ownBlock ∧ some k_ ≠ (.slice Ao47 t359.length co47 : Value).ownBlock ∧ some k_ ≠ (.slice Ao50 y366.length co50 : Value).ownBlock ∧ some k_ ≠ (.slice Ao55 t370.length co55 : Value).ownBlock)) (by (with_reducible repeat (first | apply Kd.R_alloc | apply Kd.R_drewN | apply Kd.R_drew)); (first | exact Kd.R_mono HO379.out (fun _ hk => ⟨⟨hk.1.1.1.1.1.2, ⟨hk.1.1.1.1.2, ⟨hk.1.1.1.2, ⟨hk.1.1.2, hk.1.2⟩⟩⟩⟩, hk.2⟩) | exact Kd.R_mono HO379.out (fun k_ hk => by (try dsimp only at *); grind))) hg hat)
                                      have n8_ := Aside0.mk (hb)
                                      have n9_ := Aside0.mk (ho)
                                      clear BK344
                                      clear HO349
                                      clear HO355
                                      clear HO361
                                      clear HO368
                                      clear HO372
                                      clear BK375
                                      clear HO379
                                      clear HB
                                      clear HO382
                                      have BK344 := n0_
                                      have HO349 := n1_
                                      have HO355 := n2_
                                      have HO361 := n3_
                                      have HO368 := n4_
                                      have HO372 := n5_
                                      have BK375 := n6_
                                      have HO379 := n7_
                                      have HB := n8_
                                      have HO385 := n9_
                                      clear n0_ n1_ n2_ n3_ n4_ n5_ n6_ n7_ n8_ n9_
                                      clear ho hb hg hat
                                      obtain ⟨Ao62, co62, eo62⟩ := Kd.R_slice HO385.out
                                      (first | subst eo62 | (injection eo62 with f1_ f2_ f3_; have f4_ := f1_.symm; have f5_ := f3_.symm; clear f1_ f2_ f3_; subst f4_; subst f5_))
                                      refine hK.out _ _ ⟨(blk_cell BK344.out 0).trans rfl, (blk_cell BK344.out 1).trans rfl⟩ (fun hHeld => ?_)
                                      clear hK K
                                      refine norm_ (a' := ?_) ?_ ?_
                                      rotate_left
                                      · show Act.put _ (some 70) _ = _
                                        simp only [Act.put, List.setIfInBounds_toArray, List.set_cons_zero, List.set_cons_succ, i64_w, i32_w]
                                        rfl
                                      refine one_ (i := 7) (N := some 74) #[true, true, true, true, true, true, true, true, false, false, false, false, false, false, false] rfl rfl (one_of HT_.out (by kernel_rfl)) (by decide) (fun K hK => ?_)
                                      refine goes_ Try.func25 (by kernel_rfl) rfl #[.slice Ao62 y383.length co62, .int .i64 (l1_1.length : Int)] (by rfl) rfl rfl (by (try simp only [List.map_toArray, List.map_cons, List.map_nil]); first | done | rfl | (simp only [List.length_drop, List.length_take]; rfl)) ?_
                                      with_reducible refine (wire_ReadText.calls kj8 _ _ y383 (l1_1.length : Int) t386 t387 t388 _ ?side1 ?side2 A24.out).mono ?_
                                      (case side1 => repeat (first | exact (Kd.R_reads' HO385.out).2.2 | (with_reducible refine Kd.C_alloc ?_ _) | (with_reducible refine Kd.C_drewN ?_ _) | (with_reducible refine Kd.C_drew ?_)))
                                      (case side2 => exact (Kd.R_reads' HO385.out).2.1)
                                      rintro e w63 ⟨v389, rfl, ho0, hb⟩
                                      refine ⟨_, rfl, ?_⟩
                                      have n0_ := Aside0.mk (Kd.R_elder' (by (with_reducible repeat (first | apply Kd.R_alloc | apply Kd.R_drewN | apply Kd.R_drew)); exact HO349.out) (Kd.R_base ho0) hb)
                                      have n1_ := Aside0.mk (Kd.R_elder' (by (with_reducible repeat (first | apply Kd.R_alloc | apply Kd.R_drewN | apply Kd.R_drew)); exact HO355.out) (Kd.R_base ho0) hb)
                                      have n2_ := Aside0.mk (Kd.R_elder' (by (with_reducible repeat (first | apply Kd.R_alloc | apply Kd.R_drewN | apply Kd.R_drew)); exact HO361.out) (Kd.R_base ho0) hb)
                                      have n3_ := Aside0.mk (Kd.R_elder' (by (with_reducible repeat (first | apply Kd.R_alloc | apply Kd.R_drewN | apply Kd.R_drew)); exact HO368.out) (Kd.R_base ho0) hb)
                                      have n4_ := Aside0.mk (Kd.R_elder' (by (with_reducible repeat (first | apply Kd.R_alloc | apply Kd.R_drewN | apply Kd.R_drew)); exact HO372.out) (Kd.R_base ho0) hb)
                                      have n5_ := Aside0.mk (Kd.R_elder' (by (with_reducible repeat (first | apply Kd.R_alloc | apply Kd.R_drewN | apply Kd.R_drew)); exact HO379.out) (Kd.R_base ho0) hb)
                                      have n6_ := Aside0.mk (Kd.R_elder' (by (with_reducible repeat (first | apply Kd.R_alloc | apply Kd.R_drewN | apply Kd.R_drew)); exact HO385.out) (Kd.R_base ho0) hb)
                                      have n7_ := Aside0.mk (Kd.R_lower (Kd.R_new' (Kd.R_new' (Kd.R_new' (Kd.R_new' (Kd.R_new' (Kd.R_new' (Kd.R_new' ho0 (Kd.R_lt (by (with_reducible repeat (first | apply Kd.R_alloc | apply Kd.R_drewN | apply Kd.R_drew)); exact HO349.out))) (Kd.R_lt (by (with_reducible repeat (first | apply Kd.R_alloc | apply Kd.R_drewN | apply Kd.R_drew)); exact HO355.out))) (Kd.R_lt (by (with_reducible repeat (first | apply Kd.R_alloc | apply Kd.R_drewN | apply Kd.R_drew)); exact HO361.out))) (Kd.R_lt (by (with_reducible repeat (first | apply Kd.R_alloc | apply Kd.R_drewN | apply Kd.R_drew)); exact HO368.out))) (Kd.R_lt (by (with_reducible repeat (first | apply Kd.R_alloc | apply Kd.R_drewN | apply Kd.R_drew)); exact HO372.out))) (Kd.R_lt (by (with_reducible repeat (first | apply Kd.R_alloc | apply Kd.R_drewN | apply Kd.R_drew)); exact HO379.out))) (Kd.R_lt (by (with_reducible repeat (first | apply Kd.R_alloc | apply Kd.R_drewN | apply Kd.R_drew)); exact HO385.out))) (below_size (by repeat (first | (with_reducible first | exact HB.out | apply below_alloc | apply pw_below_drewN | apply below_drew1 | refine below_set ?_ GE344.out | refine below_set ?_ GE375.out) | exact HB.out))))
                                      have n8_ := Aside0.mk (blk_below (g := gb344) (o := .cells #[.int .u8 a1_0, .slice A1_1 l1_1.length c1_1] 53 (0, 0)) (by (with_reducible repeat (first | refine blk_drewN ?_ _ | refine blk_drew ?_ | refine blk_alloc ?_ _)); exact BK344.out) hb)
                                      have n9_ := Aside0.mk (blk_below (g := gb375) (o := .cells #[.int .u8 t369, .slice Ao55 t370.length co55] 53 (0, 0)) (by (with_reducible repeat (first | refine blk_drewN ?_ _ | refine blk_drew ?_ | refine blk_alloc ?_ _)); exact BK375.out) hb)
                                      have n10_ := Aside0.mk (below_step (by repeat (first | (with_reducible first | exact HB.out | apply below_alloc | apply pw_below_drewN | apply below_drew1 | refine below_set ?_ GE344.out | refine below_set ?_ GE375.out) | exact HB.out)) hb)
                                      clear HO349
                                      clear HO355
                                      clear HO361
                                      clear HO368
                                      clear HO372
                                      clear HO379
                                      clear HO385
                                      clear BK344
                                      clear BK375
                                      clear HB
                                      have HO349 := n0_
                                      have HO355 := n1_
                                      have HO361 := n2_
                                      have HO368 := n3_
                                      have HO372 := n4_
                                      have HO379 := n5_
                                      have HO385 := n6_
                                      have HO390 := n7_
                                      have BK344 := n8_
                                      have BK375 := n9_
                                      have HB := n10_
                                      clear n0_ n1_ n2_ n3_ n4_ n5_ n6_ n7_ n8_ n9_ n10_
                                      (try clear hb)
                                      (try clear hb2)
                                      (try clear hk)
                                      (try clear hi)
                                      (try clear ho0)
                                      refine hK.out _ _ ⟨(blk_cell BK344.out 0).trans rfl, (blk_cell BK344.out 1).trans rfl⟩ (fun hHeld => ?_)
                                      clear hK K
                                      refine norm_ (a' := ?_) ?_ ?_
                                      rotate_left
                                      · show Act.put _ (some 74) _ = _
                                        simp only [Act.put, List.setIfInBounds_toArray, List.set_cons_zero, List.set_cons_succ, i64_w, i32_w]
                                        rfl
                                      refine pure_ (i := 8) (N := some 66) (v := ?_) (a' := ?_) #[true, true, true, true, true, true, true, true, true, false, false, false, false, false, false] rfl rfl (any_of HT_.out (by kernel_rfl)) (fun _ _ _ h => h) (Or.inl ⟨by rfl, ?_⟩) ?_ ?_
                                      rotate_left
                                      · intro w'
                                        go_simp
                                        with_reducible rfl
                                      rotate_left
                                      · simp only [Act.put, List.setIfInBounds_toArray, List.set_cons_zero, List.set_cons_succ, i64_w, i32_w]
                                        rfl
                                      refine pure_ (i := 9) (N := some 75) (v := ?_) (a' := ?_) #[true, true, true, true, true, true, true, true, true, true, false, false, false, false, false] rfl rfl (any_of HT_.out (by kernel_rfl)) (fun _ _ _ h => h) (Or.inl ⟨by rfl, ?_⟩) ?_ ?_
                                      rotate_left
                                      · intro w'
                                        go_simp
                                        with_reducible rfl
                                      rotate_left
                                      · simp only [Act.put, List.setIfInBounds_toArray, List.set_cons_zero, List.set_cons_succ, i64_w, i32_w]
                                        rfl
                                      refine pure_ (i := 10) (N := some 76) (v := ?_) (a' := ?_) #[true, true, true, true, true, true, true, true, true, true, true, false, false, false, false] rfl rfl (any_of HT_.out (by kernel_rfl)) (fun _ _ _ h => h) (Or.inl ⟨by rfl, ?_⟩) ?_ ?_
                                      rotate_left
                                      · intro w'
                                        go_simp
                                        with_reducible rfl
                                      rotate_left
                                      · simp only [Act.put, List.setIfInBounds_toArray, List.set_cons_zero, List.set_cons_succ, i64_w, i32_w]
                                        rfl
                                      refine pure_ (i := 11) (N := some 77) (v := ?_) (a' := ?_) #[true, true, true, true, true, true, true, true, true, true, true, true, false, false, false] rfl rfl (any_of HT_.out (by kernel_rfl)) (fun _ _ _ h => h) (Or.inl ⟨by rfl, ?_⟩) ?_ ?_
                                      rotate_left
                                      · intro w'
                                        go_simp
                                        with_reducible rfl
                                      rotate_left
                                      · simp only [Act.put, List.setIfInBounds_toArray, List.set_cons_zero, List.set_cons_succ, i64_w, i32_w]
                                        rfl
                                      refine pure_ (i := 12) (N := some 19) (v := ?_) (a' := ?_) #[true, true, true, true, true, true, true, true, true, true, true, true, true, false, false] rfl rfl (any_of HT_.out (by kernel_rfl)) (fun _ _ _ h => h) (Or.inl ⟨by rfl, ?_⟩) ?_ ?_
                                      rotate_left
                                      · intro w'
                                        go_simp
                                        with_reducible rfl
                                      rotate_left
                                      · simp only [Act.put, List.setIfInBounds_toArray, List.set_cons_zero, List.set_cons_succ, i64_w, i32_w]
                                        rfl
                                      refine pure_ (i := 13) (N := some 20) (v := ?_) (a' := ?_) #[true, true, true, true, true, true, true, true, true, true, true, true, true, true, false] rfl rfl (any_of HT_.out (by kernel_rfl)) (fun _ _ _ h => h) (Or.inl ⟨by rfl, ?_⟩) ?_ ?_
                                      rotate_left
                                      · intro w'
                                        go_simp
                                        with_reducible rfl
                                      rotate_left
                                      · simp only [Act.put, List.setIfInBounds_toArray, List.set_cons_zero, List.set_cons_succ, i64_w, i32_w]
                                        rfl
                                      refine pure_ (i := 14) (N := some 21) (v := ?_) (a' := ?_) #[true, true, true, true, true, true, true, true, true, true, true, true, true, true, true] rfl rfl (any_of HT_.out (by kernel_rfl)) (fun _ _ _ h => h) (Or.inl ⟨by rfl, ?_⟩) ?_ ?_
                                      rotate_left
                                      · intro w'
                                        go_simp
                                        with_reducible rfl
                                      rotate_left
                                      · simp only [Act.put, List.setIfInBounds_toArray, List.set_cons_zero, List.set_cons_succ, i64_w, i32_w]
                                        rfl
                                      refine done_ (done_of HT_.out (by kernel_rfl)) ?_
                                      try go_wp2_with (first | ((with_reducible refine gate_callee (f := 22) rfl ?_); refine goesL_ (some 78) rfl rfl Try.func22 (by kernel_rfl) rfl #[] rfl (by (try simp only [List.map_toArray, List.map_cons, List.map_nil]); first | done | rfl | (simp only [List.length_drop, List.length_take]; rfl)) ?_; (with_reducible refine (recouplaw08_anchored.calls  true _ A25.out).mono ?_); rintro e w64 ⟨rfl, hb⟩; refine ⟨_, rfl, ?_⟩; have n0_ := Aside0.mk (Kd.R_below (by (with_reducible repeat (first | apply Kd.R_alloc | apply Kd.R_drewN | apply Kd.R_drew)); exact HO349.out) hb); have n1_ := Aside0.mk (Kd.R_below (by (with_reducible repeat (first | apply Kd.R_alloc | apply Kd.R_drewN | apply Kd.R_drew)); exact HO355.out) hb); have n2_ := Aside0.mk (Kd.R_below (by (with_reducible repeat (first | apply Kd.R_alloc | apply Kd.R_drewN | apply Kd.R_drew)); exact HO361.out) hb); have n3_ := Aside0.mk (Kd.R_below (by (with_reducible repeat (first | apply Kd.R_alloc | apply Kd.R_drewN | apply Kd.R_drew)); exact HO368.out) hb); have n4_ := Aside0.mk (Kd.R_below (by (with_reducible repeat (first | apply Kd.R_alloc | apply Kd.R_drewN | apply Kd.R_drew)); exact HO372.out) hb); have n5_ := Aside0.mk (Kd.R_below (by (with_reducible repeat (first | apply Kd.R_alloc | apply Kd.R_drewN | apply Kd.R_drew)); exact HO379.out) hb); have n6_ := Aside0.mk (Kd.R_below (by (with_reducible repeat (first | apply Kd.R_alloc | apply Kd.R_drewN | apply Kd.R_drew)); exact HO385.out) hb); have n7_ := Aside0.mk (Kd.R_below (by (with_reducible repeat (first | apply Kd.R_alloc | apply Kd.R_drewN | apply Kd.R_drew)); exact HO390.out) hb); have n8_ := Aside0.mk (blk_below (g := gb344) (o := .cells #[.int .u8 a1_0, .slice A1_1 l1_1.length c1_1] 53 (0, 0)) (by (with_reducible repeat (first | refine blk_drewN ?_ _ | refine blk_drew ?_ | refine blk_alloc ?_ _)); exact BK344.out) hb); have n9_ := Aside0.mk (blk_below (g := gb375) (o := .cells #[.int .u8 t369, .slice Ao55 t370.length co55] 53 (0, 0)) (by (with_reducible repeat (first | refine blk_drewN ?_ _ | refine blk_drew ?_ | refine blk_alloc ?_ _)); exact BK375.out) hb); have n10_ := Aside0.mk (below_step (by repeat (first | (with_reducible first | exact HB.out | apply below_alloc | apply pw_below_drewN | apply below_drew1 | refine below_set ?_ GE344.out | refine below_set ?_ GE375.out) | exact HB.out)) hb); clear HO349; clear HO355; clear HO361; clear HO368; clear HO372; clear HO379; clear HO385; clear HO390; clear BK344; clear BK375; clear HB; have HO349 := n0_; have HO355 := n1_; have HO361 := n2_; have HO368 := n3_; have HO372 := n4_; have HO379 := n5_; have HO385 := n6_; have HO390 := n7_; have BK344 := n8_; have BK375 := n9_; have HB := n10_; clear n0_ n1_ n2_ n3_ n4_ n5_ n6_ n7_ n8_ n9_ n10_; (try clear hb); (try clear hb2); (try clear hk); (try clear hi); have hcz65_0 : w64.cell? ⟨gb375, 0, none⟩ = some (.int .u8 t369) := (blk_cell BK375.out 0).trans rfl; have hcz65_1 : w64.cell? ⟨gb375, 1, none⟩ = some (.slice Ao55 t370.length co55) := (blk_cell BK375.out 1).trans rfl; have hfz65_0 := blk_frozen BK375.out 0; have hfz65_1 := blk_frozen BK375.out 1; have hcz66_0 : w64.cell? ⟨gb344, 0, none⟩ = some (.int .u8 a1_0) := (blk_cell BK344.out 0).trans rfl; have hcz66_1 : w64.cell? ⟨gb344, 1, none⟩ = some (.slice A1_1 l1_1.length c1_1) := (blk_cell BK344.out 1).trans rfl; have hfz66_0 := blk_frozen BK344.out 0; have hfz66_1 := blk_frozen BK344.out 1) | (go_at_call 29; (with_reducible refine (recoupref08_Like.calls t369 _ _ t370 a1_0 _ _ l1_1 true _ ?side1 ?side2 ?side3 ?side4 A35.out).mono ?_); (case side1 => repeat (first | exact (Kd.R_reads' HO372.out).2.2 | (with_reducible refine Kd.C_alloc ?_ _) | (with_reducible refine Kd.C_drewN ?_ _) | (with_reducible refine Kd.C_drew ?_))); (case side2 => exact (Kd.R_reads' HO372.out).2.1); (case side3 => repeat (first | exact (Kd.C_below HR1_1.out HB.out) | (with_reducible refine Kd.C_alloc ?_ _) | (with_reducible refine Kd.C_drewN ?_ _) | (with_reducible refine Kd.C_drew ?_))); (case side4 => exact HC1_1.out); rintro e w67 ⟨rfl, hb⟩; have n0_ := Aside0.mk (Kd.R_below (by (with_reducible repeat (first | apply Kd.R_alloc | apply Kd.R_drewN | apply Kd.R_drew)); exact HO349.out) hb); have n1_ := Aside0.mk (Kd.R_below (by (with_reducible repeat (first | apply Kd.R_alloc | apply Kd.R_drewN | apply Kd.R_drew)); exact HO355.out) hb); have n2_ := Aside0.mk (Kd.R_below (by (with_reducible repeat (first | apply Kd.R_alloc | apply Kd.R_drewN | apply Kd.R_drew)); exact HO361.out) hb); have n3_ := Aside0.mk (Kd.R_below (by (with_reducible repeat (first | apply Kd.R_alloc | apply Kd.R_drewN | apply Kd.R_drew)); exact HO368.out) hb); have n4_ := Aside0.mk (Kd.R_below (by (with_reducible repeat (first | apply Kd.R_alloc | apply Kd.R_drewN | apply Kd.R_drew)); exact HO372.out) hb); have n5_ := Aside0.mk (Kd.R_below (by (with_reducible repeat (first | apply Kd.R_alloc | apply Kd.R_drewN | apply Kd.R_drew)); exact HO379.out) hb); have n6_ := Aside0.mk (Kd.R_below (by (with_reducible repeat (first | apply Kd.R_alloc | apply Kd.R_drewN | apply Kd.R_drew)); exact HO385.out) hb); have n7_ := Aside0.mk (Kd.R_below (by (with_reducible repeat (first | apply Kd.R_alloc | apply Kd.R_drewN | apply Kd.R_drew)); exact HO390.out) hb); have n8_ := Aside0.mk (blk_below (g := gb344) (o := .cells #[.int .u8 a1_0, .slice A1_1 l1_1.length c1_1] 53 (0, 0)) (by (with_reducible repeat (first | refine blk_drewN ?_ _ | refine blk_drew ?_ | refine blk_alloc ?_ _)); exact BK344.out) hb); have n9_ := Aside0.mk (blk_below (g := gb375) (o := .cells #[.int .u8 t369, .slice Ao55 t370.length co55] 53 (0, 0)) (by (with_reducible repeat (first | refine blk_drewN ?_ _ | refine blk_drew ?_ | refine blk_alloc ?_ _)); exact BK375.out) hb); have n10_ := Aside0.mk (below_step (by repeat (first | (with_reducible first | exact HB.out | apply below_alloc | apply pw_below_drewN | apply below_drew1 | refine below_set ?_ GE344.out | refine below_set ?_ GE375.out) | exact HB.out)) hb); clear HO349; clear HO355; clear HO361; clear HO368; clear HO372; clear HO379; clear HO385; clear HO390; clear BK344; clear BK375; clear HB; have HO349 := n0_; have HO355 := n1_; have HO361 := n2_; have HO368 := n3_; have HO372 := n4_; have HO379 := n5_; have HO385 := n6_; have HO390 := n7_; have BK344 := n8_; have BK375 := n9_; have HB := n10_; clear n0_ n1_ n2_ n3_ n4_ n5_ n6_ n7_ n8_ n9_ n10_; (try clear hb); (try clear hb2); (try clear hk); (try clear hi); have hcz68_0 : w67.cell? ⟨gb344, 0, none⟩ = some (.int .u8 a1_0) := (blk_cell BK344.out 0).trans rfl; have hcz68_1 : w67.cell? ⟨gb344, 1, none⟩ = some (.slice A1_1 l1_1.length c1_1) := (blk_cell BK344.out 1).trans rfl; have hfz68_0 := blk_frozen BK344.out 0; have hfz68_1 := blk_frozen BK344.out 1; obtain ⟨Ao69, co69, eo69⟩ := Kd.R_slice HO390.out; subst eo69) | (go_at_call 19; (with_reducible refine (recoupref01_Same.calls _ _ t386 _ _ l1_1 true _ ?side1 ?side2 ?side3 ?side4 A38.out).mono ?_); (case side1 => repeat (first | exact (Kd.R_reads' HO390.out).2.2 | (with_reducible refine Kd.C_alloc ?_ _) | (with_reducible refine Kd.C_drewN ?_ _) | (with_reducible refine Kd.C_drew ?_))); (case side2 => exact (Kd.R_reads' HO390.out).2.1); (case side3 => repeat (first | exact (Kd.C_below HR1_1.out HB.out) | (with_reducible refine Kd.C_alloc ?_ _) | (with_reducible refine Kd.C_drewN ?_ _) | (with_reducible refine Kd.C_drew ?_))); (case side4 => exact HC1_1.out); rintro e w' ⟨rfl, ⟨nd, rfl⟩⟩))
                                      go_ret
                                      exact ⟨by first | rfl | (simp [errW_none, errW_some] <;> rfl) | (simp [*, errW_none, errW_some] <;> rfl), by repeat (first | (with_reducible first | exact HB.out | apply below_alloc | apply pw_below_drewN | apply below_drew1 | refine below_set ?_ GE344.out | refine below_set ?_ GE375.out) | exact HB.out)⟩
                                    · replace c39 := Bool.eq_false_iff.mpr c39
                                      subst c39
                                      have H1 : (none) = some r := by rw [if_neg (show ¬ (false = true) by decide)] at H; exact H
                                      clear H
                                      have H := H1
                                      clear H1
                                      exact absurd H (by simp)
                                  · rw [if_neg c37] at H
                                    exact absurd H (by simp)
                                · replace c36 := Bool.eq_false_iff.mpr c36
                                  subst c36
                                  have H1 : (none) = some r := by rw [if_neg (show ¬ (false = true) by decide)] at H; exact H
                                  clear H
                                  have H := H1
                                  clear H1
                                  exact absurd H (by simp)
                              · rw [if_neg c34] at H
                                exact absurd H (by simp)
                            · rw [if_neg c33] at H
                              exact absurd H (by simp)
                          · rw [if_neg c32] at H
                            exact absurd H (by simp)
                        · rw [if_neg c31] at H
                          exact absurd H (by simp)
                      · rw [if_neg c30] at H
                        exact absurd H (by simp)
                    · rw [if_neg c29] at H
                      exact absurd H (by simp)
                  · rw [if_neg c28] at H
                    exact absurd H (by simp)
                · rw [if_neg c27] at H
                  exact absurd H (by simp)
              · replace c26 := Bool.eq_false_iff.mpr c26
                subst c26
                have H1 : (none) = some r := by rw [if_neg (show ¬ (false = true) by decide)] at H; exact H
                clear H
                have H := H1
                clear H1
                exact absurd H (by simp)
            · rw [if_neg c23] at H
              exact absurd H (by simp)
          · rw [if_neg c19] at H
            exact absurd H (by simp)
        · rw [if_neg c15] at H
          exact absurd H (by simp)

end Go.Proofs.Ytnbfkinebikneaa.PA
