/- Printed by a program of this repo over the kit's printer: functions of the given program as plain Lean functions, each with the proof that the call does what it says. -/
import Derived.Test.YtnojokempdcikaaPA0
import Derived.Test.YtnojokempdcikaaPA11
import Derived.Test.YtnojokempdcikaaPA15
import Derived.Test.YtnojokempdcikaaPA18
namespace Go.Proofs.Ytnojokempdcikaa.PA
open Go.RowKit Go.Proofs.YtnojokempdcikaaW.PrintWords Go.Proofs.YtnojokempdcikaaW.PrintLast Go.Proofs.YtnojokempdcikaaW.PrintMore
attribute [local go_sem] max2_int min2_int max_two min_two max_three min_three max_four min_four   -- for this text's walks alone
set_option linter.unusedVariables false
set_option linter.unusedSimpArgs false

/-! ### number_Eval: function 8 -/
--OWNPART 
open Go.RowKit
/-- What Eval tells: the number and the fault's code, line and column. -/
def number_Eval.f (a0_0 a0_1 : Int) (a0_2 : ByteArray) (l0_3 : List S25) (a0_4 a0_5 : Int) (l1 : List S54) : Option (Int × Int × Int × Int) :=
  if l1.length ≤ 4611686018427387903 then (knownGo l1 []).bind fun b => if b = true then (tree_MayExpr.f a0_0 a0_1 a0_2 l0_3 a0_4 a0_5).bind fun m => if m = true then xeval (envGet l1) 16 ⟨a0_0, a0_1, a0_2, l0_3, a0_4, a0_5⟩ else some (0, 2, 0, 0) else some (0, 2, 0, 0)
  else none
set_option maxHeartbeats 8000000 in
set_option maxRecDepth 100000 in
theorem number_Eval.calls (a0_0 a0_1 : Int) (a0_2 : ByteArray) (A0_3 : Option Addr) (c0_3 : Nat) (l0_3 : List S25) (a0_4 a0_5 : Int) (A1 : Option Addr) (c1 : Nat) (l1 : List S54) (r1 r2 r3 r4 : Int) (w : World) (hr0_3 : Kd.C k25 w A0_3 l0_3.length l0_3) (hc0_3 : l0_3.length ≤ c0_3) (hr1 : Kd.C k54 w A1 l1.length l1) (hc1 : l1.length ≤ c1) (h : number_Eval.f a0_0 a0_1 a0_2 l0_3 a0_4 a0_5 l1 = some (r1, r2, r3, r4)) :
    Calls Try.prog 8 #[.agg #[.int .u8 a0_0, .int .i64 a0_1, .string a0_2, .slice A0_3 l0_3.length c0_3, .int .i64 a0_4, .int .i64 a0_5], .slice A1 l1.length c1] w fun e w' => e = .returned (.tuple #[.int .i64 r1, .agg #[.int .i64 r2, .int .i64 r3, .int .i64 r4]]) ∧ Below w.heap.size w w' := by
  unfold number_Eval.f at h
  by_cases hl : l1.length ≤ 4611686018427387903
  · rw [if_pos hl] at h
    obtain ⟨b, hk, h⟩ := Option.bind_eq_some_iff.1 h
    have HL := Aside0.mk hl
    have HK := Aside0.mk hk
    have HR0 := Aside0.mk hr0_3
    have HR1 := Aside0.mk hr1
    have HC0 := Aside0.mk hc0_3
    clear hl hk hr0_3 hr1 hc0_3 hc1
    go_enter Try.func8, Try.ntmps8
    cases b with
    | false =>
      rw [if_neg (by simp)] at h
      have HE := Aside0.mk (Option.some.inj h)
      clear h
      go_wp2_with (first | ((with_reducible refine gate_dst (N := 2) rfl ?_); refine box_event ?hg (N := 2) ?hd (cs := #[.int .u8 a0_0, .int .i64 a0_1, .string a0_2, .slice A0_3 l0_3.length c0_3, .int .i64 a0_4, .int .i64 a0_5]) (t := 25) ?hr ?_; (case hd => rfl); (case hg => rfl); (case hr => first | (go_simp; done) | (go_simp; rfl)); intro gx hg w1 hbox hb; have BX := Aside0.mk hbox; have HB1 := Aside0.mk hb; clear hbox hb hg) | ((with_reducible refine gate_dst (N := 5) rfl ?_); refine box_event ?hg (N := 5) ?hd (cs := #[.int .i64 0, .int .i64 0, .int .i64 0]) (t := 29) ?hr ?_; (case hd => rfl); (case hg => rfl); (case hr => first | (go_simp; done) | (go_simp; rfl)); intro gr hg w2 hbox hb; have BR := Aside0.mk hbox; have HB2 := Aside0.mk (below_step HB1.out hb); have BX2 := Aside0.mk (blk_below BX.out hb); have GR := Aside0.mk (show w.heap.size ≤ gr from by rw [hg]; exact HB1.out.size); have hw0 : w2.cell? ⟨gx, 0, none⟩ = some (.int .u8 a0_0) := (blk_cell BX2.out 0).trans rfl; have hw1 : w2.cell? ⟨gx, 1, none⟩ = some (.int .i64 a0_1) := (blk_cell BX2.out 1).trans rfl; have hw2 : w2.cell? ⟨gx, 2, none⟩ = some (.string a0_2) := (blk_cell BX2.out 2).trans rfl; have hw3 : w2.cell? ⟨gx, 3, none⟩ = some (.slice A0_3 l0_3.length c0_3) := (blk_cell BX2.out 3).trans rfl; have hw4 : w2.cell? ⟨gx, 4, none⟩ = some (.int .i64 a0_4) := (blk_cell BX2.out 4).trans rfl; have hw5 : w2.cell? ⟨gx, 5, none⟩ = some (.int .i64 a0_5) := (blk_cell BX2.out 5).trans rfl; clear hbox hb hg) | (go_at_call 22; refine (number_known.walk A1 c1 l1 false _ (Kd.C_below HR1.out HB2.out) HL.out HK.out).mono ?_; rintro e w3 ⟨mv, rfl, hb, hm⟩; have HB3 := Aside0.mk (below_step HB2.out hb); have BX3 := Aside0.mk (blk_below BX2.out hb); have BR3 := Aside0.mk (blk_below BR.out hb); have hk0 : w3.cell? ⟨gx, 0, none⟩ = some (.int .u8 a0_0) := (blk_cell BX3.out 0).trans rfl; have hk1 : w3.cell? ⟨gx, 1, none⟩ = some (.int .i64 a0_1) := (blk_cell BX3.out 1).trans rfl; have hk2 : w3.cell? ⟨gx, 2, none⟩ = some (.string a0_2) := (blk_cell BX3.out 2).trans rfl; have hk3 : w3.cell? ⟨gx, 3, none⟩ = some (.slice A0_3 l0_3.length c0_3) := (blk_cell BX3.out 3).trans rfl; have hk4 : w3.cell? ⟨gx, 4, none⟩ = some (.int .i64 a0_4) := (blk_cell BX3.out 4).trans rfl; have hk5 : w3.cell? ⟨gx, 5, none⟩ = some (.int .i64 a0_5) := (blk_cell BX3.out 5).trans rfl; clear hb hm) | (refine xstore_row rfl 29 _ _ rfl gr #[.int .i64 2, .int .i64 0, .int .i64 0] rfl rfl 29 _ BR3.out faultInfo rfl (xone3 _ _ _) ?_; intro w6 hbk hgr hbl; have HB6 := Aside0.mk (hbl _ _ HB3.out GR.out); have BR6 := Aside0.mk hbk; clear hbk hgr hbl))
      have hE := HE.out
      simp only [Prod.mk.injEq] at hE
      obtain ⟨rfl, rfl, rfl, rfl⟩ := hE
      refine bodyPost_ret (results_tc rfl _ _ gr 29 #[.int .i64 2, .int .i64 0, .int .i64 0] (0, 0) _ rfl BR6.out Try.underlying29 rfl faultInfo) rfl ?_
      exact ⟨rfl, HB6.out⟩
    | true =>
      rw [if_pos rfl] at h
      obtain ⟨m, hx, h⟩ := Option.bind_eq_some_iff.1 h
      have HX := Aside0.mk hx
      clear hx
      cases m with
      | false =>
        rw [if_neg (by simp)] at h
        have HE := Aside0.mk (Option.some.inj h)
        clear h
        go_wp2_with (first | ((with_reducible refine gate_dst (N := 2) rfl ?_); refine box_event ?hg (N := 2) ?hd (cs := #[.int .u8 a0_0, .int .i64 a0_1, .string a0_2, .slice A0_3 l0_3.length c0_3, .int .i64 a0_4, .int .i64 a0_5]) (t := 25) ?hr ?_; (case hd => rfl); (case hg => rfl); (case hr => first | (go_simp; done) | (go_simp; rfl)); intro gx hg w1 hbox hb; have BX := Aside0.mk hbox; have HB1 := Aside0.mk hb; clear hbox hb hg) | ((with_reducible refine gate_dst (N := 5) rfl ?_); refine box_event ?hg (N := 5) ?hd (cs := #[.int .i64 0, .int .i64 0, .int .i64 0]) (t := 29) ?hr ?_; (case hd => rfl); (case hg => rfl); (case hr => first | (go_simp; done) | (go_simp; rfl)); intro gr hg w2 hbox hb; have BR := Aside0.mk hbox; have HB2 := Aside0.mk (below_step HB1.out hb); have BX2 := Aside0.mk (blk_below BX.out hb); have GR := Aside0.mk (show w.heap.size ≤ gr from by rw [hg]; exact HB1.out.size); have hw0 : w2.cell? ⟨gx, 0, none⟩ = some (.int .u8 a0_0) := (blk_cell BX2.out 0).trans rfl; have hw1 : w2.cell? ⟨gx, 1, none⟩ = some (.int .i64 a0_1) := (blk_cell BX2.out 1).trans rfl; have hw2 : w2.cell? ⟨gx, 2, none⟩ = some (.string a0_2) := (blk_cell BX2.out 2).trans rfl; have hw3 : w2.cell? ⟨gx, 3, none⟩ = some (.slice A0_3 l0_3.length c0_3) := (blk_cell BX2.out 3).trans rfl; have hw4 : w2.cell? ⟨gx, 4, none⟩ = some (.int .i64 a0_4) := (blk_cell BX2.out 4).trans rfl; have hw5 : w2.cell? ⟨gx, 5, none⟩ = some (.int .i64 a0_5) := (blk_cell BX2.out 5).trans rfl; clear hbox hb hg) | (go_at_call 22; refine (number_known.walk A1 c1 l1 true _ (Kd.C_below HR1.out HB2.out) HL.out HK.out).mono ?_; rintro e w3 ⟨mv, rfl, hb, hm⟩; have HB3 := Aside0.mk (below_step HB2.out hb); have BX3 := Aside0.mk (blk_below BX2.out hb); have BR3 := Aside0.mk (blk_below BR.out hb); have hk0 : w3.cell? ⟨gx, 0, none⟩ = some (.int .u8 a0_0) := (blk_cell BX3.out 0).trans rfl; have hk1 : w3.cell? ⟨gx, 1, none⟩ = some (.int .i64 a0_1) := (blk_cell BX3.out 1).trans rfl; have hk2 : w3.cell? ⟨gx, 2, none⟩ = some (.string a0_2) := (blk_cell BX3.out 2).trans rfl; have hk3 : w3.cell? ⟨gx, 3, none⟩ = some (.slice A0_3 l0_3.length c0_3) := (blk_cell BX3.out 3).trans rfl; have hk4 : w3.cell? ⟨gx, 4, none⟩ = some (.int .i64 a0_4) := (blk_cell BX3.out 4).trans rfl; have hk5 : w3.cell? ⟨gx, 5, none⟩ = some (.int .i64 a0_5) := (blk_cell BX3.out 5).trans rfl; obtain ⟨gm, rfl, hme⟩ := hm rfl; have HM3 := Aside0.mk hme; clear hme; clear hb) | (go_at_call 23; refine (tree_MayExpr.calls a0_0 a0_1 a0_2 A0_3 c0_3 l0_3 a0_4 a0_5 false _ (Kd.C_below HR0.out HB3.out) HC0.out HX.out).mono ?_; rintro e w4 ⟨rfl, hb⟩; have HB4 := Aside0.mk (below_step HB3.out hb); have BX4 := Aside0.mk (blk_below BX3.out hb); have BR4 := Aside0.mk (blk_below BR3.out hb); have hm0 : w4.cell? ⟨gx, 0, none⟩ = some (.int .u8 a0_0) := (blk_cell BX4.out 0).trans rfl; have hm1 : w4.cell? ⟨gx, 1, none⟩ = some (.int .i64 a0_1) := (blk_cell BX4.out 1).trans rfl; have hm2 : w4.cell? ⟨gx, 2, none⟩ = some (.string a0_2) := (blk_cell BX4.out 2).trans rfl; have hm3 : w4.cell? ⟨gx, 3, none⟩ = some (.slice A0_3 l0_3.length c0_3) := (blk_cell BX4.out 3).trans rfl; have hm4 : w4.cell? ⟨gx, 4, none⟩ = some (.int .i64 a0_4) := (blk_cell BX4.out 4).trans rfl; have hm5 : w4.cell? ⟨gx, 5, none⟩ = some (.int .i64 a0_5) := (blk_cell BX4.out 5).trans rfl; clear hb) | (refine xstore_row rfl 29 _ _ rfl gr #[.int .i64 2, .int .i64 0, .int .i64 0] rfl rfl 29 _ BR4.out faultInfo rfl (xone3 _ _ _) ?_; intro w6 hbk hgr hbl; have HB6 := Aside0.mk (hbl _ _ HB4.out GR.out); have BR6 := Aside0.mk hbk; clear hbk hgr hbl))
        have hE := HE.out
        simp only [Prod.mk.injEq] at hE
        obtain ⟨rfl, rfl, rfl, rfl⟩ := hE
        refine bodyPost_ret (results_tc rfl _ _ gr 29 #[.int .i64 2, .int .i64 0, .int .i64 0] (0, 0) _ rfl BR6.out Try.underlying29 rfl faultInfo) rfl ?_
        exact ⟨rfl, HB6.out⟩
      | true =>
        rw [if_pos rfl] at h
        have HE := Aside0.mk h
        clear h
        go_wp2_with (first | ((with_reducible refine gate_dst (N := 2) rfl ?_); refine box_event ?hg (N := 2) ?hd (cs := #[.int .u8 a0_0, .int .i64 a0_1, .string a0_2, .slice A0_3 l0_3.length c0_3, .int .i64 a0_4, .int .i64 a0_5]) (t := 25) ?hr ?_; (case hd => rfl); (case hg => rfl); (case hr => first | (go_simp; done) | (go_simp; rfl)); intro gx hg w1 hbox hb; have BX := Aside0.mk hbox; have HB1 := Aside0.mk hb; clear hbox hb hg) | ((with_reducible refine gate_dst (N := 5) rfl ?_); refine box_event ?hg (N := 5) ?hd (cs := #[.int .i64 0, .int .i64 0, .int .i64 0]) (t := 29) ?hr ?_; (case hd => rfl); (case hg => rfl); (case hr => first | (go_simp; done) | (go_simp; rfl)); intro gr hg w2 hbox hb; have BR := Aside0.mk hbox; have HB2 := Aside0.mk (below_step HB1.out hb); have BX2 := Aside0.mk (blk_below BX.out hb); have GR := Aside0.mk (show w.heap.size ≤ gr from by rw [hg]; exact HB1.out.size); have hw0 : w2.cell? ⟨gx, 0, none⟩ = some (.int .u8 a0_0) := (blk_cell BX2.out 0).trans rfl; have hw1 : w2.cell? ⟨gx, 1, none⟩ = some (.int .i64 a0_1) := (blk_cell BX2.out 1).trans rfl; have hw2 : w2.cell? ⟨gx, 2, none⟩ = some (.string a0_2) := (blk_cell BX2.out 2).trans rfl; have hw3 : w2.cell? ⟨gx, 3, none⟩ = some (.slice A0_3 l0_3.length c0_3) := (blk_cell BX2.out 3).trans rfl; have hw4 : w2.cell? ⟨gx, 4, none⟩ = some (.int .i64 a0_4) := (blk_cell BX2.out 4).trans rfl; have hw5 : w2.cell? ⟨gx, 5, none⟩ = some (.int .i64 a0_5) := (blk_cell BX2.out 5).trans rfl; clear hbox hb hg) | (go_at_call 22; refine (number_known.walk A1 c1 l1 true _ (Kd.C_below HR1.out HB2.out) HL.out HK.out).mono ?_; rintro e w3 ⟨mv, rfl, hb, hm⟩; have HB3 := Aside0.mk (below_step HB2.out hb); have BX3 := Aside0.mk (blk_below BX2.out hb); have BR3 := Aside0.mk (blk_below BR.out hb); have hk0 : w3.cell? ⟨gx, 0, none⟩ = some (.int .u8 a0_0) := (blk_cell BX3.out 0).trans rfl; have hk1 : w3.cell? ⟨gx, 1, none⟩ = some (.int .i64 a0_1) := (blk_cell BX3.out 1).trans rfl; have hk2 : w3.cell? ⟨gx, 2, none⟩ = some (.string a0_2) := (blk_cell BX3.out 2).trans rfl; have hk3 : w3.cell? ⟨gx, 3, none⟩ = some (.slice A0_3 l0_3.length c0_3) := (blk_cell BX3.out 3).trans rfl; have hk4 : w3.cell? ⟨gx, 4, none⟩ = some (.int .i64 a0_4) := (blk_cell BX3.out 4).trans rfl; have hk5 : w3.cell? ⟨gx, 5, none⟩ = some (.int .i64 a0_5) := (blk_cell BX3.out 5).trans rfl; obtain ⟨gm, rfl, hme⟩ := hm rfl; have HM3 := Aside0.mk hme; clear hme; clear hb) | (go_at_call 23; refine (tree_MayExpr.calls a0_0 a0_1 a0_2 A0_3 c0_3 l0_3 a0_4 a0_5 true _ (Kd.C_below HR0.out HB3.out) HC0.out HX.out).mono ?_; rintro e w4 ⟨rfl, hb⟩; have HB4 := Aside0.mk (below_step HB3.out hb); have BX4 := Aside0.mk (blk_below BX3.out hb); have BR4 := Aside0.mk (blk_below BR3.out hb); have HM4 := Aside0.mk (HM3.out.below hb); have hm0 : w4.cell? ⟨gx, 0, none⟩ = some (.int .u8 a0_0) := (blk_cell BX4.out 0).trans rfl; have hm1 : w4.cell? ⟨gx, 1, none⟩ = some (.int .i64 a0_1) := (blk_cell BX4.out 1).trans rfl; have hm2 : w4.cell? ⟨gx, 2, none⟩ = some (.string a0_2) := (blk_cell BX4.out 2).trans rfl; have hm3 : w4.cell? ⟨gx, 3, none⟩ = some (.slice A0_3 l0_3.length c0_3) := (blk_cell BX4.out 3).trans rfl; have hm4 : w4.cell? ⟨gx, 4, none⟩ = some (.int .i64 a0_4) := (blk_cell BX4.out 4).trans rfl; have hm5 : w4.cell? ⟨gx, 5, none⟩ = some (.int .i64 a0_5) := (blk_cell BX4.out 5).trans rfl; clear hb) | (go_at_call 24; refine (number_eval.walk 16 a0_0 a0_1 a0_2 A0_3 c0_3 l0_3 a0_4 a0_5 gm _ _ r1 r2 r3 r4 _ (Kd.C_below HR0.out HB4.out) HM4.out HE.out).mono ?_; rintro e w5 ⟨rfl, hb⟩; have HB5 := Aside0.mk (below_step HB4.out hb); have BR5 := Aside0.mk (blk_below BR4.out hb); clear hb) | (refine xstore_row rfl 29 _ _ rfl gr #[.int .i64 r2, .int .i64 r3, .int .i64 r4] rfl rfl 29 _ BR5.out faultInfo rfl (xone3 _ _ _) ?_; intro w6 hbk hgr hbl; have HB6 := Aside0.mk (hbl _ _ HB5.out GR.out); have BR6 := Aside0.mk hbk; clear hbk hgr hbl))
        refine bodyPost_ret (results_tc rfl _ _ gr 29 #[.int .i64 r2, .int .i64 r3, .int .i64 r4] (0, 0) _ rfl BR6.out Try.underlying29 rfl faultInfo) rfl ?_
        exact ⟨rfl, HB6.out⟩
  · rw [if_neg hl] at h
    exact absurd h (by simp)

end Go.Proofs.Ytnojokempdcikaa.PA
