/- Printed by a program of this repo over the kit's printer: functions of the given program as plain Lean functions, each with the proof that the call does what it says. -/
import Derived.Test.YtnojokempdcikaaPA0
import Derived.Test.YtnojokempdcikaaPA12
import Derived.Test.YtnojokempdcikaaPA13
import Derived.Deep.RegionWith
import Derived.Deep.RegionHeld3
namespace Go.Proofs.Ytnojokempdcikaa.PA
open Go.RowKit Go.Proofs.YtnojokempdcikaaW.PrintWords Go.Proofs.YtnojokempdcikaaW.PrintLast Go.Proofs.YtnojokempdcikaaW.PrintMore
attribute [local go_sem] max2_int min2_int max_two min_two max_three min_three max_four min_four   -- for this text's walks alone
set_option linter.unusedVariables false
set_option linter.unusedSimpArgs false

/-! ### tree_Deep: function 39 -/
--OWNPART Derived.Deep.RegionWith Derived.Deep.RegionHeld3
open Go.RowKit
set_option maxHeartbeats 8000000 in
set_option maxRecDepth 100000 in
theorem tree_Deep.walk (K N : Int) (S : ByteArray) (A : Option Addr) (C : Nat) (l : List S25) (I O : Int) (w : World) (hR : Kd.C k25 w A l.length l) (hS : smallB 16 ⟨K, N, S, l, I, O⟩ = true) :
    Calls Try.prog 39 #[.agg #[.int .u8 K, .int .i64 N, .string S, .slice A l.length C, .int .i64 I, .int .i64 O]] w fun e w' => e = .returned (.int .i64 (xexpr 16 ⟨K, N, S, l, I, O⟩ 8192).1) ∧ Below w.heap.size w w' := by
  have HR := Aside0.mk hR
  have HS := Aside0.mk hS
  clear hR hS
  go_enter Try.func39, Try.ntmps39
  go_upto_region 1 with (first | ((with_reducible refine gate_dst (N := 1) rfl ?_); refine box_event ?hg (N := 1) ?hd (cs := #[.int .u8 K, .int .i64 N, .string S, .slice A l.length C, .int .i64 I, .int .i64 O]) (t := 25) ?hr ?_; (case hd => rfl); (case hg => rfl); (case hr => first | (go_simp; done) | (go_simp; rfl)); intro gx hg w1 hbox hb; have BX := Aside0.mk hbox; have HB1 := Aside0.mk hb; have h0 : w1.drew.cell? ⟨gx, 0, none⟩ = some (.int .u8 K) := (blk_cell hbox 0).trans rfl; have h1 : w1.drew.cell? ⟨gx, 1, none⟩ = some (.int .i64 N) := (blk_cell hbox 1).trans rfl; have h2 : w1.drew.cell? ⟨gx, 2, none⟩ = some (.string S) := (blk_cell hbox 2).trans rfl; have h3 : w1.drew.cell? ⟨gx, 3, none⟩ = some (.slice A l.length C) := (blk_cell hbox 3).trans rfl; have h4 : w1.drew.cell? ⟨gx, 4, none⟩ = some (.int .i64 I) := (blk_cell hbox 4).trans rfl; have h5 : w1.drew.cell? ⟨gx, 5, none⟩ = some (.int .i64 O) := (blk_cell hbox 5).trans rfl; clear hbox hb hg))
  go_region_with (first | (go_at_call 57; refine (tree_all.calls 8192 w _ (below_drew1 HB1.out) rfl).mono ?_; rintro e w2 ⟨g, rfl, hi, hb, hb2⟩; have HI2 := Aside0.mk hi; have HB2 := Aside0.mk hb; have BX2 := Aside0.mk (blk_below (w := w1.drew) (blk_drew BX.out) hb2); have j0 : w2.cell? ⟨gx, 0, none⟩ = some (.int .u8 K) := (blk_cell BX2.out 0).trans rfl; have j1 : w2.cell? ⟨gx, 1, none⟩ = some (.int .i64 N) := (blk_cell BX2.out 1).trans rfl; have j2 : w2.cell? ⟨gx, 2, none⟩ = some (.string S) := (blk_cell BX2.out 2).trans rfl; have j3 : w2.cell? ⟨gx, 3, none⟩ = some (.slice A l.length C) := (blk_cell BX2.out 3).trans rfl; have j4 : w2.cell? ⟨gx, 4, none⟩ = some (.int .i64 I) := (blk_cell BX2.out 4).trans rfl; have j5 : w2.cell? ⟨gx, 5, none⟩ = some (.int .i64 O) := (blk_cell BX2.out 5).trans rfl; clear hi hb hb2) | (go_at_call 58; refine (walk_expr.walk 16 16 K N S A C l I O g 8192 w _ rfl (by omega) HI2.out HB2.out HR.out HS.out).mono ?_; rintro e w3 ⟨rfl, hi, hb, hk⟩; have HB3 := Aside0.mk hb; clear hi hb hk))
  all_goals (try go_wp2)
  all_goals go_ret
  all_goals exact ⟨rfl, HB3.out⟩

end Go.Proofs.Ytnojokempdcikaa.PA
