/- Printed by a program of this repo over the kit's printer: functions of the given program as plain Lean functions, each with the proof that the call does what it says. -/
import Derived.Test.YtnojokempdcikaaPA0
import Derived.Test.YtnojokempdcikaaPA13
import Derived.Test.YtnojokempdcikaaPA14
namespace Go.Proofs.Ytnojokempdcikaa.PA
open Go.RowKit Go.Proofs.YtnojokempdcikaaW.PrintWords Go.Proofs.YtnojokempdcikaaW.PrintLast Go.Proofs.YtnojokempdcikaaW.PrintMore
attribute [local go_sem] max2_int min2_int max_two min_two max_three min_three max_four min_four   -- for this text's walks alone
set_option linter.unusedVariables false
set_option linter.unusedSimpArgs false

/-! ### tree_MayExpr: function 23 -/
--OWNPART 
open Go.RowKit
def tree_MayExpr.f (a0_0 a0_1 : Int) (a0_2 : ByteArray) (l0_3 : List S25) (a0_4 a0_5 : Int) : Option Bool :=
  if smallB 16 ⟨a0_0, a0_1, a0_2, l0_3, a0_4, a0_5⟩ = true then some (decide ((xexpr 16 ⟨a0_0, a0_1, a0_2, l0_3, a0_4, a0_5⟩ 8192).1 > 0)) else none
set_option maxHeartbeats 8000000 in
set_option maxRecDepth 100000 in
theorem tree_MayExpr.calls (a0_0 a0_1 : Int) (a0_2 : ByteArray) (A0_3 : Option Addr) (c0_3 : Nat) (l0_3 : List S25) (a0_4 a0_5 : Int) (r : Bool) (w : World) (hr0_3 : Kd.C k25 w A0_3 l0_3.length l0_3) (hc0_3 : l0_3.length ≤ c0_3) (h : tree_MayExpr.f a0_0 a0_1 a0_2 l0_3 a0_4 a0_5 = some r) :
    Calls Try.prog 23 #[.agg #[.int .u8 a0_0, .int .i64 a0_1, .string a0_2, .slice A0_3 l0_3.length c0_3, .int .i64 a0_4, .int .i64 a0_5]] w fun e w' => e = .returned (.bool r) ∧ Below w.heap.size w w' := by
  unfold tree_MayExpr.f at h
  split at h
  · rename_i hS
    obtain rfl := Option.some.inj h
    have HR := Aside0.mk hr0_3
    have HS := Aside0.mk hS
    clear hr0_3 hS h hc0_3
    go_enter Try.func23, Try.ntmps23
    go_wp2_with (first | ((with_reducible refine gate_dst (N := 1) rfl ?_); refine box_event ?hg (N := 1) ?hd (cs := #[.int .u8 a0_0, .int .i64 a0_1, .string a0_2, .slice A0_3 l0_3.length c0_3, .int .i64 a0_4, .int .i64 a0_5]) (t := 25) ?hr ?_; (case hd => rfl); (case hg => rfl); (case hr => first | (go_simp; done) | (go_simp; rfl)); intro gx hg w1 hbox hb; have HB1 := Aside0.mk hb; have h0 : w1.cell? ⟨gx, 0, none⟩ = some (.int .u8 a0_0) := (blk_cell hbox 0).trans rfl; have h1 : w1.cell? ⟨gx, 1, none⟩ = some (.int .i64 a0_1) := (blk_cell hbox 1).trans rfl; have h2 : w1.cell? ⟨gx, 2, none⟩ = some (.string a0_2) := (blk_cell hbox 2).trans rfl; have h3 : w1.cell? ⟨gx, 3, none⟩ = some (.slice A0_3 l0_3.length c0_3) := (blk_cell hbox 3).trans rfl; have h4 : w1.cell? ⟨gx, 4, none⟩ = some (.int .i64 a0_4) := (blk_cell hbox 4).trans rfl; have h5 : w1.cell? ⟨gx, 5, none⟩ = some (.int .i64 a0_5) := (blk_cell hbox 5).trans rfl; clear hbox hb hg) | (go_at_call 39; refine (tree_Deep.walk a0_0 a0_1 a0_2 A0_3 c0_3 l0_3 a0_4 a0_5 _ (Kd.C_below HR.out HB1.out) HS.out).mono ?_; rintro e w2 ⟨rfl, hb⟩; have HB2 := Aside0.mk (below_step HB1.out hb); clear hb))
    go_ret
    exact ⟨rfl, HB2.out⟩
  · exact absurd h (by simp)

end Go.Proofs.Ytnojokempdcikaa.PA
