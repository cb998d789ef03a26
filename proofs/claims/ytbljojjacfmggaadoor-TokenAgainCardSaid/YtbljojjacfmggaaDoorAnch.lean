/- token.Words hands out new memory; recouplaw09.anchored answers true. Conditions: strconv's sentinels stand in their variables. -/
import Derived.Test.YtbljojjacfmggaaDoorEng2
import Derived.Test.YtbljojjacfmggaaDoorTokCut
import Derived.Test.YtbljojjacfmggaaDoorPA1032
namespace Go.Proofs.YtbljojjacfmggaaDoor.E
open Go Go.RowKit Go.Proofs.YtbljojjacfmggaaDoorW.PrintWords Go.Proofs.YtbljojjacfmggaaDoorW.PrintLast Go.Proofs.YtbljojjacfmggaaDoorW.PrintMore Go.Proofs.YtbljojjacfmggaaDoor.PA
set_option maxRecDepth 100000 in
theorem token_Words (bs : List Res) (w0 w : World) (h : H w0 bs w) :
    Calls Tryd.prog 14 #[] w fun e w' => ∃ g, e = .returned (.slice (some ⟨g, 0, none⟩) 17 17) ∧ H w0 (pt g wordCells 63 :: bs) w' := by
  refine calls_enter (N := 4) (n := 4) (args := []) Tryd.func14 rfl rfl rfl h (fun a hs => ?_)
  repeat with_reducible refine wp_seq ?_
  refine wp_region_lit ?_
  refine a_val hs rfl rfl rfl (y_assign hs rfl) ?_; clear hs a; intro a hs
  refine wpList_nil ?_
  repeat first | with_reducible refine in_normal ?_ | with_reducible refine then_normal ?_ | with_reducible refine then_ret ?_ | with_reducible refine in_ret ?_ | with_reducible refine then_exit ?_ | with_reducible refine in_here ?_ | with_reducible refine in_other rfl ?_ | with_reducible refine then_goto ?_ | with_reducible refine in_goto ?_ | with_reducible refine jump_normal ?_ | with_reducible refine jump_ret ?_ | with_reducible refine jump_goto ?_
  repeat with_reducible refine wp_seq ?_
  refine wp_region_lit ?_
  refine a_eff rfl (e_callB Tryd.func32 rfl rfl hs rfl rfl (token_words.calls _) ?_); clear hs a; intro a w hs
  refine a_eff rfl (e_alloc (z := .agg #[.string ⟨#[]⟩, .string ⟨#[]⟩, .string ⟨#[]⟩, .string ⟨#[]⟩, .string ⟨#[]⟩, .string ⟨#[]⟩, .string ⟨#[]⟩, .string ⟨#[]⟩, .string ⟨#[]⟩, .string ⟨#[]⟩, .string ⟨#[]⟩, .string ⟨#[]⟩, .string ⟨#[]⟩, .string ⟨#[]⟩, .string ⟨#[]⟩, .string ⟨#[]⟩, .string ⟨#[]⟩]) (cs := #[.string ⟨#[]⟩, .string ⟨#[]⟩, .string ⟨#[]⟩, .string ⟨#[]⟩, .string ⟨#[]⟩, .string ⟨#[]⟩, .string ⟨#[]⟩, .string ⟨#[]⟩, .string ⟨#[]⟩, .string ⟨#[]⟩, .string ⟨#[]⟩, .string ⟨#[]⟩, .string ⟨#[]⟩, .string ⟨#[]⟩, .string ⟨#[]⟩, .string ⟨#[]⟩, .string ⟨#[]⟩]) hs rfl (by kernel_rfl) rfl ?_); clear hs a; intro g a w hs
  refine a_eff rfl (e_store (cl := [_, _, _, _, _, _, _, _, _, _, _, _, _, _, _, _, _]) 0 rfl hs rfl rfl (by kernel_rfl) rfl rfl rfl ?_); clear hs a; intro a w hs
  refine wpList_nil ?_
  repeat first | with_reducible refine in_normal ?_ | with_reducible refine then_normal ?_ | with_reducible refine then_ret ?_ | with_reducible refine in_ret ?_ | with_reducible refine then_exit ?_ | with_reducible refine in_here ?_ | with_reducible refine in_other rfl ?_ | with_reducible refine then_goto ?_ | with_reducible refine in_goto ?_ | with_reducible refine jump_normal ?_ | with_reducible refine jump_ret ?_ | with_reducible refine jump_goto ?_
  repeat with_reducible refine wp_seq ?_
  refine wp_region_lit ?_
  refine a_val hs rfl rfl rfl (y_sliceA hs Tryd.underlying63 rfl rfl) ?_; clear hs a; intro a hs
  refine a_val hs rfl rfl rfl (y_assign hs rfl) ?_; clear hs a; intro a hs
  refine wpList_nil ?_
  repeat first | with_reducible refine in_normal ?_ | with_reducible refine then_normal ?_ | with_reducible refine then_ret ?_ | with_reducible refine in_ret ?_ | with_reducible refine then_exit ?_ | with_reducible refine in_here ?_ | with_reducible refine in_other rfl ?_ | with_reducible refine then_goto ?_ | with_reducible refine in_goto ?_ | with_reducible refine jump_normal ?_ | with_reducible refine jump_ret ?_ | with_reducible refine jump_goto ?_
  repeat with_reducible refine wp_seq ?_
  refine wp_ret ?_
  repeat first | with_reducible refine in_normal ?_ | with_reducible refine then_normal ?_ | with_reducible refine then_ret ?_ | with_reducible refine in_ret ?_ | with_reducible refine then_exit ?_ | with_reducible refine in_here ?_ | with_reducible refine in_other rfl ?_ | with_reducible refine then_goto ?_ | with_reducible refine in_goto ?_ | with_reducible refine jump_normal ?_ | with_reducible refine jump_ret ?_ | with_reducible refine jump_goto ?_
  refine fin_ret (vs := [.slice (some ⟨g, 0, none⟩) 17 17]) hs (.tmp (hs.slots _ _ rfl) .nil) ⟨g, rfl, hs.mem⟩

def anchText : ByteArray := ⟨#[97, 49, 98, 32, 55]⟩
def anchList : List S34 := [⟨1, ⟨#[97, 49, 98]⟩, 0, 1, 1⟩, ⟨3, ⟨#[]⟩, 7, 1, 5⟩]
theorem anch_cut : cutS ⟨#[97, 49, 98, 32, 55]⟩ 10 = some (anchList, 0, 0, 0) := by kernel_rfl
set_option maxRecDepth 100000 in
theorem law_anchored (w0 w : World) (hE : ErrVars w0) (h : H w0 [] w) :
    Calls Tryd.prog 9 #[] w fun e w' => e = .returned (.bool true) ∧ Below w0.heap.size w0 w' := by
  refine calls_enter (N := 43) (n := 43) (args := []) Tryd.func9 rfl rfl rfl h (fun a hs => ?_)
  repeat with_reducible refine wp_seq ?_
  refine wp_region_lit ?_
  refine a_val hs rfl rfl rfl (y_assign hs rfl) ?_; clear hs a; intro a hs
  refine wpList_nil ?_
  repeat first | with_reducible refine in_normal ?_ | with_reducible refine then_normal ?_ | with_reducible refine then_ret ?_ | with_reducible refine in_ret ?_ | with_reducible refine then_exit ?_ | with_reducible refine in_here ?_ | with_reducible refine in_other rfl ?_ | with_reducible refine then_goto ?_ | with_reducible refine in_goto ?_ | with_reducible refine jump_normal ?_ | with_reducible refine jump_ret ?_ | with_reducible refine jump_goto ?_
  repeat with_reducible refine wp_seq ?_
  refine wp_region_lit ?_
  refine a_eff rfl (e_callX Tryd.func8 rfl rfl hs rfl rfl (token_Cut _ 10 _ _ _ _ anch_cut _ w0 _ hE hs.mem) (fun e w ⟨A, c, he, hm⟩ => ⟨_, he, _, hm, ?_⟩)); clear hs a; intro a hs
  refine a_val hs rfl rfl rfl (y_move hs rfl) ?_; clear hs a; intro a hs
  refine a_val hs rfl rfl rfl (y_extract hs rfl rfl) ?_; clear hs a; intro a hs
  refine a_val hs rfl rfl rfl (y_extract hs rfl rfl) ?_; clear hs a; intro a hs
  refine a_eff rfl (e_alloc (z := .agg #[.int .i64 0, .int .i64 0, .int .i64 0]) (cs := #[.int .i64 0, .int .i64 0, .int .i64 0]) hs rfl (by kernel_rfl) rfl ?_); clear hs a; intro gf a w hs
  refine a_val hs rfl rfl rfl (y_assign hs rfl) ?_; clear hs a; intro a hs
  refine a_eff rfl (e_store (cl := [_, _, _]) 0 rfl hs rfl rfl (by kernel_rfl) rfl rfl rfl ?_); clear hs a; intro a w hs
  refine wpList_nil ?_
  repeat first | with_reducible refine in_normal ?_ | with_reducible refine then_normal ?_ | with_reducible refine then_ret ?_ | with_reducible refine in_ret ?_ | with_reducible refine then_exit ?_ | with_reducible refine in_here ?_ | with_reducible refine in_other rfl ?_ | with_reducible refine then_goto ?_ | with_reducible refine in_goto ?_ | with_reducible refine jump_normal ?_ | with_reducible refine jump_ret ?_ | with_reducible refine jump_goto ?_
  obtain ⟨g, rfl⟩ := (hs.mem.to 1 rfl).rowAddr (by decide)
  repeat with_reducible refine wp_seq ?_
  refine wp_region_lit ?_
  refine a_val hs rfl rfl rfl (y_loadPt 0 rfl hs Tryd.underlying25 rfl (by kernel_rfl) rfl) ?_; clear hs a; intro a hs
  refine a_val hs rfl rfl rfl (y_struct (zc := #[.int .i64 0, .int .i64 0, .int .i64 0]) (pl := [(0, 1), (1, 1), (2, 1)]) (cl := [.int .i64 0, .int .i64 0, .int .i64 0]) hs (by kernel_rfl) rfl (by rfl) rfl) ?_; clear hs a; intro a hs
  refine a_val hs rfl rfl rfl (y_eqAgg (b := true) hs rfl rfl (by kernel_rfl) (by simp [eqVals, valEq])) ?_; clear hs a; intro a hs
  refine a_val hs rfl rfl rfl (y_move hs rfl) ?_; clear hs a; intro a hs
  refine a_valG hs rfl rfl rfl (y_move hs rfl) ?_; clear hs a; intro a hs
  refine a_valG hs rfl rfl rfl (y_lenL hs Tryd.underlying22 rfl) ?_; clear hs a; intro a hs
  refine a_valG hs rfl rfl rfl (y_cmp (b := true) hs rfl rfl rfl) ?_; clear hs a; intro a hs
  refine a_val hs rfl rfl rfl (y_pickT hs rfl rfl rfl) ?_; clear hs a; intro a hs
  refine a_val hs rfl rfl rfl (y_move hs rfl) ?_; clear hs a; intro a hs
  refine a_valG hs rfl rfl rfl (y_move hs rfl) ?_; clear hs a; intro a hs
  refine a_valG hs rfl rfl rfl (y_idxA (size := 5) (off := 0) hs Tryd.underlying22 (by kernel_rfl) rfl rfl (by decide) (by decide) rfl) ?_; clear hs a; intro a hs
  refine a_valG hs rfl rfl rfl (y_faddr 1 hs (by kernel_rfl) rfl rfl) ?_; clear hs a; intro a hs
  refine a_valG hs rfl rfl rfl (y_load hs Tryd.underlying9 rfl rfl (fun w hw => (hw.to 1 rfl).rowCell rfl)) ?_; clear hs a; intro a hs
  refine a_valG hs rfl rfl rfl (y_seqB (b := true) hs rfl rfl (by decide +kernel)) ?_; clear hs a; intro a hs
  refine a_val hs rfl rfl rfl (y_pickT hs rfl rfl rfl) ?_; clear hs a; intro a hs
  refine a_val hs rfl rfl rfl (y_move hs rfl) ?_; clear hs a; intro a hs
  refine a_valG hs rfl rfl rfl (y_move hs rfl) ?_; clear hs a; intro a hs
  refine a_valG hs rfl rfl rfl (y_idxA (size := 5) (off := 0) hs Tryd.underlying22 (by kernel_rfl) rfl rfl (by decide) (by decide) rfl) ?_; clear hs a; intro a hs
  refine a_valG hs rfl rfl rfl (y_faddr 0 hs (by kernel_rfl) rfl rfl) ?_; clear hs a; intro a hs
  refine a_valG hs rfl rfl rfl (y_load hs Tryd.underlying32 rfl rfl (fun w hw => (hw.to 1 rfl).rowCell rfl)) ?_; clear hs a; intro a hs
  refine a_valG hs rfl rfl rfl (y_cmp (b := true) hs rfl rfl rfl) ?_; clear hs a; intro a hs
  refine a_val hs rfl rfl rfl (y_pickT hs rfl rfl rfl) ?_; clear hs a; intro a hs
  refine a_val hs rfl rfl rfl (y_move hs rfl) ?_; clear hs a; intro a hs
  refine a_valG hs rfl rfl rfl (y_move hs rfl) ?_; clear hs a; intro a hs
  refine a_valG hs rfl rfl rfl (y_idxA (size := 5) (off := 5) hs Tryd.underlying22 (by kernel_rfl) rfl rfl (by decide) (by decide) rfl) ?_; clear hs a; intro a hs
  refine a_valG hs rfl rfl rfl (y_faddr 2 hs (by kernel_rfl) rfl rfl) ?_; clear hs a; intro a hs
  refine a_valG hs rfl rfl rfl (y_load hs Tryd.underlying3 rfl rfl (fun w hw => (hw.to 1 rfl).rowCell rfl)) ?_; clear hs a; intro a hs
  refine a_valG hs rfl rfl rfl (y_cmp (b := true) hs rfl rfl rfl) ?_; clear hs a; intro a hs
  refine a_val hs rfl rfl rfl (y_pickT hs rfl rfl rfl) ?_; clear hs a; intro a hs
  refine a_val hs rfl rfl rfl (y_move hs rfl) ?_; clear hs a; intro a hs
  refine a_valG hs rfl rfl rfl (y_move hs rfl) ?_; clear hs a; intro a hs
  refine a_valG hs rfl rfl rfl (y_idxA (size := 5) (off := 5) hs Tryd.underlying22 (by kernel_rfl) rfl rfl (by decide) (by decide) rfl) ?_; clear hs a; intro a hs
  refine a_valG hs rfl rfl rfl (y_faddr 4 hs (by kernel_rfl) rfl rfl) ?_; clear hs a; intro a hs
  refine a_valG hs rfl rfl rfl (y_load hs Tryd.underlying3 rfl rfl (fun w hw => (hw.to 1 rfl).rowCell rfl)) ?_; clear hs a; intro a hs
  refine a_valG hs rfl rfl rfl (y_cmp (b := true) hs rfl rfl rfl) ?_; clear hs a; intro a hs
  refine a_val hs rfl rfl rfl (y_pickT hs rfl rfl rfl) ?_; clear hs a; intro a hs
  refine a_val hs rfl rfl rfl (y_assign hs rfl) ?_; clear hs a; intro a hs
  refine wpList_nil ?_
  repeat first | with_reducible refine in_normal ?_ | with_reducible refine then_normal ?_ | with_reducible refine then_ret ?_ | with_reducible refine in_ret ?_ | with_reducible refine then_exit ?_ | with_reducible refine in_here ?_ | with_reducible refine in_other rfl ?_ | with_reducible refine then_goto ?_ | with_reducible refine in_goto ?_ | with_reducible refine jump_normal ?_ | with_reducible refine jump_ret ?_ | with_reducible refine jump_goto ?_
  repeat with_reducible refine wp_seq ?_
  refine wp_ret ?_
  repeat first | with_reducible refine in_normal ?_ | with_reducible refine then_normal ?_ | with_reducible refine then_ret ?_ | with_reducible refine in_ret ?_ | with_reducible refine then_exit ?_ | with_reducible refine in_here ?_ | with_reducible refine in_other rfl ?_ | with_reducible refine then_goto ?_ | with_reducible refine in_goto ?_ | with_reducible refine jump_normal ?_ | with_reducible refine jump_ret ?_ | with_reducible refine jump_goto ?_
  refine fin_ret (vs := [.bool true]) hs (.tmp (hs.slots _ _ rfl) .nil) ⟨rfl, hs.mem.base⟩
end Go.Proofs.YtbljojjacfmggaaDoor.E
