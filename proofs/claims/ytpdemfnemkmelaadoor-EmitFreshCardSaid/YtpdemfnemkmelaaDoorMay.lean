/- emit's small functions and may, the reference's Can: what they answer. Conditions: a step's kind is no negative number. -/
import Derived.Test.YtpdemfnemkmelaaDoorSpec
import Derived.Test.YtpdemfnemkmelaaDoorPAM0
namespace Go.Proofs.YtpdemfnemkmelaaDoor.E
open Go Go.RowKit Go.Proofs.YtpdemfnemkmelaaDoorW.PrintWords Go.Proofs.YtpdemfnemkmelaaDoorW.PrintLast Go.Proofs.YtpdemfnemkmelaaDoorW.PrintMore Go.Proofs.YtpdemfnemkmelaaDoor.PA Go.Proofs.YtpdemfnemkmelaaDoor.Num
set_option linter.unusedVariables false
set_option linter.unusedSimpArgs false
set_option maxRecDepth 100000 in
theorem emit_fields (k : Int) (hk : 0 ≤ k ∧ k ≤ 4) (v0 : World) :
    Calls Tryd.prog 39 #[.int .u8 k] v0 fun e w' => e = .returned (.string (fldS k)) ∧ Below v0.heap.size v0 w' := by
  refine calls_enter (N := 6) (n := 5) (args := [.int .u8 k]) Tryd.func39 rfl rfl rfl (H.init v0) (fun a hs => ?_)
  refine wp_seq ?_
  refine wp_region_lit ?_
  refine a_val hs rfl rfl rfl (y_assign hs rfl) ?_; clear hs a; intro a hs
  refine wpList_nil (then_normal ?_)
  refine wp_seq ?_
  refine wp_region_lit ?_
  refine a_val hs rfl rfl rfl (y_arr (zc := #[.string ⟨#[]⟩, .string ⟨#[]⟩, .string ⟨#[]⟩, .string ⟨#[]⟩, .string ⟨#[]⟩]) (size := 1) (cl := [.string ⟨#[]⟩, _, _, _, _]) hs (by kernel_rfl) rfl (by rfl) rfl) ?_; clear hs a; intro a hs
  refine a_val hs rfl rfl rfl (y_move hs rfl) ?_; clear hs a; intro a hs
  refine a_val hs rfl rfl rfl (y_idxArr (v := .string (fldS k)) hs Tryd.underlying104 Tryd.underlying9 rfl (by kernel_rfl) rfl rfl (by omega) (by omega) (by rcases fld_kinds hk with rfl | rfl | rfl | rfl | rfl <;> rfl)) ?_; clear hs a; intro a hs
  refine a_val hs rfl rfl rfl (y_assign hs rfl) ?_; clear hs a; intro a hs
  refine wpList_nil (then_normal ?_)
  refine wp_ret ?_
  refine fin_ret hs (.tmp (hs.slots _ _ rfl) .nil) ⟨?_, hs.mem.base⟩
  rfl

set_option maxRecDepth 100000 in
theorem emit_word (k : Int) (hk : 0 ≤ k ∧ k ≤ 4) (v0 : World) :
    Calls Tryd.prog 32 #[.int .u8 k] v0 fun e w' => e = .returned (.string (wordS k)) ∧ Below v0.heap.size v0 w' := by
  refine calls_enter (N := 6) (n := 5) (args := [.int .u8 k]) Tryd.func32 rfl rfl rfl (H.init v0) (fun a hs => ?_)
  refine wp_seq ?_
  refine wp_region_lit ?_
  refine a_val hs rfl rfl rfl (y_assign hs rfl) ?_; clear hs a; intro a hs
  refine wpList_nil (then_normal ?_)
  refine wp_seq ?_
  refine wp_region_lit ?_
  refine a_val hs rfl rfl rfl (y_arr (zc := #[.string ⟨#[]⟩, .string ⟨#[]⟩, .string ⟨#[]⟩, .string ⟨#[]⟩, .string ⟨#[]⟩]) (size := 1) (cl := [.string ⟨#[]⟩, _, _, _, _]) hs (by kernel_rfl) rfl (by rfl) rfl) ?_; clear hs a; intro a hs
  refine a_val hs rfl rfl rfl (y_move hs rfl) ?_; clear hs a; intro a hs
  refine a_val hs rfl rfl rfl (y_idxArr (v := .string (wordS k)) hs Tryd.underlying104 Tryd.underlying9 rfl (by kernel_rfl) rfl rfl (by omega) (by omega) (by rcases fld_kinds hk with rfl | rfl | rfl | rfl | rfl <;> rfl)) ?_; clear hs a; intro a hs
  refine a_val hs rfl rfl rfl (y_assign hs rfl) ?_; clear hs a; intro a hs
  refine wpList_nil (then_normal ?_)
  refine wp_ret ?_
  refine fin_ret hs (.tmp (hs.slots _ _ rfl) .nil) ⟨?_, hs.mem.base⟩
  rfl

set_option maxRecDepth 100000 in
theorem ref_fields (k : Int) (hk : 0 ≤ k ∧ k ≤ 4) (v0 : World) :
    Calls Tryd.prog 34 #[.int .u8 k] v0 fun e w' => e = .returned (.int .i64 ((fldN k : Nat) : Int)) ∧ Below v0.heap.size v0 w' := by
  refine calls_enter (N := 6) (n := 5) (args := [.int .u8 k]) Tryd.func34 rfl rfl rfl (H.init v0) (fun a hs => ?_)
  refine wp_seq ?_
  refine wp_region_lit ?_
  refine a_val hs rfl rfl rfl (y_assign hs rfl) ?_; clear hs a; intro a hs
  refine wpList_nil (then_normal ?_)
  refine wp_seq ?_
  refine wp_region_lit ?_
  refine a_val hs rfl rfl rfl (y_arr (zc := #[.int .i64 0, .int .i64 0, .int .i64 0, .int .i64 0, .int .i64 0]) (size := 1) (cl := [_, _, _, _, _]) hs (by kernel_rfl) rfl (by rfl) rfl) ?_; clear hs a; intro a hs
  refine a_val hs rfl rfl rfl (y_move hs rfl) ?_; clear hs a; intro a hs
  refine a_val hs rfl rfl rfl (y_idxArr (v := .int .i64 ((fldN k : Nat) : Int)) hs Tryd.underlying106 Tryd.underlying3 rfl (by kernel_rfl) rfl rfl (by omega) (by omega) (by rcases fld_kinds hk with rfl | rfl | rfl | rfl | rfl <;> rfl)) ?_; clear hs a; intro a hs
  refine a_val hs rfl rfl rfl (y_assign hs rfl) ?_; clear hs a; intro a hs
  refine wpList_nil (then_normal ?_)
  refine wp_ret ?_
  refine fin_ret hs (.tmp (hs.slots _ _ rfl) .nil) ⟨?_, hs.mem.base⟩
  rfl

set_option maxRecDepth 100000 in
theorem ref_word (k : Int) (hk : 0 ≤ k ∧ k ≤ 4) (v0 : World) :
    Calls Tryd.prog 62 #[.int .u8 k] v0 fun e w' => e = .returned (.string (wordS k)) ∧ Below v0.heap.size v0 w' := by
  refine calls_enter (N := 6) (n := 5) (args := [.int .u8 k]) Tryd.func62 rfl rfl rfl (H.init v0) (fun a hs => ?_)
  refine wp_seq ?_
  refine wp_region_lit ?_
  refine a_val hs rfl rfl rfl (y_assign hs rfl) ?_; clear hs a; intro a hs
  refine wpList_nil (then_normal ?_)
  refine wp_seq ?_
  refine wp_region_lit ?_
  refine a_val hs rfl rfl rfl (y_arr (zc := #[.string ⟨#[]⟩, .string ⟨#[]⟩, .string ⟨#[]⟩, .string ⟨#[]⟩, .string ⟨#[]⟩]) (size := 1) (cl := [_, _, _, _, _]) hs (by kernel_rfl) rfl (by rfl) rfl) ?_; clear hs a; intro a hs
  refine a_val hs rfl rfl rfl (y_move hs rfl) ?_; clear hs a; intro a hs
  refine a_val hs rfl rfl rfl (y_idxArr (v := .string (wordS k)) hs Tryd.underlying104 Tryd.underlying9 rfl (by kernel_rfl) rfl rfl (by omega) (by omega) (by rcases fld_kinds hk with rfl | rfl | rfl | rfl | rfl <;> rfl)) ?_; clear hs a; intro a hs
  refine a_val hs rfl rfl rfl (y_assign hs rfl) ?_; clear hs a; intro a hs
  refine wpList_nil (then_normal ?_)
  refine wp_ret ?_
  refine fin_ret hs (.tmp (hs.slots _ _ rfl) .nil) ⟨?_, hs.mem.base⟩
  rfl

theorem known_ok (k : Int) : emit_known.f k = some (decide (1 ≤ k ∧ k ≤ 4)) := by
  unfold emit_known.f
  by_cases h : k ≥ 1
  · rw [if_pos h]; congr 1; exact decide_eq_decide.2 (by omega)
  · rw [if_neg h, decide_eq_false (by omega)]

set_option maxRecDepth 100000 in
theorem emit_may (A : Option Addr) (c : Nat) (l : List Stp) (regs outs reads : Int) (v0 : World) (hA : Kd.C k47 v0 A l.length l) (hg : ∀ s ∈ l, 0 ≤ s.f0 ∧ 0 ≤ s.f3 ∧ s.f3 ≤ 255) :
    Calls Tryd.prog 25 #[.agg #[.slice A l.length c, .int .i64 regs, .int .i64 outs, .int .u64 reads]] v0 fun e w' => e = .returned (.bool (okProg l regs outs)) ∧ Below v0.heap.size v0 w' := by
  refine calls_enter (N := 82) (n := 81) (args := [.agg #[.slice A l.length c, .int .i64 regs, .int .i64 outs, .int .u64 reads]]) Tryd.func25 rfl rfl rfl (H.init v0) (fun a hs => ?_)
  refine wp_seq ?_
  refine wp_region_lit ?_
  refine a_eff rfl (e_box (cs := #[_, _, _, _]) hs rfl rfl rfl ?_); clear hs a; intro gp a w hs
  refine a_val hs rfl rfl rfl (y_assign hs rfl) ?_; clear hs a; intro a hs
  refine wpList_nil (then_normal ?_)
  refine wp_seq ?_
  refine wp_seq ?_
  refine wp_region_lit ?_
  refine a_val hs rfl rfl rfl (y_faddr (k' := 1) 1 hs (by kernel_rfl) rfl rfl) ?_; clear hs a; intro a hs
  refine a_val hs rfl rfl rfl (y_load hs Tryd.underlying3 rfl rfl (fun w hw => (hw.to 0 rfl).cellV rfl)) ?_; clear hs a; intro a hs
  refine a_val hs rfl rfl rfl (y_cmp hs rfl rfl rfl) ?_; clear hs a; intro a hs
  refine a_val hs rfl rfl rfl (y_move hs rfl) ?_; clear hs a; intro a hs
  rcases hs.know (d := 9) rfl with ⟨h9, hs1⟩ | ⟨h9, hs1⟩ <;> replace hs := hs1 <;> clear hs1
  · replace h9 := of_decide_eq_true h9
    refine a_skip hs rfl rfl rfl ?_; clear hs a; intro a hs
    refine a_skip hs rfl rfl rfl ?_; clear hs a; intro a hs
    refine a_skip hs rfl rfl rfl ?_; clear hs a; intro a hs
    refine a_val hs rfl rfl rfl (y_pickT hs rfl rfl rfl) ?_; clear hs a; intro a hs
    refine a_val hs rfl rfl rfl (y_move hs rfl) ?_; clear hs a; intro a hs
    refine a_skip hs rfl rfl rfl ?_; clear hs a; intro a hs
    refine a_skip hs rfl rfl rfl ?_; clear hs a; intro a hs
    refine a_skip hs rfl rfl rfl ?_; clear hs a; intro a hs
    refine a_val hs rfl rfl rfl (y_pickT hs rfl rfl rfl) ?_; clear hs a; intro a hs
    refine a_val hs rfl rfl rfl (y_move hs rfl) ?_; clear hs a; intro a hs
    refine a_skip hs rfl rfl rfl ?_; clear hs a; intro a hs
    refine a_skip hs rfl rfl rfl ?_; clear hs a; intro a hs
    refine a_skip hs rfl rfl rfl ?_; clear hs a; intro a hs
    refine a_val hs rfl rfl rfl (y_pickT hs rfl rfl rfl) ?_; clear hs a; intro a hs
    refine a_val hs rfl rfl rfl (y_move hs rfl) ?_; clear hs a; intro a hs
    refine a_skip hs rfl rfl rfl ?_; clear hs a; intro a hs
    refine a_skip hs rfl rfl rfl ?_; clear hs a; intro a hs
    refine a_skip hs rfl rfl rfl ?_; clear hs a; intro a hs
    refine a_skip hs rfl rfl rfl ?_; clear hs a; intro a hs
    refine a_val hs rfl rfl rfl (y_pickT hs rfl rfl rfl) ?_; clear hs a; intro a hs
    refine wpList_nil (then_normal ?_)
    refine wp_cond_true (hs.ev rfl) ?_
    refine wp_seq ?_
    refine wp_region_lit ?_
    refine a_val hs rfl rfl rfl (y_assign hs rfl) ?_; clear hs a; intro a hs
    refine wpList_nil (then_normal ?_)
    refine wp_ret (then_ret ?_)
    refine fin_ret hs (.tmp (hs.slots _ _ rfl) .nil) ⟨?_, hs.mem.base⟩
    rw [okProg_head (by omega)]; rfl
  · replace h9 := of_decide_eq_false h9
    refine a_valG hs rfl rfl rfl (y_faddr (k' := 1) 1 hs (by kernel_rfl) rfl rfl) ?_; clear hs a; intro a hs
    refine a_valG hs rfl rfl rfl (y_load hs Tryd.underlying3 rfl rfl (fun w hw => (hw.to 0 rfl).cellV rfl)) ?_; clear hs a; intro a hs
    refine a_valG hs rfl rfl rfl (y_cmp hs rfl rfl rfl) ?_; clear hs a; intro a hs
    refine a_val hs rfl rfl rfl (y_pickF hs rfl rfl rfl) ?_; clear hs a; intro a hs
    refine a_val hs rfl rfl rfl (y_move hs rfl) ?_; clear hs a; intro a hs
    rcases hs.know (d := 14) rfl with ⟨h14, hs1⟩ | ⟨h14, hs1⟩ <;> replace hs := hs1 <;> clear hs1
    · replace h14 := of_decide_eq_true h14
      refine a_skip hs rfl rfl rfl ?_; clear hs a; intro a hs
      refine a_skip hs rfl rfl rfl ?_; clear hs a; intro a hs
      refine a_skip hs rfl rfl rfl ?_; clear hs a; intro a hs
      refine a_val hs rfl rfl rfl (y_pickT hs rfl rfl rfl) ?_; clear hs a; intro a hs
      refine a_val hs rfl rfl rfl (y_move hs rfl) ?_; clear hs a; intro a hs
      refine a_skip hs rfl rfl rfl ?_; clear hs a; intro a hs
      refine a_skip hs rfl rfl rfl ?_; clear hs a; intro a hs
      refine a_skip hs rfl rfl rfl ?_; clear hs a; intro a hs
      refine a_val hs rfl rfl rfl (y_pickT hs rfl rfl rfl) ?_; clear hs a; intro a hs
      refine a_val hs rfl rfl rfl (y_move hs rfl) ?_; clear hs a; intro a hs
      refine a_skip hs rfl rfl rfl ?_; clear hs a; intro a hs
      refine a_skip hs rfl rfl rfl ?_; clear hs a; intro a hs
      refine a_skip hs rfl rfl rfl ?_; clear hs a; intro a hs
      refine a_skip hs rfl rfl rfl ?_; clear hs a; intro a hs
      refine a_val hs rfl rfl rfl (y_pickT hs rfl rfl rfl) ?_; clear hs a; intro a hs
      refine wpList_nil (then_normal ?_)
      refine wp_cond_true (hs.ev rfl) ?_
      refine wp_seq ?_
      refine wp_region_lit ?_
      refine a_val hs rfl rfl rfl (y_assign hs rfl) ?_; clear hs a; intro a hs
      refine wpList_nil (then_normal ?_)
      refine wp_ret (then_ret ?_)
      refine fin_ret hs (.tmp (hs.slots _ _ rfl) .nil) ⟨?_, hs.mem.base⟩
      rw [okProg_head (by omega)]; rfl
    · replace h14 := of_decide_eq_false h14
      refine a_valG hs rfl rfl rfl (y_faddr (k' := 2) 2 hs (by kernel_rfl) rfl rfl) ?_; clear hs a; intro a hs
      refine a_valG hs rfl rfl rfl (y_load hs Tryd.underlying3 rfl rfl (fun w hw => (hw.to 0 rfl).cellV rfl)) ?_; clear hs a; intro a hs
      refine a_valG hs rfl rfl rfl (y_cmp hs rfl rfl rfl) ?_; clear hs a; intro a hs
      refine a_val hs rfl rfl rfl (y_pickF hs rfl rfl rfl) ?_; clear hs a; intro a hs
      refine a_val hs rfl rfl rfl (y_move hs rfl) ?_; clear hs a; intro a hs
      rcases hs.know (d := 19) rfl with ⟨h19, hs1⟩ | ⟨h19, hs1⟩ <;> replace hs := hs1 <;> clear hs1
      · replace h19 := of_decide_eq_true h19
        refine a_skip hs rfl rfl rfl ?_; clear hs a; intro a hs
        refine a_skip hs rfl rfl rfl ?_; clear hs a; intro a hs
        refine a_skip hs rfl rfl rfl ?_; clear hs a; intro a hs
        refine a_val hs rfl rfl rfl (y_pickT hs rfl rfl rfl) ?_; clear hs a; intro a hs
        refine a_val hs rfl rfl rfl (y_move hs rfl) ?_; clear hs a; intro a hs
        refine a_skip hs rfl rfl rfl ?_; clear hs a; intro a hs
        refine a_skip hs rfl rfl rfl ?_; clear hs a; intro a hs
        refine a_skip hs rfl rfl rfl ?_; clear hs a; intro a hs
        refine a_skip hs rfl rfl rfl ?_; clear hs a; intro a hs
        refine a_val hs rfl rfl rfl (y_pickT hs rfl rfl rfl) ?_; clear hs a; intro a hs
        refine wpList_nil (then_normal ?_)
        refine wp_cond_true (hs.ev rfl) ?_
        refine wp_seq ?_
        refine wp_region_lit ?_
        refine a_val hs rfl rfl rfl (y_assign hs rfl) ?_; clear hs a; intro a hs
        refine wpList_nil (then_normal ?_)
        refine wp_ret (then_ret ?_)
        refine fin_ret hs (.tmp (hs.slots _ _ rfl) .nil) ⟨?_, hs.mem.base⟩
        rw [okProg_head (by omega)]; rfl
      · replace h19 := of_decide_eq_false h19
        refine a_valG hs rfl rfl rfl (y_faddr (k' := 2) 2 hs (by kernel_rfl) rfl rfl) ?_; clear hs a; intro a hs
        refine a_valG hs rfl rfl rfl (y_load hs Tryd.underlying3 rfl rfl (fun w hw => (hw.to 0 rfl).cellV rfl)) ?_; clear hs a; intro a hs
        refine a_valG hs rfl rfl rfl (y_cmp hs rfl rfl rfl) ?_; clear hs a; intro a hs
        refine a_val hs rfl rfl rfl (y_pickF hs rfl rfl rfl) ?_; clear hs a; intro a hs
        refine a_val hs rfl rfl rfl (y_move hs rfl) ?_; clear hs a; intro a hs
        rcases hs.know (d := 24) rfl with ⟨h24, hs1⟩ | ⟨h24, hs1⟩ <;> replace hs := hs1 <;> clear hs1
        · replace h24 := of_decide_eq_true h24
          refine a_skip hs rfl rfl rfl ?_; clear hs a; intro a hs
          refine a_skip hs rfl rfl rfl ?_; clear hs a; intro a hs
          refine a_skip hs rfl rfl rfl ?_; clear hs a; intro a hs
          refine a_skip hs rfl rfl rfl ?_; clear hs a; intro a hs
          refine a_val hs rfl rfl rfl (y_pickT hs rfl rfl rfl) ?_; clear hs a; intro a hs
          refine wpList_nil (then_normal ?_)
          refine wp_cond_true (hs.ev rfl) ?_
          refine wp_seq ?_
          refine wp_region_lit ?_
          refine a_val hs rfl rfl rfl (y_assign hs rfl) ?_; clear hs a; intro a hs
          refine wpList_nil (then_normal ?_)
          refine wp_ret (then_ret ?_)
          refine fin_ret hs (.tmp (hs.slots _ _ rfl) .nil) ⟨?_, hs.mem.base⟩
          rw [okProg_head (by omega)]; rfl
        · replace h24 := of_decide_eq_false h24
          refine a_valG hs rfl rfl rfl (y_faddr (k' := 0) 0 hs (by kernel_rfl) rfl rfl) ?_; clear hs a; intro a hs
          refine a_valG hs rfl rfl rfl (y_load hs Tryd.underlying22 rfl rfl (fun w hw => (hw.to 0 rfl).cellV rfl)) ?_; clear hs a; intro a hs
          refine a_valG hs rfl rfl rfl (y_lenL hs Tryd.underlying22 rfl) ?_; clear hs a; intro a hs
          refine a_valG hs rfl rfl rfl (y_cmp hs rfl rfl rfl) ?_; clear hs a; intro a hs
          refine a_val hs rfl rfl rfl (y_pickF hs rfl rfl rfl) ?_; clear hs a; intro a hs
          refine wpList_nil (then_normal ?_)
          refine wp_cond_split (hs.ev rfl) (fun h29 => ?_) (fun h29 => ?_)
          · replace h29 := of_decide_eq_true h29
            refine wp_seq ?_
            refine wp_region_lit ?_
            refine a_val hs rfl rfl rfl (y_assign hs rfl) ?_; clear hs a; intro a hs
            refine wpList_nil (then_normal ?_)
            refine wp_ret (then_ret ?_)
            refine fin_ret hs (.tmp (hs.slots _ _ rfl) .nil) ⟨?_, hs.mem.base⟩
            rw [okProg_head (by omega)]; rfl
          · replace h29 := of_decide_eq_false h29
            refine wp_skip (then_normal ?_)
            refine wp_seq ?_
            refine wp_seq ?_
            refine wp_region_lit ?_
            refine a_val hs rfl rfl rfl (y_faddr (k' := 0) 0 hs (by kernel_rfl) rfl rfl) ?_; clear hs a; intro a hs
            refine a_val hs rfl rfl rfl (y_load hs Tryd.underlying22 rfl rfl (fun w hw => (hw.to 0 rfl).cellV rfl)) ?_; clear hs a; intro a hs
            refine a_val hs rfl rfl rfl (y_lenL hs Tryd.underlying22 rfl) ?_; clear hs a; intro a hs
            refine a_val hs rfl rfl rfl (y_move hs rfl) ?_; clear hs a; intro a hs
            refine wpList_nil (then_normal ?_)
            refine wp_block ?_
            refine wp_loopN (fun m a w1 => ∃ (i : Nat), (i + m = l.length) ∧ (∀ j s, j < i → l[j]? = some s → okStep s = true) ∧ St 82 v0 [(31, .slice A l.length c), (32, .int .i64 (l.length : Int)), (33, .int .i64 ((i : Nat) : Int))] [pt gp #[.slice A l.length c, .int .i64 regs, .int .i64 outs, .int .u64 reads] 26] a w1) (l.length) ⟨0, by omega, fun j s hj => absurd hj (by omega), ?_⟩ (fun m a w1 hJ => ?_)
            · exact (hs.mem_to hs.mem).cut _ ⟨rfl, rfl, rfl, trivial⟩
            · clear hs
              obtain ⟨i, hi, hall, hs⟩ := hJ
              refine wp_seq ?_
              refine wp_region_lit ?_
              refine a_val hs rfl rfl rfl (y_cmp hs rfl rfl rfl) ?_; clear hs a; intro a hs
              refine wpList_nil (then_normal ?_)
              refine wp_seq ?_
              refine wp_cond_split (hs.ev rfl) (fun h34 => ?_) (fun h34 => ?_)
              · replace h34 := of_decide_eq_true h34
                obtain ⟨s, hsi⟩ : ∃ s, l[i]? = some s := ⟨_, List.getElem?_eq_getElem (by omega)⟩
                obtain ⟨g0, o, rfl, hcell⟩ := C_at encS_K encS_len (by decide) hA (by omega)
                have hs0 := hg s (List.mem_of_getElem? hsi)
                refine wp_skip (then_normal ?_)
                refine wp_seq ?_
                refine wp_block ?_
                refine wp_seq ?_
                refine wp_region_lit ?_
                refine a_val hs rfl rfl rfl (y_idxB (size := 4) (off := o + i * 4) hs Tryd.underlying22 (by kernel_rfl) rfl rfl (by omega) (by omega) (by simp)) ?_; clear hs a; intro a hs
                refine a_val hs rfl rfl rfl (y_loadAgg (vs := encS s) hs Tryd.underlying47 rfl (by kernel_rfl) rfl (fun w hw k v hk => hcell w hw.base i s hsi k v hk)) ?_; clear hs a; intro a hs
                refine a_eff rfl (e_alloc (z := .agg #[.int .u8 0, .int .i64 0, .int .i64 0, .int .u8 0]) (cs := #[.int .u8 0, .int .i64 0, .int .i64 0, .int .u8 0]) hs rfl (by kernel_rfl) rfl ?_); clear hs a; intro gs a w hs
                refine a_eff rfl (e_store (cl := [_, _, _, _]) 0 rfl hs rfl rfl (by kernel_rfl) rfl rfl rfl ?_); clear hs a; intro a w hs
                refine wpList_nil (then_normal ?_)
                refine wp_seq ?_
                refine wp_seq ?_
                refine wp_region_lit ?_
                refine a_val hs rfl rfl rfl (y_faddr (k' := 0) 0 hs (by kernel_rfl) rfl rfl) ?_; clear hs a; intro a hs
                refine a_val hs rfl rfl rfl (y_load hs Tryd.underlying45 rfl rfl (fun w hw => (hw.to 0 rfl).cellV rfl)) ?_; clear hs a; intro a hs
                refine a_eff rfl (e_callB Tryd.func38 rfl rfl hs rfl rfl ((emit_known.calls s.f0 (decide (1 ≤ s.f0 ∧ s.f0 ≤ 4)) _ (known_ok _)).mono (by rintro e w1 ⟨rfl, hd⟩; exact ⟨rfl, drawnB hd⟩)) ?_); clear hs a; intro a w hs
                refine a_val hs rfl rfl rfl (y_not hs rfl) ?_; clear hs a; intro a hs
                refine a_val hs rfl rfl rfl (y_move hs rfl) ?_; clear hs a; intro a hs
                rcases hs.know (d := 41) rfl with ⟨h41, hs1⟩ | ⟨h41, hs1⟩ <;> replace hs := hs1 <;> clear hs1
                · replace h41 := of_decide_eq_false (not_t h41)
                  refine a_skip hs rfl rfl rfl ?_; clear hs a; intro a hs
                  refine a_skip hs rfl rfl rfl ?_; clear hs a; intro a hs
                  refine a_skip hs rfl rfl rfl ?_; clear hs a; intro a hs
                  refine a_val hs rfl rfl rfl (y_pickT hs rfl rfl rfl) ?_; clear hs a; intro a hs
                  refine a_val hs rfl rfl rfl (y_move hs rfl) ?_; clear hs a; intro a hs
                  refine a_skip hs rfl rfl rfl ?_; clear hs a; intro a hs
                  refine a_skip hs rfl rfl rfl ?_; clear hs a; intro a hs
                  refine a_skip hs rfl rfl rfl ?_; clear hs a; intro a hs
                  refine a_val hs rfl rfl rfl (y_pickT hs rfl rfl rfl) ?_; clear hs a; intro a hs
                  refine a_val hs rfl rfl rfl (y_move hs rfl) ?_; clear hs a; intro a hs
                  refine a_skip hs rfl rfl rfl ?_; clear hs a; intro a hs
                  refine a_skip hs rfl rfl rfl ?_; clear hs a; intro a hs
                  refine a_skip hs rfl rfl rfl ?_; clear hs a; intro a hs
                  refine a_val hs rfl rfl rfl (y_pickT hs rfl rfl rfl) ?_; clear hs a; intro a hs
                  refine a_val hs rfl rfl rfl (y_move hs rfl) ?_; clear hs a; intro a hs
                  refine a_skip hs rfl rfl rfl ?_; clear hs a; intro a hs
                  refine a_skip hs rfl rfl rfl ?_; clear hs a; intro a hs
                  refine a_skip hs rfl rfl rfl ?_; clear hs a; intro a hs
                  refine a_val hs rfl rfl rfl (y_pickT hs rfl rfl rfl) ?_; clear hs a; intro a hs
                  refine wpList_nil (then_normal ?_)
                  refine wp_cond_true (hs.ev rfl) ?_
                  refine wp_seq ?_
                  refine wp_region_lit ?_
                  refine a_val hs rfl rfl rfl (y_assign hs rfl) ?_; clear hs a; intro a hs
                  refine wpList_nil (then_normal ?_)
                  refine wp_ret (then_ret (in_ret (then_ret (then_ret (in_ret (then_ret ?_))))))
                  refine fin_ret hs (.tmp (hs.slots _ _ rfl) .nil) ⟨?_, hs.mem.base⟩
                  rw [okProg_step hsi (okStep_no (by omega))]; rfl
                · replace h41 := of_decide_eq_true (not_f h41)
                  refine a_valG hs rfl rfl rfl (y_faddr (k' := 1) 1 hs (by kernel_rfl) rfl rfl) ?_; clear hs a; intro a hs
                  refine a_valG hs rfl rfl rfl (y_load hs Tryd.underlying3 rfl rfl (fun w hw => (hw.to 0 rfl).cellV rfl)) ?_; clear hs a; intro a hs
                  refine a_valG hs rfl rfl rfl (y_cmp hs rfl rfl rfl) ?_; clear hs a; intro a hs
                  refine a_val hs rfl rfl rfl (y_pickF hs rfl rfl rfl) ?_; clear hs a; intro a hs
                  refine a_val hs rfl rfl rfl (y_move hs rfl) ?_; clear hs a; intro a hs
                  rcases hs.know (d := 46) rfl with ⟨h46, hs1⟩ | ⟨h46, hs1⟩ <;> replace hs := hs1 <;> clear hs1
                  · replace h46 := of_decide_eq_true h46
                    refine a_skip hs rfl rfl rfl ?_; clear hs a; intro a hs
                    refine a_skip hs rfl rfl rfl ?_; clear hs a; intro a hs
                    refine a_skip hs rfl rfl rfl ?_; clear hs a; intro a hs
                    refine a_val hs rfl rfl rfl (y_pickT hs rfl rfl rfl) ?_; clear hs a; intro a hs
                    refine a_val hs rfl rfl rfl (y_move hs rfl) ?_; clear hs a; intro a hs
                    refine a_skip hs rfl rfl rfl ?_; clear hs a; intro a hs
                    refine a_skip hs rfl rfl rfl ?_; clear hs a; intro a hs
                    refine a_skip hs rfl rfl rfl ?_; clear hs a; intro a hs
                    refine a_val hs rfl rfl rfl (y_pickT hs rfl rfl rfl) ?_; clear hs a; intro a hs
                    refine a_val hs rfl rfl rfl (y_move hs rfl) ?_; clear hs a; intro a hs
                    refine a_skip hs rfl rfl rfl ?_; clear hs a; intro a hs
                    refine a_skip hs rfl rfl rfl ?_; clear hs a; intro a hs
                    refine a_skip hs rfl rfl rfl ?_; clear hs a; intro a hs
                    refine a_val hs rfl rfl rfl (y_pickT hs rfl rfl rfl) ?_; clear hs a; intro a hs
                    refine wpList_nil (then_normal ?_)
                    refine wp_cond_true (hs.ev rfl) ?_
                    refine wp_seq ?_
                    refine wp_region_lit ?_
                    refine a_val hs rfl rfl rfl (y_assign hs rfl) ?_; clear hs a; intro a hs
                    refine wpList_nil (then_normal ?_)
                    refine wp_ret (then_ret (in_ret (then_ret (then_ret (in_ret (then_ret ?_))))))
                    refine fin_ret hs (.tmp (hs.slots _ _ rfl) .nil) ⟨?_, hs.mem.base⟩
                    rw [okProg_step hsi (okStep_no (by omega))]; rfl
                  · replace h46 := of_decide_eq_false h46
                    refine a_valG hs rfl rfl rfl (y_faddr (k' := 1) 1 hs (by kernel_rfl) rfl rfl) ?_; clear hs a; intro a hs
                    refine a_valG hs rfl rfl rfl (y_load hs Tryd.underlying3 rfl rfl (fun w hw => (hw.to 0 rfl).cellV rfl)) ?_; clear hs a; intro a hs
                    refine a_valG hs rfl rfl rfl (y_cmp hs rfl rfl rfl) ?_; clear hs a; intro a hs
                    refine a_val hs rfl rfl rfl (y_pickF hs rfl rfl rfl) ?_; clear hs a; intro a hs
                    refine a_val hs rfl rfl rfl (y_move hs rfl) ?_; clear hs a; intro a hs
                    rcases hs.know (d := 51) rfl with ⟨h51, hs1⟩ | ⟨h51, hs1⟩ <;> replace hs := hs1 <;> clear hs1
                    · replace h51 := of_decide_eq_true h51
                      refine a_skip hs rfl rfl rfl ?_; clear hs a; intro a hs
                      refine a_skip hs rfl rfl rfl ?_; clear hs a; intro a hs
                      refine a_skip hs rfl rfl rfl ?_; clear hs a; intro a hs
                      refine a_val hs rfl rfl rfl (y_pickT hs rfl rfl rfl) ?_; clear hs a; intro a hs
                      refine a_val hs rfl rfl rfl (y_move hs rfl) ?_; clear hs a; intro a hs
                      refine a_skip hs rfl rfl rfl ?_; clear hs a; intro a hs
                      refine a_skip hs rfl rfl rfl ?_; clear hs a; intro a hs
                      refine a_skip hs rfl rfl rfl ?_; clear hs a; intro a hs
                      refine a_val hs rfl rfl rfl (y_pickT hs rfl rfl rfl) ?_; clear hs a; intro a hs
                      refine wpList_nil (then_normal ?_)
                      refine wp_cond_true (hs.ev rfl) ?_
                      refine wp_seq ?_
                      refine wp_region_lit ?_
                      refine a_val hs rfl rfl rfl (y_assign hs rfl) ?_; clear hs a; intro a hs
                      refine wpList_nil (then_normal ?_)
                      refine wp_ret (then_ret (in_ret (then_ret (then_ret (in_ret (then_ret ?_))))))
                      refine fin_ret hs (.tmp (hs.slots _ _ rfl) .nil) ⟨?_, hs.mem.base⟩
                      rw [okProg_step hsi (okStep_no (by omega))]; rfl
                    · replace h51 := of_decide_eq_false h51
                      refine a_valG hs rfl rfl rfl (y_faddr (k' := 2) 2 hs (by kernel_rfl) rfl rfl) ?_; clear hs a; intro a hs
                      refine a_valG hs rfl rfl rfl (y_load hs Tryd.underlying3 rfl rfl (fun w hw => (hw.to 0 rfl).cellV rfl)) ?_; clear hs a; intro a hs
                      refine a_valG hs rfl rfl rfl (y_cmp hs rfl rfl rfl) ?_; clear hs a; intro a hs
                      refine a_val hs rfl rfl rfl (y_pickF hs rfl rfl rfl) ?_; clear hs a; intro a hs
                      refine a_val hs rfl rfl rfl (y_move hs rfl) ?_; clear hs a; intro a hs
                      rcases hs.know (d := 56) rfl with ⟨h56, hs1⟩ | ⟨h56, hs1⟩ <;> replace hs := hs1 <;> clear hs1
                      · replace h56 := of_decide_eq_true h56
                        refine a_skip hs rfl rfl rfl ?_; clear hs a; intro a hs
                        refine a_skip hs rfl rfl rfl ?_; clear hs a; intro a hs
                        refine a_skip hs rfl rfl rfl ?_; clear hs a; intro a hs
                        refine a_val hs rfl rfl rfl (y_pickT hs rfl rfl rfl) ?_; clear hs a; intro a hs
                        refine wpList_nil (then_normal ?_)
                        refine wp_cond_true (hs.ev rfl) ?_
                        refine wp_seq ?_
                        refine wp_region_lit ?_
                        refine a_val hs rfl rfl rfl (y_assign hs rfl) ?_; clear hs a; intro a hs
                        refine wpList_nil (then_normal ?_)
                        refine wp_ret (then_ret (in_ret (then_ret (then_ret (in_ret (then_ret ?_))))))
                        refine fin_ret hs (.tmp (hs.slots _ _ rfl) .nil) ⟨?_, hs.mem.base⟩
                        rw [okProg_step hsi (okStep_no (by omega))]; rfl
                      · replace h56 := of_decide_eq_false h56
                        refine a_valG hs rfl rfl rfl (y_faddr (k' := 2) 2 hs (by kernel_rfl) rfl rfl) ?_; clear hs a; intro a hs
                        refine a_valG hs rfl rfl rfl (y_load hs Tryd.underlying3 rfl rfl (fun w hw => (hw.to 0 rfl).cellV rfl)) ?_; clear hs a; intro a hs
                        refine a_valG hs rfl rfl rfl (y_cmp hs rfl rfl rfl) ?_; clear hs a; intro a hs
                        refine a_val hs rfl rfl rfl (y_pickF hs rfl rfl rfl) ?_; clear hs a; intro a hs
                        refine wpList_nil (then_normal ?_)
                        refine wp_cond_split (hs.ev rfl) (fun h60 => ?_) (fun h60 => ?_)
                        · replace h60 := of_decide_eq_true h60
                          refine wp_seq ?_
                          refine wp_region_lit ?_
                          refine a_val hs rfl rfl rfl (y_assign hs rfl) ?_; clear hs a; intro a hs
                          refine wpList_nil (then_normal ?_)
                          refine wp_ret (then_ret (in_ret (then_ret (then_ret (in_ret (then_ret ?_))))))
                          refine fin_ret hs (.tmp (hs.slots _ _ rfl) .nil) ⟨?_, hs.mem.base⟩
                          rw [okProg_step hsi (okStep_no (by omega))]; rfl
                        · replace h60 := of_decide_eq_false h60
                          refine wp_skip (then_normal ?_)
                          refine wp_seq ?_
                          refine wp_region_lit ?_
                          refine a_val hs rfl rfl rfl (y_faddr (k' := 0) 0 hs (by kernel_rfl) rfl rfl) ?_; clear hs a; intro a hs
                          refine a_val hs rfl rfl rfl (y_load hs Tryd.underlying45 rfl rfl (fun w hw => (hw.to 0 rfl).cellV rfl)) ?_; clear hs a; intro a hs
                          refine a_eff rfl (e_callB Tryd.func39 rfl rfl hs rfl rfl (emit_fields s.f0 (by omega) _) ?_); clear hs a; intro a w hs
                          have hfs := fldS_size (k := s.f0) (by omega)
                          refine a_val hs rfl rfl rfl (y_lenS hs Tryd.underlying9 rfl) ?_; clear hs a; intro a hs
                          refine a_val hs rfl rfl rfl (y_assign hs rfl) ?_; clear hs a; intro a hs
                          refine wpList_nil (then_normal ?_)
                          refine wp_seq ?_
                          refine wp_region_lit ?_
                          refine a_val hs rfl rfl rfl (y_move hs rfl) ?_; clear hs a; intro a hs
                          refine a_val hs rfl rfl rfl (y_cmp hs rfl rfl rfl) ?_; clear hs a; intro a hs
                          refine a_val hs rfl rfl rfl (y_move hs rfl) ?_; clear hs a; intro a hs
                          rcases hs.know (d := 67) rfl with ⟨h67, hs1⟩ | ⟨h67, hs1⟩ <;> replace hs := hs1 <;> clear hs1
                          · replace h67 := of_decide_eq_true h67
                            refine a_valG hs rfl rfl rfl (y_faddr (k' := 2) 2 hs (by kernel_rfl) rfl rfl) ?_; clear hs a; intro a hs
                            refine a_valG hs rfl rfl rfl (y_load hs Tryd.underlying3 rfl rfl (fun w hw => (hw.to 0 rfl).cellV rfl)) ?_; clear hs a; intro a hs
                            refine a_valG hs rfl rfl rfl (y_cmp hs rfl rfl rfl) ?_; clear hs a; intro a hs
                            refine a_val hs rfl rfl rfl (y_pickT hs rfl rfl rfl) ?_; clear hs a; intro a hs
                            refine a_val hs rfl rfl rfl (y_move hs rfl) ?_; clear hs a; intro a hs
                            rcases hs.know (d := 72) rfl with ⟨h72, hs1⟩ | ⟨h72, hs1⟩ <;> replace hs := hs1 <;> clear hs1
                            · replace h72 := bne_iff_ne.1 h72
                              refine a_skip hs rfl rfl rfl ?_; clear hs a; intro a hs
                              refine a_skip hs rfl rfl rfl ?_; clear hs a; intro a hs
                              refine a_skip hs rfl rfl rfl ?_; clear hs a; intro a hs
                              refine a_skip hs rfl rfl rfl ?_; clear hs a; intro a hs
                              refine a_skip hs rfl rfl rfl ?_; clear hs a; intro a hs
                              refine a_skip hs rfl rfl rfl ?_; clear hs a; intro a hs
                              refine a_skip hs rfl rfl rfl ?_; clear hs a; intro a hs
                              refine a_val hs rfl rfl rfl (y_pickT hs rfl rfl rfl) ?_; clear hs a; intro a hs
                              refine wpList_nil (then_normal ?_)
                              refine wp_cond_true (hs.ev rfl) ?_
                              refine wp_seq ?_
                              refine wp_region_lit ?_
                              refine a_val hs rfl rfl rfl (y_assign hs rfl) ?_; clear hs a; intro a hs
                              refine wpList_nil (then_normal ?_)
                              refine wp_ret (in_ret (then_ret (then_ret (in_ret (then_ret ?_)))))
                              refine fin_ret hs (.tmp (hs.slots _ _ rfl) .nil) ⟨?_, hs.mem.base⟩
                              rw [okProg_step hsi (okStep_no (by omega))]; rfl
                            · replace h72 := bne_eq_false_iff_eq.1 h72
                              refine a_valG hs rfl rfl rfl (y_move hs rfl) ?_; clear hs a; intro a hs
                              refine a_valG hs rfl rfl rfl (y_cmp hs rfl rfl rfl) ?_; clear hs a; intro a hs
                              refine a_valG hs rfl rfl rfl (y_move hs rfl) ?_; clear hs a; intro a hs
                              rcases hs.know (d := 75) rfl with ⟨h75, hs1⟩ | ⟨h75, hs1⟩ <;> replace hs := hs1 <;> clear hs1
                              · replace h75 := of_decide_eq_true h75
                                refine a_valG hs rfl rfl rfl (y_faddr (k' := 3) 3 hs (by kernel_rfl) rfl rfl) ?_; clear hs a; intro a hs
                                refine a_valG hs rfl rfl rfl (y_load hs Tryd.underlying5 rfl rfl (fun w hw => (hw.to 0 rfl).cellV rfl)) ?_; clear hs a; intro a hs
                                refine a_valG hs rfl rfl rfl (y_cmp hs rfl rfl rfl) ?_; clear hs a; intro a hs
                                refine a_valG hs rfl rfl rfl (y_pickT hs rfl rfl rfl) ?_; clear hs a; intro a hs
                                refine a_val hs rfl rfl rfl (y_pickF hs rfl rfl rfl) ?_; clear hs a; intro a hs
                                refine wpList_nil (then_normal ?_)
                                refine wp_cond_split (hs.ev rfl) (fun h80 => ?_) (fun h80 => ?_)
                                · replace h80 := bne_iff_ne.1 h80
                                  refine wp_seq ?_
                                  refine wp_region_lit ?_
                                  refine a_val hs rfl rfl rfl (y_assign hs rfl) ?_; clear hs a; intro a hs
                                  refine wpList_nil (then_normal ?_)
                                  refine wp_ret (in_ret (then_ret (then_ret (in_ret (then_ret ?_)))))
                                  refine fin_ret hs (.tmp (hs.slots _ _ rfl) .nil) ⟨?_, hs.mem.base⟩
                                  rw [okProg_step hsi (okStep_no (by omega))]; rfl
                                · replace h80 := bne_eq_false_iff_eq.1 h80
                                  refine wp_skip (in_normal (then_normal ?_))
                                  refine wp_region_lit ?_
                                  refine a_val hs rfl rfl rfl (y_add hs rfl rfl (by omega)) ?_; clear hs a; intro a hs
                                  refine a_val hs rfl rfl rfl (y_move hs rfl) ?_; clear hs a; intro a hs
                                  refine wpList_nil (then_normal ?_)
                                  refine ⟨m - 1, by omega, i + 1, by omega, fun j u hj hu => (Nat.lt_succ_iff_lt_or_eq.1 hj).elim (fun h => hall j u h hu) (fun h => by subst h; rw [hsi] at hu; injection hu with hu; subst hu; exact decide_eq_true (by omega)), ?_⟩
                                  exact (hs.mem_to (hs.mem.to 0 rfl).drop).cut _ ⟨rfl, rfl, rfl, trivial⟩
                              · replace h75 := of_decide_eq_false h75
                                refine a_skip hs rfl rfl rfl ?_; clear hs a; intro a hs
                                refine a_skip hs rfl rfl rfl ?_; clear hs a; intro a hs
                                refine a_skip hs rfl rfl rfl ?_; clear hs a; intro a hs
                                refine a_valG hs rfl rfl rfl (y_pickF hs rfl rfl rfl) ?_; clear hs a; intro a hs
                                refine a_val hs rfl rfl rfl (y_pickF hs rfl rfl rfl) ?_; clear hs a; intro a hs
                                refine wpList_nil (then_normal ?_)
                                refine wp_cond_false (hs.ev rfl) ?_
                                refine wp_skip (in_normal (then_normal ?_))
                                refine wp_region_lit ?_
                                refine a_val hs rfl rfl rfl (y_add hs rfl rfl (by omega)) ?_; clear hs a; intro a hs
                                refine a_val hs rfl rfl rfl (y_move hs rfl) ?_; clear hs a; intro a hs
                                refine wpList_nil (then_normal ?_)
                                refine ⟨m - 1, by omega, i + 1, by omega, fun j u hj hu => (Nat.lt_succ_iff_lt_or_eq.1 hj).elim (fun h => hall j u h hu) (fun h => by subst h; rw [hsi] at hu; injection hu with hu; subst hu; exact decide_eq_true (by omega)), ?_⟩
                                exact (hs.mem_to (hs.mem.to 0 rfl).drop).cut _ ⟨rfl, rfl, rfl, trivial⟩
                          · replace h67 := of_decide_eq_false h67
                            refine a_skip hs rfl rfl rfl ?_; clear hs a; intro a hs
                            refine a_skip hs rfl rfl rfl ?_; clear hs a; intro a hs
                            refine a_skip hs rfl rfl rfl ?_; clear hs a; intro a hs
                            refine a_val hs rfl rfl rfl (y_pickF hs rfl rfl rfl) ?_; clear hs a; intro a hs
                            refine a_val hs rfl rfl rfl (y_move hs rfl) ?_; clear hs a; intro a hs
                            refine a_valG hs rfl rfl rfl (y_move hs rfl) ?_; clear hs a; intro a hs
                            refine a_valG hs rfl rfl rfl (y_cmp hs rfl rfl rfl) ?_; clear hs a; intro a hs
                            refine a_valG hs rfl rfl rfl (y_move hs rfl) ?_; clear hs a; intro a hs
                            rcases hs.know (d := 75) rfl with ⟨h75, hs1⟩ | ⟨h75, hs1⟩ <;> replace hs := hs1 <;> clear hs1
                            · replace h75 := of_decide_eq_true h75
                              refine a_valG hs rfl rfl rfl (y_faddr (k' := 3) 3 hs (by kernel_rfl) rfl rfl) ?_; clear hs a; intro a hs
                              refine a_valG hs rfl rfl rfl (y_load hs Tryd.underlying5 rfl rfl (fun w hw => (hw.to 0 rfl).cellV rfl)) ?_; clear hs a; intro a hs
                              refine a_valG hs rfl rfl rfl (y_cmp hs rfl rfl rfl) ?_; clear hs a; intro a hs
                              refine a_valG hs rfl rfl rfl (y_pickT hs rfl rfl rfl) ?_; clear hs a; intro a hs
                              refine a_val hs rfl rfl rfl (y_pickF hs rfl rfl rfl) ?_; clear hs a; intro a hs
                              refine wpList_nil (then_normal ?_)
                              refine wp_cond_split (hs.ev rfl) (fun h80 => ?_) (fun h80 => ?_)
                              · replace h80 := bne_iff_ne.1 h80
                                refine wp_seq ?_
                                refine wp_region_lit ?_
                                refine a_val hs rfl rfl rfl (y_assign hs rfl) ?_; clear hs a; intro a hs
                                refine wpList_nil (then_normal ?_)
                                refine wp_ret (in_ret (then_ret (then_ret (in_ret (then_ret ?_)))))
                                refine fin_ret hs (.tmp (hs.slots _ _ rfl) .nil) ⟨?_, hs.mem.base⟩
                                rw [okProg_step hsi (okStep_no (by omega))]; rfl
                              · replace h80 := bne_eq_false_iff_eq.1 h80
                                refine wp_skip (in_normal (then_normal ?_))
                                refine wp_region_lit ?_
                                refine a_val hs rfl rfl rfl (y_add hs rfl rfl (by omega)) ?_; clear hs a; intro a hs
                                refine a_val hs rfl rfl rfl (y_move hs rfl) ?_; clear hs a; intro a hs
                                refine wpList_nil (then_normal ?_)
                                refine ⟨m - 1, by omega, i + 1, by omega, fun j u hj hu => (Nat.lt_succ_iff_lt_or_eq.1 hj).elim (fun h => hall j u h hu) (fun h => by subst h; rw [hsi] at hu; injection hu with hu; subst hu; exact decide_eq_true (by omega)), ?_⟩
                                exact (hs.mem_to (hs.mem.to 0 rfl).drop).cut _ ⟨rfl, rfl, rfl, trivial⟩
                            · replace h75 := of_decide_eq_false h75
                              refine a_skip hs rfl rfl rfl ?_; clear hs a; intro a hs
                              refine a_skip hs rfl rfl rfl ?_; clear hs a; intro a hs
                              refine a_skip hs rfl rfl rfl ?_; clear hs a; intro a hs
                              refine a_valG hs rfl rfl rfl (y_pickF hs rfl rfl rfl) ?_; clear hs a; intro a hs
                              refine a_val hs rfl rfl rfl (y_pickF hs rfl rfl rfl) ?_; clear hs a; intro a hs
                              refine wpList_nil (then_normal ?_)
                              refine wp_cond_false (hs.ev rfl) ?_
                              refine wp_skip (in_normal (then_normal ?_))
                              refine wp_region_lit ?_
                              refine a_val hs rfl rfl rfl (y_add hs rfl rfl (by omega)) ?_; clear hs a; intro a hs
                              refine a_val hs rfl rfl rfl (y_move hs rfl) ?_; clear hs a; intro a hs
                              refine wpList_nil (then_normal ?_)
                              refine ⟨m - 1, by omega, i + 1, by omega, fun j u hj hu => (Nat.lt_succ_iff_lt_or_eq.1 hj).elim (fun h => hall j u h hu) (fun h => by subst h; rw [hsi] at hu; injection hu with hu; subst hu; exact decide_eq_true (by omega)), ?_⟩
                              exact (hs.mem_to (hs.mem.to 0 rfl).drop).cut _ ⟨rfl, rfl, rfl, trivial⟩
              · replace h34 := of_decide_eq_false h34
                refine wp_exit (then_exit (then_exit (in_here (then_normal ?_))))
                refine wp_seq ?_
                refine wp_region_lit ?_
                refine a_val hs rfl rfl rfl (y_assign hs rfl) ?_; clear hs a; intro a hs
                refine wpList_nil (then_normal ?_)
                refine wp_ret ?_
                refine fin_ret hs (.tmp (hs.slots _ _ rfl) .nil) ⟨?_, hs.mem.base⟩
                rw [okProg_all (by omega) (fun j s hj h => hall j s (by omega) h)]; rfl

set_option maxRecDepth 100000 in
theorem ref_Can (A : Option Addr) (c : Nat) (l : List Stp) (regs outs reads : Int) (v0 : World) (hA : Kd.C k47 v0 A l.length l) (hg : ∀ s ∈ l, 0 ≤ s.f0 ∧ 0 ≤ s.f3 ∧ s.f3 ≤ 255) :
    Calls Tryd.prog 12 #[.agg #[.slice A l.length c, .int .i64 regs, .int .i64 outs, .int .u64 reads]] v0 fun e w' => e = .returned (.bool (okProg l regs outs)) ∧ Below v0.heap.size v0 w' := by
  refine calls_enter (N := 89) (n := 88) (args := [.agg #[.slice A l.length c, .int .i64 regs, .int .i64 outs, .int .u64 reads]]) Tryd.func12 rfl rfl rfl (H.init v0) (fun a hs => ?_)
  refine wp_seq ?_
  refine wp_region_lit ?_
  refine a_eff rfl (e_box (cs := #[_, _, _, _]) hs rfl rfl rfl ?_); clear hs a; intro gp a w hs
  refine a_val hs rfl rfl rfl (y_assign hs rfl) ?_; clear hs a; intro a hs
  refine wpList_nil (then_normal ?_)
  refine wp_seq ?_
  refine wp_seq ?_
  refine wp_region_lit ?_
  refine a_val hs rfl rfl rfl (y_faddr (k' := 1) 1 hs (by kernel_rfl) rfl rfl) ?_; clear hs a; intro a hs
  refine a_val hs rfl rfl rfl (y_load hs Tryd.underlying3 rfl rfl (fun w hw => (hw.to 0 rfl).cellV rfl)) ?_; clear hs a; intro a hs
  refine a_val hs rfl rfl rfl (y_cmp hs rfl rfl rfl) ?_; clear hs a; intro a hs
  refine a_val hs rfl rfl rfl (y_move hs rfl) ?_; clear hs a; intro a hs
  rcases hs.know (d := 9) rfl with ⟨h9, hs1⟩ | ⟨h9, hs1⟩ <;> replace hs := hs1 <;> clear hs1
  · replace h9 := of_decide_eq_true h9
    refine a_skip hs rfl rfl rfl ?_; clear hs a; intro a hs
    refine a_skip hs rfl rfl rfl ?_; clear hs a; intro a hs
    refine a_skip hs rfl rfl rfl ?_; clear hs a; intro a hs
    refine a_val hs rfl rfl rfl (y_pickT hs rfl rfl rfl) ?_; clear hs a; intro a hs
    refine a_val hs rfl rfl rfl (y_move hs rfl) ?_; clear hs a; intro a hs
    refine a_skip hs rfl rfl rfl ?_; clear hs a; intro a hs
    refine a_skip hs rfl rfl rfl ?_; clear hs a; intro a hs
    refine a_skip hs rfl rfl rfl ?_; clear hs a; intro a hs
    refine a_val hs rfl rfl rfl (y_pickT hs rfl rfl rfl) ?_; clear hs a; intro a hs
    refine a_val hs rfl rfl rfl (y_move hs rfl) ?_; clear hs a; intro a hs
    refine a_skip hs rfl rfl rfl ?_; clear hs a; intro a hs
    refine a_skip hs rfl rfl rfl ?_; clear hs a; intro a hs
    refine a_skip hs rfl rfl rfl ?_; clear hs a; intro a hs
    refine a_val hs rfl rfl rfl (y_pickT hs rfl rfl rfl) ?_; clear hs a; intro a hs
    refine a_val hs rfl rfl rfl (y_move hs rfl) ?_; clear hs a; intro a hs
    refine a_skip hs rfl rfl rfl ?_; clear hs a; intro a hs
    refine a_skip hs rfl rfl rfl ?_; clear hs a; intro a hs
    refine a_skip hs rfl rfl rfl ?_; clear hs a; intro a hs
    refine a_skip hs rfl rfl rfl ?_; clear hs a; intro a hs
    refine a_val hs rfl rfl rfl (y_pickT hs rfl rfl rfl) ?_; clear hs a; intro a hs
    refine wpList_nil (then_normal ?_)
    refine wp_cond_true (hs.ev rfl) ?_
    refine wp_seq ?_
    refine wp_region_lit ?_
    refine a_val hs rfl rfl rfl (y_assign hs rfl) ?_; clear hs a; intro a hs
    refine wpList_nil (then_normal ?_)
    refine wp_ret (then_ret ?_)
    refine fin_ret hs (.tmp (hs.slots _ _ rfl) .nil) ⟨?_, hs.mem.base⟩
    rw [okProg_head (by omega)]; rfl
  · replace h9 := of_decide_eq_false h9
    refine a_valG hs rfl rfl rfl (y_faddr (k' := 1) 1 hs (by kernel_rfl) rfl rfl) ?_; clear hs a; intro a hs
    refine a_valG hs rfl rfl rfl (y_load hs Tryd.underlying3 rfl rfl (fun w hw => (hw.to 0 rfl).cellV rfl)) ?_; clear hs a; intro a hs
    refine a_valG hs rfl rfl rfl (y_cmp hs rfl rfl rfl) ?_; clear hs a; intro a hs
    refine a_val hs rfl rfl rfl (y_pickF hs rfl rfl rfl) ?_; clear hs a; intro a hs
    refine a_val hs rfl rfl rfl (y_move hs rfl) ?_; clear hs a; intro a hs
    rcases hs.know (d := 14) rfl with ⟨h14, hs1⟩ | ⟨h14, hs1⟩ <;> replace hs := hs1 <;> clear hs1
    · replace h14 := of_decide_eq_true h14
      refine a_skip hs rfl rfl rfl ?_; clear hs a; intro a hs
      refine a_skip hs rfl rfl rfl ?_; clear hs a; intro a hs
      refine a_skip hs rfl rfl rfl ?_; clear hs a; intro a hs
      refine a_val hs rfl rfl rfl (y_pickT hs rfl rfl rfl) ?_; clear hs a; intro a hs
      refine a_val hs rfl rfl rfl (y_move hs rfl) ?_; clear hs a; intro a hs
      refine a_skip hs rfl rfl rfl ?_; clear hs a; intro a hs
      refine a_skip hs rfl rfl rfl ?_; clear hs a; intro a hs
      refine a_skip hs rfl rfl rfl ?_; clear hs a; intro a hs
      refine a_val hs rfl rfl rfl (y_pickT hs rfl rfl rfl) ?_; clear hs a; intro a hs
      refine a_val hs rfl rfl rfl (y_move hs rfl) ?_; clear hs a; intro a hs
      refine a_skip hs rfl rfl rfl ?_; clear hs a; intro a hs
      refine a_skip hs rfl rfl rfl ?_; clear hs a; intro a hs
      refine a_skip hs rfl rfl rfl ?_; clear hs a; intro a hs
      refine a_skip hs rfl rfl rfl ?_; clear hs a; intro a hs
      refine a_val hs rfl rfl rfl (y_pickT hs rfl rfl rfl) ?_; clear hs a; intro a hs
      refine wpList_nil (then_normal ?_)
      refine wp_cond_true (hs.ev rfl) ?_
      refine wp_seq ?_
      refine wp_region_lit ?_
      refine a_val hs rfl rfl rfl (y_assign hs rfl) ?_; clear hs a; intro a hs
      refine wpList_nil (then_normal ?_)
      refine wp_ret (then_ret ?_)
      refine fin_ret hs (.tmp (hs.slots _ _ rfl) .nil) ⟨?_, hs.mem.base⟩
      rw [okProg_head (by omega)]; rfl
    · replace h14 := of_decide_eq_false h14
      refine a_valG hs rfl rfl rfl (y_faddr (k' := 2) 2 hs (by kernel_rfl) rfl rfl) ?_; clear hs a; intro a hs
      refine a_valG hs rfl rfl rfl (y_load hs Tryd.underlying3 rfl rfl (fun w hw => (hw.to 0 rfl).cellV rfl)) ?_; clear hs a; intro a hs
      refine a_valG hs rfl rfl rfl (y_cmp hs rfl rfl rfl) ?_; clear hs a; intro a hs
      refine a_val hs rfl rfl rfl (y_pickF hs rfl rfl rfl) ?_; clear hs a; intro a hs
      refine a_val hs rfl rfl rfl (y_move hs rfl) ?_; clear hs a; intro a hs
      rcases hs.know (d := 19) rfl with ⟨h19, hs1⟩ | ⟨h19, hs1⟩ <;> replace hs := hs1 <;> clear hs1
      · replace h19 := of_decide_eq_true h19
        refine a_skip hs rfl rfl rfl ?_; clear hs a; intro a hs
        refine a_skip hs rfl rfl rfl ?_; clear hs a; intro a hs
        refine a_skip hs rfl rfl rfl ?_; clear hs a; intro a hs
        refine a_val hs rfl rfl rfl (y_pickT hs rfl rfl rfl) ?_; clear hs a; intro a hs
        refine a_val hs rfl rfl rfl (y_move hs rfl) ?_; clear hs a; intro a hs
        refine a_skip hs rfl rfl rfl ?_; clear hs a; intro a hs
        refine a_skip hs rfl rfl rfl ?_; clear hs a; intro a hs
        refine a_skip hs rfl rfl rfl ?_; clear hs a; intro a hs
        refine a_skip hs rfl rfl rfl ?_; clear hs a; intro a hs
        refine a_val hs rfl rfl rfl (y_pickT hs rfl rfl rfl) ?_; clear hs a; intro a hs
        refine wpList_nil (then_normal ?_)
        refine wp_cond_true (hs.ev rfl) ?_
        refine wp_seq ?_
        refine wp_region_lit ?_
        refine a_val hs rfl rfl rfl (y_assign hs rfl) ?_; clear hs a; intro a hs
        refine wpList_nil (then_normal ?_)
        refine wp_ret (then_ret ?_)
        refine fin_ret hs (.tmp (hs.slots _ _ rfl) .nil) ⟨?_, hs.mem.base⟩
        rw [okProg_head (by omega)]; rfl
      · replace h19 := of_decide_eq_false h19
        refine a_valG hs rfl rfl rfl (y_faddr (k' := 2) 2 hs (by kernel_rfl) rfl rfl) ?_; clear hs a; intro a hs
        refine a_valG hs rfl rfl rfl (y_load hs Tryd.underlying3 rfl rfl (fun w hw => (hw.to 0 rfl).cellV rfl)) ?_; clear hs a; intro a hs
        refine a_valG hs rfl rfl rfl (y_cmp hs rfl rfl rfl) ?_; clear hs a; intro a hs
        refine a_val hs rfl rfl rfl (y_pickF hs rfl rfl rfl) ?_; clear hs a; intro a hs
        refine a_val hs rfl rfl rfl (y_move hs rfl) ?_; clear hs a; intro a hs
        rcases hs.know (d := 24) rfl with ⟨h24, hs1⟩ | ⟨h24, hs1⟩ <;> replace hs := hs1 <;> clear hs1
        · replace h24 := of_decide_eq_true h24
          refine a_skip hs rfl rfl rfl ?_; clear hs a; intro a hs
          refine a_skip hs rfl rfl rfl ?_; clear hs a; intro a hs
          refine a_skip hs rfl rfl rfl ?_; clear hs a; intro a hs
          refine a_skip hs rfl rfl rfl ?_; clear hs a; intro a hs
          refine a_val hs rfl rfl rfl (y_pickT hs rfl rfl rfl) ?_; clear hs a; intro a hs
          refine wpList_nil (then_normal ?_)
          refine wp_cond_true (hs.ev rfl) ?_
          refine wp_seq ?_
          refine wp_region_lit ?_
          refine a_val hs rfl rfl rfl (y_assign hs rfl) ?_; clear hs a; intro a hs
          refine wpList_nil (then_normal ?_)
          refine wp_ret (then_ret ?_)
          refine fin_ret hs (.tmp (hs.slots _ _ rfl) .nil) ⟨?_, hs.mem.base⟩
          rw [okProg_head (by omega)]; rfl
        · replace h24 := of_decide_eq_false h24
          refine a_valG hs rfl rfl rfl (y_faddr (k' := 0) 0 hs (by kernel_rfl) rfl rfl) ?_; clear hs a; intro a hs
          refine a_valG hs rfl rfl rfl (y_load hs Tryd.underlying22 rfl rfl (fun w hw => (hw.to 0 rfl).cellV rfl)) ?_; clear hs a; intro a hs
          refine a_valG hs rfl rfl rfl (y_lenL hs Tryd.underlying22 rfl) ?_; clear hs a; intro a hs
          refine a_valG hs rfl rfl rfl (y_cmp hs rfl rfl rfl) ?_; clear hs a; intro a hs
          refine a_val hs rfl rfl rfl (y_pickF hs rfl rfl rfl) ?_; clear hs a; intro a hs
          refine wpList_nil (then_normal ?_)
          refine wp_cond_split (hs.ev rfl) (fun h29 => ?_) (fun h29 => ?_)
          · replace h29 := of_decide_eq_true h29
            refine wp_seq ?_
            refine wp_region_lit ?_
            refine a_val hs rfl rfl rfl (y_assign hs rfl) ?_; clear hs a; intro a hs
            refine wpList_nil (then_normal ?_)
            refine wp_ret (then_ret ?_)
            refine fin_ret hs (.tmp (hs.slots _ _ rfl) .nil) ⟨?_, hs.mem.base⟩
            rw [okProg_head (by omega)]; rfl
          · replace h29 := of_decide_eq_false h29
            refine wp_skip (then_normal ?_)
            refine wp_seq ?_
            refine wp_seq ?_
            refine wp_region_lit ?_
            refine a_val hs rfl rfl rfl (y_assign hs rfl) ?_; clear hs a; intro a hs
            refine wpList_nil (then_normal ?_)
            refine wp_block ?_
            refine wp_loopN (fun m a w1 => ∃ (i : Nat), (i + m = l.length) ∧ (∀ j s, j < i → l[j]? = some s → okStep s = true) ∧ St 89 v0 [(1, .pointer (some ⟨gp, 0, none⟩)), (3, .int .i64 ((i : Nat) : Int))] [pt gp #[.slice A l.length c, .int .i64 regs, .int .i64 outs, .int .u64 reads] 26] a w1) (l.length) ⟨0, by omega, fun j s hj => absurd hj (by omega), ?_⟩ (fun m a w1 hJ => ?_)
            · exact (hs.mem_to hs.mem).cut _ ⟨rfl, rfl, trivial⟩
            · clear hs
              obtain ⟨i, hi, hall, hs⟩ := hJ
              refine wp_seq ?_
              refine wp_seq ?_
              refine wp_region_lit ?_
              refine a_val hs rfl rfl rfl (y_move hs rfl) ?_; clear hs a; intro a hs
              refine a_val hs rfl rfl rfl (y_faddr (k' := 0) 0 hs (by kernel_rfl) rfl rfl) ?_; clear hs a; intro a hs
              refine a_val hs rfl rfl rfl (y_load hs Tryd.underlying22 rfl rfl (fun w hw => (hw.to 0 rfl).cellV rfl)) ?_; clear hs a; intro a hs
              refine a_val hs rfl rfl rfl (y_lenL hs Tryd.underlying22 rfl) ?_; clear hs a; intro a hs
              refine a_val hs rfl rfl rfl (y_cmp hs rfl rfl rfl) ?_; clear hs a; intro a hs
              refine wpList_nil (then_normal ?_)
              refine wp_cond_split (hs.ev rfl) (fun h34 => ?_) (fun h34 => ?_)
              · replace h34 := of_decide_eq_true h34
                obtain ⟨s, hsi⟩ : ∃ s, l[i]? = some s := ⟨_, List.getElem?_eq_getElem (by omega)⟩
                obtain ⟨g0, o, rfl, hcell⟩ := C_at encS_K encS_len (by decide) hA (by omega)
                have hs0 := hg s (List.mem_of_getElem? hsi)
                refine wp_skip (then_normal ?_)
                refine wp_seq ?_
                refine wp_block ?_
                refine wp_seq ?_
                refine wp_region_lit ?_
                refine a_val hs rfl rfl rfl (y_faddr (k' := 0) 0 hs (by kernel_rfl) rfl rfl) ?_; clear hs a; intro a hs
                refine a_val hs rfl rfl rfl (y_load hs Tryd.underlying22 rfl rfl (fun w hw => (hw.to 0 rfl).cellV rfl)) ?_; clear hs a; intro a hs
                refine a_val hs rfl rfl rfl (y_move hs rfl) ?_; clear hs a; intro a hs
                refine a_val hs rfl rfl rfl (y_idxB (size := 4) (off := o + i * 4) hs Tryd.underlying22 (by kernel_rfl) rfl rfl (by omega) (by omega) (by simp)) ?_; clear hs a; intro a hs
                refine a_val hs rfl rfl rfl (y_loadAgg (vs := encS s) hs Tryd.underlying47 rfl (by kernel_rfl) rfl (fun w hw k v hk => hcell w hw.base i s hsi k v hk)) ?_; clear hs a; intro a hs
                refine a_eff rfl (e_alloc (z := .agg #[.int .u8 0, .int .i64 0, .int .i64 0, .int .u8 0]) (cs := #[.int .u8 0, .int .i64 0, .int .i64 0, .int .u8 0]) hs rfl (by kernel_rfl) rfl ?_); clear hs a; intro gs a w hs
                refine a_eff rfl (e_store (cl := [_, _, _, _]) 0 rfl hs rfl rfl (by kernel_rfl) rfl rfl rfl ?_); clear hs a; intro a w hs
                refine wpList_nil (then_normal ?_)
                refine wp_seq ?_
                refine wp_seq ?_
                refine wp_region_lit ?_
                refine a_val hs rfl rfl rfl (y_faddr (k' := 0) 0 hs (by kernel_rfl) rfl rfl) ?_; clear hs a; intro a hs
                refine a_val hs rfl rfl rfl (y_load hs Tryd.underlying45 rfl rfl (fun w hw => (hw.to 0 rfl).cellV rfl)) ?_; clear hs a; intro a hs
                refine a_val hs rfl rfl rfl (y_cmp hs rfl rfl rfl) ?_; clear hs a; intro a hs
                refine a_val hs rfl rfl rfl (y_move hs rfl) ?_; clear hs a; intro a hs
                rcases hs.know (d := 45) rfl with ⟨h45, hs1⟩ | ⟨h45, hs1⟩ <;> replace hs := hs1 <;> clear hs1
                · replace h45 := of_decide_eq_true h45
                  refine a_skip hs rfl rfl rfl ?_; clear hs a; intro a hs
                  refine a_skip hs rfl rfl rfl ?_; clear hs a; intro a hs
                  refine a_skip hs rfl rfl rfl ?_; clear hs a; intro a hs
                  refine a_val hs rfl rfl rfl (y_pickT hs rfl rfl rfl) ?_; clear hs a; intro a hs
                  refine a_val hs rfl rfl rfl (y_move hs rfl) ?_; clear hs a; intro a hs
                  refine a_skip hs rfl rfl rfl ?_; clear hs a; intro a hs
                  refine a_skip hs rfl rfl rfl ?_; clear hs a; intro a hs
                  refine a_skip hs rfl rfl rfl ?_; clear hs a; intro a hs
                  refine a_val hs rfl rfl rfl (y_pickT hs rfl rfl rfl) ?_; clear hs a; intro a hs
                  refine a_val hs rfl rfl rfl (y_move hs rfl) ?_; clear hs a; intro a hs
                  refine a_skip hs rfl rfl rfl ?_; clear hs a; intro a hs
                  refine a_skip hs rfl rfl rfl ?_; clear hs a; intro a hs
                  refine a_skip hs rfl rfl rfl ?_; clear hs a; intro a hs
                  refine a_val hs rfl rfl rfl (y_pickT hs rfl rfl rfl) ?_; clear hs a; intro a hs
                  refine a_val hs rfl rfl rfl (y_move hs rfl) ?_; clear hs a; intro a hs
                  refine a_skip hs rfl rfl rfl ?_; clear hs a; intro a hs
                  refine a_skip hs rfl rfl rfl ?_; clear hs a; intro a hs
                  refine a_skip hs rfl rfl rfl ?_; clear hs a; intro a hs
                  refine a_val hs rfl rfl rfl (y_pickT hs rfl rfl rfl) ?_; clear hs a; intro a hs
                  refine a_val hs rfl rfl rfl (y_move hs rfl) ?_; clear hs a; intro a hs
                  refine a_skip hs rfl rfl rfl ?_; clear hs a; intro a hs
                  refine a_skip hs rfl rfl rfl ?_; clear hs a; intro a hs
                  refine a_skip hs rfl rfl rfl ?_; clear hs a; intro a hs
                  refine a_val hs rfl rfl rfl (y_pickT hs rfl rfl rfl) ?_; clear hs a; intro a hs
                  refine wpList_nil (then_normal ?_)
                  refine wp_cond_true (hs.ev rfl) ?_
                  refine wp_seq ?_
                  refine wp_region_lit ?_
                  refine a_val hs rfl rfl rfl (y_assign hs rfl) ?_; clear hs a; intro a hs
                  refine wpList_nil (then_normal ?_)
                  refine wp_ret (then_ret (in_ret (then_ret (then_ret (in_ret (then_ret ?_))))))
                  refine fin_ret hs (.tmp (hs.slots _ _ rfl) .nil) ⟨?_, hs.mem.base⟩
                  rw [okProg_step hsi (okStep_no (by omega))]; rfl
                · replace h45 := of_decide_eq_false h45
                  refine a_valG hs rfl rfl rfl (y_faddr (k' := 0) 0 hs (by kernel_rfl) rfl rfl) ?_; clear hs a; intro a hs
                  refine a_valG hs rfl rfl rfl (y_load hs Tryd.underlying45 rfl rfl (fun w hw => (hw.to 0 rfl).cellV rfl)) ?_; clear hs a; intro a hs
                  refine a_valG hs rfl rfl rfl (y_cmp hs rfl rfl rfl) ?_; clear hs a; intro a hs
                  refine a_val hs rfl rfl rfl (y_pickF hs rfl rfl rfl) ?_; clear hs a; intro a hs
                  refine a_val hs rfl rfl rfl (y_move hs rfl) ?_; clear hs a; intro a hs
                  rcases hs.know (d := 50) rfl with ⟨h50, hs1⟩ | ⟨h50, hs1⟩ <;> replace hs := hs1 <;> clear hs1
                  · replace h50 := of_decide_eq_true h50
                    refine a_skip hs rfl rfl rfl ?_; clear hs a; intro a hs
                    refine a_skip hs rfl rfl rfl ?_; clear hs a; intro a hs
                    refine a_skip hs rfl rfl rfl ?_; clear hs a; intro a hs
                    refine a_val hs rfl rfl rfl (y_pickT hs rfl rfl rfl) ?_; clear hs a; intro a hs
                    refine a_val hs rfl rfl rfl (y_move hs rfl) ?_; clear hs a; intro a hs
                    refine a_skip hs rfl rfl rfl ?_; clear hs a; intro a hs
                    refine a_skip hs rfl rfl rfl ?_; clear hs a; intro a hs
                    refine a_skip hs rfl rfl rfl ?_; clear hs a; intro a hs
                    refine a_val hs rfl rfl rfl (y_pickT hs rfl rfl rfl) ?_; clear hs a; intro a hs
                    refine a_val hs rfl rfl rfl (y_move hs rfl) ?_; clear hs a; intro a hs
                    refine a_skip hs rfl rfl rfl ?_; clear hs a; intro a hs
                    refine a_skip hs rfl rfl rfl ?_; clear hs a; intro a hs
                    refine a_skip hs rfl rfl rfl ?_; clear hs a; intro a hs
                    refine a_val hs rfl rfl rfl (y_pickT hs rfl rfl rfl) ?_; clear hs a; intro a hs
                    refine a_val hs rfl rfl rfl (y_move hs rfl) ?_; clear hs a; intro a hs
                    refine a_skip hs rfl rfl rfl ?_; clear hs a; intro a hs
                    refine a_skip hs rfl rfl rfl ?_; clear hs a; intro a hs
                    refine a_skip hs rfl rfl rfl ?_; clear hs a; intro a hs
                    refine a_val hs rfl rfl rfl (y_pickT hs rfl rfl rfl) ?_; clear hs a; intro a hs
                    refine wpList_nil (then_normal ?_)
                    refine wp_cond_true (hs.ev rfl) ?_
                    refine wp_seq ?_
                    refine wp_region_lit ?_
                    refine a_val hs rfl rfl rfl (y_assign hs rfl) ?_; clear hs a; intro a hs
                    refine wpList_nil (then_normal ?_)
                    refine wp_ret (then_ret (in_ret (then_ret (then_ret (in_ret (then_ret ?_))))))
                    refine fin_ret hs (.tmp (hs.slots _ _ rfl) .nil) ⟨?_, hs.mem.base⟩
                    rw [okProg_step hsi (okStep_no (by omega))]; rfl
                  · replace h50 := of_decide_eq_false h50
                    refine a_valG hs rfl rfl rfl (y_faddr (k' := 1) 1 hs (by kernel_rfl) rfl rfl) ?_; clear hs a; intro a hs
                    refine a_valG hs rfl rfl rfl (y_load hs Tryd.underlying3 rfl rfl (fun w hw => (hw.to 0 rfl).cellV rfl)) ?_; clear hs a; intro a hs
                    refine a_valG hs rfl rfl rfl (y_cmp hs rfl rfl rfl) ?_; clear hs a; intro a hs
                    refine a_val hs rfl rfl rfl (y_pickF hs rfl rfl rfl) ?_; clear hs a; intro a hs
                    refine a_val hs rfl rfl rfl (y_move hs rfl) ?_; clear hs a; intro a hs
                    rcases hs.know (d := 55) rfl with ⟨h55, hs1⟩ | ⟨h55, hs1⟩ <;> replace hs := hs1 <;> clear hs1
                    · replace h55 := of_decide_eq_true h55
                      refine a_skip hs rfl rfl rfl ?_; clear hs a; intro a hs
                      refine a_skip hs rfl rfl rfl ?_; clear hs a; intro a hs
                      refine a_skip hs rfl rfl rfl ?_; clear hs a; intro a hs
                      refine a_val hs rfl rfl rfl (y_pickT hs rfl rfl rfl) ?_; clear hs a; intro a hs
                      refine a_val hs rfl rfl rfl (y_move hs rfl) ?_; clear hs a; intro a hs
                      refine a_skip hs rfl rfl rfl ?_; clear hs a; intro a hs
                      refine a_skip hs rfl rfl rfl ?_; clear hs a; intro a hs
                      refine a_skip hs rfl rfl rfl ?_; clear hs a; intro a hs
                      refine a_val hs rfl rfl rfl (y_pickT hs rfl rfl rfl) ?_; clear hs a; intro a hs
                      refine a_val hs rfl rfl rfl (y_move hs rfl) ?_; clear hs a; intro a hs
                      refine a_skip hs rfl rfl rfl ?_; clear hs a; intro a hs
                      refine a_skip hs rfl rfl rfl ?_; clear hs a; intro a hs
                      refine a_skip hs rfl rfl rfl ?_; clear hs a; intro a hs
                      refine a_val hs rfl rfl rfl (y_pickT hs rfl rfl rfl) ?_; clear hs a; intro a hs
                      refine wpList_nil (then_normal ?_)
                      refine wp_cond_true (hs.ev rfl) ?_
                      refine wp_seq ?_
                      refine wp_region_lit ?_
                      refine a_val hs rfl rfl rfl (y_assign hs rfl) ?_; clear hs a; intro a hs
                      refine wpList_nil (then_normal ?_)
                      refine wp_ret (then_ret (in_ret (then_ret (then_ret (in_ret (then_ret ?_))))))
                      refine fin_ret hs (.tmp (hs.slots _ _ rfl) .nil) ⟨?_, hs.mem.base⟩
                      rw [okProg_step hsi (okStep_no (by omega))]; rfl
                    · replace h55 := of_decide_eq_false h55
                      refine a_valG hs rfl rfl rfl (y_faddr (k' := 1) 1 hs (by kernel_rfl) rfl rfl) ?_; clear hs a; intro a hs
                      refine a_valG hs rfl rfl rfl (y_load hs Tryd.underlying3 rfl rfl (fun w hw => (hw.to 0 rfl).cellV rfl)) ?_; clear hs a; intro a hs
                      refine a_valG hs rfl rfl rfl (y_cmp hs rfl rfl rfl) ?_; clear hs a; intro a hs
                      refine a_val hs rfl rfl rfl (y_pickF hs rfl rfl rfl) ?_; clear hs a; intro a hs
                      refine a_val hs rfl rfl rfl (y_move hs rfl) ?_; clear hs a; intro a hs
                      rcases hs.know (d := 60) rfl with ⟨h60, hs1⟩ | ⟨h60, hs1⟩ <;> replace hs := hs1 <;> clear hs1
                      · replace h60 := of_decide_eq_true h60
                        refine a_skip hs rfl rfl rfl ?_; clear hs a; intro a hs
                        refine a_skip hs rfl rfl rfl ?_; clear hs a; intro a hs
                        refine a_skip hs rfl rfl rfl ?_; clear hs a; intro a hs
                        refine a_val hs rfl rfl rfl (y_pickT hs rfl rfl rfl) ?_; clear hs a; intro a hs
                        refine a_val hs rfl rfl rfl (y_move hs rfl) ?_; clear hs a; intro a hs
                        refine a_skip hs rfl rfl rfl ?_; clear hs a; intro a hs
                        refine a_skip hs rfl rfl rfl ?_; clear hs a; intro a hs
                        refine a_skip hs rfl rfl rfl ?_; clear hs a; intro a hs
                        refine a_val hs rfl rfl rfl (y_pickT hs rfl rfl rfl) ?_; clear hs a; intro a hs
                        refine wpList_nil (then_normal ?_)
                        refine wp_cond_true (hs.ev rfl) ?_
                        refine wp_seq ?_
                        refine wp_region_lit ?_
                        refine a_val hs rfl rfl rfl (y_assign hs rfl) ?_; clear hs a; intro a hs
                        refine wpList_nil (then_normal ?_)
                        refine wp_ret (then_ret (in_ret (then_ret (then_ret (in_ret (then_ret ?_))))))
                        refine fin_ret hs (.tmp (hs.slots _ _ rfl) .nil) ⟨?_, hs.mem.base⟩
                        rw [okProg_step hsi (okStep_no (by omega))]; rfl
                      · replace h60 := of_decide_eq_false h60
                        refine a_valG hs rfl rfl rfl (y_faddr (k' := 2) 2 hs (by kernel_rfl) rfl rfl) ?_; clear hs a; intro a hs
                        refine a_valG hs rfl rfl rfl (y_load hs Tryd.underlying3 rfl rfl (fun w hw => (hw.to 0 rfl).cellV rfl)) ?_; clear hs a; intro a hs
                        refine a_valG hs rfl rfl rfl (y_cmp hs rfl rfl rfl) ?_; clear hs a; intro a hs
                        refine a_val hs rfl rfl rfl (y_pickF hs rfl rfl rfl) ?_; clear hs a; intro a hs
                        refine a_val hs rfl rfl rfl (y_move hs rfl) ?_; clear hs a; intro a hs
                        rcases hs.know (d := 65) rfl with ⟨h65, hs1⟩ | ⟨h65, hs1⟩ <;> replace hs := hs1 <;> clear hs1
                        · replace h65 := of_decide_eq_true h65
                          refine a_skip hs rfl rfl rfl ?_; clear hs a; intro a hs
                          refine a_skip hs rfl rfl rfl ?_; clear hs a; intro a hs
                          refine a_skip hs rfl rfl rfl ?_; clear hs a; intro a hs
                          refine a_val hs rfl rfl rfl (y_pickT hs rfl rfl rfl) ?_; clear hs a; intro a hs
                          refine wpList_nil (then_normal ?_)
                          refine wp_cond_true (hs.ev rfl) ?_
                          refine wp_seq ?_
                          refine wp_region_lit ?_
                          refine a_val hs rfl rfl rfl (y_assign hs rfl) ?_; clear hs a; intro a hs
                          refine wpList_nil (then_normal ?_)
                          refine wp_ret (then_ret (in_ret (then_ret (then_ret (in_ret (then_ret ?_))))))
                          refine fin_ret hs (.tmp (hs.slots _ _ rfl) .nil) ⟨?_, hs.mem.base⟩
                          rw [okProg_step hsi (okStep_no (by omega))]; rfl
                        · replace h65 := of_decide_eq_false h65
                          refine a_valG hs rfl rfl rfl (y_faddr (k' := 2) 2 hs (by kernel_rfl) rfl rfl) ?_; clear hs a; intro a hs
                          refine a_valG hs rfl rfl rfl (y_load hs Tryd.underlying3 rfl rfl (fun w hw => (hw.to 0 rfl).cellV rfl)) ?_; clear hs a; intro a hs
                          refine a_valG hs rfl rfl rfl (y_cmp hs rfl rfl rfl) ?_; clear hs a; intro a hs
                          refine a_val hs rfl rfl rfl (y_pickF hs rfl rfl rfl) ?_; clear hs a; intro a hs
                          refine wpList_nil (then_normal ?_)
                          refine wp_cond_split (hs.ev rfl) (fun h69 => ?_) (fun h69 => ?_)
                          · replace h69 := of_decide_eq_true h69
                            refine wp_seq ?_
                            refine wp_region_lit ?_
                            refine a_val hs rfl rfl rfl (y_assign hs rfl) ?_; clear hs a; intro a hs
                            refine wpList_nil (then_normal ?_)
                            refine wp_ret (then_ret (in_ret (then_ret (then_ret (in_ret (then_ret ?_))))))
                            refine fin_ret hs (.tmp (hs.slots _ _ rfl) .nil) ⟨?_, hs.mem.base⟩
                            rw [okProg_step hsi (okStep_no (by omega))]; rfl
                          · replace h69 := of_decide_eq_false h69
                            refine wp_skip (then_normal ?_)
                            refine wp_seq ?_
                            refine wp_region_lit ?_
                            refine a_val hs rfl rfl rfl (y_faddr (k' := 0) 0 hs (by kernel_rfl) rfl rfl) ?_; clear hs a; intro a hs
                            refine a_val hs rfl rfl rfl (y_load hs Tryd.underlying45 rfl rfl (fun w hw => (hw.to 0 rfl).cellV rfl)) ?_; clear hs a; intro a hs
                            refine a_eff rfl (e_callB Tryd.func34 rfl rfl hs rfl rfl (ref_fields s.f0 (by omega) _) ?_); clear hs a; intro a w hs
                            refine a_val hs rfl rfl rfl (y_assign hs rfl) ?_; clear hs a; intro a hs
                            refine wpList_nil (then_normal ?_)
                            refine wp_seq ?_
                            refine wp_region_lit ?_
                            refine a_val hs rfl rfl rfl (y_move hs rfl) ?_; clear hs a; intro a hs
                            refine a_val hs rfl rfl rfl (y_cmp hs rfl rfl rfl) ?_; clear hs a; intro a hs
                            refine a_val hs rfl rfl rfl (y_move hs rfl) ?_; clear hs a; intro a hs
                            rcases hs.know (d := 75) rfl with ⟨h75, hs1⟩ | ⟨h75, hs1⟩ <;> replace hs := hs1 <;> clear hs1
                            · replace h75 := of_decide_eq_true h75
                              refine a_valG hs rfl rfl rfl (y_faddr (k' := 2) 2 hs (by kernel_rfl) rfl rfl) ?_; clear hs a; intro a hs
                              refine a_valG hs rfl rfl rfl (y_load hs Tryd.underlying3 rfl rfl (fun w hw => (hw.to 0 rfl).cellV rfl)) ?_; clear hs a; intro a hs
                              refine a_valG hs rfl rfl rfl (y_cmp hs rfl rfl rfl) ?_; clear hs a; intro a hs
                              refine a_val hs rfl rfl rfl (y_pickT hs rfl rfl rfl) ?_; clear hs a; intro a hs
                              refine a_val hs rfl rfl rfl (y_move hs rfl) ?_; clear hs a; intro a hs
                              rcases hs.know (d := 80) rfl with ⟨h80, hs1⟩ | ⟨h80, hs1⟩ <;> replace hs := hs1 <;> clear hs1
                              · replace h80 := bne_iff_ne.1 h80
                                refine a_skip hs rfl rfl rfl ?_; clear hs a; intro a hs
                                refine a_skip hs rfl rfl rfl ?_; clear hs a; intro a hs
                                refine a_skip hs rfl rfl rfl ?_; clear hs a; intro a hs
                                refine a_skip hs rfl rfl rfl ?_; clear hs a; intro a hs
                                refine a_skip hs rfl rfl rfl ?_; clear hs a; intro a hs
                                refine a_skip hs rfl rfl rfl ?_; clear hs a; intro a hs
                                refine a_skip hs rfl rfl rfl ?_; clear hs a; intro a hs
                                refine a_val hs rfl rfl rfl (y_pickT hs rfl rfl rfl) ?_; clear hs a; intro a hs
                                refine wpList_nil (then_normal ?_)
                                refine wp_cond_true (hs.ev rfl) ?_
                                refine wp_seq ?_
                                refine wp_region_lit ?_
                                refine a_val hs rfl rfl rfl (y_assign hs rfl) ?_; clear hs a; intro a hs
                                refine wpList_nil (then_normal ?_)
                                refine wp_ret (in_ret (then_ret (then_ret (in_ret (then_ret ?_)))))
                                refine fin_ret hs (.tmp (hs.slots _ _ rfl) .nil) ⟨?_, hs.mem.base⟩
                                rw [okProg_step hsi (okStep_no (by omega))]; rfl
                              · replace h80 := bne_eq_false_iff_eq.1 h80
                                refine a_valG hs rfl rfl rfl (y_move hs rfl) ?_; clear hs a; intro a hs
                                refine a_valG hs rfl rfl rfl (y_cmp hs rfl rfl rfl) ?_; clear hs a; intro a hs
                                refine a_valG hs rfl rfl rfl (y_move hs rfl) ?_; clear hs a; intro a hs
                                rcases hs.know (d := 83) rfl with ⟨h83, hs1⟩ | ⟨h83, hs1⟩ <;> replace hs := hs1 <;> clear hs1
                                · replace h83 := of_decide_eq_true h83
                                  refine a_valG hs rfl rfl rfl (y_faddr (k' := 3) 3 hs (by kernel_rfl) rfl rfl) ?_; clear hs a; intro a hs
                                  refine a_valG hs rfl rfl rfl (y_load hs Tryd.underlying5 rfl rfl (fun w hw => (hw.to 0 rfl).cellV rfl)) ?_; clear hs a; intro a hs
                                  refine a_valG hs rfl rfl rfl (y_cmp hs rfl rfl rfl) ?_; clear hs a; intro a hs
                                  refine a_valG hs rfl rfl rfl (y_pickT hs rfl rfl rfl) ?_; clear hs a; intro a hs
                                  refine a_val hs rfl rfl rfl (y_pickF hs rfl rfl rfl) ?_; clear hs a; intro a hs
                                  refine wpList_nil (then_normal ?_)
                                  refine wp_cond_split (hs.ev rfl) (fun h88 => ?_) (fun h88 => ?_)
                                  · replace h88 := bne_iff_ne.1 h88
                                    refine wp_seq ?_
                                    refine wp_region_lit ?_
                                    refine a_val hs rfl rfl rfl (y_assign hs rfl) ?_; clear hs a; intro a hs
                                    refine wpList_nil (then_normal ?_)
                                    refine wp_ret (in_ret (then_ret (then_ret (in_ret (then_ret ?_)))))
                                    refine fin_ret hs (.tmp (hs.slots _ _ rfl) .nil) ⟨?_, hs.mem.base⟩
                                    rw [okProg_step hsi (okStep_no (by omega))]; rfl
                                  · replace h88 := bne_eq_false_iff_eq.1 h88
                                    refine wp_skip (in_normal (then_normal ?_))
                                    refine wp_region_lit ?_
                                    refine a_val hs rfl rfl rfl (y_move hs rfl) ?_; clear hs a; intro a hs
                                    refine a_val hs rfl rfl rfl (y_add hs rfl rfl (by omega)) ?_; clear hs a; intro a hs
                                    refine a_val hs rfl rfl rfl (y_assign hs rfl) ?_; clear hs a; intro a hs
                                    refine wpList_nil (then_normal ?_)
                                    refine ⟨m - 1, by omega, i + 1, by omega, fun j u hj hu => (Nat.lt_succ_iff_lt_or_eq.1 hj).elim (fun h => hall j u h hu) (fun h => by subst h; rw [hsi] at hu; injection hu with hu; subst hu; exact decide_eq_true (by omega)), ?_⟩
                                    exact (hs.mem_to (hs.mem.to 0 rfl).drop).cut _ ⟨rfl, rfl, trivial⟩
                                · replace h83 := of_decide_eq_false h83
                                  refine a_skip hs rfl rfl rfl ?_; clear hs a; intro a hs
                                  refine a_skip hs rfl rfl rfl ?_; clear hs a; intro a hs
                                  refine a_skip hs rfl rfl rfl ?_; clear hs a; intro a hs
                                  refine a_valG hs rfl rfl rfl (y_pickF hs rfl rfl rfl) ?_; clear hs a; intro a hs
                                  refine a_val hs rfl rfl rfl (y_pickF hs rfl rfl rfl) ?_; clear hs a; intro a hs
                                  refine wpList_nil (then_normal ?_)
                                  refine wp_cond_false (hs.ev rfl) ?_
                                  refine wp_skip (in_normal (then_normal ?_))
                                  refine wp_region_lit ?_
                                  refine a_val hs rfl rfl rfl (y_move hs rfl) ?_; clear hs a; intro a hs
                                  refine a_val hs rfl rfl rfl (y_add hs rfl rfl (by omega)) ?_; clear hs a; intro a hs
                                  refine a_val hs rfl rfl rfl (y_assign hs rfl) ?_; clear hs a; intro a hs
                                  refine wpList_nil (then_normal ?_)
                                  refine ⟨m - 1, by omega, i + 1, by omega, fun j u hj hu => (Nat.lt_succ_iff_lt_or_eq.1 hj).elim (fun h => hall j u h hu) (fun h => by subst h; rw [hsi] at hu; injection hu with hu; subst hu; exact decide_eq_true (by omega)), ?_⟩
                                  exact (hs.mem_to (hs.mem.to 0 rfl).drop).cut _ ⟨rfl, rfl, trivial⟩
                            · replace h75 := of_decide_eq_false h75
                              refine a_skip hs rfl rfl rfl ?_; clear hs a; intro a hs
                              refine a_skip hs rfl rfl rfl ?_; clear hs a; intro a hs
                              refine a_skip hs rfl rfl rfl ?_; clear hs a; intro a hs
                              refine a_val hs rfl rfl rfl (y_pickF hs rfl rfl rfl) ?_; clear hs a; intro a hs
                              refine a_val hs rfl rfl rfl (y_move hs rfl) ?_; clear hs a; intro a hs
                              refine a_valG hs rfl rfl rfl (y_move hs rfl) ?_; clear hs a; intro a hs
                              refine a_valG hs rfl rfl rfl (y_cmp hs rfl rfl rfl) ?_; clear hs a; intro a hs
                              refine a_valG hs rfl rfl rfl (y_move hs rfl) ?_; clear hs a; intro a hs
                              rcases hs.know (d := 83) rfl with ⟨h83, hs1⟩ | ⟨h83, hs1⟩ <;> replace hs := hs1 <;> clear hs1
                              · replace h83 := of_decide_eq_true h83
                                refine a_valG hs rfl rfl rfl (y_faddr (k' := 3) 3 hs (by kernel_rfl) rfl rfl) ?_; clear hs a; intro a hs
                                refine a_valG hs rfl rfl rfl (y_load hs Tryd.underlying5 rfl rfl (fun w hw => (hw.to 0 rfl).cellV rfl)) ?_; clear hs a; intro a hs
                                refine a_valG hs rfl rfl rfl (y_cmp hs rfl rfl rfl) ?_; clear hs a; intro a hs
                                refine a_valG hs rfl rfl rfl (y_pickT hs rfl rfl rfl) ?_; clear hs a; intro a hs
                                refine a_val hs rfl rfl rfl (y_pickF hs rfl rfl rfl) ?_; clear hs a; intro a hs
                                refine wpList_nil (then_normal ?_)
                                refine wp_cond_split (hs.ev rfl) (fun h88 => ?_) (fun h88 => ?_)
                                · replace h88 := bne_iff_ne.1 h88
                                  refine wp_seq ?_
                                  refine wp_region_lit ?_
                                  refine a_val hs rfl rfl rfl (y_assign hs rfl) ?_; clear hs a; intro a hs
                                  refine wpList_nil (then_normal ?_)
                                  refine wp_ret (in_ret (then_ret (then_ret (in_ret (then_ret ?_)))))
                                  refine fin_ret hs (.tmp (hs.slots _ _ rfl) .nil) ⟨?_, hs.mem.base⟩
                                  rw [okProg_step hsi (okStep_no (by omega))]; rfl
                                · replace h88 := bne_eq_false_iff_eq.1 h88
                                  refine wp_skip (in_normal (then_normal ?_))
                                  refine wp_region_lit ?_
                                  refine a_val hs rfl rfl rfl (y_move hs rfl) ?_; clear hs a; intro a hs
                                  refine a_val hs rfl rfl rfl (y_add hs rfl rfl (by omega)) ?_; clear hs a; intro a hs
                                  refine a_val hs rfl rfl rfl (y_assign hs rfl) ?_; clear hs a; intro a hs
                                  refine wpList_nil (then_normal ?_)
                                  refine ⟨m - 1, by omega, i + 1, by omega, fun j u hj hu => (Nat.lt_succ_iff_lt_or_eq.1 hj).elim (fun h => hall j u h hu) (fun h => by subst h; rw [hsi] at hu; injection hu with hu; subst hu; exact decide_eq_true (by omega)), ?_⟩
                                  exact (hs.mem_to (hs.mem.to 0 rfl).drop).cut _ ⟨rfl, rfl, trivial⟩
                              · replace h83 := of_decide_eq_false h83
                                refine a_skip hs rfl rfl rfl ?_; clear hs a; intro a hs
                                refine a_skip hs rfl rfl rfl ?_; clear hs a; intro a hs
                                refine a_skip hs rfl rfl rfl ?_; clear hs a; intro a hs
                                refine a_valG hs rfl rfl rfl (y_pickF hs rfl rfl rfl) ?_; clear hs a; intro a hs
                                refine a_val hs rfl rfl rfl (y_pickF hs rfl rfl rfl) ?_; clear hs a; intro a hs
                                refine wpList_nil (then_normal ?_)
                                refine wp_cond_false (hs.ev rfl) ?_
                                refine wp_skip (in_normal (then_normal ?_))
                                refine wp_region_lit ?_
                                refine a_val hs rfl rfl rfl (y_move hs rfl) ?_; clear hs a; intro a hs
                                refine a_val hs rfl rfl rfl (y_add hs rfl rfl (by omega)) ?_; clear hs a; intro a hs
                                refine a_val hs rfl rfl rfl (y_assign hs rfl) ?_; clear hs a; intro a hs
                                refine wpList_nil (then_normal ?_)
                                refine ⟨m - 1, by omega, i + 1, by omega, fun j u hj hu => (Nat.lt_succ_iff_lt_or_eq.1 hj).elim (fun h => hall j u h hu) (fun h => by subst h; rw [hsi] at hu; injection hu with hu; subst hu; exact decide_eq_true (by omega)), ?_⟩
                                exact (hs.mem_to (hs.mem.to 0 rfl).drop).cut _ ⟨rfl, rfl, trivial⟩
              · replace h34 := of_decide_eq_false h34
                refine wp_exit (then_exit (then_exit (in_here (then_normal ?_))))
                refine wp_seq ?_
                refine wp_region_lit ?_
                refine a_val hs rfl rfl rfl (y_assign hs rfl) ?_; clear hs a; intro a hs
                refine wpList_nil (then_normal ?_)
                refine wp_ret ?_
                refine fin_ret hs (.tmp (hs.slots _ _ rfl) .nil) ⟨?_, hs.mem.base⟩
                rw [okProg_all (by omega) (fun j s hj h => hall j s (by omega) h)]; rfl

set_option maxRecDepth 100000 in
theorem emit_all (s : Stp) (hk : 0 ≤ s.f0 ∧ s.f0 ≤ 4) (h3 : 0 ≤ s.f3 ∧ s.f3 ≤ 255) (v0 : World) :
    Calls Tryd.prog 28 #[.agg #[.int .u8 s.f0, .int .i64 s.f1, .int .i64 s.f2, .int .u8 s.f3]] v0 fun e w' => ∃ g, e = .returned (.slice (some ⟨g, 0, none⟩) (fldN s.f0) 3) ∧ H v0 [pt g #[.int .i64 s.f1, .int .i64 s.f2, .int .i64 s.f3] 3] w' := by
  refine calls_enter (N := 16) (n := 15) (args := [.agg #[.int .u8 s.f0, .int .i64 s.f1, .int .i64 s.f2, .int .u8 s.f3]]) Tryd.func28 rfl rfl rfl (H.init v0) (fun a hs => ?_)
  refine wp_seq ?_
  refine wp_region_lit ?_
  refine a_eff rfl (e_box (cs := #[_, _, _, _]) hs rfl rfl rfl ?_); clear hs a; intro gs a w hs
  refine a_val hs rfl rfl rfl (y_assign hs rfl) ?_; clear hs a; intro a hs
  refine wpList_nil (then_normal ?_)
  refine wp_seq ?_
  refine b_enter [0] (by kernel_rfl) hs #[false, false, false, false, false, false, false, false, false, false, false, false, false, false] (by rfl) 14 (by rfl) ?_; clear hs; intro w hs
  refine b_take 0 rfl #[true, false, false, false, false, false, false, false, false, false, false, false, false, false] rfl (by kernel_rfl) hs ((hs.mem.first 1)) rfl rfl rfl (fun _ _ _ h => h) (y_faddr (k' := 1) 1 hs (by kernel_rfl) rfl rfl) ?_; clear hs a; intro a hs
  refine b_take 1 rfl #[true, true, false, false, false, false, false, false, false, false, false, false, false, false] rfl (by kernel_rfl) hs ((hs.mem.first 1)) rfl rfl rfl (fun _ _ _ h => h) (y_load hs Tryd.underlying3 rfl rfl (fun w hw => (hw.to 0 rfl).cellV rfl)) ?_; clear hs a; intro a hs
  refine b_take 2 rfl #[true, true, true, false, false, false, false, false, false, false, false, false, false, false] rfl (by kernel_rfl) hs ((hs.mem.first 1)) rfl rfl rfl (fun _ _ _ h => h) (y_faddr (k' := 2) 2 hs (by kernel_rfl) rfl rfl) ?_; clear hs a; intro a hs
  refine b_take 3 rfl #[true, true, true, true, false, false, false, false, false, false, false, false, false, false] rfl (by kernel_rfl) hs ((hs.mem.first 1)) rfl rfl rfl (fun _ _ _ h => h) (y_load hs Tryd.underlying3 rfl rfl (fun w hw => (hw.to 0 rfl).cellV rfl)) ?_; clear hs a; intro a hs
  refine b_take 4 rfl #[true, true, true, true, true, false, false, false, false, false, false, false, false, false] rfl (by kernel_rfl) hs ((hs.mem.first 1)) rfl rfl rfl (fun _ _ _ h => h) (y_faddr (k' := 3) 3 hs (by kernel_rfl) rfl rfl) ?_; clear hs a; intro a hs
  refine b_take 5 rfl #[true, true, true, true, true, true, false, false, false, false, false, false, false, false] rfl (by kernel_rfl) hs ((hs.mem.first 1)) rfl rfl rfl (fun _ _ _ h => h) (y_load hs Tryd.underlying5 rfl rfl (fun w hw => (hw.to 0 rfl).cellV rfl)) ?_; clear hs a; intro a hs
  refine b_take 6 rfl #[true, true, true, true, true, true, true, false, false, false, false, false, false, false] rfl (by kernel_rfl) hs ((hs.mem.first 1)) rfl rfl rfl (fun _ _ _ h => h) (y_conv (m := s.f3) hs Tryd.underlying5 Tryd.underlying3 rfl) ?_; clear hs a; intro a hs
  refine b_take 8 rfl #[true, true, true, true, true, true, true, false, true, false, false, false, false, false] rfl (by kernel_rfl) hs ((hs.mem.first 1)) rfl rfl rfl (fun _ _ _ h => h) (y_faddr (k' := 0) 0 hs (by kernel_rfl) rfl rfl) ?_; clear hs a; intro a hs
  refine b_take 9 rfl #[true, true, true, true, true, true, true, false, true, true, false, false, false, false] rfl (by kernel_rfl) hs ((hs.mem.first 1)) rfl rfl rfl (fun _ _ _ h => h) (y_load hs Tryd.underlying45 rfl rfl (fun w hw => (hw.to 0 rfl).cellV rfl)) ?_; clear hs a; intro a hs
  try replace hs := hs.say 9 rfl (congrArg (Value.int IntKind.i64) (i64_nat (n := s.f3) (by omega)))
  refine b_eff2 7 10 (by kernel_rfl) rfl rfl #[true, true, true, true, true, true, true, true, true, true, false, false, false, false] #[true, true, true, true, true, true, true, false, true, true, true, false, false, false] rfl rfl hs rfl rfl (e_bslice (z := .int .i64 0) (size := 1) (zc := #[.int .i64 0, .int .i64 0, .int .i64 0]) (cl := [_, _, _]) hs rfl Tryd.underlying59 (by kernel_rfl) rfl rfl rfl (by kernel_rfl) (by rfl) rfl ?_) (e_callB Tryd.func39 rfl rfl hs rfl rfl (emit_fields s.f0 hk _) ?_)
  · clear hs a; intro gl a w hs
    refine ⟨((hs.mem.to 1 rfl).first 1), ?_⟩
    refine b_eff 10 (by kernel_rfl) rfl #[true, true, true, true, true, true, true, true, true, true, true, false, false, false] rfl hs rfl (e_callB Tryd.func39 rfl rfl hs rfl rfl (emit_fields s.f0 hk _) ?_); clear hs a; intro a w hs
    refine ⟨((hs.mem.to 1 rfl).first 1), ?_⟩
    refine b_take 11 rfl #[true, true, true, true, true, true, true, true, true, true, true, true, false, false] rfl (by kernel_rfl) hs (((hs.mem.to 1 rfl).first 1)) rfl rfl rfl (fun _ _ _ h => h) (y_lenS hs Tryd.underlying9 rfl) ?_; clear hs a; intro a hs
    have hfs := fldS_size hk
    have hfl := fldN_le s.f0
    refine b_take 12 rfl #[true, true, true, true, true, true, true, true, true, true, true, true, true, false] rfl (by kernel_rfl) hs (((hs.mem.to 1 rfl).first 1)) rfl rfl rfl (fun _ _ _ h => h) (y_sliceF (size := 1) (h := fldN s.f0) hs Tryd.underlying59 (by kernel_rfl) rfl rfl (by rw [hfs]) (by omega)) ?_; clear hs a; intro a hs
    refine b_take 13 rfl #[true, true, true, true, true, true, true, true, true, true, true, true, true, true] rfl (by kernel_rfl) hs (((hs.mem.to 1 rfl).first 1)) rfl rfl rfl (fun _ _ _ h => h) (y_assign hs rfl) ?_; clear hs a; intro a hs
    refine b_done (by kernel_rfl) (then_normal ?_)
    refine wp_ret ?_
    refine fin_ret hs (.tmp (hs.slots _ _ rfl) .nil) ⟨gl, rfl, (hs.mem.to 1 rfl).drop⟩
  · clear hs a; intro a w hs
    refine ⟨(hs.mem.first 1), ?_⟩
    refine b_take 11 rfl #[true, true, true, true, true, true, true, false, true, true, true, true, false, false] rfl (by kernel_rfl) hs ((hs.mem.first 1)) rfl rfl rfl (fun _ _ _ h => h) (y_lenS hs Tryd.underlying9 rfl) ?_; clear hs a; intro a hs
    try replace hs := hs.say 9 rfl (congrArg (Value.int IntKind.i64) (i64_nat (n := s.f3) (by omega)))
    refine b_eff 7 (by kernel_rfl) rfl #[true, true, true, true, true, true, true, true, true, true, true, true, false, false] rfl hs rfl (e_bslice (z := .int .i64 0) (size := 1) (zc := #[.int .i64 0, .int .i64 0, .int .i64 0]) (cl := [_, _, _]) hs rfl Tryd.underlying59 (by kernel_rfl) rfl rfl rfl (by kernel_rfl) (by rfl) rfl ?_); clear hs a; intro gl a w hs
    refine ⟨((hs.mem.to 1 rfl).first 1), ?_⟩
    have hfs := fldS_size hk
    have hfl := fldN_le s.f0
    refine b_take 12 rfl #[true, true, true, true, true, true, true, true, true, true, true, true, true, false] rfl (by kernel_rfl) hs (((hs.mem.to 1 rfl).first 1)) rfl rfl rfl (fun _ _ _ h => h) (y_sliceF (size := 1) (h := fldN s.f0) hs Tryd.underlying59 (by kernel_rfl) rfl rfl (by rw [hfs]) (by omega)) ?_; clear hs a; intro a hs
    refine b_take 13 rfl #[true, true, true, true, true, true, true, true, true, true, true, true, true, true] rfl (by kernel_rfl) hs (((hs.mem.to 1 rfl).first 1)) rfl rfl rfl (fun _ _ _ h => h) (y_assign hs rfl) ?_; clear hs a; intro a hs
    refine b_done (by kernel_rfl) (then_normal ?_)
    refine wp_ret ?_
    refine fin_ret hs (.tmp (hs.slots _ _ rfl) .nil) ⟨gl, rfl, (hs.mem.to 1 rfl).drop⟩
end Go.Proofs.YtpdemfnemkmelaaDoor.E
