/- Which expressions may be: the walks of the walk's methods. No conditions. -/
import Derived.Test.YtibaidddhmdafaaDoorTSpec
import Derived.Test.YtibaidddhmdafaaDoorPAM0
namespace Go.Proofs.YtibaidddhmdafaaDoor.E
open Go Go.RowKit Go.Proofs.YtibaidddhmdafaaDoorW.PrintWords Go.Proofs.YtibaidddhmdafaaDoorW.PrintLast Go.Proofs.YtibaidddhmdafaaDoorW.PrintMore Go.Proofs.YtibaidddhmdafaaDoor.PA
set_option linter.unusedVariables false
set_option linter.unusedSimpArgs false
set_option maxRecDepth 100000 in
theorem walk_node (g : Nat) (left : Int) (hl : 0 ≤ left ∧ left ≤ 8192) (bs : List Res) (w0 w : World) (h : H w0 (pt g #[.int .i64 (left)] 102 :: bs) w) :
    Calls Tryd.prog 74 #[.pointer (some ⟨g, 0, none⟩)] w fun e w' => e = .returned (.bool (decide (left - 1 ≥ 0))) ∧ H w0 (pt g #[.int .i64 (left - 1)] 102 :: bs) w' := by
  refine calls_enter (N := 15) (n := 14) (args := [.pointer (some ⟨g, 0, none⟩)]) Tryd.func74 rfl rfl rfl (h) (fun a hs => ?_)
  refine wp_seq ?_
  refine wp_region_lit ?_
  refine a_val hs rfl rfl rfl (y_assign hs rfl) ?_; clear hs a; intro a hs
  refine wpList_nil (then_normal ?_)
  refine wp_seq ?_
  refine wp_region_lit ?_
  refine a_val hs rfl rfl rfl (y_move hs rfl) ?_; clear hs a; intro a hs
  refine a_val hs rfl rfl rfl (y_nilchk hs rfl) ?_; clear hs a; intro a hs
  refine a_val hs rfl rfl rfl (y_faddr (k' := 0) 0 hs (by kernel_rfl) rfl rfl) ?_; clear hs a; intro a hs
  refine a_val hs rfl rfl rfl (y_load hs Tryd.underlying3 rfl rfl (fun w hw => (hw.to 0 rfl).cellV rfl)) ?_; clear hs a; intro a hs
  refine a_val hs rfl rfl rfl (y_sub hs rfl rfl (by omega)) ?_; clear hs a; intro a hs
  refine a_val hs rfl rfl rfl (y_nilchk hs rfl) ?_; clear hs a; intro a hs
  refine a_val hs rfl rfl rfl (y_faddr (k' := 0) 0 hs (by kernel_rfl) rfl rfl) ?_; clear hs a; intro a hs
  refine a_eff rfl (e_store (cl := [_]) 0 rfl hs rfl rfl (by kernel_rfl) rfl rfl rfl ?_); clear hs a; intro a w hs
  refine wpList_nil (then_normal ?_)
  refine wp_seq ?_
  refine wp_region_lit ?_
  refine a_val hs rfl rfl rfl (y_move hs rfl) ?_; clear hs a; intro a hs
  refine a_val hs rfl rfl rfl (y_nilchk hs rfl) ?_; clear hs a; intro a hs
  refine a_val hs rfl rfl rfl (y_faddr (k' := 0) 0 hs (by kernel_rfl) rfl rfl) ?_; clear hs a; intro a hs
  refine a_val hs rfl rfl rfl (y_load hs Tryd.underlying3 rfl rfl (fun w hw => (hw.to 0 rfl).cellV rfl)) ?_; clear hs a; intro a hs
  refine a_val hs rfl rfl rfl (y_cmp hs rfl rfl rfl) ?_; clear hs a; intro a hs
  refine a_val hs rfl rfl rfl (y_assign hs rfl) ?_; clear hs a; intro a hs
  refine wpList_nil (then_normal ?_)
  refine wp_ret ?_
  refine fin_ret hs (.tmp (hs.slots _ _ rfl) .nil) ⟨rfl, hs.mem⟩

theorem tnamed_ok (s : ByteArray) (hs : s.size ≤ 9223372036854775807) : tree_named.f (s.size + 3) s = some (nameOk s) := by
  unfold tree_named.f
  rw [may_name s hs]; rfl
/-- What the walk over expressions does, so many levels being allowed. -/
def WalkOk (n : Nat) : Prop := ∀ (x : XE) (A : Option Addr) (C g : Nat) (left : Int) (bs : List Res) (w0 w : World), Kd.C k25 w0 A x.f3.length x.f3 → smallX n x → 0 ≤ left ∧ left ≤ 8192 → H w0 (pt g #[.int .i64 (left)] 102 :: bs) w →
    Calls Tryd.prog 44 #[.pointer (some ⟨g, 0, none⟩), .agg #[.int .u8 x.f0, .int .i64 x.f1, .string x.f2, .slice A x.f3.length C, .int .i64 x.f4, .int .i64 x.f5], .int .i64 ((n : Nat) : Int)] w fun e w' => e = .returned (.int .i64 (((xexpr n x left).1 : Nat) : Int)) ∧ H w0 (pt g #[.int .i64 ((xexpr n x left).2)] 102 :: bs) w'

set_option maxRecDepth 100000 in
theorem walk_expr_step (n : Nat) (hn : n ≤ 1000) (ih : ∀ q, q + 1 = n → WalkOk q) (x : XE) (A : Option Addr) (C g : Nat) (left : Int) (bs : List Res) (w0 w : World) (hA : Kd.C k25 w0 A x.f3.length x.f3) (hsm : smallX n x) (hl : 0 ≤ left ∧ left ≤ 8192) (h : H w0 (pt g #[.int .i64 (left)] 102 :: bs) w) :
    Calls Tryd.prog 44 #[.pointer (some ⟨g, 0, none⟩), .agg #[.int .u8 x.f0, .int .i64 x.f1, .string x.f2, .slice A x.f3.length C, .int .i64 x.f4, .int .i64 x.f5], .int .i64 ((n : Nat) : Int)] w fun e w' => e = .returned (.int .i64 (((xexpr n x left).1 : Nat) : Int)) ∧ H w0 (pt g #[.int .i64 ((xexpr n x left).2)] 102 :: bs) w' := by
  refine calls_enter (N := 92) (n := 89) (args := [.pointer (some ⟨g, 0, none⟩), .agg #[.int .u8 x.f0, .int .i64 x.f1, .string x.f2, .slice A x.f3.length C, .int .i64 x.f4, .int .i64 x.f5], .int .i64 ((n : Nat) : Int)]) Tryd.func44 rfl rfl rfl (h) (fun a hs => ?_)
  refine wp_seq ?_
  refine wp_region_lit ?_
  refine a_eff rfl (e_box (cs := #[_, _, _, _, _, _]) hs rfl rfl rfl ?_); clear hs a; intro gx a w hs
  refine a_val hs rfl rfl rfl (y_assign hs rfl) ?_; clear hs a; intro a hs
  refine wpList_nil (then_normal ?_)
  refine wp_seq ?_
  refine wp_seq ?_
  refine wp_region_lit ?_
  refine a_val hs rfl rfl rfl (y_move hs rfl) ?_; clear hs a; intro a hs
  refine a_val hs rfl rfl rfl (y_cmp hs rfl rfl rfl) ?_; clear hs a; intro a hs
  refine a_val hs rfl rfl rfl (y_move hs rfl) ?_; clear hs a; intro a hs
  rcases hs.know (d := 14) rfl with ⟨h14, hs1⟩ | ⟨h14, hs1⟩ <;> replace hs := hs1 <;> clear hs1
  · replace h14 := eq_of_beq h14
    refine a_skip hs rfl rfl rfl ?_; clear hs a; intro a hs
    refine a_skip hs rfl rfl rfl ?_; clear hs a; intro a hs
    refine a_skip hs rfl rfl rfl ?_; clear hs a; intro a hs
    refine a_val hs rfl rfl rfl (y_pickT hs rfl rfl rfl) ?_; clear hs a; intro a hs
    refine wpList_nil (then_normal ?_)
    refine wp_cond_true (hs.ev rfl) ?_
    refine wp_seq ?_
    refine wp_region_lit ?_
    refine a_val hs rfl rfl rfl (y_assign hs rfl) ?_; clear hs a; intro a hs
    refine wpList_nil (then_normal ?_)
    refine wp_ret (then_ret ?_)
    obtain rfl : n = 0 := by omega
    have hX : xexpr 0 x left = (0, left) := rfl
    refine fin_ret hs (.tmp (hs.slots _ _ rfl) .nil) ⟨?_, ?_⟩
    · rw [hX]; rfl
    · rw [hX]; exact (hs.mem.to 0 rfl).drop
  · replace h14 := ne_of_beq_false h14
    obtain ⟨q, rfl⟩ : ∃ q, n = q + 1 := ⟨n - 1, by omega⟩
    refine a_valG hs rfl rfl rfl (y_move hs rfl) ?_; clear hs a; intro a hs
    refine a_effG hs rfl (e_callX Tryd.func74 rfl rfl hs rfl rfl (walk_node g left hl _ w0 _ (hs.mem.to 1 rfl)) (fun e w1 ⟨he, hm⟩ => ⟨_, he, _, hm, ?_⟩)); clear hs a; intro a hs
    refine a_valG hs rfl rfl rfl (y_not hs rfl) ?_; clear hs a; intro a hs
    refine a_val hs rfl rfl rfl (y_pickF hs rfl rfl rfl) ?_; clear hs a; intro a hs
    refine wpList_nil (then_normal ?_)
    refine wp_cond_split (hs.ev rfl) (fun h18 => ?_) (fun h18 => ?_)
    · replace h18 := of_decide_eq_false (not_t h18)
      refine wp_seq ?_
      refine wp_region_lit ?_
      refine a_val hs rfl rfl rfl (y_assign hs rfl) ?_; clear hs a; intro a hs
      refine wpList_nil (then_normal ?_)
      refine wp_ret (then_ret ?_)
      have hX : xexpr (q + 1) x left = (0, left - 1) := by rw [xexpr, if_pos (by omega)]
      refine fin_ret hs (.tmp (hs.slots _ _ rfl) .nil) ⟨?_, ?_⟩
      · rw [hX]; rfl
      · rw [hX]; exact (hs.mem.to 1 rfl).drop
    · replace h18 := of_decide_eq_true (not_f h18)
      refine wp_skip (then_normal ?_)
      refine wp_seq ?_
      refine wp_region_lit ?_
      refine a_val hs rfl rfl rfl (y_assign hs rfl) ?_; clear hs a; intro a hs
      refine wpList_nil (then_normal ?_)
      refine wp_seq_cut (fun a w1 => ∃ (p : Nat), (exprParts x = some p) ∧ St 92 w0 [(0, .pointer (some ⟨g, 0, none⟩)), (2, .int .i64 ((q + 1 : Nat) : Int)), (4, .pointer (some ⟨gx, 0, none⟩)), (7, .int .i64 ((p : Nat) : Int))] (pt gx #[.int .u8 x.f0, .int .i64 x.f1, .string x.f2, .slice A x.f3.length C, .int .i64 x.f4, .int .i64 x.f5] 25 :: pt g #[.int .i64 (left - 1)] 102 :: bs) a w1) ?_ (fun a w1 hJ => ?_)
      · refine wp_seq ?_
        refine wp_region_lit ?_
        refine a_val hs rfl rfl rfl (y_faddr (k' := 0) 0 hs (by kernel_rfl) rfl rfl) ?_; clear hs a; intro a hs
        refine a_val hs rfl rfl rfl (y_load hs Tryd.underlying22 rfl rfl (fun w hw => (hw.to 1 rfl).cellV rfl)) ?_; clear hs a; intro a hs
        refine wpList_nil (then_normal ?_)
        refine wp_block ?_
        refine wp_seq ?_
        refine wp_block ?_
        refine wp_seq ?_
        refine wp_block ?_
        refine wp_seq ?_
        refine wp_block ?_
        refine wp_seq ?_
        refine wp_block ?_
        refine wp_seq ?_
        refine wp_block ?_
        refine wp_seq ?_
        refine wp_seq ?_
        refine wp_seq ?_
        refine wp_region_lit ?_
        refine a_val hs rfl rfl rfl (y_cmp hs rfl rfl rfl) ?_; clear hs a; intro a hs
        refine a_val hs rfl rfl rfl (y_assign hs rfl) ?_; clear hs a; intro a hs
        refine wpList_nil (then_normal ?_)
        refine wp_cond_split (hs.ev rfl) (fun h21 => ?_) (fun h21 => ?_)
        · replace h21 := eq_of_beq h21
          refine wp_exit (then_exit (then_exit (in_here (then_normal ?_))))
          refine wp_seq ?_
          refine wp_seq ?_
          refine wp_region_lit ?_
          refine a_val hs rfl rfl rfl (y_faddr (k' := 1) 1 hs (by kernel_rfl) rfl rfl) ?_; clear hs a; intro a hs
          refine a_val hs rfl rfl rfl (y_load hs Tryd.underlying3 rfl rfl (fun w hw => (hw.to 1 rfl).cellV rfl)) ?_; clear hs a; intro a hs
          refine a_val hs rfl rfl rfl (y_cmp hs rfl rfl rfl) ?_; clear hs a; intro a hs
          refine a_val hs rfl rfl rfl (y_move hs rfl) ?_; clear hs a; intro a hs
          rcases hs.know (d := 36) rfl with ⟨h36, hs1⟩ | ⟨h36, hs1⟩ <;> replace hs := hs1 <;> clear hs1
          · replace h36 := of_decide_eq_true h36
            refine a_skip hs rfl rfl rfl ?_; clear hs a; intro a hs
            refine a_skip hs rfl rfl rfl ?_; clear hs a; intro a hs
            refine a_skip hs rfl rfl rfl ?_; clear hs a; intro a hs
            refine a_val hs rfl rfl rfl (y_pickT hs rfl rfl rfl) ?_; clear hs a; intro a hs
            refine a_val hs rfl rfl rfl (y_move hs rfl) ?_; clear hs a; intro a hs
            refine a_skip hs rfl rfl rfl ?_; clear hs a; intro a hs
            refine a_skip hs rfl rfl rfl ?_; clear hs a; intro a hs
            refine a_skip hs rfl rfl rfl ?_; clear hs a; intro a hs
            refine a_val hs rfl rfl rfl (y_pickT hs rfl rfl rfl) ?_; clear hs a; intro a hs
            refine wpList_nil (then_normal ?_)
            refine wp_cond_true (hs.ev rfl) ?_
            refine wp_seq ?_
            refine wp_region_lit ?_
            refine a_val hs rfl rfl rfl (y_assign hs rfl) ?_; clear hs a; intro a hs
            refine wpList_nil (then_normal ?_)
            refine wp_ret (then_ret (in_ret (then_ret (in_ret (then_ret (in_ret (then_ret (in_ret (then_ret (in_ret (then_ret ?_)))))))))))
            have hE : exprParts x = none := by
              clear hs
              unfold exprParts
              repeat' split
              all_goals first | rfl | (exfalso; omega) | (rename_i hc; exfalso; omega) | (rename_i hc; exact absurd hc.2 (by assumption)) | (rename_i hc; rw [hc.2] at h54; cases h54)
            have hX : xexpr (q + 1) x left = (0, left - 1) := by rw [xexpr, if_neg (by omega), hE]
            refine fin_ret hs (.tmp (hs.slots _ _ rfl) .nil) ⟨?_, ?_⟩
            · rw [hX]; rfl
            · rw [hX]; exact (hs.mem.to 1 rfl).drop
          · replace h36 := of_decide_eq_false h36
            refine a_valG hs rfl rfl rfl (y_faddr (k' := 1) 1 hs (by kernel_rfl) rfl rfl) ?_; clear hs a; intro a hs
            refine a_valG hs rfl rfl rfl (y_load hs Tryd.underlying3 rfl rfl (fun w hw => (hw.to 1 rfl).cellV rfl)) ?_; clear hs a; intro a hs
            refine a_valG hs rfl rfl rfl (y_cmp hs rfl rfl rfl) ?_; clear hs a; intro a hs
            refine a_val hs rfl rfl rfl (y_pickF hs rfl rfl rfl) ?_; clear hs a; intro a hs
            refine a_val hs rfl rfl rfl (y_move hs rfl) ?_; clear hs a; intro a hs
            rcases hs.know (d := 41) rfl with ⟨h41, hs1⟩ | ⟨h41, hs1⟩ <;> replace hs := hs1 <;> clear hs1
            · replace h41 := of_decide_eq_true h41
              refine a_skip hs rfl rfl rfl ?_; clear hs a; intro a hs
              refine a_skip hs rfl rfl rfl ?_; clear hs a; intro a hs
              refine a_skip hs rfl rfl rfl ?_; clear hs a; intro a hs
              refine a_val hs rfl rfl rfl (y_pickT hs rfl rfl rfl) ?_; clear hs a; intro a hs
              refine wpList_nil (then_normal ?_)
              refine wp_cond_true (hs.ev rfl) ?_
              refine wp_seq ?_
              refine wp_region_lit ?_
              refine a_val hs rfl rfl rfl (y_assign hs rfl) ?_; clear hs a; intro a hs
              refine wpList_nil (then_normal ?_)
              refine wp_ret (then_ret (in_ret (then_ret (in_ret (then_ret (in_ret (then_ret (in_ret (then_ret (in_ret (then_ret ?_)))))))))))
              have hE : exprParts x = none := by
                clear hs
                unfold exprParts
                repeat' split
                all_goals first | rfl | (exfalso; omega) | (rename_i hc; exfalso; omega) | (rename_i hc; exact absurd hc.2 (by assumption)) | (rename_i hc; rw [hc.2] at h54; cases h54)
              have hX : xexpr (q + 1) x left = (0, left - 1) := by rw [xexpr, if_neg (by omega), hE]
              refine fin_ret hs (.tmp (hs.slots _ _ rfl) .nil) ⟨?_, ?_⟩
              · rw [hX]; rfl
              · rw [hX]; exact (hs.mem.to 1 rfl).drop
            · replace h41 := of_decide_eq_false h41
              refine a_valG hs rfl rfl rfl (y_faddr (k' := 2) 2 hs (by kernel_rfl) rfl rfl) ?_; clear hs a; intro a hs
              refine a_valG hs rfl rfl rfl (y_load hs Tryd.underlying9 rfl rfl (fun w hw => (hw.to 1 rfl).cellV rfl)) ?_; clear hs a; intro a hs
              refine a_valG hs rfl rfl rfl (y_sneE hs rfl rfl) ?_; clear hs a; intro a hs
              refine a_val hs rfl rfl rfl (y_pickF hs rfl rfl rfl) ?_; clear hs a; intro a hs
              refine wpList_nil (then_normal ?_)
              refine wp_cond_split (hs.ev rfl) (fun h45 => ?_) (fun h45 => ?_)
              · replace h45 := of_decide_eq_true h45
                refine wp_seq ?_
                refine wp_region_lit ?_
                refine a_val hs rfl rfl rfl (y_assign hs rfl) ?_; clear hs a; intro a hs
                refine wpList_nil (then_normal ?_)
                refine wp_ret (then_ret (in_ret (then_ret (in_ret (then_ret (in_ret (then_ret (in_ret (then_ret (in_ret (then_ret ?_)))))))))))
                have hE : exprParts x = none := by
                  clear hs
                  unfold exprParts
                  repeat' split
                  all_goals first | rfl | (exfalso; omega) | (rename_i hc; exfalso; omega) | (rename_i hc; exact absurd hc.2 (by assumption)) | (rename_i hc; rw [hc.2] at h54; cases h54)
                have hX : xexpr (q + 1) x left = (0, left - 1) := by rw [xexpr, if_neg (by omega), hE]
                refine fin_ret hs (.tmp (hs.slots _ _ rfl) .nil) ⟨?_, ?_⟩
                · rw [hX]; rfl
                · rw [hX]; exact (hs.mem.to 1 rfl).drop
              · replace h45 := of_decide_eq_false h45
                refine wp_skip (then_normal ?_)
                refine wp_exit (in_other rfl (then_exit (in_other rfl (then_exit (in_other rfl (then_exit (in_other rfl (then_exit (in_here (then_normal ?_))))))))))
                refine ⟨0, by clear hs; unfold exprParts; (repeat' split) <;> first | rfl | (exfalso; omega) | (rename_i hc; exfalso; omega) | (rename_i hc; exact absurd ⟨by omega, by assumption⟩ hc), ?_⟩
                exact (hs.mem_to (hs.mem.to 1 rfl)).cut _ ⟨rfl, rfl, rfl, rfl, trivial⟩
        · replace h21 := ne_of_beq_false h21
          refine wp_skip (then_normal ?_)
          refine wp_seq ?_
          refine wp_seq ?_
          refine wp_region_lit ?_
          refine a_val hs rfl rfl rfl (y_cmp hs rfl rfl rfl) ?_; clear hs a; intro a hs
          refine a_val hs rfl rfl rfl (y_assign hs rfl) ?_; clear hs a; intro a hs
          refine wpList_nil (then_normal ?_)
          refine wp_cond_split (hs.ev rfl) (fun h23 => ?_) (fun h23 => ?_)
          · replace h23 := eq_of_beq h23
            refine wp_exit (then_exit (then_exit (in_other rfl (then_exit (in_here (then_normal ?_))))))
            refine wp_seq ?_
            refine wp_seq ?_
            refine wp_region_lit ?_
            refine a_val hs rfl rfl rfl (y_faddr (k' := 1) 1 hs (by kernel_rfl) rfl rfl) ?_; clear hs a; intro a hs
            refine a_val hs rfl rfl rfl (y_load hs Tryd.underlying3 rfl rfl (fun w hw => (hw.to 1 rfl).cellV rfl)) ?_; clear hs a; intro a hs
            refine a_val hs rfl rfl rfl (y_cmp hs rfl rfl rfl) ?_; clear hs a; intro a hs
            refine a_val hs rfl rfl rfl (y_move hs rfl) ?_; clear hs a; intro a hs
            rcases hs.know (d := 49) rfl with ⟨h49, hs1⟩ | ⟨h49, hs1⟩ <;> replace hs := hs1 <;> clear hs1
            · replace h49 := bne_iff_ne.1 h49
              refine a_skip hs rfl rfl rfl ?_; clear hs a; intro a hs
              refine a_skip hs rfl rfl rfl ?_; clear hs a; intro a hs
              refine a_skip hs rfl rfl rfl ?_; clear hs a; intro a hs
              refine a_skip hs rfl rfl rfl ?_; clear hs a; intro a hs
              refine a_val hs rfl rfl rfl (y_pickT hs rfl rfl rfl) ?_; clear hs a; intro a hs
              refine wpList_nil (then_normal ?_)
              refine wp_cond_true (hs.ev rfl) ?_
              refine wp_seq ?_
              refine wp_region_lit ?_
              refine a_val hs rfl rfl rfl (y_assign hs rfl) ?_; clear hs a; intro a hs
              refine wpList_nil (then_normal ?_)
              refine wp_ret (then_ret (in_ret (then_ret (in_ret (then_ret (in_ret (then_ret (in_ret (then_ret ?_)))))))))
              have hE : exprParts x = none := by
                clear hs
                unfold exprParts
                repeat' split
                all_goals first | rfl | (exfalso; omega) | (rename_i hc; exfalso; omega) | (rename_i hc; exact absurd hc.2 (by assumption)) | (rename_i hc; rw [hc.2] at h54; cases h54)
              have hX : xexpr (q + 1) x left = (0, left - 1) := by rw [xexpr, if_neg (by omega), hE]
              refine fin_ret hs (.tmp (hs.slots _ _ rfl) .nil) ⟨?_, ?_⟩
              · rw [hX]; rfl
              · rw [hX]; exact (hs.mem.to 1 rfl).drop
            · replace h49 := bne_eq_false_iff_eq.1 h49
              refine a_valG hs rfl rfl rfl (y_faddr (k' := 2) 2 hs (by kernel_rfl) rfl rfl) ?_; clear hs a; intro a hs
              refine a_valG hs rfl rfl rfl (y_load hs Tryd.underlying9 rfl rfl (fun w hw => (hw.to 1 rfl).cellV rfl)) ?_; clear hs a; intro a hs
              refine a_effG hs rfl (e_callB Tryd.func75 rfl rfl hs rfl rfl (tree_named.calls _ x.f2 (nameOk x.f2) _ (tnamed_ok x.f2 hsm.1)) ?_); clear hs a; intro a w hs
              refine a_valG hs rfl rfl rfl (y_not hs rfl) ?_; clear hs a; intro a hs
              refine a_val hs rfl rfl rfl (y_pickF hs rfl rfl rfl) ?_; clear hs a; intro a hs
              refine wpList_nil (then_normal ?_)
              refine wp_cond_split (hs.ev rfl) (fun h54 => ?_) (fun h54 => ?_)
              · replace h54 := (not_t h54)
                refine wp_seq ?_
                refine wp_region_lit ?_
                refine a_val hs rfl rfl rfl (y_assign hs rfl) ?_; clear hs a; intro a hs
                refine wpList_nil (then_normal ?_)
                refine wp_ret (then_ret (in_ret (then_ret (in_ret (then_ret (in_ret (then_ret (in_ret (then_ret ?_)))))))))
                have hE : exprParts x = none := by
                  clear hs
                  unfold exprParts
                  repeat' split
                  all_goals first | rfl | (exfalso; omega) | (rename_i hc; exfalso; omega) | (rename_i hc; exact absurd hc.2 (by assumption)) | (rename_i hc; rw [hc.2] at h54; cases h54)
                have hX : xexpr (q + 1) x left = (0, left - 1) := by rw [xexpr, if_neg (by omega), hE]
                refine fin_ret hs (.tmp (hs.slots _ _ rfl) .nil) ⟨?_, ?_⟩
                · rw [hX]; rfl
                · rw [hX]; exact (hs.mem.to 1 rfl).drop
              · replace h54 := (not_f h54)
                refine wp_skip (then_normal ?_)
                refine wp_exit (in_other rfl (then_exit (in_other rfl (then_exit (in_other rfl (then_exit (in_here (then_normal ?_))))))))
                refine ⟨0, by clear hs; unfold exprParts; (repeat' split) <;> first | rfl | (exfalso; omega) | (rename_i hc; exfalso; omega) | (rename_i hc; exact absurd ⟨by omega, by assumption⟩ hc), ?_⟩
                exact (hs.mem_to (hs.mem.to 1 rfl)).cut _ ⟨rfl, rfl, rfl, rfl, trivial⟩
          · replace h23 := ne_of_beq_false h23
            refine wp_skip (then_normal ?_)
            refine wp_seq ?_
            refine wp_seq ?_
            refine wp_seq ?_
            refine wp_region_lit ?_
            refine a_val hs rfl rfl rfl (y_cmp hs rfl rfl rfl) ?_; clear hs a; intro a hs
            refine a_val hs rfl rfl rfl (y_assign hs rfl) ?_; clear hs a; intro a hs
            refine wpList_nil (then_normal ?_)
            refine wp_cond_split (hs.ev rfl) (fun h25 => ?_) (fun h25 => ?_)
            · replace h25 := eq_of_beq h25
              replace hs := hs.say 25 rfl (congrArg Value.bool (beq_iff_eq.2 h25))
              refine wp_skip (then_normal ?_)
              refine wp_cond_true (hs.ev rfl) ?_
              refine wp_exit (then_exit (then_exit (in_other rfl (then_exit (in_other rfl (then_exit (in_here (then_normal ?_))))))))
              refine wp_region_lit ?_
              refine a_val hs rfl rfl rfl (y_move hs rfl) ?_; clear hs a; intro a hs
              refine a_val hs rfl rfl rfl (y_add hs rfl rfl (by omega)) ?_; clear hs a; intro a hs
              refine a_val hs rfl rfl rfl (y_assign hs rfl) ?_; clear hs a; intro a hs
              refine wpList_nil (in_normal (then_normal ?_))
              refine wp_seq ?_
              refine wp_seq ?_
              refine wp_region_lit ?_
              refine a_val hs rfl rfl rfl (y_move hs rfl) ?_; clear hs a; intro a hs
              refine a_val hs rfl rfl rfl (y_add hs rfl rfl (by omega)) ?_; clear hs a; intro a hs
              refine a_val hs rfl rfl rfl (y_assign hs rfl) ?_; clear hs a; intro a hs
              refine wpList_nil (then_normal ?_)
              refine wp_seq ?_
              refine wp_region_lit ?_
              refine a_val hs rfl rfl rfl (y_faddr (k' := 1) 1 hs (by kernel_rfl) rfl rfl) ?_; clear hs a; intro a hs
              refine a_val hs rfl rfl rfl (y_load hs Tryd.underlying3 rfl rfl (fun w hw => (hw.to 1 rfl).cellV rfl)) ?_; clear hs a; intro a hs
              refine a_val hs rfl rfl rfl (y_cmp hs rfl rfl rfl) ?_; clear hs a; intro a hs
              refine a_val hs rfl rfl rfl (y_move hs rfl) ?_; clear hs a; intro a hs
              rcases hs.know (d := 62) rfl with ⟨h62, hs1⟩ | ⟨h62, hs1⟩ <;> replace hs := hs1 <;> clear hs1
              · replace h62 := bne_iff_ne.1 h62
                refine a_skip hs rfl rfl rfl ?_; clear hs a; intro a hs
                refine a_skip hs rfl rfl rfl ?_; clear hs a; intro a hs
                refine a_skip hs rfl rfl rfl ?_; clear hs a; intro a hs
                refine a_val hs rfl rfl rfl (y_pickT hs rfl rfl rfl) ?_; clear hs a; intro a hs
                refine wpList_nil (then_normal ?_)
                refine wp_cond_true (hs.ev rfl) ?_
                refine wp_seq ?_
                refine wp_region_lit ?_
                refine a_val hs rfl rfl rfl (y_assign hs rfl) ?_; clear hs a; intro a hs
                refine wpList_nil (then_normal ?_)
                refine wp_ret (then_ret (in_ret (then_ret (in_ret (then_ret ?_)))))
                have hE : exprParts x = none := by
                  clear hs
                  unfold exprParts
                  repeat' split
                  all_goals first | rfl | (exfalso; omega) | (rename_i hc; exfalso; omega) | (rename_i hc; exact absurd hc.2 (by assumption)) | (rename_i hc; rw [hc.2] at h54; cases h54)
                have hX : xexpr (q + 1) x left = (0, left - 1) := by rw [xexpr, if_neg (by omega), hE]
                refine fin_ret hs (.tmp (hs.slots _ _ rfl) .nil) ⟨?_, ?_⟩
                · rw [hX]; rfl
                · rw [hX]; exact (hs.mem.to 1 rfl).drop
              · replace h62 := bne_eq_false_iff_eq.1 h62
                refine a_valG hs rfl rfl rfl (y_faddr (k' := 2) 2 hs (by kernel_rfl) rfl rfl) ?_; clear hs a; intro a hs
                refine a_valG hs rfl rfl rfl (y_load hs Tryd.underlying9 rfl rfl (fun w hw => (hw.to 1 rfl).cellV rfl)) ?_; clear hs a; intro a hs
                refine a_valG hs rfl rfl rfl (y_sneE hs rfl rfl) ?_; clear hs a; intro a hs
                refine a_val hs rfl rfl rfl (y_pickF hs rfl rfl rfl) ?_; clear hs a; intro a hs
                refine wpList_nil (then_normal ?_)
                refine wp_cond_split (hs.ev rfl) (fun h66 => ?_) (fun h66 => ?_)
                · replace h66 := of_decide_eq_true h66
                  refine wp_seq ?_
                  refine wp_region_lit ?_
                  refine a_val hs rfl rfl rfl (y_assign hs rfl) ?_; clear hs a; intro a hs
                  refine wpList_nil (then_normal ?_)
                  refine wp_ret (then_ret (in_ret (then_ret (in_ret (then_ret ?_)))))
                  have hE : exprParts x = none := by
                    clear hs
                    unfold exprParts
                    repeat' split
                    all_goals first | rfl | (exfalso; omega) | (rename_i hc; exfalso; omega) | (rename_i hc; exact absurd hc.2 (by assumption)) | (rename_i hc; rw [hc.2] at h54; cases h54)
                  have hX : xexpr (q + 1) x left = (0, left - 1) := by rw [xexpr, if_neg (by omega), hE]
                  refine fin_ret hs (.tmp (hs.slots _ _ rfl) .nil) ⟨?_, ?_⟩
                  · rw [hX]; rfl
                  · rw [hX]; exact (hs.mem.to 1 rfl).drop
                · replace h66 := of_decide_eq_false h66
                  refine wp_skip (then_normal ?_)
                  refine wp_exit (in_other rfl (then_exit (in_here (then_normal ?_))))
                  refine ⟨2, by clear hs; unfold exprParts; (repeat' split) <;> first | rfl | (exfalso; omega) | (rename_i hc; exfalso; omega) | (rename_i hc; exact absurd ⟨by omega, by assumption⟩ hc), ?_⟩
                  exact (hs.mem_to (hs.mem.to 1 rfl)).cut _ ⟨rfl, rfl, rfl, rfl, trivial⟩
            · replace h25 := ne_of_beq_false h25
              replace hs := hs.say 25 rfl (congrArg Value.bool (beq_eq_false_iff_ne.2 h25))
              refine wp_seq ?_
              refine wp_region_lit ?_
              refine a_val hs rfl rfl rfl (y_cmp hs rfl rfl rfl) ?_; clear hs a; intro a hs
              refine a_val hs rfl rfl rfl (y_assign hs rfl) ?_; clear hs a; intro a hs
              refine wpList_nil (then_normal ?_)
              refine wp_cond_split (hs.ev rfl) (fun h25 => ?_) (fun h25 => ?_)
              · replace h25 := eq_of_beq h25
                replace hs := hs.say 25 rfl (congrArg Value.bool (beq_iff_eq.2 h25))
                refine wp_skip (then_normal ?_)
                refine wp_cond_true (hs.ev rfl) ?_
                refine wp_exit (then_exit (then_exit (in_other rfl (then_exit (in_other rfl (then_exit (in_here (then_normal ?_))))))))
                refine wp_region_lit ?_
                refine a_val hs rfl rfl rfl (y_move hs rfl) ?_; clear hs a; intro a hs
                refine a_val hs rfl rfl rfl (y_add hs rfl rfl (by omega)) ?_; clear hs a; intro a hs
                refine a_val hs rfl rfl rfl (y_assign hs rfl) ?_; clear hs a; intro a hs
                refine wpList_nil (in_normal (then_normal ?_))
                refine wp_seq ?_
                refine wp_seq ?_
                refine wp_region_lit ?_
                refine a_val hs rfl rfl rfl (y_move hs rfl) ?_; clear hs a; intro a hs
                refine a_val hs rfl rfl rfl (y_add hs rfl rfl (by omega)) ?_; clear hs a; intro a hs
                refine a_val hs rfl rfl rfl (y_assign hs rfl) ?_; clear hs a; intro a hs
                refine wpList_nil (then_normal ?_)
                refine wp_seq ?_
                refine wp_region_lit ?_
                refine a_val hs rfl rfl rfl (y_faddr (k' := 1) 1 hs (by kernel_rfl) rfl rfl) ?_; clear hs a; intro a hs
                refine a_val hs rfl rfl rfl (y_load hs Tryd.underlying3 rfl rfl (fun w hw => (hw.to 1 rfl).cellV rfl)) ?_; clear hs a; intro a hs
                refine a_val hs rfl rfl rfl (y_cmp hs rfl rfl rfl) ?_; clear hs a; intro a hs
                refine a_val hs rfl rfl rfl (y_move hs rfl) ?_; clear hs a; intro a hs
                rcases hs.know (d := 62) rfl with ⟨h62, hs1⟩ | ⟨h62, hs1⟩ <;> replace hs := hs1 <;> clear hs1
                · replace h62 := bne_iff_ne.1 h62
                  refine a_skip hs rfl rfl rfl ?_; clear hs a; intro a hs
                  refine a_skip hs rfl rfl rfl ?_; clear hs a; intro a hs
                  refine a_skip hs rfl rfl rfl ?_; clear hs a; intro a hs
                  refine a_val hs rfl rfl rfl (y_pickT hs rfl rfl rfl) ?_; clear hs a; intro a hs
                  refine wpList_nil (then_normal ?_)
                  refine wp_cond_true (hs.ev rfl) ?_
                  refine wp_seq ?_
                  refine wp_region_lit ?_
                  refine a_val hs rfl rfl rfl (y_assign hs rfl) ?_; clear hs a; intro a hs
                  refine wpList_nil (then_normal ?_)
                  refine wp_ret (then_ret (in_ret (then_ret (in_ret (then_ret ?_)))))
                  have hE : exprParts x = none := by
                    clear hs
                    unfold exprParts
                    repeat' split
                    all_goals first | rfl | (exfalso; omega) | (rename_i hc; exfalso; omega) | (rename_i hc; exact absurd hc.2 (by assumption)) | (rename_i hc; rw [hc.2] at h54; cases h54)
                  have hX : xexpr (q + 1) x left = (0, left - 1) := by rw [xexpr, if_neg (by omega), hE]
                  refine fin_ret hs (.tmp (hs.slots _ _ rfl) .nil) ⟨?_, ?_⟩
                  · rw [hX]; rfl
                  · rw [hX]; exact (hs.mem.to 1 rfl).drop
                · replace h62 := bne_eq_false_iff_eq.1 h62
                  refine a_valG hs rfl rfl rfl (y_faddr (k' := 2) 2 hs (by kernel_rfl) rfl rfl) ?_; clear hs a; intro a hs
                  refine a_valG hs rfl rfl rfl (y_load hs Tryd.underlying9 rfl rfl (fun w hw => (hw.to 1 rfl).cellV rfl)) ?_; clear hs a; intro a hs
                  refine a_valG hs rfl rfl rfl (y_sneE hs rfl rfl) ?_; clear hs a; intro a hs
                  refine a_val hs rfl rfl rfl (y_pickF hs rfl rfl rfl) ?_; clear hs a; intro a hs
                  refine wpList_nil (then_normal ?_)
                  refine wp_cond_split (hs.ev rfl) (fun h66 => ?_) (fun h66 => ?_)
                  · replace h66 := of_decide_eq_true h66
                    refine wp_seq ?_
                    refine wp_region_lit ?_
                    refine a_val hs rfl rfl rfl (y_assign hs rfl) ?_; clear hs a; intro a hs
                    refine wpList_nil (then_normal ?_)
                    refine wp_ret (then_ret (in_ret (then_ret (in_ret (then_ret ?_)))))
                    have hE : exprParts x = none := by
                      clear hs
                      unfold exprParts
                      repeat' split
                      all_goals first | rfl | (exfalso; omega) | (rename_i hc; exfalso; omega) | (rename_i hc; exact absurd hc.2 (by assumption)) | (rename_i hc; rw [hc.2] at h54; cases h54)
                    have hX : xexpr (q + 1) x left = (0, left - 1) := by rw [xexpr, if_neg (by omega), hE]
                    refine fin_ret hs (.tmp (hs.slots _ _ rfl) .nil) ⟨?_, ?_⟩
                    · rw [hX]; rfl
                    · rw [hX]; exact (hs.mem.to 1 rfl).drop
                  · replace h66 := of_decide_eq_false h66
                    refine wp_skip (then_normal ?_)
                    refine wp_exit (in_other rfl (then_exit (in_here (then_normal ?_))))
                    refine ⟨2, by clear hs; unfold exprParts; (repeat' split) <;> first | rfl | (exfalso; omega) | (rename_i hc; exfalso; omega) | (rename_i hc; exact absurd ⟨by omega, by assumption⟩ hc), ?_⟩
                    exact (hs.mem_to (hs.mem.to 1 rfl)).cut _ ⟨rfl, rfl, rfl, rfl, trivial⟩
              · replace h25 := ne_of_beq_false h25
                replace hs := hs.say 25 rfl (congrArg Value.bool (beq_eq_false_iff_ne.2 h25))
                refine wp_seq ?_
                refine wp_region_lit ?_
                refine a_val hs rfl rfl rfl (y_cmp hs rfl rfl rfl) ?_; clear hs a; intro a hs
                refine a_val hs rfl rfl rfl (y_assign hs rfl) ?_; clear hs a; intro a hs
                refine wpList_nil (then_normal ?_)
                refine wp_cond_split (hs.ev rfl) (fun h25 => ?_) (fun h25 => ?_)
                · replace h25 := eq_of_beq h25
                  replace hs := hs.say 25 rfl (congrArg Value.bool (beq_iff_eq.2 h25))
                  refine wp_skip (then_normal ?_)
                  refine wp_cond_true (hs.ev rfl) ?_
                  refine wp_exit (then_exit (then_exit (in_other rfl (then_exit (in_other rfl (then_exit (in_here (then_normal ?_))))))))
                  refine wp_region_lit ?_
                  refine a_val hs rfl rfl rfl (y_move hs rfl) ?_; clear hs a; intro a hs
                  refine a_val hs rfl rfl rfl (y_add hs rfl rfl (by omega)) ?_; clear hs a; intro a hs
                  refine a_val hs rfl rfl rfl (y_assign hs rfl) ?_; clear hs a; intro a hs
                  refine wpList_nil (in_normal (then_normal ?_))
                  refine wp_seq ?_
                  refine wp_seq ?_
                  refine wp_region_lit ?_
                  refine a_val hs rfl rfl rfl (y_move hs rfl) ?_; clear hs a; intro a hs
                  refine a_val hs rfl rfl rfl (y_add hs rfl rfl (by omega)) ?_; clear hs a; intro a hs
                  refine a_val hs rfl rfl rfl (y_assign hs rfl) ?_; clear hs a; intro a hs
                  refine wpList_nil (then_normal ?_)
                  refine wp_seq ?_
                  refine wp_region_lit ?_
                  refine a_val hs rfl rfl rfl (y_faddr (k' := 1) 1 hs (by kernel_rfl) rfl rfl) ?_; clear hs a; intro a hs
                  refine a_val hs rfl rfl rfl (y_load hs Tryd.underlying3 rfl rfl (fun w hw => (hw.to 1 rfl).cellV rfl)) ?_; clear hs a; intro a hs
                  refine a_val hs rfl rfl rfl (y_cmp hs rfl rfl rfl) ?_; clear hs a; intro a hs
                  refine a_val hs rfl rfl rfl (y_move hs rfl) ?_; clear hs a; intro a hs
                  rcases hs.know (d := 62) rfl with ⟨h62, hs1⟩ | ⟨h62, hs1⟩ <;> replace hs := hs1 <;> clear hs1
                  · replace h62 := bne_iff_ne.1 h62
                    refine a_skip hs rfl rfl rfl ?_; clear hs a; intro a hs
                    refine a_skip hs rfl rfl rfl ?_; clear hs a; intro a hs
                    refine a_skip hs rfl rfl rfl ?_; clear hs a; intro a hs
                    refine a_val hs rfl rfl rfl (y_pickT hs rfl rfl rfl) ?_; clear hs a; intro a hs
                    refine wpList_nil (then_normal ?_)
                    refine wp_cond_true (hs.ev rfl) ?_
                    refine wp_seq ?_
                    refine wp_region_lit ?_
                    refine a_val hs rfl rfl rfl (y_assign hs rfl) ?_; clear hs a; intro a hs
                    refine wpList_nil (then_normal ?_)
                    refine wp_ret (then_ret (in_ret (then_ret (in_ret (then_ret ?_)))))
                    have hE : exprParts x = none := by
                      clear hs
                      unfold exprParts
                      repeat' split
                      all_goals first | rfl | (exfalso; omega) | (rename_i hc; exfalso; omega) | (rename_i hc; exact absurd hc.2 (by assumption)) | (rename_i hc; rw [hc.2] at h54; cases h54)
                    have hX : xexpr (q + 1) x left = (0, left - 1) := by rw [xexpr, if_neg (by omega), hE]
                    refine fin_ret hs (.tmp (hs.slots _ _ rfl) .nil) ⟨?_, ?_⟩
                    · rw [hX]; rfl
                    · rw [hX]; exact (hs.mem.to 1 rfl).drop
                  · replace h62 := bne_eq_false_iff_eq.1 h62
                    refine a_valG hs rfl rfl rfl (y_faddr (k' := 2) 2 hs (by kernel_rfl) rfl rfl) ?_; clear hs a; intro a hs
                    refine a_valG hs rfl rfl rfl (y_load hs Tryd.underlying9 rfl rfl (fun w hw => (hw.to 1 rfl).cellV rfl)) ?_; clear hs a; intro a hs
                    refine a_valG hs rfl rfl rfl (y_sneE hs rfl rfl) ?_; clear hs a; intro a hs
                    refine a_val hs rfl rfl rfl (y_pickF hs rfl rfl rfl) ?_; clear hs a; intro a hs
                    refine wpList_nil (then_normal ?_)
                    refine wp_cond_split (hs.ev rfl) (fun h66 => ?_) (fun h66 => ?_)
                    · replace h66 := of_decide_eq_true h66
                      refine wp_seq ?_
                      refine wp_region_lit ?_
                      refine a_val hs rfl rfl rfl (y_assign hs rfl) ?_; clear hs a; intro a hs
                      refine wpList_nil (then_normal ?_)
                      refine wp_ret (then_ret (in_ret (then_ret (in_ret (then_ret ?_)))))
                      have hE : exprParts x = none := by
                        clear hs
                        unfold exprParts
                        repeat' split
                        all_goals first | rfl | (exfalso; omega) | (rename_i hc; exfalso; omega) | (rename_i hc; exact absurd hc.2 (by assumption)) | (rename_i hc; rw [hc.2] at h54; cases h54)
                      have hX : xexpr (q + 1) x left = (0, left - 1) := by rw [xexpr, if_neg (by omega), hE]
                      refine fin_ret hs (.tmp (hs.slots _ _ rfl) .nil) ⟨?_, ?_⟩
                      · rw [hX]; rfl
                      · rw [hX]; exact (hs.mem.to 1 rfl).drop
                    · replace h66 := of_decide_eq_false h66
                      refine wp_skip (then_normal ?_)
                      refine wp_exit (in_other rfl (then_exit (in_here (then_normal ?_))))
                      refine ⟨2, by clear hs; unfold exprParts; (repeat' split) <;> first | rfl | (exfalso; omega) | (rename_i hc; exfalso; omega) | (rename_i hc; exact absurd ⟨by omega, by assumption⟩ hc), ?_⟩
                      exact (hs.mem_to (hs.mem.to 1 rfl)).cut _ ⟨rfl, rfl, rfl, rfl, trivial⟩
                · replace h25 := ne_of_beq_false h25
                  replace hs := hs.say 25 rfl (congrArg Value.bool (beq_eq_false_iff_ne.2 h25))
                  refine wp_seq ?_
                  refine wp_region_lit ?_
                  refine a_val hs rfl rfl rfl (y_cmp hs rfl rfl rfl) ?_; clear hs a; intro a hs
                  refine a_val hs rfl rfl rfl (y_assign hs rfl) ?_; clear hs a; intro a hs
                  refine wpList_nil (then_normal ?_)
                  refine wp_cond_split (hs.ev rfl) (fun h25 => ?_) (fun h25 => ?_)
                  · replace h25 := eq_of_beq h25
                    replace hs := hs.say 25 rfl (congrArg Value.bool (beq_iff_eq.2 h25))
                    refine wp_skip (then_normal ?_)
                    refine wp_cond_true (hs.ev rfl) ?_
                    refine wp_exit (then_exit (then_exit (in_other rfl (then_exit (in_other rfl (then_exit (in_here (then_normal ?_))))))))
                    refine wp_region_lit ?_
                    refine a_val hs rfl rfl rfl (y_move hs rfl) ?_; clear hs a; intro a hs
                    refine a_val hs rfl rfl rfl (y_add hs rfl rfl (by omega)) ?_; clear hs a; intro a hs
                    refine a_val hs rfl rfl rfl (y_assign hs rfl) ?_; clear hs a; intro a hs
                    refine wpList_nil (in_normal (then_normal ?_))
                    refine wp_seq ?_
                    refine wp_seq ?_
                    refine wp_region_lit ?_
                    refine a_val hs rfl rfl rfl (y_move hs rfl) ?_; clear hs a; intro a hs
                    refine a_val hs rfl rfl rfl (y_add hs rfl rfl (by omega)) ?_; clear hs a; intro a hs
                    refine a_val hs rfl rfl rfl (y_assign hs rfl) ?_; clear hs a; intro a hs
                    refine wpList_nil (then_normal ?_)
                    refine wp_seq ?_
                    refine wp_region_lit ?_
                    refine a_val hs rfl rfl rfl (y_faddr (k' := 1) 1 hs (by kernel_rfl) rfl rfl) ?_; clear hs a; intro a hs
                    refine a_val hs rfl rfl rfl (y_load hs Tryd.underlying3 rfl rfl (fun w hw => (hw.to 1 rfl).cellV rfl)) ?_; clear hs a; intro a hs
                    refine a_val hs rfl rfl rfl (y_cmp hs rfl rfl rfl) ?_; clear hs a; intro a hs
                    refine a_val hs rfl rfl rfl (y_move hs rfl) ?_; clear hs a; intro a hs
                    rcases hs.know (d := 62) rfl with ⟨h62, hs1⟩ | ⟨h62, hs1⟩ <;> replace hs := hs1 <;> clear hs1
                    · replace h62 := bne_iff_ne.1 h62
                      refine a_skip hs rfl rfl rfl ?_; clear hs a; intro a hs
                      refine a_skip hs rfl rfl rfl ?_; clear hs a; intro a hs
                      refine a_skip hs rfl rfl rfl ?_; clear hs a; intro a hs
                      refine a_val hs rfl rfl rfl (y_pickT hs rfl rfl rfl) ?_; clear hs a; intro a hs
                      refine wpList_nil (then_normal ?_)
                      refine wp_cond_true (hs.ev rfl) ?_
                      refine wp_seq ?_
                      refine wp_region_lit ?_
                      refine a_val hs rfl rfl rfl (y_assign hs rfl) ?_; clear hs a; intro a hs
                      refine wpList_nil (then_normal ?_)
                      refine wp_ret (then_ret (in_ret (then_ret (in_ret (then_ret ?_)))))
                      have hE : exprParts x = none := by
                        clear hs
                        unfold exprParts
                        repeat' split
                        all_goals first | rfl | (exfalso; omega) | (rename_i hc; exfalso; omega) | (rename_i hc; exact absurd hc.2 (by assumption)) | (rename_i hc; rw [hc.2] at h54; cases h54)
                      have hX : xexpr (q + 1) x left = (0, left - 1) := by rw [xexpr, if_neg (by omega), hE]
                      refine fin_ret hs (.tmp (hs.slots _ _ rfl) .nil) ⟨?_, ?_⟩
                      · rw [hX]; rfl
                      · rw [hX]; exact (hs.mem.to 1 rfl).drop
                    · replace h62 := bne_eq_false_iff_eq.1 h62
                      refine a_valG hs rfl rfl rfl (y_faddr (k' := 2) 2 hs (by kernel_rfl) rfl rfl) ?_; clear hs a; intro a hs
                      refine a_valG hs rfl rfl rfl (y_load hs Tryd.underlying9 rfl rfl (fun w hw => (hw.to 1 rfl).cellV rfl)) ?_; clear hs a; intro a hs
                      refine a_valG hs rfl rfl rfl (y_sneE hs rfl rfl) ?_; clear hs a; intro a hs
                      refine a_val hs rfl rfl rfl (y_pickF hs rfl rfl rfl) ?_; clear hs a; intro a hs
                      refine wpList_nil (then_normal ?_)
                      refine wp_cond_split (hs.ev rfl) (fun h66 => ?_) (fun h66 => ?_)
                      · replace h66 := of_decide_eq_true h66
                        refine wp_seq ?_
                        refine wp_region_lit ?_
                        refine a_val hs rfl rfl rfl (y_assign hs rfl) ?_; clear hs a; intro a hs
                        refine wpList_nil (then_normal ?_)
                        refine wp_ret (then_ret (in_ret (then_ret (in_ret (then_ret ?_)))))
                        have hE : exprParts x = none := by
                          clear hs
                          unfold exprParts
                          repeat' split
                          all_goals first | rfl | (exfalso; omega) | (rename_i hc; exfalso; omega) | (rename_i hc; exact absurd hc.2 (by assumption)) | (rename_i hc; rw [hc.2] at h54; cases h54)
                        have hX : xexpr (q + 1) x left = (0, left - 1) := by rw [xexpr, if_neg (by omega), hE]
                        refine fin_ret hs (.tmp (hs.slots _ _ rfl) .nil) ⟨?_, ?_⟩
                        · rw [hX]; rfl
                        · rw [hX]; exact (hs.mem.to 1 rfl).drop
                      · replace h66 := of_decide_eq_false h66
                        refine wp_skip (then_normal ?_)
                        refine wp_exit (in_other rfl (then_exit (in_here (then_normal ?_))))
                        refine ⟨2, by clear hs; unfold exprParts; (repeat' split) <;> first | rfl | (exfalso; omega) | (rename_i hc; exfalso; omega) | (rename_i hc; exact absurd ⟨by omega, by assumption⟩ hc), ?_⟩
                        exact (hs.mem_to (hs.mem.to 1 rfl)).cut _ ⟨rfl, rfl, rfl, rfl, trivial⟩
                  · replace h25 := ne_of_beq_false h25
                    replace hs := hs.say 25 rfl (congrArg Value.bool (beq_eq_false_iff_ne.2 h25))
                    refine wp_region_lit ?_
                    refine a_val hs rfl rfl rfl (y_cmp hs rfl rfl rfl) ?_; clear hs a; intro a hs
                    refine a_val hs rfl rfl rfl (y_assign hs rfl) ?_; clear hs a; intro a hs
                    refine wpList_nil (then_normal ?_)
                    refine wp_cond_split (hs.ev rfl) (fun h25 => ?_) (fun h25 => ?_)
                    · replace h25 := eq_of_beq h25
                      replace hs := hs.say 25 rfl (congrArg Value.bool (beq_iff_eq.2 h25))
                      refine wp_exit (then_exit (then_exit (in_other rfl (then_exit (in_other rfl (then_exit (in_here (then_normal ?_))))))))
                      refine wp_region_lit ?_
                      refine a_val hs rfl rfl rfl (y_move hs rfl) ?_; clear hs a; intro a hs
                      refine a_val hs rfl rfl rfl (y_add hs rfl rfl (by omega)) ?_; clear hs a; intro a hs
                      refine a_val hs rfl rfl rfl (y_assign hs rfl) ?_; clear hs a; intro a hs
                      refine wpList_nil (in_normal (then_normal ?_))
                      refine wp_seq ?_
                      refine wp_seq ?_
                      refine wp_region_lit ?_
                      refine a_val hs rfl rfl rfl (y_move hs rfl) ?_; clear hs a; intro a hs
                      refine a_val hs rfl rfl rfl (y_add hs rfl rfl (by omega)) ?_; clear hs a; intro a hs
                      refine a_val hs rfl rfl rfl (y_assign hs rfl) ?_; clear hs a; intro a hs
                      refine wpList_nil (then_normal ?_)
                      refine wp_seq ?_
                      refine wp_region_lit ?_
                      refine a_val hs rfl rfl rfl (y_faddr (k' := 1) 1 hs (by kernel_rfl) rfl rfl) ?_; clear hs a; intro a hs
                      refine a_val hs rfl rfl rfl (y_load hs Tryd.underlying3 rfl rfl (fun w hw => (hw.to 1 rfl).cellV rfl)) ?_; clear hs a; intro a hs
                      refine a_val hs rfl rfl rfl (y_cmp hs rfl rfl rfl) ?_; clear hs a; intro a hs
                      refine a_val hs rfl rfl rfl (y_move hs rfl) ?_; clear hs a; intro a hs
                      rcases hs.know (d := 62) rfl with ⟨h62, hs1⟩ | ⟨h62, hs1⟩ <;> replace hs := hs1 <;> clear hs1
                      · replace h62 := bne_iff_ne.1 h62
                        refine a_skip hs rfl rfl rfl ?_; clear hs a; intro a hs
                        refine a_skip hs rfl rfl rfl ?_; clear hs a; intro a hs
                        refine a_skip hs rfl rfl rfl ?_; clear hs a; intro a hs
                        refine a_val hs rfl rfl rfl (y_pickT hs rfl rfl rfl) ?_; clear hs a; intro a hs
                        refine wpList_nil (then_normal ?_)
                        refine wp_cond_true (hs.ev rfl) ?_
                        refine wp_seq ?_
                        refine wp_region_lit ?_
                        refine a_val hs rfl rfl rfl (y_assign hs rfl) ?_; clear hs a; intro a hs
                        refine wpList_nil (then_normal ?_)
                        refine wp_ret (then_ret (in_ret (then_ret (in_ret (then_ret ?_)))))
                        have hE : exprParts x = none := by
                          clear hs
                          unfold exprParts
                          repeat' split
                          all_goals first | rfl | (exfalso; omega) | (rename_i hc; exfalso; omega) | (rename_i hc; exact absurd hc.2 (by assumption)) | (rename_i hc; rw [hc.2] at h54; cases h54)
                        have hX : xexpr (q + 1) x left = (0, left - 1) := by rw [xexpr, if_neg (by omega), hE]
                        refine fin_ret hs (.tmp (hs.slots _ _ rfl) .nil) ⟨?_, ?_⟩
                        · rw [hX]; rfl
                        · rw [hX]; exact (hs.mem.to 1 rfl).drop
                      · replace h62 := bne_eq_false_iff_eq.1 h62
                        refine a_valG hs rfl rfl rfl (y_faddr (k' := 2) 2 hs (by kernel_rfl) rfl rfl) ?_; clear hs a; intro a hs
                        refine a_valG hs rfl rfl rfl (y_load hs Tryd.underlying9 rfl rfl (fun w hw => (hw.to 1 rfl).cellV rfl)) ?_; clear hs a; intro a hs
                        refine a_valG hs rfl rfl rfl (y_sneE hs rfl rfl) ?_; clear hs a; intro a hs
                        refine a_val hs rfl rfl rfl (y_pickF hs rfl rfl rfl) ?_; clear hs a; intro a hs
                        refine wpList_nil (then_normal ?_)
                        refine wp_cond_split (hs.ev rfl) (fun h66 => ?_) (fun h66 => ?_)
                        · replace h66 := of_decide_eq_true h66
                          refine wp_seq ?_
                          refine wp_region_lit ?_
                          refine a_val hs rfl rfl rfl (y_assign hs rfl) ?_; clear hs a; intro a hs
                          refine wpList_nil (then_normal ?_)
                          refine wp_ret (then_ret (in_ret (then_ret (in_ret (then_ret ?_)))))
                          have hE : exprParts x = none := by
                            clear hs
                            unfold exprParts
                            repeat' split
                            all_goals first | rfl | (exfalso; omega) | (rename_i hc; exfalso; omega) | (rename_i hc; exact absurd hc.2 (by assumption)) | (rename_i hc; rw [hc.2] at h54; cases h54)
                          have hX : xexpr (q + 1) x left = (0, left - 1) := by rw [xexpr, if_neg (by omega), hE]
                          refine fin_ret hs (.tmp (hs.slots _ _ rfl) .nil) ⟨?_, ?_⟩
                          · rw [hX]; rfl
                          · rw [hX]; exact (hs.mem.to 1 rfl).drop
                        · replace h66 := of_decide_eq_false h66
                          refine wp_skip (then_normal ?_)
                          refine wp_exit (in_other rfl (then_exit (in_here (then_normal ?_))))
                          refine ⟨2, by clear hs; unfold exprParts; (repeat' split) <;> first | rfl | (exfalso; omega) | (rename_i hc; exfalso; omega) | (rename_i hc; exact absurd ⟨by omega, by assumption⟩ hc), ?_⟩
                          exact (hs.mem_to (hs.mem.to 1 rfl)).cut _ ⟨rfl, rfl, rfl, rfl, trivial⟩
                    · replace h25 := ne_of_beq_false h25
                      replace hs := hs.say 25 rfl (congrArg Value.bool (beq_eq_false_iff_ne.2 h25))
                      refine wp_skip (then_normal ?_)
                      refine wp_seq ?_
                      refine wp_region_lit ?_
                      refine a_val hs rfl rfl rfl (y_cmp hs rfl rfl rfl) ?_; clear hs a; intro a hs
                      refine a_val hs rfl rfl rfl (y_assign hs rfl) ?_; clear hs a; intro a hs
                      refine wpList_nil (then_normal ?_)
                      refine wp_cond_split (hs.ev rfl) (fun h31 => ?_) (fun h31 => ?_)
                      · replace h31 := eq_of_beq h31
                        refine wp_exit (then_exit (in_other rfl (then_exit (in_other rfl (then_exit (in_other rfl (then_exit (in_here (then_normal ?_)))))))))
                        refine wp_seq ?_
                        refine wp_seq ?_
                        refine wp_region_lit ?_
                        refine a_val hs rfl rfl rfl (y_move hs rfl) ?_; clear hs a; intro a hs
                        refine a_val hs rfl rfl rfl (y_add hs rfl rfl (by omega)) ?_; clear hs a; intro a hs
                        refine a_val hs rfl rfl rfl (y_assign hs rfl) ?_; clear hs a; intro a hs
                        refine wpList_nil (then_normal ?_)
                        refine wp_seq ?_
                        refine wp_region_lit ?_
                        refine a_val hs rfl rfl rfl (y_faddr (k' := 1) 1 hs (by kernel_rfl) rfl rfl) ?_; clear hs a; intro a hs
                        refine a_val hs rfl rfl rfl (y_load hs Tryd.underlying3 rfl rfl (fun w hw => (hw.to 1 rfl).cellV rfl)) ?_; clear hs a; intro a hs
                        refine a_val hs rfl rfl rfl (y_cmp hs rfl rfl rfl) ?_; clear hs a; intro a hs
                        refine a_val hs rfl rfl rfl (y_move hs rfl) ?_; clear hs a; intro a hs
                        rcases hs.know (d := 62) rfl with ⟨h62, hs1⟩ | ⟨h62, hs1⟩ <;> replace hs := hs1 <;> clear hs1
                        · replace h62 := bne_iff_ne.1 h62
                          refine a_skip hs rfl rfl rfl ?_; clear hs a; intro a hs
                          refine a_skip hs rfl rfl rfl ?_; clear hs a; intro a hs
                          refine a_skip hs rfl rfl rfl ?_; clear hs a; intro a hs
                          refine a_val hs rfl rfl rfl (y_pickT hs rfl rfl rfl) ?_; clear hs a; intro a hs
                          refine wpList_nil (then_normal ?_)
                          refine wp_cond_true (hs.ev rfl) ?_
                          refine wp_seq ?_
                          refine wp_region_lit ?_
                          refine a_val hs rfl rfl rfl (y_assign hs rfl) ?_; clear hs a; intro a hs
                          refine wpList_nil (then_normal ?_)
                          refine wp_ret (then_ret (in_ret (then_ret (in_ret (then_ret ?_)))))
                          have hE : exprParts x = none := by
                            clear hs
                            unfold exprParts
                            repeat' split
                            all_goals first | rfl | (exfalso; omega) | (rename_i hc; exfalso; omega) | (rename_i hc; exact absurd hc.2 (by assumption)) | (rename_i hc; rw [hc.2] at h54; cases h54)
                          have hX : xexpr (q + 1) x left = (0, left - 1) := by rw [xexpr, if_neg (by omega), hE]
                          refine fin_ret hs (.tmp (hs.slots _ _ rfl) .nil) ⟨?_, ?_⟩
                          · rw [hX]; rfl
                          · rw [hX]; exact (hs.mem.to 1 rfl).drop
                        · replace h62 := bne_eq_false_iff_eq.1 h62
                          refine a_valG hs rfl rfl rfl (y_faddr (k' := 2) 2 hs (by kernel_rfl) rfl rfl) ?_; clear hs a; intro a hs
                          refine a_valG hs rfl rfl rfl (y_load hs Tryd.underlying9 rfl rfl (fun w hw => (hw.to 1 rfl).cellV rfl)) ?_; clear hs a; intro a hs
                          refine a_valG hs rfl rfl rfl (y_sneE hs rfl rfl) ?_; clear hs a; intro a hs
                          refine a_val hs rfl rfl rfl (y_pickF hs rfl rfl rfl) ?_; clear hs a; intro a hs
                          refine wpList_nil (then_normal ?_)
                          refine wp_cond_split (hs.ev rfl) (fun h66 => ?_) (fun h66 => ?_)
                          · replace h66 := of_decide_eq_true h66
                            refine wp_seq ?_
                            refine wp_region_lit ?_
                            refine a_val hs rfl rfl rfl (y_assign hs rfl) ?_; clear hs a; intro a hs
                            refine wpList_nil (then_normal ?_)
                            refine wp_ret (then_ret (in_ret (then_ret (in_ret (then_ret ?_)))))
                            have hE : exprParts x = none := by
                              clear hs
                              unfold exprParts
                              repeat' split
                              all_goals first | rfl | (exfalso; omega) | (rename_i hc; exfalso; omega) | (rename_i hc; exact absurd hc.2 (by assumption)) | (rename_i hc; rw [hc.2] at h54; cases h54)
                            have hX : xexpr (q + 1) x left = (0, left - 1) := by rw [xexpr, if_neg (by omega), hE]
                            refine fin_ret hs (.tmp (hs.slots _ _ rfl) .nil) ⟨?_, ?_⟩
                            · rw [hX]; rfl
                            · rw [hX]; exact (hs.mem.to 1 rfl).drop
                          · replace h66 := of_decide_eq_false h66
                            refine wp_skip (then_normal ?_)
                            refine wp_exit (in_other rfl (then_exit (in_here (then_normal ?_))))
                            refine ⟨1, by clear hs; unfold exprParts; (repeat' split) <;> first | rfl | (exfalso; omega) | (rename_i hc; exfalso; omega) | (rename_i hc; exact absurd ⟨by omega, by assumption⟩ hc), ?_⟩
                            exact (hs.mem_to (hs.mem.to 1 rfl)).cut _ ⟨rfl, rfl, rfl, rfl, trivial⟩
                      · replace h31 := ne_of_beq_false h31
                        refine wp_skip (then_normal ?_)
                        refine wp_exit (in_other rfl (then_exit (in_other rfl (then_exit (in_other rfl (then_exit (in_other rfl (then_exit (in_here (then_normal ?_))))))))))
                        refine wp_seq ?_
                        refine wp_seq ?_
                        refine wp_region_lit ?_
                        refine a_val hs rfl rfl rfl (y_assign hs rfl) ?_; clear hs a; intro a hs
                        refine wpList_nil (then_normal ?_)
                        refine wp_ret (then_ret (in_ret (then_ret ?_)))
                        have hE : exprParts x = none := by
                          clear hs
                          unfold exprParts
                          repeat' split
                          all_goals first | rfl | (exfalso; omega) | (rename_i hc; exfalso; omega) | (rename_i hc; exact absurd hc.2 (by assumption)) | (rename_i hc; rw [hc.2] at h54; cases h54)
                        have hX : xexpr (q + 1) x left = (0, left - 1) := by rw [xexpr, if_neg (by omega), hE]
                        refine fin_ret hs (.tmp (hs.slots _ _ rfl) .nil) ⟨?_, ?_⟩
                        · rw [hX]; rfl
                        · rw [hX]; exact (hs.mem.to 1 rfl).drop
      · clear hs
        obtain ⟨p, hp, hs⟩ := hJ
        have hp2 := exprParts_le hp
        refine wp_seq ?_
        refine wp_seq ?_
        refine wp_region_lit ?_
        refine a_val hs rfl rfl rfl (y_faddr (k' := 3) 3 hs (by kernel_rfl) rfl rfl) ?_; clear hs a; intro a hs
        refine a_val hs rfl rfl rfl (y_load hs Tryd.underlying23 rfl rfl (fun w hw => (hw.to 0 rfl).cellV rfl)) ?_; clear hs a; intro a hs
        refine a_val hs rfl rfl rfl (y_lenL hs Tryd.underlying23 rfl) ?_; clear hs a; intro a hs
        refine a_val hs rfl rfl rfl (y_move hs rfl) ?_; clear hs a; intro a hs
        refine a_val hs rfl rfl rfl (y_cmp hs rfl rfl rfl) ?_; clear hs a; intro a hs
        refine wpList_nil (then_normal ?_)
        refine wp_cond_split (hs.ev rfl) (fun h71 => ?_) (fun h71 => ?_)
        · replace h71 := bne_iff_ne.1 h71
          refine wp_seq ?_
          refine wp_region_lit ?_
          refine a_val hs rfl rfl rfl (y_assign hs rfl) ?_; clear hs a; intro a hs
          refine wpList_nil (then_normal ?_)
          refine wp_ret (then_ret ?_)
          have hX : xexpr (q + 1) x left = (0, left - 1) := by
            rw [xexpr, if_neg (by omega), hp]
            show (if _ then _ else _) = _
            rw [if_neg (by omega)]
          refine fin_ret hs (.tmp (hs.slots _ _ rfl) .nil) ⟨?_, ?_⟩
          · rw [hX]; rfl
          · rw [hX]; exact (hs.mem.to 0 rfl).drop
        · replace h71 := bne_eq_false_iff_eq.1 h71
          refine wp_skip (then_normal ?_)
          refine wp_seq ?_
          refine wp_region_lit ?_
          refine a_val hs rfl rfl rfl (y_assign hs rfl) ?_; clear hs a; intro a hs
          refine wpList_nil (then_normal ?_)
          refine wp_seq ?_
          refine wp_seq ?_
          refine wp_region_lit ?_
          refine a_val hs rfl rfl rfl (y_faddr (k' := 3) 3 hs (by kernel_rfl) rfl rfl) ?_; clear hs a; intro a hs
          refine a_val hs rfl rfl rfl (y_load hs Tryd.underlying23 rfl rfl (fun w hw => (hw.to 0 rfl).cellV rfl)) ?_; clear hs a; intro a hs
          refine a_val hs rfl rfl rfl (y_lenL hs Tryd.underlying23 rfl) ?_; clear hs a; intro a hs
          refine a_val hs rfl rfl rfl (y_move hs rfl) ?_; clear hs a; intro a hs
          refine wpList_nil (then_normal ?_)
          refine wp_block ?_
          refine wp_loopN (fun m a w1 => ∃ (i d : Nat) (left2 : Int), (i + m = x.f3.length) ∧ (0 ≤ left2 ∧ left2 ≤ 8192) ∧ (d ≤ q) ∧ (xexprs (xexpr q) (x.f3.drop i) d left2 = xexprs (xexpr q) x.f3 0 (left - 1)) ∧ St 92 w0 [(0, .pointer (some ⟨g, 0, none⟩)), (2, .int .i64 ((q + 1 : Nat) : Int)), (8, .int .i64 ((d : Nat) : Int)), (73, .slice A x.f3.length C), (74, .int .i64 (x.f3.length : Int)), (75, .int .i64 ((i : Nat) : Int))] (pt g #[.int .i64 (left2)] 102 :: bs) a w1) (x.f3.length) ⟨0, 0, left - 1, by omega, by omega, by omega, rfl, ?_⟩ (fun m a w1 hJ => ?_)
          · exact (hs.mem_to (hs.mem.to 0 rfl).drop).cut _ ⟨rfl, rfl, rfl, rfl, rfl, rfl, trivial⟩
          · clear hs
            obtain ⟨i, d, left2, hi, hl2, hd, hinv, hs⟩ := hJ
            refine wp_seq ?_
            refine wp_region_lit ?_
            refine a_val hs rfl rfl rfl (y_cmp hs rfl rfl rfl) ?_; clear hs a; intro a hs
            refine wpList_nil (then_normal ?_)
            refine wp_seq ?_
            refine wp_cond_split (hs.ev rfl) (fun h76 => ?_) (fun h76 => ?_)
            · replace h76 := of_decide_eq_true h76
              obtain ⟨y, hy⟩ : ∃ y, x.f3[i]? = some y := ⟨_, List.getElem?_eq_getElem (by omega)⟩
              obtain ⟨g0, o, rfl, hcell⟩ := C_atG (show 0 < 6 by decide) hA (by omega)
              obtain ⟨cs, hK, hc⟩ := hcell i y hy
              obtain ⟨A0, c0, rfl, hlc, hC⟩ := k25_open hK
              have hdrop : x.f3.drop i = y :: x.f3.drop (i + 1) := by
                rw [List.drop_eq_getElem_cons (by omega)]
                rw [List.getElem?_eq_getElem (by omega)] at hy
                injection hy with hy
                rw [hy]
              refine wp_skip (then_normal ?_)
              refine wp_seq ?_
              refine wp_block ?_
              refine wp_seq ?_
              refine wp_region_lit ?_
              refine a_val hs rfl rfl rfl (y_idxB (size := 6) (off := o + i * 6) hs Tryd.underlying23 (by kernel_rfl) rfl rfl (by omega) (by omega) (by simp)) ?_; clear hs a; intro a hs
              refine a_val hs rfl rfl rfl (y_loadAgg (vs := [.int .u8 y.f0, .int .i64 y.f1, .string y.f2, .slice A0 y.f3.length c0, .int .i64 y.f4, .int .i64 y.f5]) hs Tryd.underlying25 rfl (by kernel_rfl) rfl (fun w hw k v hk => hc w hw.base k v hk)) ?_; clear hs a; intro a hs
              refine a_eff rfl (e_alloc (z := .agg #[.int .u8 0, .int .i64 0, .string ⟨#[]⟩, .slice none 0 0, .int .i64 0, .int .i64 0]) (cs := #[.int .u8 0, .int .i64 0, .string ⟨#[]⟩, .slice none 0 0, .int .i64 0, .int .i64 0]) hs rfl (by kernel_rfl) rfl ?_); clear hs a; intro gp a w hs
              refine a_eff rfl (e_store (cl := [_, _, _, _, _, _]) 0 rfl hs rfl rfl (by kernel_rfl) rfl rfl rfl ?_); clear hs a; intro a w hs
              refine wpList_nil (then_normal ?_)
              refine wp_seq ?_
              refine wp_region_lit ?_
              refine a_val hs rfl rfl rfl (y_move hs rfl) ?_; clear hs a; intro a hs
              refine a_val hs rfl rfl rfl (y_loadPt 0 rfl hs Tryd.underlying25 rfl (by kernel_rfl) rfl) ?_; clear hs a; intro a hs
              refine a_val hs rfl rfl rfl (y_move hs rfl) ?_; clear hs a; intro a hs
              refine a_val hs rfl rfl rfl (y_sub hs rfl rfl (by omega)) ?_; clear hs a; intro a hs
              replace hs := hs.say 82 rfl (congrArg (Value.int IntKind.i64) (show (((q + 1 : Nat) : Int) - 1) = ((q : Nat) : Int) by omega))
              have hfall := xexpr_left q y left2 hl2.1
              have hxle := xexpr_le q y left2
              refine a_eff rfl (e_callX Tryd.func44 rfl rfl hs rfl rfl (ih q rfl y A0 c0 g left2 _ w0 _ hC (hsm.2 y (List.mem_of_getElem? hy)) hl2 (hs.mem.to 1 rfl)) (fun e w1 ⟨he, hm⟩ => ⟨_, he, _, hm, ?_⟩)); clear hs a; intro a hs
              refine a_val hs rfl rfl rfl (y_assign hs rfl) ?_; clear hs a; intro a hs
              refine wpList_nil (then_normal ?_)
              refine wp_seq ?_
              refine wp_seq ?_
              refine wp_region_lit ?_
              refine a_val hs rfl rfl rfl (y_move hs rfl) ?_; clear hs a; intro a hs
              refine a_val hs rfl rfl rfl (y_cmp hs rfl rfl rfl) ?_; clear hs a; intro a hs
              refine wpList_nil (then_normal ?_)
              refine wp_cond_split (hs.ev rfl) (fun h85 => ?_) (fun h85 => ?_)
              · replace h85 := eq_of_beq h85
                refine wp_seq ?_
                refine wp_region_lit ?_
                refine a_val hs rfl rfl rfl (y_assign hs rfl) ?_; clear hs a; intro a hs
                refine wpList_nil (then_normal ?_)
                refine wp_ret (then_ret (in_ret (then_ret (then_ret (in_ret (then_ret ?_))))))
                have hX : xexpr (q + 1) x left = (0, (xexpr q y left2).2) := by
                  rw [xexpr, if_neg (by omega), hp]
                  show (if _ then _ else _) = _
                  rw [if_pos (by omega), ← hinv, hdrop, xexprs, if_pos (by omega)]
                refine fin_ret hs (.tmp (hs.slots _ _ rfl) .nil) ⟨?_, ?_⟩
                · rw [hX]; rfl
                · rw [hX]; exact (hs.mem.to 1 rfl).drop
              · replace h85 := ne_of_beq_false h85
                refine wp_skip (then_normal ?_)
                refine wp_region_lit ?_
                refine a_val hs rfl rfl rfl (y_move hs rfl) ?_; clear hs a; intro a hs
                refine a_val hs rfl rfl rfl (y_move hs rfl) ?_; clear hs a; intro a hs
                refine a_val hs rfl rfl rfl (y_max hs rfl rfl) ?_; clear hs a; intro a hs
                refine a_val hs rfl rfl rfl (y_assign hs rfl) ?_; clear hs a; intro a hs
                refine wpList_nil (in_normal (then_normal ?_))
                refine wp_region_lit ?_
                refine a_val hs rfl rfl rfl (y_add hs rfl rfl (by omega)) ?_; clear hs a; intro a hs
                refine a_val hs rfl rfl rfl (y_move hs rfl) ?_; clear hs a; intro a hs
                refine wpList_nil (then_normal ?_)
                have hf2 := hfall.2.2 (by omega)
                have hmx : (if ((d : Nat) : Int) < (((xexpr q y left2).1 : Nat) : Int) then (((xexpr q y left2).1 : Nat) : Int) else ((d : Nat) : Int)) = ((max d (xexpr q y left2).1 : Nat) : Int) := by split <;> omega
                replace hs := hs.say 8 rfl (congrArg (Value.int IntKind.i64) hmx)
                refine ⟨m - 1, by omega, i + 1, max d (xexpr q y left2).1, (xexpr q y left2).2, by omega, ⟨hf2, by have := hfall.2.1; omega⟩, by omega, by rw [← hinv, hdrop, xexprs, if_neg (by omega)], ?_⟩
                exact (hs.mem_to (hs.mem.to 1 rfl).drop).cut _ ⟨rfl, rfl, rfl, rfl, rfl, rfl, trivial⟩
            · replace h76 := of_decide_eq_false h76
              refine wp_exit (then_exit (then_exit (in_here (then_normal ?_))))
              refine wp_seq ?_
              refine wp_region_lit ?_
              refine a_val hs rfl rfl rfl (y_move hs rfl) ?_; clear hs a; intro a hs
              refine a_val hs rfl rfl rfl (y_add hs rfl rfl (by omega)) ?_; clear hs a; intro a hs
              refine a_val hs rfl rfl rfl (y_assign hs rfl) ?_; clear hs a; intro a hs
              refine wpList_nil (then_normal ?_)
              refine wp_ret ?_
              have hX : xexpr (q + 1) x left = (d + 1, left2) := by
                rw [xexpr, if_neg (by omega), hp]
                show (if _ then _ else _) = _
                rw [if_pos (by omega), ← hinv, List.drop_eq_nil_of_le (by omega), xexprs]
              refine fin_ret hs (.tmp (hs.slots _ _ rfl) .nil) ⟨?_, ?_⟩
              · rw [hX]; rfl
              · rw [hX]; exact hs.mem

theorem walk_expr : ∀ n : Nat, n ≤ 1000 → WalkOk n := fun n => by
  induction n using Nat.strongRecOn with
  | _ n ih => exact fun hn x A C g left bs w0 w hA hsm hl h => walk_expr_step n hn (fun q hq => ih q (by omega) (by omega)) x A C g left bs w0 w hA hsm hl h

set_option maxRecDepth 100000 in
theorem tree_all (v0 : World) :
    Calls Tryd.prog 43 #[] v0 fun e w' => ∃ ga, e = .returned (.pointer (some ⟨ga, 0, none⟩)) ∧ H v0 [pt ga #[.int .i64 8192] 102] w' := by
  refine calls_enter (N := 3) (n := 3) (args := []) Tryd.func43 rfl rfl rfl (H.init v0) (fun a hs => ?_)
  refine wp_seq ?_
  refine wp_region_lit ?_
  refine a_val hs rfl rfl rfl (y_assign hs rfl) ?_; clear hs a; intro a hs
  refine wpList_nil (then_normal ?_)
  refine wp_seq ?_
  refine wp_region_lit ?_
  refine a_val hs rfl rfl rfl (y_struct (zc := #[.int .i64 0]) (pl := [(0, 1)]) (cl := [_]) hs (by kernel_rfl) rfl (by rfl) rfl) ?_; clear hs a; intro a hs
  refine a_eff rfl (e_box (cs := #[_]) hs rfl rfl rfl ?_); clear hs a; intro ga a w hs
  refine a_val hs rfl rfl rfl (y_assign hs rfl) ?_; clear hs a; intro a hs
  refine wpList_nil (then_normal ?_)
  refine wp_ret ?_
  refine fin_ret hs (.tmp (hs.slots _ _ rfl) .nil) ⟨ga, rfl, hs.mem⟩

/-- How deep an expression is; 0: it may not be. -/
def deepX (x : XE) : Nat := (xexpr 16 x 8192).1

set_option maxRecDepth 100000 in
theorem tree_Deep (x : XE) (A : Option Addr) (C : Nat) (v0 : World) (hA : Kd.C k25 v0 A x.f3.length x.f3) (hsm : smallX 16 x) :
    Calls Tryd.prog 20 #[.agg #[.int .u8 x.f0, .int .i64 x.f1, .string x.f2, .slice A x.f3.length C, .int .i64 x.f4, .int .i64 x.f5]] v0 fun e w' => e = .returned (.int .i64 ((deepX x : Nat) : Int)) ∧ Below v0.heap.size v0 w' := by
  refine calls_enter (N := 6) (n := 5) (args := [.agg #[.int .u8 x.f0, .int .i64 x.f1, .string x.f2, .slice A x.f3.length C, .int .i64 x.f4, .int .i64 x.f5]]) Tryd.func20 rfl rfl rfl (H.init v0) (fun a hs => ?_)
  refine wp_seq ?_
  refine wp_region_lit ?_
  refine a_eff rfl (e_box (cs := #[_, _, _, _, _, _]) hs rfl rfl rfl ?_); clear hs a; intro gx a w hs
  refine a_val hs rfl rfl rfl (y_assign hs rfl) ?_; clear hs a; intro a hs
  refine wpList_nil (then_normal ?_)
  refine wp_seq ?_
  refine b_enter [0] (by kernel_rfl) hs #[false, false, false, false] (by rfl) 4 (by rfl) ?_; clear hs; intro w hs
  refine b_take 1 rfl #[false, true, false, false] rfl (by kernel_rfl) hs ((hs.mem.first 1)) rfl rfl rfl (fun _ _ _ h => h) (y_loadPt 0 rfl hs Tryd.underlying25 rfl (by kernel_rfl) rfl) ?_; clear hs a; intro a hs
  refine b_eff 0 (by kernel_rfl) rfl #[true, true, false, false] rfl hs rfl (e_callX Tryd.func43 rfl rfl hs rfl rfl (tree_all _) (fun e w1 ⟨ga, he, hm⟩ => ⟨_, he, _, hs.mem.more hm, ?_⟩)); clear hs a; intro a hs
  refine ⟨((hs.mem.to 1 rfl).first 1), ?_⟩
  refine b_eff 2 (by kernel_rfl) rfl #[true, true, true, false] rfl hs rfl (e_callX Tryd.func44 rfl rfl hs rfl rfl (walk_expr 16 (by decide) x A C ga 8192 _ v0 _ hA hsm (by omega) hs.mem) (fun e w1 ⟨he, hm⟩ => ⟨_, he, _, hm, ?_⟩)); clear hs a; intro a hs
  refine ⟨((hs.mem.to 1 rfl).first 1), ?_⟩
  refine b_take 3 rfl #[true, true, true, true] rfl (by kernel_rfl) hs (((hs.mem.to 1 rfl).first 1)) rfl rfl rfl (fun _ _ _ h => h) (y_assign hs rfl) ?_; clear hs a; intro a hs
  refine b_done (by kernel_rfl) (then_normal ?_)
  refine wp_ret ?_
  refine fin_ret hs (.tmp (hs.slots _ _ rfl) .nil) ⟨rfl, hs.mem.base⟩

set_option maxRecDepth 100000 in
theorem tree_MayExpr (x : XE) (A : Option Addr) (C : Nat) (v0 : World) (hA : Kd.C k25 v0 A x.f3.length x.f3) (hsm : smallX 16 x) :
    Calls Tryd.prog 11 #[.agg #[.int .u8 x.f0, .int .i64 x.f1, .string x.f2, .slice A x.f3.length C, .int .i64 x.f4, .int .i64 x.f5]] v0 fun e w' => e = .returned (.bool (decide (0 < deepX x))) ∧ Below v0.heap.size v0 w' := by
  refine calls_enter (N := 6) (n := 5) (args := [.agg #[.int .u8 x.f0, .int .i64 x.f1, .string x.f2, .slice A x.f3.length C, .int .i64 x.f4, .int .i64 x.f5]]) Tryd.func11 rfl rfl rfl (H.init v0) (fun a hs => ?_)
  refine wp_seq ?_
  refine wp_region_lit ?_
  refine a_eff rfl (e_box (cs := #[_, _, _, _, _, _]) hs rfl rfl rfl ?_); clear hs a; intro gx a w hs
  refine a_val hs rfl rfl rfl (y_assign hs rfl) ?_; clear hs a; intro a hs
  refine wpList_nil (then_normal ?_)
  refine wp_seq ?_
  refine wp_region_lit ?_
  refine a_val hs rfl rfl rfl (y_loadPt 0 rfl hs Tryd.underlying25 rfl (by kernel_rfl) rfl) ?_; clear hs a; intro a hs
  refine a_eff rfl (e_callB Tryd.func20 rfl rfl hs rfl rfl (tree_Deep x A C _ (Kd.C_below hA hs.mem.base) hsm) ?_); clear hs a; intro a w hs
  refine a_val hs rfl rfl rfl (y_cmp (b := decide (0 < deepX x)) hs rfl rfl (congrArg some (decide_eq_decide.2 (by omega)))) ?_; clear hs a; intro a hs
  refine a_val hs rfl rfl rfl (y_assign hs rfl) ?_; clear hs a; intro a hs
  refine wpList_nil (then_normal ?_)
  refine wp_ret ?_
  refine fin_ret hs (.tmp (hs.slots _ _ rfl) .nil) ⟨rfl, hs.mem.base⟩
end Go.Proofs.YtibaidddhmdafaaDoor.E
