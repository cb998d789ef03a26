/- What YtibaidddhmdafaaDoorRTreeMays's proof reaches of its texts, part 17. Conditions: as each says. -/
import Derived.ArgAppend
import Derived.Below
import Derived.BigCall
import Derived.BigQuiet
import Derived.Deep.AppendLies
import Derived.Deep.CutBlock
import Derived.Deep.DeepCutAuto
import Derived.Deep.Draws
import Derived.Deep.LoopGhost
import Derived.Deep.OwnRows
import Derived.Deep.QuietTactic
import Derived.Deep.RegionHeld3
import Derived.Deep.WholeRow
import Derived.KernelRfl
import Derived.Laws.AppendOwn
import Derived.Laws.BitsLemmas
import Derived.Laws.BytesArg
import Derived.Laws.CopyRow
import Derived.Laws.Externs
import Derived.Laws.IdiomCopy
import Derived.Laws.MakeOwn
import Derived.Laws.OwnMore
import Derived.Laws.Rows
import Derived.Laws.Slices
import Derived.Laws.StructEq
import Derived.Laws.Tables
import Derived.Lib.AppendStr
import Derived.Lib.Builder
import Derived.Lib.Bytealg
import Derived.Lib.ConvBytes
import Derived.Lib.ItoaLen
import Derived.Lib.ItoaMem
import Derived.Lib.LaidTab
import Derived.Lib.Strings
import Derived.Lib.Walk
import Derived.Maps.AppendAt
import Derived.OrdersHeld
import Derived.OwnWalk
import Derived.RowKit
import Derived.RowKit3
import Derived.ScopeJumps
import Derived.Shelf.LaysM
import Derived.Shelf.Strconv.Itoa3
import Derived.Shelf.Strings.Builder1
import Derived.Sort.Grow
import Derived.Tactics
import Derived.Test.YtibaidddhmdafaaDoorProg
import Derived.WalkKit
import Derived.WideLaws
import Derived.Test.YtibaidddhmdafaaDoorZTreeMays5
import Derived.Test.YtibaidddhmdafaaDoorZTreeMays16
section
namespace Go.Proofs.YtibaidddhmdafaaDoor.E
open Go Go.RowKit Go.Proofs.YtibaidddhmdafaaDoorW.PrintWords Go.Proofs.YtibaidddhmdafaaDoorW.PrintLast Go.Proofs.YtibaidddhmdafaaDoorW.PrintMore Go.Proofs.YtibaidddhmdafaaDoor.PA
set_option linter.unusedVariables false
set_option linter.unusedSimpArgs false
set_option maxHeartbeats 4000000 in
set_option maxRecDepth 100000 in
theorem walk_item (g : Nat) (x : XI) (A5 A10 A11 A12 A16 : Option Addr) (c5 c10 c11 c12 c16 : Nat) (left : Int) (bs : List Res) (w0 w : World) (hA5 : Kd.C k25 w0 A5 x.f2.f3.length x.f2.f3) (hA10 : Kd.C k25 w0 A10 x.f3.f2.length x.f3.f2) (hA11 : Kd.C k42 w0 A11 x.f3.f3.length x.f3.f3) (hA12 : Kd.C (Kd.slice 25 k25) w0 A12 x.f3.f4.length x.f3.f4) (hA16 : Kd.C k25 w0 A16 x.f5.length x.f5) (hsm : smallI x) (hl : 0 ≤ left ∧ left ≤ 8192) (h : H w0 (pt g #[.int .i64 (left)] 102 :: bs) w) :
    Calls Tryd.prog 49 #[.pointer (some ⟨g, 0, none⟩), .agg #[.int .u8 x.f0, .string x.f1, .int .u8 x.f2.f0, .int .i64 x.f2.f1, .string x.f2.f2, .slice A5 x.f2.f3.length c5, .int .i64 x.f2.f4, .int .i64 x.f2.f5, .int .u8 x.f3.f0, .string x.f3.f1, .slice A10 x.f3.f2.length c10, .slice A11 x.f3.f3.length c11, .slice A12 x.f3.f4.length c12, .int .i64 x.f3.f5, .int .i64 x.f3.f6, .int .u8 x.f4, .slice A16 x.f5.length c16, .int .i64 x.f6, .int .i64 x.f7]] w fun e w' => e = .returned (.bool (itemF x left).1) ∧ H w0 (pt g #[.int .i64 ((itemF x left).2)] 102 :: bs) w' := by
  refine calls_enter (N := 129) (n := 127) (args := [.pointer (some ⟨g, 0, none⟩), .agg #[.int .u8 x.f0, .string x.f1, .int .u8 x.f2.f0, .int .i64 x.f2.f1, .string x.f2.f2, .slice A5 x.f2.f3.length c5, .int .i64 x.f2.f4, .int .i64 x.f2.f5, .int .u8 x.f3.f0, .string x.f3.f1, .slice A10 x.f3.f2.length c10, .slice A11 x.f3.f3.length c11, .slice A12 x.f3.f4.length c12, .int .i64 x.f3.f5, .int .i64 x.f3.f6, .int .u8 x.f4, .slice A16 x.f5.length c16, .int .i64 x.f6, .int .i64 x.f7]]) Tryd.func49 rfl rfl rfl (h) (fun a hs => ?_)
  refine wp_seq ?_
  refine wp_region_lit ?_
  refine a_eff rfl (e_box (cs := #[_, _, _, _, _, _, _, _, _, _, _, _, _, _, _, _, _, _, _]) hs rfl rfl rfl ?_); clear hs a; intro gx a w hs
  refine a_val hs rfl rfl rfl (y_assign hs rfl) ?_; clear hs a; intro a hs
  refine wpList_nil (then_normal ?_)
  refine wp_seq ?_
  refine wp_seq ?_
  refine wp_region_lit ?_
  refine a_val hs rfl rfl rfl (y_move hs rfl) ?_; clear hs a; intro a hs
  refine a_eff rfl (e_callX Tryd.func74 rfl rfl hs rfl rfl (walk_node g left hl _ w0 _ (hs.mem.to 1 rfl)) (fun e w1 ⟨he, hm⟩ => ⟨_, he, _, hm, ?_⟩)); clear hs a; intro a hs
  refine a_val hs rfl rfl rfl (y_not hs rfl) ?_; clear hs a; intro a hs
  refine wpList_nil (then_normal ?_)
  refine wp_cond_split (hs.ev rfl) (fun h11 => ?_) (fun h11 => ?_)
  · replace h11 := of_decide_eq_false (not_t h11)
    refine wp_seq ?_
    refine wp_region_lit ?_
    refine a_val hs rfl rfl rfl (y_assign hs rfl) ?_; clear hs a; intro a hs
    refine wpList_nil (then_normal ?_)
    refine wp_ret (then_ret ?_)
    have hX : itemF x left = (false, left - 1) := by unfold itemF; rw [if_pos (by omega)]
    refine fin_ret hs (.tmp (hs.slots _ _ rfl) .nil) ⟨?_, ?_⟩
    · rw [hX]; first | rfl | simp [tell]
    · rw [hX]; exact (hs.mem.to 1 rfl).drop
  · replace h11 := of_decide_eq_true (not_f h11)
    refine wp_skip (then_normal ?_)
    refine wp_seq ?_
    refine wp_region_lit ?_
    refine a_val hs rfl rfl rfl (y_assign hs rfl) ?_; clear hs a; intro a hs
    refine a_val hs rfl rfl rfl (y_assign hs rfl) ?_; clear hs a; intro a hs
    refine a_val hs rfl rfl rfl (y_assign hs rfl) ?_; clear hs a; intro a hs
    refine a_val hs rfl rfl rfl (y_assign hs rfl) ?_; clear hs a; intro a hs
    refine wpList_nil (then_normal ?_)
    refine wp_seq_cut (fun a w1 => ∃ (nm v sh li : Bool), (itemParts x.f0 x.f4 = some (nm, v, sh, li)) ∧ St 129 w0 [(0, .pointer (some ⟨g, 0, none⟩)), (3, .pointer (some ⟨gx, 0, none⟩)), (5, .bool nm), (6, .bool v), (7, .bool sh), (8, .bool li)] (pt g #[.int .i64 (left - 1)] 102 :: pt gx #[.int .u8 x.f0, .string x.f1, .int .u8 x.f2.f0, .int .i64 x.f2.f1, .string x.f2.f2, .slice A5 x.f2.f3.length c5, .int .i64 x.f2.f4, .int .i64 x.f2.f5, .int .u8 x.f3.f0, .string x.f3.f1, .slice A10 x.f3.f2.length c10, .slice A11 x.f3.f3.length c11, .slice A12 x.f3.f4.length c12, .int .i64 x.f3.f5, .int .i64 x.f3.f6, .int .u8 x.f4, .slice A16 x.f5.length c16, .int .i64 x.f6, .int .i64 x.f7] 45 :: bs) a w1) ?_ (fun a w1 hJ => ?_)
    · refine wp_seq ?_
      refine wp_region_lit ?_
      refine a_val hs rfl rfl rfl (y_faddr (k' := 0) 0 hs (by kernel_rfl) rfl rfl) ?_; clear hs a; intro a hs
      refine a_val hs rfl rfl rfl (y_load hs Tryd.underlying37 rfl rfl (fun w hw => (hw.to 1 rfl).cellV rfl)) ?_; clear hs a; intro a hs
      refine wpList_nil (then_normal ?_)
      refine wp_block ?_
      refine wp_seq ?_
      refine wp_block ?_
      refine wp_seq ?_
      refine wp_block ?_
      refine wp_seq ?_
      refine wp_block ?_
      refine wp_seq ?_
      refine wp_block ?_
      refine wp_seq ?_
      refine wp_block ?_
      refine wp_seq ?_
      refine wp_block ?_
      refine wp_seq ?_
      refine wp_seq ?_
      refine wp_seq ?_
      refine wp_region_lit ?_
      refine a_val hs rfl rfl rfl (y_cmp hs rfl rfl rfl) ?_; clear hs a; intro a hs
      refine a_val hs rfl rfl rfl (y_assign hs rfl) ?_; clear hs a; intro a hs
      refine wpList_nil (then_normal ?_)
      refine wp_cond_split (hs.ev rfl) (fun h14 => ?_) (fun h14 => ?_)
      · replace h14 := eq_of_beq h14
        refine wp_exit (then_exit (then_exit (in_here (then_normal ?_))))
        refine wp_region_lit ?_
        refine a_val hs rfl rfl rfl (y_assign hs rfl) ?_; clear hs a; intro a hs
        refine wpList_nil (in_normal (then_normal ?_))
        refine wp_seq ?_
        refine wp_region_lit ?_
        refine a_val hs rfl rfl rfl (y_assign hs rfl) ?_; clear hs a; intro a hs
        refine wpList_nil (then_normal ?_)
        refine wp_exit (in_other rfl (then_exit (in_other rfl (then_exit (in_other rfl (then_exit (in_other rfl (then_exit (in_here (then_normal ?_))))))))))
        refine ⟨true, true, false, false, by clear hs; unfold itemParts; (repeat' split) <;> first | rfl | (exfalso; omega) | (simp_all; done), ?_⟩
        exact (hs.mem_to ((hs.mem.to 1 rfl).to 1 rfl)).cut _ ⟨rfl, rfl, rfl, rfl, rfl, rfl, trivial⟩
      · replace h14 := ne_of_beq_false h14
        refine wp_skip (then_normal ?_)
        refine wp_seq ?_
        refine wp_seq ?_
        refine wp_region_lit ?_
        refine a_val hs rfl rfl rfl (y_cmp hs rfl rfl rfl) ?_; clear hs a; intro a hs
        refine a_val hs rfl rfl rfl (y_assign hs rfl) ?_; clear hs a; intro a hs
        refine wpList_nil (then_normal ?_)
        refine wp_cond_split (hs.ev rfl) (fun h16 => ?_) (fun h16 => ?_)
        · replace h16 := eq_of_beq h16
          refine wp_exit (then_exit (then_exit (in_other rfl (then_exit (in_here (then_normal ?_))))))
          refine wp_seq ?_
          refine wp_region_lit ?_
          refine a_val hs rfl rfl rfl (y_assign hs rfl) ?_; clear hs a; intro a hs
          refine wpList_nil (then_normal ?_)
          refine wp_exit (in_other rfl (then_exit (in_other rfl (then_exit (in_other rfl (then_exit (in_other rfl (then_exit (in_here (then_normal ?_))))))))))
          refine ⟨true, false, false, false, by clear hs; unfold itemParts; (repeat' split) <;> first | rfl | (exfalso; omega) | (simp_all; done), ?_⟩
          exact (hs.mem_to ((hs.mem.to 1 rfl).to 1 rfl)).cut _ ⟨rfl, rfl, rfl, rfl, rfl, rfl, trivial⟩
        · replace h16 := ne_of_beq_false h16
          refine wp_skip (then_normal ?_)
          refine wp_seq ?_
          refine wp_seq ?_
          refine wp_region_lit ?_
          refine a_val hs rfl rfl rfl (y_cmp hs rfl rfl rfl) ?_; clear hs a; intro a hs
          refine a_val hs rfl rfl rfl (y_assign hs rfl) ?_; clear hs a; intro a hs
          refine wpList_nil (then_normal ?_)
          refine wp_cond_split (hs.ev rfl) (fun h18 => ?_) (fun h18 => ?_)
          · replace h18 := eq_of_beq h18
            refine wp_exit (then_exit (then_exit (in_other rfl (then_exit (in_other rfl (then_exit (in_here (then_normal ?_))))))))
            refine wp_seq ?_
            refine wp_region_lit ?_
            refine a_val hs rfl rfl rfl (y_assign hs rfl) ?_; clear hs a; intro a hs
            refine a_val hs rfl rfl rfl (y_assign hs rfl) ?_; clear hs a; intro a hs
            refine wpList_nil (then_normal ?_)
            refine wp_exit (in_other rfl (then_exit (in_other rfl (then_exit (in_other rfl (then_exit (in_here (then_normal ?_))))))))
            refine ⟨true, false, true, false, by clear hs; unfold itemParts; (repeat' split) <;> first | rfl | (exfalso; omega) | (simp_all; done), ?_⟩
            exact (hs.mem_to ((hs.mem.to 1 rfl).to 1 rfl)).cut _ ⟨rfl, rfl, rfl, rfl, rfl, rfl, trivial⟩
          · replace h18 := ne_of_beq_false h18
            refine wp_skip (then_normal ?_)
            refine wp_seq ?_
            refine wp_seq ?_
            refine wp_seq ?_
            refine wp_region_lit ?_
            refine a_val hs rfl rfl rfl (y_cmp hs rfl rfl rfl) ?_; clear hs a; intro a hs
            refine a_val hs rfl rfl rfl (y_assign hs rfl) ?_; clear hs a; intro a hs
            refine wpList_nil (then_normal ?_)
            refine wp_cond_split (hs.ev rfl) (fun h20 => ?_) (fun h20 => ?_)
            · replace h20 := eq_of_beq h20
              replace hs := hs.say 20 rfl (congrArg Value.bool (beq_iff_eq.2 h20))
              refine wp_skip (then_normal ?_)
              refine wp_cond_true (hs.ev rfl) ?_
              refine wp_exit (then_exit (then_exit (in_other rfl (then_exit (in_other rfl (then_exit (in_other rfl (then_exit (in_here (then_normal ?_))))))))))
              refine wp_seq ?_
              refine wp_region_lit ?_
              refine a_val hs rfl rfl rfl (y_assign hs rfl) ?_; clear hs a; intro a hs
              refine wpList_nil (then_normal ?_)
              refine wp_exit (in_other rfl (then_exit (in_other rfl (then_exit (in_here (then_normal ?_))))))
              refine ⟨false, true, false, false, by clear hs; unfold itemParts; (repeat' split) <;> first | rfl | (exfalso; omega) | (simp_all; done), ?_⟩
              exact (hs.mem_to ((hs.mem.to 1 rfl).to 1 rfl)).cut _ ⟨rfl, rfl, rfl, rfl, rfl, rfl, trivial⟩
            · replace h20 := ne_of_beq_false h20
              replace hs := hs.say 20 rfl (congrArg Value.bool (beq_eq_false_iff_ne.2 h20))
              refine wp_region_lit ?_
              refine a_val hs rfl rfl rfl (y_cmp hs rfl rfl rfl) ?_; clear hs a; intro a hs
              refine a_val hs rfl rfl rfl (y_assign hs rfl) ?_; clear hs a; intro a hs
              refine wpList_nil (then_normal ?_)
              refine wp_cond_split (hs.ev rfl) (fun h20 => ?_) (fun h20 => ?_)
              · replace h20 := eq_of_beq h20
                replace hs := hs.say 20 rfl (congrArg Value.bool (beq_iff_eq.2 h20))
                refine wp_exit (then_exit (then_exit (in_other rfl (then_exit (in_other rfl (then_exit (in_other rfl (then_exit (in_here (then_normal ?_))))))))))
                refine wp_seq ?_
                refine wp_region_lit ?_
                refine a_val hs rfl rfl rfl (y_assign hs rfl) ?_; clear hs a; intro a hs
                refine wpList_nil (then_normal ?_)
                refine wp_exit (in_other rfl (then_exit (in_other rfl (then_exit (in_here (then_normal ?_))))))
                refine ⟨false, true, false, false, by clear hs; unfold itemParts; (repeat' split) <;> first | rfl | (exfalso; omega) | (simp_all; done), ?_⟩
                exact (hs.mem_to ((hs.mem.to 1 rfl).to 1 rfl)).cut _ ⟨rfl, rfl, rfl, rfl, rfl, rfl, trivial⟩
              · replace h20 := ne_of_beq_false h20
                replace hs := hs.say 20 rfl (congrArg Value.bool (beq_eq_false_iff_ne.2 h20))
                refine wp_skip (then_normal ?_)
                refine wp_seq ?_
                refine wp_region_lit ?_
                refine a_val hs rfl rfl rfl (y_cmp hs rfl rfl rfl) ?_; clear hs a; intro a hs
                refine a_val hs rfl rfl rfl (y_assign hs rfl) ?_; clear hs a; intro a hs
                refine wpList_nil (then_normal ?_)
                refine wp_cond_split (hs.ev rfl) (fun h23 => ?_) (fun h23 => ?_)
                · replace h23 := eq_of_beq h23
                  refine wp_exit (then_exit (in_other rfl (then_exit (in_other rfl (then_exit (in_other rfl (then_exit (in_other rfl (then_exit (in_here (then_normal ?_)))))))))))
                  refine wp_seq ?_
                  refine wp_seq ?_
                  refine b_enter [0, 1] (by kernel_rfl) hs #[false, false, false, false, false, false, false, false] (by rfl) 8 (by rfl) ?_; clear hs; intro w hs
                  refine b_take 0 rfl #[true, false, false, false, false, false, false, false] rfl (by kernel_rfl) hs ((((hs.mem.to 1 rfl).to 1 rfl).first 2)) rfl rfl rfl (fun _ _ _ h => h) (y_faddr (k' := 15) 15 hs (by kernel_rfl) rfl rfl) ?_; clear hs a; intro a hs
                  refine b_take 1 rfl #[true, true, false, false, false, false, false, false] rfl (by kernel_rfl) hs ((((hs.mem.to 1 rfl).to 1 rfl).first 2)) rfl rfl rfl (fun _ _ _ h => h) (y_load hs Tryd.underlying43 rfl rfl (fun w hw => (hw.to 1 rfl).cellV rfl)) ?_; clear hs a; intro a hs
                  refine b_take 2 rfl #[true, true, true, false, false, false, false, false] rfl (by kernel_rfl) hs ((((hs.mem.to 1 rfl).to 1 rfl).first 2)) rfl rfl rfl (fun _ _ _ h => h) (y_cmp hs rfl rfl rfl) ?_; clear hs a; intro a hs
                  refine b_take 3 rfl #[true, true, true, true, false, false, false, false] rfl (by kernel_rfl) hs ((((hs.mem.to 1 rfl).to 1 rfl).first 2)) rfl rfl rfl (fun _ _ _ h => h) (y_faddr (k' := 15) 15 hs (by kernel_rfl) rfl rfl) ?_; clear hs a; intro a hs
                  refine b_take 4 rfl #[true, true, true, true, true, false, false, false] rfl (by kernel_rfl) hs ((((hs.mem.to 1 rfl).to 1 rfl).first 2)) rfl rfl rfl (fun _ _ _ h => h) (y_load hs Tryd.underlying43 rfl rfl (fun w hw => (hw.to 1 rfl).cellV rfl)) ?_; clear hs a; intro a hs
                  refine b_take 5 rfl #[true, true, true, true, true, true, false, false] rfl (by kernel_rfl) hs ((((hs.mem.to 1 rfl).to 1 rfl).first 2)) rfl rfl rfl (fun _ _ _ h => h) (y_cmp hs rfl rfl rfl) ?_; clear hs a; intro a hs
                  refine b_take 6 rfl #[true, true, true, true, true, true, true, false] rfl (by kernel_rfl) hs ((((hs.mem.to 1 rfl).to 1 rfl).first 2)) rfl rfl rfl (fun _ _ _ h => h) (y_assign hs rfl) ?_; clear hs a; intro a hs
                  refine b_take 7 rfl #[true, true, true, true, true, true, true, true] rfl (by kernel_rfl) hs ((((hs.mem.to 1 rfl).to 1 rfl).first 2)) rfl rfl rfl (fun _ _ _ h => h) (y_assign hs rfl) ?_; clear hs a; intro a hs
                  refine b_done (by kernel_rfl) (then_normal ?_)
                  refine wp_seq ?_
                  refine wp_region_lit ?_
                  refine a_val hs rfl rfl rfl (y_faddr (k' := 15) 15 hs (by kernel_rfl) rfl rfl) ?_; clear hs a; intro a hs
                  refine a_val hs rfl rfl rfl (y_load hs Tryd.underlying43 rfl rfl (fun w hw => (hw.to 1 rfl).cellV rfl)) ?_; clear hs a; intro a hs
                  refine a_val hs rfl rfl rfl (y_cmp hs rfl rfl rfl) ?_; clear hs a; intro a hs
                  refine a_val hs rfl rfl rfl (y_move hs rfl) ?_; clear hs a; intro a hs
                  rcases hs.know (d := 34) rfl with ⟨h34, hs1⟩ | ⟨h34, hs1⟩ <;> replace hs := hs1 <;> clear hs1
                  · replace h34 := of_decide_eq_true h34
                    refine a_skip hs rfl rfl rfl ?_; clear hs a; intro a hs
                    refine a_skip hs rfl rfl rfl ?_; clear hs a; intro a hs
                    refine a_skip hs rfl rfl rfl ?_; clear hs a; intro a hs
                    refine a_val hs rfl rfl rfl (y_pickT hs rfl rfl rfl) ?_; clear hs a; intro a hs
                    refine wpList_nil (then_normal ?_)
                    refine wp_cond_true (hs.ev rfl) ?_
                    refine wp_seq ?_
                    refine wp_region_lit ?_
                    refine a_val hs rfl rfl rfl (y_assign hs rfl) ?_; clear hs a; intro a hs
                    refine wpList_nil (then_normal ?_)
                    refine wp_ret (then_ret (in_ret (then_ret (in_ret (then_ret ?_)))))
                    have hP : itemParts x.f0 x.f4 = none := by clear hs; unfold itemParts; (repeat' split) <;> first | rfl | (exfalso; omega)
                    have hH : ¬ headI x := by rintro ⟨nm, v, sh, li, h1, _⟩; rw [hP] at h1; cases h1
                    have hX : itemF x left = (false, left - 1) := by unfold itemF; rw [if_neg (by omega), if_neg hH]
                    refine fin_ret hs (.tmp (hs.slots _ _ rfl) .nil) ⟨?_, ?_⟩
                    · rw [hX]; first | rfl | simp [tell]
                    · rw [hX]; exact (hs.mem.to 1 rfl).drop
                  · replace h34 := of_decide_eq_false h34
                    refine a_valG hs rfl rfl rfl (y_faddr (k' := 15) 15 hs (by kernel_rfl) rfl rfl) ?_; clear hs a; intro a hs
                    refine a_valG hs rfl rfl rfl (y_load hs Tryd.underlying43 rfl rfl (fun w hw => (hw.to 1 rfl).cellV rfl)) ?_; clear hs a; intro a hs
                    refine a_valG hs rfl rfl rfl (y_cmp hs rfl rfl rfl) ?_; clear hs a; intro a hs
                    refine a_val hs rfl rfl rfl (y_pickF hs rfl rfl rfl) ?_; clear hs a; intro a hs
                    refine wpList_nil (then_normal ?_)
                    refine wp_cond_split (hs.ev rfl) (fun h38 => ?_) (fun h38 => ?_)
                    · replace h38 := of_decide_eq_true h38
                      refine wp_seq ?_
                      refine wp_region_lit ?_
                      refine a_val hs rfl rfl rfl (y_assign hs rfl) ?_; clear hs a; intro a hs
                      refine wpList_nil (then_normal ?_)
                      refine wp_ret (then_ret (in_ret (then_ret (in_ret (then_ret ?_)))))
                      have hP : itemParts x.f0 x.f4 = none := by clear hs; unfold itemParts; (repeat' split) <;> first | rfl | (exfalso; omega)
                      have hH : ¬ headI x := by rintro ⟨nm, v, sh, li, h1, _⟩; rw [hP] at h1; cases h1
                      have hX : itemF x left = (false, left - 1) := by unfold itemF; rw [if_neg (by omega), if_neg hH]
                      refine fin_ret hs (.tmp (hs.slots _ _ rfl) .nil) ⟨?_, ?_⟩
                      · rw [hX]; first | rfl | simp [tell]
                      · rw [hX]; exact (hs.mem.to 1 rfl).drop
                    · replace h38 := of_decide_eq_false h38
                      refine wp_skip (then_normal ?_)
                      refine wp_exit (in_other rfl (then_exit (in_here (then_normal ?_))))
                      refine ⟨false, (x.f4 == 3), false, (x.f4 == 4), by clear hs; unfold itemParts; (repeat' split) <;> first | rfl | (exfalso; omega) | (simp_all; done), ?_⟩
                      exact (hs.mem_to ((hs.mem.to 1 rfl).to 1 rfl)).cut _ ⟨rfl, rfl, rfl, rfl, rfl, rfl, trivial⟩
                · replace h23 := ne_of_beq_false h23
                  refine wp_skip (then_normal ?_)
                  refine wp_exit (in_other rfl (then_exit (in_other rfl (then_exit (in_other rfl (then_exit (in_other rfl (then_exit (in_other rfl (then_exit (in_here (then_normal ?_))))))))))))
                  refine wp_seq ?_
                  refine wp_seq ?_
                  refine wp_region_lit ?_
                  refine a_val hs rfl rfl rfl (y_assign hs rfl) ?_; clear hs a; intro a hs
                  refine wpList_nil (then_normal ?_)
                  refine wp_ret (then_ret (in_ret (then_ret ?_)))
                  have hP : itemParts x.f0 x.f4 = none := by clear hs; unfold itemParts; (repeat' split) <;> first | rfl | (exfalso; omega)
                  have hH : ¬ headI x := by rintro ⟨nm, v, sh, li, h1, _⟩; rw [hP] at h1; cases h1
                  have hX : itemF x left = (false, left - 1) := by unfold itemF; rw [if_neg (by omega), if_neg hH]
                  refine fin_ret hs (.tmp (hs.slots _ _ rfl) .nil) ⟨?_, ?_⟩
                  · rw [hX]; first | rfl | simp [tell]
                  · rw [hX]; exact (hs.mem.to 1 rfl).drop
    · clear hs
      obtain ⟨nm, v, sh, li, hsp, hs⟩ := hJ
      refine wp_seq ?_
      refine wp_block ?_
      refine wp_seq ?_
      rcases items_cases hsp with ⟨rfl, rfl, rfl, rfl, hk⟩ | ⟨rfl, rfl, rfl, rfl, hk⟩ | ⟨rfl, rfl, rfl, rfl, hk⟩ | ⟨rfl, rfl, rfl, rfl, hk⟩ | ⟨rfl, rfl, rfl, rfl, hk⟩ | ⟨rfl, rfl, rfl, rfl, hk⟩
      · refine wp_region_lit ?_
        refine a_val hs rfl rfl rfl (y_move hs rfl) ?_; clear hs a; intro a hs
        refine a_val hs rfl rfl rfl (y_move hs rfl) ?_; clear hs a; intro a hs
        refine a_valG hs rfl rfl rfl (y_faddr (k' := 1) 1 hs (by kernel_rfl) rfl rfl) ?_; clear hs a; intro a hs
        refine a_valG hs rfl rfl rfl (y_load hs Tryd.underlying9 rfl rfl (fun w hw => (hw.to 1 rfl).cellV rfl)) ?_; clear hs a; intro a hs
        refine a_effG hs rfl (e_callB Tryd.func75 rfl rfl hs rfl rfl (tree_named.calls _ x.f1 (nameOk x.f1) _ (tnamed_ok x.f1 hsm.1)) ?_); clear hs a; intro a w hs
        refine a_valG hs rfl rfl rfl (y_not hs rfl) ?_; clear hs a; intro a hs
        refine a_val hs rfl rfl rfl (y_pickT hs rfl rfl rfl) ?_; clear hs a; intro a hs
        refine a_val hs rfl rfl rfl (y_move hs rfl) ?_; clear hs a; intro a hs
        rcases hs.know (d := 47) rfl with ⟨h47, hs1⟩ | ⟨h47, hs1⟩ <;> replace hs := hs1 <;> clear hs1
        · replace h47 := (not_t h47)
          refine a_skip hs rfl rfl rfl ?_; clear hs a; intro a hs
          refine a_skip hs rfl rfl rfl ?_; clear hs a; intro a hs
          refine a_skip hs rfl rfl rfl ?_; clear hs a; intro a hs
          refine a_skip hs rfl rfl rfl ?_; clear hs a; intro a hs
          refine a_skip hs rfl rfl rfl ?_; clear hs a; intro a hs
          refine a_skip hs rfl rfl rfl ?_; clear hs a; intro a hs
          refine a_skip hs rfl rfl rfl ?_; clear hs a; intro a hs
          refine a_val hs rfl rfl rfl (y_pickT hs rfl rfl rfl) ?_; clear hs a; intro a hs
          refine a_val hs rfl rfl rfl (y_move hs rfl) ?_; clear hs a; intro a hs
          refine a_skip hs rfl rfl rfl ?_; clear hs a; intro a hs
          refine a_skip hs rfl rfl rfl ?_; clear hs a; intro a hs
          refine a_skip hs rfl rfl rfl ?_; clear hs a; intro a hs
          refine a_skip hs rfl rfl rfl ?_; clear hs a; intro a hs
          refine a_skip hs rfl rfl rfl ?_; clear hs a; intro a hs
          refine a_skip hs rfl rfl rfl ?_; clear hs a; intro a hs
          refine a_skip hs rfl rfl rfl ?_; clear hs a; intro a hs
          refine a_skip hs rfl rfl rfl ?_; clear hs a; intro a hs
          refine a_val hs rfl rfl rfl (y_pickT hs rfl rfl rfl) ?_; clear hs a; intro a hs
          refine a_val hs rfl rfl rfl (y_assign hs rfl) ?_; clear hs a; intro a hs
          refine wpList_nil (then_normal ?_)
          refine wp_cond_true (hs.ev rfl) ?_
          refine wp_seq ?_
          refine wp_region_lit ?_
          refine a_val hs rfl rfl rfl (y_assign hs rfl) ?_; clear hs a; intro a hs
          refine wpList_nil (then_normal ?_)
          refine wp_ret (in_ret (then_ret ?_))
          have hH : ¬ headI x := by
            rintro ⟨nm, v, sh, li, h1, n1, n2, n3, l1, l2, v1, s1⟩
            rw [hsp] at h1
            simp only [Option.some.injEq, Prod.mk.injEq] at h1
            obtain ⟨rfl, rfl, rfl, rfl⟩ := h1
            first | omega | (have := n2 rfl; omega) | (have := n3 (by omega); omega) | (have := l1 rfl; omega) | (have := l2 rfl; omega) | (rw [n1 rfl] at h47; cases h47; done) | (rw [v1 rfl] at h94; cases h94; done) | (rw [s1 rfl] at h85; cases h85; done)
          have hX : itemF x left = (false, left - 1) := by unfold itemF; rw [if_neg (by omega), if_neg hH]
          refine fin_ret hs (.tmp (hs.slots _ _ rfl) .nil) ⟨?_, ?_⟩
          · rw [hX]; first | rfl | simp [tell]
          · rw [hX]; exact (hs.mem.to 1 rfl).drop
        · replace h47 := (not_f h47)
          refine a_valG hs rfl rfl rfl (y_move hs rfl) ?_; clear hs a; intro a hs
          refine a_valG hs rfl rfl rfl (y_not hs rfl) ?_; clear hs a; intro a hs
          refine a_valG hs rfl rfl rfl (y_move hs rfl) ?_; clear hs a; intro a hs
          refine a_skip hs rfl rfl rfl ?_; clear hs a; intro a hs
          refine a_skip hs rfl rfl rfl ?_; clear hs a; intro a hs
          refine a_skip hs rfl rfl rfl ?_; clear hs a; intro a hs
          refine a_valG hs rfl rfl rfl (y_pickF hs rfl rfl rfl) ?_; clear hs a; intro a hs
          refine a_val hs rfl rfl rfl (y_pickF hs rfl rfl rfl) ?_; clear hs a; intro a hs
          refine a_val hs rfl rfl rfl (y_move hs rfl) ?_; clear hs a; intro a hs
          refine a_valG hs rfl rfl rfl (y_faddr (k' := 0) 0 hs (by kernel_rfl) rfl rfl) ?_; clear hs a; intro a hs
          refine a_valG hs rfl rfl rfl (y_load hs Tryd.underlying37 rfl rfl (fun w hw => (hw.to 1 rfl).cellV rfl)) ?_; clear hs a; intro a hs
          refine a_valG hs rfl rfl rfl (y_cmp hs rfl rfl rfl) ?_; clear hs a; intro a hs
          refine a_valG hs rfl rfl rfl (y_move hs rfl) ?_; clear hs a; intro a hs
          rcases hs.know (d := 60) rfl with ⟨h60, hs1⟩ | ⟨h60, hs1⟩ <;> replace hs := hs1 <;> clear hs1
          · replace h60 := bne_iff_ne.1 h60
            refine a_valG hs rfl rfl rfl (y_faddr (k' := 15) 15 hs (by kernel_rfl) rfl rfl) ?_; clear hs a; intro a hs
            refine a_valG hs rfl rfl rfl (y_load hs Tryd.underlying43 rfl rfl (fun w hw => (hw.to 1 rfl).cellV rfl)) ?_; clear hs a; intro a hs
            refine a_valG hs rfl rfl rfl (y_cmp hs rfl rfl rfl) ?_; clear hs a; intro a hs
            refine a_valG hs rfl rfl rfl (y_pickT hs rfl rfl rfl) ?_; clear hs a; intro a hs
            refine a_val hs rfl rfl rfl (y_pickF hs rfl rfl rfl) ?_; clear hs a; intro a hs
            refine a_val hs rfl rfl rfl (y_assign hs rfl) ?_; clear hs a; intro a hs
            refine wpList_nil (then_normal ?_)
            refine wp_cond_split (hs.ev rfl) (fun h39 => ?_) (fun h39 => ?_)
            · replace h39 := bne_iff_ne.1 h39
              refine wp_seq ?_
              refine wp_region_lit ?_
              refine a_val hs rfl rfl rfl (y_assign hs rfl) ?_; clear hs a; intro a hs
              refine wpList_nil (then_normal ?_)
              refine wp_ret (in_ret (then_ret ?_))
              have hH : ¬ headI x := by
                rintro ⟨nm, v, sh, li, h1, n1, n2, n3, l1, l2, v1, s1⟩
                rw [hsp] at h1
                simp only [Option.some.injEq, Prod.mk.injEq] at h1
                obtain ⟨rfl, rfl, rfl, rfl⟩ := h1
                first | omega | (have := n2 rfl; omega) | (have := n3 (by omega); omega) | (have := l1 rfl; omega) | (have := l2 rfl; omega) | (rw [n1 rfl] at h47; cases h47; done) | (rw [v1 rfl] at h94; cases h94; done) | (rw [s1 rfl] at h85; cases h85; done)
              have hX : itemF x left = (false, left - 1) := by unfold itemF; rw [if_neg (by omega), if_neg hH]
              refine fin_ret hs (.tmp (hs.slots _ _ rfl) .nil) ⟨?_, ?_⟩
              · rw [hX]; first | rfl | simp [tell]
              · rw [hX]; exact (hs.mem.to 1 rfl).drop
            · replace h39 := bne_eq_false_iff_eq.1 h39
              refine wp_seq ?_
              refine wp_region_lit ?_
              refine a_val hs rfl rfl rfl (y_move hs rfl) ?_; clear hs a; intro a hs
              refine a_val hs rfl rfl rfl (y_move hs rfl) ?_; clear hs a; intro a hs
              refine a_skip hs rfl rfl rfl ?_; clear hs a; intro a hs
              refine a_skip hs rfl rfl rfl ?_; clear hs a; intro a hs
              refine a_skip hs rfl rfl rfl ?_; clear hs a; intro a hs
              refine a_skip hs rfl rfl rfl ?_; clear hs a; intro a hs
              refine a_skip hs rfl rfl rfl ?_; clear hs a; intro a hs
              refine a_val hs rfl rfl rfl (y_pickF hs rfl rfl rfl) ?_; clear hs a; intro a hs
              refine a_val hs rfl rfl rfl (y_move hs rfl) ?_; clear hs a; intro a hs
              refine a_valG hs rfl rfl rfl (y_move hs rfl) ?_; clear hs a; intro a hs
              refine a_valG hs rfl rfl rfl (y_not hs rfl) ?_; clear hs a; intro a hs
              refine a_valG hs rfl rfl rfl (y_move hs rfl) ?_; clear hs a; intro a hs
              refine a_valG hs rfl rfl rfl (y_faddr (k' := 16) 16 hs (by kernel_rfl) rfl rfl) ?_; clear hs a; intro a hs
              refine a_valG hs rfl rfl rfl (y_load hs Tryd.underlying23 rfl rfl (fun w hw => (hw.to 1 rfl).cellV rfl)) ?_; clear hs a; intro a hs
              refine a_valG hs rfl rfl rfl (y_lenL hs Tryd.underlying23 rfl) ?_; clear hs a; intro a hs
              refine a_valG hs rfl rfl rfl (y_cmp hs rfl rfl rfl) ?_; clear hs a; intro a hs
              refine a_valG hs rfl rfl rfl (y_pickT hs rfl rfl rfl) ?_; clear hs a; intro a hs
              refine a_val hs rfl rfl rfl (y_pickF hs rfl rfl rfl) ?_; clear hs a; intro a hs
              refine a_val hs rfl rfl rfl (y_assign hs rfl) ?_; clear hs a; intro a hs
              refine wpList_nil (then_normal ?_)
              refine wp_cond_split (hs.ev rfl) (fun h66 => ?_) (fun h66 => ?_)
              · replace h66 := of_decide_eq_true h66
                refine wp_seq ?_
                refine wp_region_lit ?_
                refine a_val hs rfl rfl rfl (y_assign hs rfl) ?_; clear hs a; intro a hs
                refine wpList_nil (then_normal ?_)
                refine wp_ret (in_ret (then_ret ?_))
                have hH : ¬ headI x := by
                  rintro ⟨nm, v, sh, li, h1, n1, n2, n3, l1, l2, v1, s1⟩
                  rw [hsp] at h1
                  simp only [Option.some.injEq, Prod.mk.injEq] at h1
                  obtain ⟨rfl, rfl, rfl, rfl⟩ := h1
                  first | omega | (have := n2 rfl; omega) | (have := n3 (by omega); omega) | (have := l1 rfl; omega) | (have := l2 rfl; omega) | (rw [n1 rfl] at h47; cases h47; done) | (rw [v1 rfl] at h94; cases h94; done) | (rw [s1 rfl] at h85; cases h85; done)
                have hX : itemF x left = (false, left - 1) := by unfold itemF; rw [if_neg (by omega), if_neg hH]
                refine fin_ret hs (.tmp (hs.slots _ _ rfl) .nil) ⟨?_, ?_⟩
                · rw [hX]; first | rfl | simp [tell]
                · rw [hX]; exact (hs.mem.to 1 rfl).drop
              · replace h66 := of_decide_eq_false h66
                refine wp_seq ?_
                refine wp_region_lit ?_
                refine a_val hs rfl rfl rfl (y_move hs rfl) ?_; clear hs a; intro a hs
                refine a_val hs rfl rfl rfl (y_not hs rfl) ?_; clear hs a; intro a hs
                refine a_val hs rfl rfl rfl (y_move hs rfl) ?_; clear hs a; intro a hs
                refine a_skip hs rfl rfl rfl ?_; clear hs a; intro a hs
                refine a_skip hs rfl rfl rfl ?_; clear hs a; intro a hs
                refine a_skip hs rfl rfl rfl ?_; clear hs a; intro a hs
                refine a_skip hs rfl rfl rfl ?_; clear hs a; intro a hs
                refine a_val hs rfl rfl rfl (y_pickF hs rfl rfl rfl) ?_; clear hs a; intro a hs
                refine a_val hs rfl rfl rfl (y_move hs rfl) ?_; clear hs a; intro a hs
                refine a_valG hs rfl rfl rfl (y_move hs rfl) ?_; clear hs a; intro a hs
                refine a_valG hs rfl rfl rfl (y_not hs rfl) ?_; clear hs a; intro a hs
                refine a_valG hs rfl rfl rfl (y_move hs rfl) ?_; clear hs a; intro a hs
                refine a_valG hs rfl rfl rfl (y_faddr (k' := 8) 8 hs (by kernel_rfl) rfl rfl) ?_; clear hs a; intro a hs
                refine a_valG hs rfl rfl rfl (y_loadAgg (vs := [.int .u8 x.f3.f0, .string x.f3.f1, .slice A10 x.f3.f2.length c10, .slice A11 x.f3.f3.length c11, .slice A12 x.f3.f4.length c12, .int .i64 x.f3.f5, .int .i64 x.f3.f6]) hs Tryd.underlying41 rfl (by kernel_rfl) rfl (fun w hw k v hk => ((hw.to 1 rfl).cell).trans (sub_at 7 rfl hk))) ?_; clear hs a; intro a hs
                refine a_effG hs rfl (e_callB Tryd.func83 rfl rfl hs rfl rfl (tree_noShape x.f3 A10 A11 A12 c10 c11 c12 _) ?_); clear hs a; intro a w hs
                refine a_valG hs rfl rfl rfl (y_not hs rfl) ?_; clear hs a; intro a hs
                refine a_valG hs rfl rfl rfl (y_pickT hs rfl rfl rfl) ?_; clear hs a; intro a hs
                refine a_val hs rfl rfl rfl (y_pickF hs rfl rfl rfl) ?_; clear hs a; intro a hs
                refine a_val hs rfl rfl rfl (y_assign hs rfl) ?_; clear hs a; intro a hs
                refine wpList_nil (then_normal ?_)
                refine wp_cond_split (hs.ev rfl) (fun h85 => ?_) (fun h85 => ?_)
                · replace h85 := (not_t h85)
                  refine wp_seq ?_
                  refine wp_region_lit ?_
                  refine a_val hs rfl rfl rfl (y_assign hs rfl) ?_; clear hs a; intro a hs
                  refine wpList_nil (then_normal ?_)
                  refine wp_ret (in_ret (then_ret ?_))
                  have hH : ¬ headI x := by
                    rintro ⟨nm, v, sh, li, h1, n1, n2, n3, l1, l2, v1, s1⟩
                    rw [hsp] at h1
                    simp only [Option.some.injEq, Prod.mk.injEq] at h1
                    obtain ⟨rfl, rfl, rfl, rfl⟩ := h1
                    first | omega | (have := n2 rfl; omega) | (have := n3 (by omega); omega) | (have := l1 rfl; omega) | (have := l2 rfl; omega) | (rw [n1 rfl] at h47; cases h47; done) | (rw [v1 rfl] at h94; cases h94; done) | (rw [s1 rfl] at h85; cases h85; done)
                  have hX : itemF x left = (false, left - 1) := by unfold itemF; rw [if_neg (by omega), if_neg hH]
                  refine fin_ret hs (.tmp (hs.slots _ _ rfl) .nil) ⟨?_, ?_⟩
                  · rw [hX]; first | rfl | simp [tell]
                  · rw [hX]; exact (hs.mem.to 1 rfl).drop
                · replace h85 := (not_f h85)
                  refine wp_skip (in_normal (then_normal ?_))
                  refine wp_seq ?_
                  have hH : headI x := ⟨_, _, _, _, hsp, (fun _ => h47), (fun h => by cases h), (fun h5 => by omega), (fun h => by cases h), (fun _ => by omega), (fun h => by cases h), (fun _ => h85)⟩
                  obtain ⟨RR1, hRR⟩ : ∃ RR1, RR1 = stE x.f2 (left - 1) := ⟨_, rfl⟩
                  have hV : valI x (left - 1) = RR1 := by unfold valI; rw [if_pos (show hasV x by unfold hasV; omega), hRR]
                  refine wp_region_lit ?_
                  refine a_val hs rfl rfl rfl (y_move hs rfl) ?_; clear hs a; intro a hs
                  refine a_val hs rfl rfl rfl (y_not hs rfl) ?_; clear hs a; intro a hs
                  refine a_val hs rfl rfl rfl (y_move hs rfl) ?_; clear hs a; intro a hs
                  refine a_valG hs rfl rfl rfl (y_move hs rfl) ?_; clear hs a; intro a hs
                  refine a_valG hs rfl rfl rfl (y_faddr (k' := 2) 2 hs (by kernel_rfl) rfl rfl) ?_; clear hs a; intro a hs
                  refine a_valG hs rfl rfl rfl (y_loadAgg (vs := [.int .u8 x.f2.f0, .int .i64 x.f2.f1, .string x.f2.f2, .slice A5 x.f2.f3.length c5, .int .i64 x.f2.f4, .int .i64 x.f2.f5]) hs Tryd.underlying24 rfl (by kernel_rfl) rfl (fun w hw k v hk => ((hw.to 1 rfl).cell).trans (sub_at 6 rfl hk))) ?_; clear hs a; intro a hs
                  refine a_effG hs rfl (e_callX Tryd.func44 rfl rfl hs rfl rfl (walk_expr 16 (by decide) x.f2 A5 c5 g (left - 1) _ w0 _ hA5 hsm.2.1 (by omega) hs.mem) (fun e w1 ⟨he, hm⟩ => ⟨_, he, _, hm, ?_⟩)); clear hs a; intro a hs
                  refine a_valG hs rfl rfl rfl (y_cmp hs rfl rfl rfl) ?_; clear hs a; intro a hs
                  refine a_val hs rfl rfl rfl (y_pickF hs rfl rfl rfl) ?_; clear hs a; intro a hs
                  refine a_val hs rfl rfl rfl (y_move hs rfl) ?_; clear hs a; intro a hs
                  rcases hs.know (d := 113) rfl with ⟨h113, hs1⟩ | ⟨h113, hs1⟩ <;> replace hs := hs1 <;> clear hs1
                  · replace h113 := of_decide_eq_true h113
                    rw [show (xexpr 16 x.f2 (left - 1)).2 = RR1.2 by rw [hRR]; rfl] at hs
                    have hV1 : RR1.1 = true := by rw [hRR]; exact decide_eq_true (by omega)
                    have hvf := valI_falls x (left - 1) (by omega)
                    rw [hV] at hvf
                    have hb1 : 0 ≤ RR1.2 ∧ RR1.2 ≤ 8192 := ⟨hvf.2.2 hV1, by have := hvf.2.1; omega⟩
                    refine a_valG hs rfl rfl rfl (y_move hs rfl) ?_; clear hs a; intro a hs
                    refine a_valG hs rfl rfl rfl (y_not hs rfl) ?_; clear hs a; intro a hs
                    refine a_valG hs rfl rfl rfl (y_move hs rfl) ?_; clear hs a; intro a hs
                    refine a_skip hs rfl rfl rfl ?_; clear hs a; intro a hs
                    refine a_skip hs rfl rfl rfl ?_; clear hs a; intro a hs
                    refine a_skip hs rfl rfl rfl ?_; clear hs a; intro a hs
                    refine a_skip hs rfl rfl rfl ?_; clear hs a; intro a hs
                    refine a_valG hs rfl rfl rfl (y_pickT hs rfl rfl rfl) ?_; clear hs a; intro a hs
                    refine a_val hs rfl rfl rfl (y_pickT hs rfl rfl rfl) ?_; clear hs a; intro a hs
                    refine a_val hs rfl rfl rfl (y_move hs rfl) ?_; clear hs a; intro a hs
                    refine a_valG hs rfl rfl rfl (y_move hs rfl) ?_; clear hs a; intro a hs
                    refine a_valG hs rfl rfl rfl (y_faddr (k' := 16) 16 hs (by kernel_rfl) rfl rfl) ?_; clear hs a; intro a hs
                    refine a_valG hs rfl rfl rfl (y_load hs Tryd.underlying23 rfl rfl (fun w hw => (hw.to 1 rfl).cellV rfl)) ?_; clear hs a; intro a hs
                    obtain ⟨RR2, hRR2⟩ : ∃ RR2 : Bool × Int, RR2 = (true, RR1.2) := ⟨_, rfl⟩
                    have hS : shI x RR1.2 = RR2 := by unfold shI; rw [if_neg (by omega), hRR2]
                    have hS1 : RR2.1 = true := by rw [hRR2]
                    have hb2 : 0 ≤ RR2.2 ∧ RR2.2 ≤ 8192 := by rw [hRR2]; exact hb1
                    rw [show RR1.2 = RR2.2 by rw [hRR2]] at hs
                    refine a_effG hs rfl (e_callX Tryd.func77 rfl rfl hs rfl rfl (walk_exprs g A16 c16 x.f5 RR2.2 _ w0 _ hA16 hsm.2.2.2 hb2 hs.mem) (fun e w1 ⟨he, hm⟩ => ⟨_, he, _, hm, ?_⟩)); clear hs a; intro a hs
                    refine a_val hs rfl rfl rfl (y_pickT hs rfl rfl rfl) ?_; clear hs a; intro a hs
                    refine a_val hs rfl rfl rfl (y_assign hs rfl) ?_; clear hs a; intro a hs
                    refine wpList_nil (then_normal ?_)
                    refine wp_ret ?_
                    have hX : itemF x left = xlist stE x.f5 RR2.2 := by unfold itemF; rw [if_neg (by omega), if_pos hH, hV, if_pos hV1, hS, if_pos hS1]
                    refine fin_ret hs (.tmp (hs.slots _ _ rfl) .nil) ⟨?_, ?_⟩
                    · rw [hX]; first | rfl | simp [tell]
                    · rw [hX]; exact (hs.mem.to 1 rfl).drop
                  · replace h113 := of_decide_eq_false h113
                    refine a_skip hs rfl rfl rfl ?_; clear hs a; intro a hs
                    refine a_skip hs rfl rfl rfl ?_; clear hs a; intro a hs
                    refine a_skip hs rfl rfl rfl ?_; clear hs a; intro a hs
                    refine a_skip hs rfl rfl rfl ?_; clear hs a; intro a hs
                    refine a_skip hs rfl rfl rfl ?_; clear hs a; intro a hs
                    refine a_skip hs rfl rfl rfl ?_; clear hs a; intro a hs
                    refine a_skip hs rfl rfl rfl ?_; clear hs a; intro a hs
                    refine a_skip hs rfl rfl rfl ?_; clear hs a; intro a hs
                    refine a_val hs rfl rfl rfl (y_pickF hs rfl rfl rfl) ?_; clear hs a; intro a hs
                    refine a_val hs rfl rfl rfl (y_move hs rfl) ?_; clear hs a; intro a hs
                    refine a_skip hs rfl rfl rfl ?_; clear hs a; intro a hs
                    refine a_skip hs rfl rfl rfl ?_; clear hs a; intro a hs
                    refine a_skip hs rfl rfl rfl ?_; clear hs a; intro a hs
                    refine a_skip hs rfl rfl rfl ?_; clear hs a; intro a hs
                    refine a_val hs rfl rfl rfl (y_pickF hs rfl rfl rfl) ?_; clear hs a; intro a hs
                    refine a_val hs rfl rfl rfl (y_assign hs rfl) ?_; clear hs a; intro a hs
                    refine wpList_nil (then_normal ?_)
                    refine wp_ret ?_
                    have hE1 : RR1 = (false, (xexpr 16 x.f2 (left - 1)).2) := by rw [hRR]; unfold stE; rw [decide_eq_false (by omega)]
                    have hX : itemF x left = (false, (xexpr 16 x.f2 (left - 1)).2) := by unfold itemF; rw [if_neg (by omega), if_pos hH, hV, if_neg (by rw [hE1]; exact Bool.false_ne_true), hE1]
                    refine fin_ret hs (.tmp (hs.slots _ _ rfl) .nil) ⟨?_, ?_⟩
                    · rw [hX]; first | rfl | simp [tell]
                    · rw [hX]; exact (hs.mem.to 1 rfl).drop
          · replace h60 := bne_eq_false_iff_eq.1 h60
            refine a_skip hs rfl rfl rfl ?_; clear hs a; intro a hs
            refine a_skip hs rfl rfl rfl ?_; clear hs a; intro a hs
            refine a_skip hs rfl rfl rfl ?_; clear hs a; intro a hs
            refine a_valG hs rfl rfl rfl (y_pickF hs rfl rfl rfl) ?_; clear hs a; intro a hs
            refine a_val hs rfl rfl rfl (y_pickF hs rfl rfl rfl) ?_; clear hs a; intro a hs
            refine a_val hs rfl rfl rfl (y_assign hs rfl) ?_; clear hs a; intro a hs
            refine wpList_nil (then_normal ?_)
            refine wp_cond_false (hs.ev rfl) ?_
            refine wp_seq ?_
            refine wp_region_lit ?_
            refine a_val hs rfl rfl rfl (y_move hs rfl) ?_; clear hs a; intro a hs
            refine a_val hs rfl rfl rfl (y_move hs rfl) ?_; clear hs a; intro a hs
            refine a_skip hs rfl rfl rfl ?_; clear hs a; intro a hs
            refine a_skip hs rfl rfl rfl ?_; clear hs a; intro a hs
            refine a_skip hs rfl rfl rfl ?_; clear hs a; intro a hs
            refine a_skip hs rfl rfl rfl ?_; clear hs a; intro a hs
            refine a_skip hs rfl rfl rfl ?_; clear hs a; intro a hs
            refine a_val hs rfl rfl rfl (y_pickF hs rfl rfl rfl) ?_; clear hs a; intro a hs
            refine a_val hs rfl rfl rfl (y_move hs rfl) ?_; clear hs a; intro a hs
            refine a_valG hs rfl rfl rfl (y_move hs rfl) ?_; clear hs a; intro a hs
            refine a_valG hs rfl rfl rfl (y_not hs rfl) ?_; clear hs a; intro a hs
            refine a_valG hs rfl rfl rfl (y_move hs rfl) ?_; clear hs a; intro a hs
            refine a_valG hs rfl rfl rfl (y_faddr (k' := 16) 16 hs (by kernel_rfl) rfl rfl) ?_; clear hs a; intro a hs
            refine a_valG hs rfl rfl rfl (y_load hs Tryd.underlying23 rfl rfl (fun w hw => (hw.to 1 rfl).cellV rfl)) ?_; clear hs a; intro a hs
            refine a_valG hs rfl rfl rfl (y_lenL hs Tryd.underlying23 rfl) ?_; clear hs a; intro a hs
            refine a_valG hs rfl rfl rfl (y_cmp hs rfl rfl rfl) ?_; clear hs a; intro a hs
            refine a_valG hs rfl rfl rfl (y_pickT hs rfl rfl rfl) ?_; clear hs a; intro a hs
            refine a_val hs rfl rfl rfl (y_pickF hs rfl rfl rfl) ?_; clear hs a; intro a hs
            refine a_val hs rfl rfl rfl (y_assign hs rfl) ?_; clear hs a; intro a hs
            refine wpList_nil (then_normal ?_)
            refine wp_cond_split (hs.ev rfl) (fun h66 => ?_) (fun h66 => ?_)
            · replace h66 := of_decide_eq_true h66
              refine wp_seq ?_
              refine wp_region_lit ?_
              refine a_val hs rfl rfl rfl (y_assign hs rfl) ?_; clear hs a; intro a hs
              refine wpList_nil (then_normal ?_)
              refine wp_ret (in_ret (then_ret ?_))
              have hH : ¬ headI x := by
                rintro ⟨nm, v, sh, li, h1, n1, n2, n3, l1, l2, v1, s1⟩
                rw [hsp] at h1
                simp only [Option.some.injEq, Prod.mk.injEq] at h1
                obtain ⟨rfl, rfl, rfl, rfl⟩ := h1
                first | omega | (have := n2 rfl; omega) | (have := n3 (by omega); omega) | (have := l1 rfl; omega) | (have := l2 rfl; omega) | (rw [n1 rfl] at h47; cases h47; done) | (rw [v1 rfl] at h94; cases h94; done) | (rw [s1 rfl] at h85; cases h85; done)
              have hX : itemF x left = (false, left - 1) := by unfold itemF; rw [if_neg (by omega), if_neg hH]
              refine fin_ret hs (.tmp (hs.slots _ _ rfl) .nil) ⟨?_, ?_⟩
              · rw [hX]; first | rfl | simp [tell]
              · rw [hX]; exact (hs.mem.to 1 rfl).drop
            · replace h66 := of_decide_eq_false h66
              refine wp_seq ?_
              refine wp_region_lit ?_
              refine a_val hs rfl rfl rfl (y_move hs rfl) ?_; clear hs a; intro a hs
              refine a_val hs rfl rfl rfl (y_not hs rfl) ?_; clear hs a; intro a hs
              refine a_val hs rfl rfl rfl (y_move hs rfl) ?_; clear hs a; intro a hs
              refine a_skip hs rfl rfl rfl ?_; clear hs a; intro a hs
              refine a_skip hs rfl rfl rfl ?_; clear hs a; intro a hs
              refine a_skip hs rfl rfl rfl ?_; clear hs a; intro a hs
              refine a_skip hs rfl rfl rfl ?_; clear hs a; intro a hs
              refine a_val hs rfl rfl rfl (y_pickF hs rfl rfl rfl) ?_; clear hs a; intro a hs
              refine a_val hs rfl rfl rfl (y_move hs rfl) ?_; clear hs a; intro a hs
              refine a_valG hs rfl rfl rfl (y_move hs rfl) ?_; clear hs a; intro a hs
              refine a_valG hs rfl rfl rfl (y_not hs rfl) ?_; clear hs a; intro a hs
              refine a_valG hs rfl rfl rfl (y_move hs rfl) ?_; clear hs a; intro a hs
              refine a_valG hs rfl rfl rfl (y_faddr (k' := 8) 8 hs (by kernel_rfl) rfl rfl) ?_; clear hs a; intro a hs
              refine a_valG hs rfl rfl rfl (y_loadAgg (vs := [.int .u8 x.f3.f0, .string x.f3.f1, .slice A10 x.f3.f2.length c10, .slice A11 x.f3.f3.length c11, .slice A12 x.f3.f4.length c12, .int .i64 x.f3.f5, .int .i64 x.f3.f6]) hs Tryd.underlying41 rfl (by kernel_rfl) rfl (fun w hw k v hk => ((hw.to 1 rfl).cell).trans (sub_at 7 rfl hk))) ?_; clear hs a; intro a hs
              refine a_effG hs rfl (e_callB Tryd.func83 rfl rfl hs rfl rfl (tree_noShape x.f3 A10 A11 A12 c10 c11 c12 _) ?_); clear hs a; intro a w hs
              refine a_valG hs rfl rfl rfl (y_not hs rfl) ?_; clear hs a; intro a hs
              refine a_valG hs rfl rfl rfl (y_pickT hs rfl rfl rfl) ?_; clear hs a; intro a hs
              refine a_val hs rfl rfl rfl (y_pickF hs rfl rfl rfl) ?_; clear hs a; intro a hs
              refine a_val hs rfl rfl rfl (y_assign hs rfl) ?_; clear hs a; intro a hs
              refine wpList_nil (then_normal ?_)
              refine wp_cond_split (hs.ev rfl) (fun h85 => ?_) (fun h85 => ?_)
              · replace h85 := (not_t h85)
                refine wp_seq ?_
                refine wp_region_lit ?_
                refine a_val hs rfl rfl rfl (y_assign hs rfl) ?_; clear hs a; intro a hs
                refine wpList_nil (then_normal ?_)
                refine wp_ret (in_ret (then_ret ?_))
                have hH : ¬ headI x := by
                  rintro ⟨nm, v, sh, li, h1, n1, n2, n3, l1, l2, v1, s1⟩
                  rw [hsp] at h1
                  simp only [Option.some.injEq, Prod.mk.injEq] at h1
                  obtain ⟨rfl, rfl, rfl, rfl⟩ := h1
                  first | omega | (have := n2 rfl; omega) | (have := n3 (by omega); omega) | (have := l1 rfl; omega) | (have := l2 rfl; omega) | (rw [n1 rfl] at h47; cases h47; done) | (rw [v1 rfl] at h94; cases h94; done) | (rw [s1 rfl] at h85; cases h85; done)
                have hX : itemF x left = (false, left - 1) := by unfold itemF; rw [if_neg (by omega), if_neg hH]
                refine fin_ret hs (.tmp (hs.slots _ _ rfl) .nil) ⟨?_, ?_⟩
                · rw [hX]; first | rfl | simp [tell]
                · rw [hX]; exact (hs.mem.to 1 rfl).drop
              · replace h85 := (not_f h85)
                refine wp_skip (in_normal (then_normal ?_))
                refine wp_seq ?_
                have hH : headI x := ⟨_, _, _, _, hsp, (fun _ => h47), (fun h => by cases h), (fun h5 => by omega), (fun h => by cases h), (fun _ => by omega), (fun h => by cases h), (fun _ => h85)⟩
                obtain ⟨RR1, hRR⟩ : ∃ RR1, RR1 = stE x.f2 (left - 1) := ⟨_, rfl⟩
                have hV : valI x (left - 1) = RR1 := by unfold valI; rw [if_pos (show hasV x by unfold hasV; omega), hRR]
                refine wp_region_lit ?_
                refine a_val hs rfl rfl rfl (y_move hs rfl) ?_; clear hs a; intro a hs
                refine a_val hs rfl rfl rfl (y_not hs rfl) ?_; clear hs a; intro a hs
                refine a_val hs rfl rfl rfl (y_move hs rfl) ?_; clear hs a; intro a hs
                refine a_valG hs rfl rfl rfl (y_move hs rfl) ?_; clear hs a; intro a hs
                refine a_valG hs rfl rfl rfl (y_faddr (k' := 2) 2 hs (by kernel_rfl) rfl rfl) ?_; clear hs a; intro a hs
                refine a_valG hs rfl rfl rfl (y_loadAgg (vs := [.int .u8 x.f2.f0, .int .i64 x.f2.f1, .string x.f2.f2, .slice A5 x.f2.f3.length c5, .int .i64 x.f2.f4, .int .i64 x.f2.f5]) hs Tryd.underlying24 rfl (by kernel_rfl) rfl (fun w hw k v hk => ((hw.to 1 rfl).cell).trans (sub_at 6 rfl hk))) ?_; clear hs a; intro a hs
                refine a_effG hs rfl (e_callX Tryd.func44 rfl rfl hs rfl rfl (walk_expr 16 (by decide) x.f2 A5 c5 g (left - 1) _ w0 _ hA5 hsm.2.1 (by omega) hs.mem) (fun e w1 ⟨he, hm⟩ => ⟨_, he, _, hm, ?_⟩)); clear hs a; intro a hs
                refine a_valG hs rfl rfl rfl (y_cmp hs rfl rfl rfl) ?_; clear hs a; intro a hs
                refine a_val hs rfl rfl rfl (y_pickF hs rfl rfl rfl) ?_; clear hs a; intro a hs
                refine a_val hs rfl rfl rfl (y_move hs rfl) ?_; clear hs a; intro a hs
                rcases hs.know (d := 113) rfl with ⟨h113, hs1⟩ | ⟨h113, hs1⟩ <;> replace hs := hs1 <;> clear hs1
                · replace h113 := of_decide_eq_true h113
                  rw [show (xexpr 16 x.f2 (left - 1)).2 = RR1.2 by rw [hRR]; rfl] at hs
                  have hV1 : RR1.1 = true := by rw [hRR]; exact decide_eq_true (by omega)
                  have hvf := valI_falls x (left - 1) (by omega)
                  rw [hV] at hvf
                  have hb1 : 0 ≤ RR1.2 ∧ RR1.2 ≤ 8192 := ⟨hvf.2.2 hV1, by have := hvf.2.1; omega⟩
                  refine a_valG hs rfl rfl rfl (y_move hs rfl) ?_; clear hs a; intro a hs
                  refine a_valG hs rfl rfl rfl (y_not hs rfl) ?_; clear hs a; intro a hs
                  refine a_valG hs rfl rfl rfl (y_move hs rfl) ?_; clear hs a; intro a hs
                  refine a_skip hs rfl rfl rfl ?_; clear hs a; intro a hs
                  refine a_skip hs rfl rfl rfl ?_; clear hs a; intro a hs
                  refine a_skip hs rfl rfl rfl ?_; clear hs a; intro a hs
                  refine a_skip hs rfl rfl rfl ?_; clear hs a; intro a hs
                  refine a_valG hs rfl rfl rfl (y_pickT hs rfl rfl rfl) ?_; clear hs a; intro a hs
                  refine a_val hs rfl rfl rfl (y_pickT hs rfl rfl rfl) ?_; clear hs a; intro a hs
                  refine a_val hs rfl rfl rfl (y_move hs rfl) ?_; clear hs a; intro a hs
                  refine a_valG hs rfl rfl rfl (y_move hs rfl) ?_; clear hs a; intro a hs
                  refine a_valG hs rfl rfl rfl (y_faddr (k' := 16) 16 hs (by kernel_rfl) rfl rfl) ?_; clear hs a; intro a hs
                  refine a_valG hs rfl rfl rfl (y_load hs Tryd.underlying23 rfl rfl (fun w hw => (hw.to 1 rfl).cellV rfl)) ?_; clear hs a; intro a hs
                  obtain ⟨RR2, hRR2⟩ : ∃ RR2 : Bool × Int, RR2 = (true, RR1.2) := ⟨_, rfl⟩
                  have hS : shI x RR1.2 = RR2 := by unfold shI; rw [if_neg (by omega), hRR2]
                  have hS1 : RR2.1 = true := by rw [hRR2]
                  have hb2 : 0 ≤ RR2.2 ∧ RR2.2 ≤ 8192 := by rw [hRR2]; exact hb1
                  rw [show RR1.2 = RR2.2 by rw [hRR2]] at hs
                  refine a_effG hs rfl (e_callX Tryd.func77 rfl rfl hs rfl rfl (walk_exprs g A16 c16 x.f5 RR2.2 _ w0 _ hA16 hsm.2.2.2 hb2 hs.mem) (fun e w1 ⟨he, hm⟩ => ⟨_, he, _, hm, ?_⟩)); clear hs a; intro a hs
                  refine a_val hs rfl rfl rfl (y_pickT hs rfl rfl rfl) ?_; clear hs a; intro a hs
                  refine a_val hs rfl rfl rfl (y_assign hs rfl) ?_; clear hs a; intro a hs
                  refine wpList_nil (then_normal ?_)
                  refine wp_ret ?_
                  have hX : itemF x left = xlist stE x.f5 RR2.2 := by unfold itemF; rw [if_neg (by omega), if_pos hH, hV, if_pos hV1, hS, if_pos hS1]
                  refine fin_ret hs (.tmp (hs.slots _ _ rfl) .nil) ⟨?_, ?_⟩
                  · rw [hX]; first | rfl | simp [tell]
                  · rw [hX]; exact (hs.mem.to 1 rfl).drop
                · replace h113 := of_decide_eq_false h113
                  refine a_skip hs rfl rfl rfl ?_; clear hs a; intro a hs
                  refine a_skip hs rfl rfl rfl ?_; clear hs a; intro a hs
                  refine a_skip hs rfl rfl rfl ?_; clear hs a; intro a hs
                  refine a_skip hs rfl rfl rfl ?_; clear hs a; intro a hs
                  refine a_skip hs rfl rfl rfl ?_; clear hs a; intro a hs
                  refine a_skip hs rfl rfl rfl ?_; clear hs a; intro a hs
                  refine a_skip hs rfl rfl rfl ?_; clear hs a; intro a hs
                  refine a_skip hs rfl rfl rfl ?_; clear hs a; intro a hs
                  refine a_val hs rfl rfl rfl (y_pickF hs rfl rfl rfl) ?_; clear hs a; intro a hs
                  refine a_val hs rfl rfl rfl (y_move hs rfl) ?_; clear hs a; intro a hs
                  refine a_skip hs rfl rfl rfl ?_; clear hs a; intro a hs
                  refine a_skip hs rfl rfl rfl ?_; clear hs a; intro a hs
                  refine a_skip hs rfl rfl rfl ?_; clear hs a; intro a hs
                  refine a_skip hs rfl rfl rfl ?_; clear hs a; intro a hs
                  refine a_val hs rfl rfl rfl (y_pickF hs rfl rfl rfl) ?_; clear hs a; intro a hs
                  refine a_val hs rfl rfl rfl (y_assign hs rfl) ?_; clear hs a; intro a hs
                  refine wpList_nil (then_normal ?_)
                  refine wp_ret ?_
                  have hE1 : RR1 = (false, (xexpr 16 x.f2 (left - 1)).2) := by rw [hRR]; unfold stE; rw [decide_eq_false (by omega)]
                  have hX : itemF x left = (false, (xexpr 16 x.f2 (left - 1)).2) := by unfold itemF; rw [if_neg (by omega), if_pos hH, hV, if_neg (by rw [hE1]; exact Bool.false_ne_true), hE1]
                  refine fin_ret hs (.tmp (hs.slots _ _ rfl) .nil) ⟨?_, ?_⟩
                  · rw [hX]; first | rfl | simp [tell]
                  · rw [hX]; exact (hs.mem.to 1 rfl).drop
      · refine wp_region_lit ?_
        refine a_val hs rfl rfl rfl (y_move hs rfl) ?_; clear hs a; intro a hs
        refine a_val hs rfl rfl rfl (y_move hs rfl) ?_; clear hs a; intro a hs
        refine a_valG hs rfl rfl rfl (y_faddr (k' := 1) 1 hs (by kernel_rfl) rfl rfl) ?_; clear hs a; intro a hs
        refine a_valG hs rfl rfl rfl (y_load hs Tryd.underlying9 rfl rfl (fun w hw => (hw.to 1 rfl).cellV rfl)) ?_; clear hs a; intro a hs
        refine a_effG hs rfl (e_callB Tryd.func75 rfl rfl hs rfl rfl (tree_named.calls _ x.f1 (nameOk x.f1) _ (tnamed_ok x.f1 hsm.1)) ?_); clear hs a; intro a w hs
        refine a_valG hs rfl rfl rfl (y_not hs rfl) ?_; clear hs a; intro a hs
        refine a_val hs rfl rfl rfl (y_pickT hs rfl rfl rfl) ?_; clear hs a; intro a hs
        refine a_val hs rfl rfl rfl (y_move hs rfl) ?_; clear hs a; intro a hs
        rcases hs.know (d := 47) rfl with ⟨h47, hs1⟩ | ⟨h47, hs1⟩ <;> replace hs := hs1 <;> clear hs1
        · replace h47 := (not_t h47)
          refine a_skip hs rfl rfl rfl ?_; clear hs a; intro a hs
          refine a_skip hs rfl rfl rfl ?_; clear hs a; intro a hs
          refine a_skip hs rfl rfl rfl ?_; clear hs a; intro a hs
          refine a_skip hs rfl rfl rfl ?_; clear hs a; intro a hs
          refine a_skip hs rfl rfl rfl ?_; clear hs a; intro a hs
          refine a_skip hs rfl rfl rfl ?_; clear hs a; intro a hs
          refine a_skip hs rfl rfl rfl ?_; clear hs a; intro a hs
          refine a_val hs rfl rfl rfl (y_pickT hs rfl rfl rfl) ?_; clear hs a; intro a hs
          refine a_val hs rfl rfl rfl (y_move hs rfl) ?_; clear hs a; intro a hs
          refine a_skip hs rfl rfl rfl ?_; clear hs a; intro a hs
          refine a_skip hs rfl rfl rfl ?_; clear hs a; intro a hs
          refine a_skip hs rfl rfl rfl ?_; clear hs a; intro a hs
          refine a_skip hs rfl rfl rfl ?_; clear hs a; intro a hs
          refine a_skip hs rfl rfl rfl ?_; clear hs a; intro a hs
          refine a_skip hs rfl rfl rfl ?_; clear hs a; intro a hs
          refine a_skip hs rfl rfl rfl ?_; clear hs a; intro a hs
          refine a_skip hs rfl rfl rfl ?_; clear hs a; intro a hs
          refine a_val hs rfl rfl rfl (y_pickT hs rfl rfl rfl) ?_; clear hs a; intro a hs
          refine a_val hs rfl rfl rfl (y_assign hs rfl) ?_; clear hs a; intro a hs
          refine wpList_nil (then_normal ?_)
          refine wp_cond_true (hs.ev rfl) ?_
          refine wp_seq ?_
          refine wp_region_lit ?_
          refine a_val hs rfl rfl rfl (y_assign hs rfl) ?_; clear hs a; intro a hs
          refine wpList_nil (then_normal ?_)
          refine wp_ret (in_ret (then_ret ?_))
          have hH : ¬ headI x := by
            rintro ⟨nm, v, sh, li, h1, n1, n2, n3, l1, l2, v1, s1⟩
            rw [hsp] at h1
            simp only [Option.some.injEq, Prod.mk.injEq] at h1
            obtain ⟨rfl, rfl, rfl, rfl⟩ := h1
            first | omega | (have := n2 rfl; omega) | (have := n3 (by omega); omega) | (have := l1 rfl; omega) | (have := l2 rfl; omega) | (rw [n1 rfl] at h47; cases h47; done) | (rw [v1 rfl] at h94; cases h94; done) | (rw [s1 rfl] at h85; cases h85; done)
          have hX : itemF x left = (false, left - 1) := by unfold itemF; rw [if_neg (by omega), if_neg hH]
          refine fin_ret hs (.tmp (hs.slots _ _ rfl) .nil) ⟨?_, ?_⟩
          · rw [hX]; first | rfl | simp [tell]
          · rw [hX]; exact (hs.mem.to 1 rfl).drop
        · replace h47 := (not_f h47)
          refine a_valG hs rfl rfl rfl (y_move hs rfl) ?_; clear hs a; intro a hs
          refine a_valG hs rfl rfl rfl (y_not hs rfl) ?_; clear hs a; intro a hs
          refine a_valG hs rfl rfl rfl (y_move hs rfl) ?_; clear hs a; intro a hs
          refine a_skip hs rfl rfl rfl ?_; clear hs a; intro a hs
          refine a_skip hs rfl rfl rfl ?_; clear hs a; intro a hs
          refine a_skip hs rfl rfl rfl ?_; clear hs a; intro a hs
          refine a_valG hs rfl rfl rfl (y_pickF hs rfl rfl rfl) ?_; clear hs a; intro a hs
          refine a_val hs rfl rfl rfl (y_pickF hs rfl rfl rfl) ?_; clear hs a; intro a hs
          refine a_val hs rfl rfl rfl (y_move hs rfl) ?_; clear hs a; intro a hs
          refine a_valG hs rfl rfl rfl (y_faddr (k' := 0) 0 hs (by kernel_rfl) rfl rfl) ?_; clear hs a; intro a hs
          refine a_valG hs rfl rfl rfl (y_load hs Tryd.underlying37 rfl rfl (fun w hw => (hw.to 1 rfl).cellV rfl)) ?_; clear hs a; intro a hs
          refine a_valG hs rfl rfl rfl (y_cmp hs rfl rfl rfl) ?_; clear hs a; intro a hs
          refine a_valG hs rfl rfl rfl (y_move hs rfl) ?_; clear hs a; intro a hs
          rcases hs.know (d := 60) rfl with ⟨h60, hs1⟩ | ⟨h60, hs1⟩ <;> replace hs := hs1 <;> clear hs1
          · replace h60 := bne_iff_ne.1 h60
            refine a_valG hs rfl rfl rfl (y_faddr (k' := 15) 15 hs (by kernel_rfl) rfl rfl) ?_; clear hs a; intro a hs
            refine a_valG hs rfl rfl rfl (y_load hs Tryd.underlying43 rfl rfl (fun w hw => (hw.to 1 rfl).cellV rfl)) ?_; clear hs a; intro a hs
            refine a_valG hs rfl rfl rfl (y_cmp hs rfl rfl rfl) ?_; clear hs a; intro a hs
            refine a_valG hs rfl rfl rfl (y_pickT hs rfl rfl rfl) ?_; clear hs a; intro a hs
            refine a_val hs rfl rfl rfl (y_pickF hs rfl rfl rfl) ?_; clear hs a; intro a hs
            refine a_val hs rfl rfl rfl (y_assign hs rfl) ?_; clear hs a; intro a hs
            refine wpList_nil (then_normal ?_)
            refine wp_cond_split (hs.ev rfl) (fun h39 => ?_) (fun h39 => ?_)
            · replace h39 := bne_iff_ne.1 h39
              refine wp_seq ?_
              refine wp_region_lit ?_
              refine a_val hs rfl rfl rfl (y_assign hs rfl) ?_; clear hs a; intro a hs
              refine wpList_nil (then_normal ?_)
              refine wp_ret (in_ret (then_ret ?_))
              have hH : ¬ headI x := by
                rintro ⟨nm, v, sh, li, h1, n1, n2, n3, l1, l2, v1, s1⟩
                rw [hsp] at h1
                simp only [Option.some.injEq, Prod.mk.injEq] at h1
                obtain ⟨rfl, rfl, rfl, rfl⟩ := h1
                first | omega | (have := n2 rfl; omega) | (have := n3 (by omega); omega) | (have := l1 rfl; omega) | (have := l2 rfl; omega) | (rw [n1 rfl] at h47; cases h47; done) | (rw [v1 rfl] at h94; cases h94; done) | (rw [s1 rfl] at h85; cases h85; done)
              have hX : itemF x left = (false, left - 1) := by unfold itemF; rw [if_neg (by omega), if_neg hH]
              refine fin_ret hs (.tmp (hs.slots _ _ rfl) .nil) ⟨?_, ?_⟩
              · rw [hX]; first | rfl | simp [tell]
              · rw [hX]; exact (hs.mem.to 1 rfl).drop
            · replace h39 := bne_eq_false_iff_eq.1 h39
              refine wp_seq ?_
              refine wp_region_lit ?_
              refine a_val hs rfl rfl rfl (y_move hs rfl) ?_; clear hs a; intro a hs
              refine a_val hs rfl rfl rfl (y_move hs rfl) ?_; clear hs a; intro a hs
              refine a_skip hs rfl rfl rfl ?_; clear hs a; intro a hs
              refine a_skip hs rfl rfl rfl ?_; clear hs a; intro a hs
              refine a_skip hs rfl rfl rfl ?_; clear hs a; intro a hs
              refine a_skip hs rfl rfl rfl ?_; clear hs a; intro a hs
              refine a_skip hs rfl rfl rfl ?_; clear hs a; intro a hs
              refine a_val hs rfl rfl rfl (y_pickF hs rfl rfl rfl) ?_; clear hs a; intro a hs
              refine a_val hs rfl rfl rfl (y_move hs rfl) ?_; clear hs a; intro a hs
              refine a_valG hs rfl rfl rfl (y_move hs rfl) ?_; clear hs a; intro a hs
              refine a_valG hs rfl rfl rfl (y_not hs rfl) ?_; clear hs a; intro a hs
              refine a_valG hs rfl rfl rfl (y_move hs rfl) ?_; clear hs a; intro a hs
              refine a_valG hs rfl rfl rfl (y_faddr (k' := 16) 16 hs (by kernel_rfl) rfl rfl) ?_; clear hs a; intro a hs
              refine a_valG hs rfl rfl rfl (y_load hs Tryd.underlying23 rfl rfl (fun w hw => (hw.to 1 rfl).cellV rfl)) ?_; clear hs a; intro a hs
              refine a_valG hs rfl rfl rfl (y_lenL hs Tryd.underlying23 rfl) ?_; clear hs a; intro a hs
              refine a_valG hs rfl rfl rfl (y_cmp hs rfl rfl rfl) ?_; clear hs a; intro a hs
              refine a_valG hs rfl rfl rfl (y_pickT hs rfl rfl rfl) ?_; clear hs a; intro a hs
              refine a_val hs rfl rfl rfl (y_pickF hs rfl rfl rfl) ?_; clear hs a; intro a hs
              refine a_val hs rfl rfl rfl (y_assign hs rfl) ?_; clear hs a; intro a hs
              refine wpList_nil (then_normal ?_)
              refine wp_cond_split (hs.ev rfl) (fun h66 => ?_) (fun h66 => ?_)
              · replace h66 := of_decide_eq_true h66
                refine wp_seq ?_
                refine wp_region_lit ?_
                refine a_val hs rfl rfl rfl (y_assign hs rfl) ?_; clear hs a; intro a hs
                refine wpList_nil (then_normal ?_)
                refine wp_ret (in_ret (then_ret ?_))
                have hH : ¬ headI x := by
                  rintro ⟨nm, v, sh, li, h1, n1, n2, n3, l1, l2, v1, s1⟩
                  rw [hsp] at h1
                  simp only [Option.some.injEq, Prod.mk.injEq] at h1
                  obtain ⟨rfl, rfl, rfl, rfl⟩ := h1
                  first | omega | (have := n2 rfl; omega) | (have := n3 (by omega); omega) | (have := l1 rfl; omega) | (have := l2 rfl; omega) | (rw [n1 rfl] at h47; cases h47; done) | (rw [v1 rfl] at h94; cases h94; done) | (rw [s1 rfl] at h85; cases h85; done)
                have hX : itemF x left = (false, left - 1) := by unfold itemF; rw [if_neg (by omega), if_neg hH]
                refine fin_ret hs (.tmp (hs.slots _ _ rfl) .nil) ⟨?_, ?_⟩
                · rw [hX]; first | rfl | simp [tell]
                · rw [hX]; exact (hs.mem.to 1 rfl).drop
              · replace h66 := of_decide_eq_false h66
                refine wp_seq ?_
                refine wp_region_lit ?_
                refine a_val hs rfl rfl rfl (y_move hs rfl) ?_; clear hs a; intro a hs
                refine a_val hs rfl rfl rfl (y_not hs rfl) ?_; clear hs a; intro a hs
                refine a_val hs rfl rfl rfl (y_move hs rfl) ?_; clear hs a; intro a hs
                refine a_valG hs rfl rfl rfl (y_faddr (k' := 2) 2 hs (by kernel_rfl) rfl rfl) ?_; clear hs a; intro a hs
                refine a_valG hs rfl rfl rfl (y_loadAgg (vs := [.int .u8 x.f2.f0, .int .i64 x.f2.f1, .string x.f2.f2, .slice A5 x.f2.f3.length c5, .int .i64 x.f2.f4, .int .i64 x.f2.f5]) hs Tryd.underlying24 rfl (by kernel_rfl) rfl (fun w hw k v hk => ((hw.to 1 rfl).cell).trans (sub_at 6 rfl hk))) ?_; clear hs a; intro a hs
                refine a_effG hs rfl (e_callB Tryd.func82 rfl rfl hs rfl rfl (tree_noExpr x.f2 A5 c5 _) ?_); clear hs a; intro a w hs
                refine a_valG hs rfl rfl rfl (y_not hs rfl) ?_; clear hs a; intro a hs
                refine a_val hs rfl rfl rfl (y_pickT hs rfl rfl rfl) ?_; clear hs a; intro a hs
                refine a_val hs rfl rfl rfl (y_move hs rfl) ?_; clear hs a; intro a hs
                rcases hs.know (d := 94) rfl with ⟨h94, hs1⟩ | ⟨h94, hs1⟩ <;> replace hs := hs1 <;> clear hs1
                · replace h94 := (not_t h94)
                  refine a_skip hs rfl rfl rfl ?_; clear hs a; intro a hs
                  refine a_skip hs rfl rfl rfl ?_; clear hs a; intro a hs
                  refine a_skip hs rfl rfl rfl ?_; clear hs a; intro a hs
                  refine a_skip hs rfl rfl rfl ?_; clear hs a; intro a hs
                  refine a_skip hs rfl rfl rfl ?_; clear hs a; intro a hs
                  refine a_skip hs rfl rfl rfl ?_; clear hs a; intro a hs
                  refine a_skip hs rfl rfl rfl ?_; clear hs a; intro a hs
                  refine a_skip hs rfl rfl rfl ?_; clear hs a; intro a hs
                  refine a_val hs rfl rfl rfl (y_pickT hs rfl rfl rfl) ?_; clear hs a; intro a hs
                  refine a_val hs rfl rfl rfl (y_assign hs rfl) ?_; clear hs a; intro a hs
                  refine wpList_nil (then_normal ?_)
                  refine wp_cond_true (hs.ev rfl) ?_
                  refine wp_seq ?_
                  refine wp_region_lit ?_
                  refine a_val hs rfl rfl rfl (y_assign hs rfl) ?_; clear hs a; intro a hs
                  refine wpList_nil (then_normal ?_)
                  refine wp_ret (in_ret (then_ret ?_))
                  have hH : ¬ headI x := by
                    rintro ⟨nm, v, sh, li, h1, n1, n2, n3, l1, l2, v1, s1⟩
                    rw [hsp] at h1
                    simp only [Option.some.injEq, Prod.mk.injEq] at h1
                    obtain ⟨rfl, rfl, rfl, rfl⟩ := h1
                    first | omega | (have := n2 rfl; omega) | (have := n3 (by omega); omega) | (have := l1 rfl; omega) | (have := l2 rfl; omega) | (rw [n1 rfl] at h47; cases h47; done) | (rw [v1 rfl] at h94; cases h94; done) | (rw [s1 rfl] at h85; cases h85; done)
                  have hX : itemF x left = (false, left - 1) := by unfold itemF; rw [if_neg (by omega), if_neg hH]
                  refine fin_ret hs (.tmp (hs.slots _ _ rfl) .nil) ⟨?_, ?_⟩
                  · rw [hX]; first | rfl | simp [tell]
                  · rw [hX]; exact (hs.mem.to 1 rfl).drop
                · replace h94 := (not_f h94)
                  refine a_valG hs rfl rfl rfl (y_move hs rfl) ?_; clear hs a; intro a hs
                  refine a_valG hs rfl rfl rfl (y_not hs rfl) ?_; clear hs a; intro a hs
                  refine a_valG hs rfl rfl rfl (y_move hs rfl) ?_; clear hs a; intro a hs
                  refine a_valG hs rfl rfl rfl (y_faddr (k' := 8) 8 hs (by kernel_rfl) rfl rfl) ?_; clear hs a; intro a hs
                  refine a_valG hs rfl rfl rfl (y_loadAgg (vs := [.int .u8 x.f3.f0, .string x.f3.f1, .slice A10 x.f3.f2.length c10, .slice A11 x.f3.f3.length c11, .slice A12 x.f3.f4.length c12, .int .i64 x.f3.f5, .int .i64 x.f3.f6]) hs Tryd.underlying41 rfl (by kernel_rfl) rfl (fun w hw k v hk => ((hw.to 1 rfl).cell).trans (sub_at 7 rfl hk))) ?_; clear hs a; intro a hs
                  refine a_effG hs rfl (e_callB Tryd.func83 rfl rfl hs rfl rfl (tree_noShape x.f3 A10 A11 A12 c10 c11 c12 _) ?_); clear hs a; intro a w hs
                  refine a_valG hs rfl rfl rfl (y_not hs rfl) ?_; clear hs a; intro a hs
                  refine a_valG hs rfl rfl rfl (y_pickT hs rfl rfl rfl) ?_; clear hs a; intro a hs
                  refine a_val hs rfl rfl rfl (y_pickF hs rfl rfl rfl) ?_; clear hs a; intro a hs
                  refine a_val hs rfl rfl rfl (y_assign hs rfl) ?_; clear hs a; intro a hs
                  refine wpList_nil (then_normal ?_)
                  refine wp_cond_split (hs.ev rfl) (fun h85 => ?_) (fun h85 => ?_)
                  · replace h85 := (not_t h85)
                    refine wp_seq ?_
                    refine wp_region_lit ?_
                    refine a_val hs rfl rfl rfl (y_assign hs rfl) ?_; clear hs a; intro a hs
                    refine wpList_nil (then_normal ?_)
                    refine wp_ret (in_ret (then_ret ?_))
                    have hH : ¬ headI x := by
                      rintro ⟨nm, v, sh, li, h1, n1, n2, n3, l1, l2, v1, s1⟩
                      rw [hsp] at h1
                      simp only [Option.some.injEq, Prod.mk.injEq] at h1
                      obtain ⟨rfl, rfl, rfl, rfl⟩ := h1
                      first | omega | (have := n2 rfl; omega) | (have := n3 (by omega); omega) | (have := l1 rfl; omega) | (have := l2 rfl; omega) | (rw [n1 rfl] at h47; cases h47; done) | (rw [v1 rfl] at h94; cases h94; done) | (rw [s1 rfl] at h85; cases h85; done)
                    have hX : itemF x left = (false, left - 1) := by unfold itemF; rw [if_neg (by omega), if_neg hH]
                    refine fin_ret hs (.tmp (hs.slots _ _ rfl) .nil) ⟨?_, ?_⟩
                    · rw [hX]; first | rfl | simp [tell]
                    · rw [hX]; exact (hs.mem.to 1 rfl).drop
                  · replace h85 := (not_f h85)
                    refine wp_skip (in_normal (then_normal ?_))
                    refine wp_seq ?_
                    have hH : headI x := ⟨_, _, _, _, hsp, (fun _ => h47), (fun h => by cases h), (fun h5 => by omega), (fun h => by cases h), (fun _ => by omega), (fun _ => h94), (fun _ => h85)⟩
                    obtain ⟨RR1, hRR⟩ : ∃ RR1 : Bool × Int, RR1 = (true, left - 1) := ⟨_, rfl⟩
                    have hV : valI x (left - 1) = RR1 := by unfold valI; rw [if_neg (show ¬ hasV x by unfold hasV; omega), hRR]
                    have hV1 : RR1.1 = true := by rw [hRR]
                    have hb1 : 0 ≤ RR1.2 ∧ RR1.2 ≤ 8192 := by rw [hRR]; exact ⟨by show 0 ≤ left - 1; omega, by show left - 1 ≤ 8192; omega⟩
                    rw [show left - 1 = RR1.2 by rw [hRR]] at hs
                    refine wp_region_lit ?_
                    refine a_val hs rfl rfl rfl (y_move hs rfl) ?_; clear hs a; intro a hs
                    refine a_val hs rfl rfl rfl (y_not hs rfl) ?_; clear hs a; intro a hs
                    refine a_val hs rfl rfl rfl (y_move hs rfl) ?_; clear hs a; intro a hs
                    refine a_skip hs rfl rfl rfl ?_; clear hs a; intro a hs
                    refine a_skip hs rfl rfl rfl ?_; clear hs a; intro a hs
                    refine a_skip hs rfl rfl rfl ?_; clear hs a; intro a hs
                    refine a_skip hs rfl rfl rfl ?_; clear hs a; intro a hs
                    refine a_skip hs rfl rfl rfl ?_; clear hs a; intro a hs
                    refine a_val hs rfl rfl rfl (y_pickT hs rfl rfl rfl) ?_; clear hs a; intro a hs
                    refine a_val hs rfl rfl rfl (y_move hs rfl) ?_; clear hs a; intro a hs
                    refine a_valG hs rfl rfl rfl (y_move hs rfl) ?_; clear hs a; intro a hs
                    refine a_valG hs rfl rfl rfl (y_not hs rfl) ?_; clear hs a; intro a hs
                    refine a_valG hs rfl rfl rfl (y_move hs rfl) ?_; clear hs a; intro a hs
                    refine a_skip hs rfl rfl rfl ?_; clear hs a; intro a hs
                    refine a_skip hs rfl rfl rfl ?_; clear hs a; intro a hs
                    refine a_skip hs rfl rfl rfl ?_; clear hs a; intro a hs
                    refine a_skip hs rfl rfl rfl ?_; clear hs a; intro a hs
                    refine a_valG hs rfl rfl rfl (y_pickT hs rfl rfl rfl) ?_; clear hs a; intro a hs
                    refine a_val hs rfl rfl rfl (y_pickT hs rfl rfl rfl) ?_; clear hs a; intro a hs
                    refine a_val hs rfl rfl rfl (y_move hs rfl) ?_; clear hs a; intro a hs
                    refine a_valG hs rfl rfl rfl (y_move hs rfl) ?_; clear hs a; intro a hs
                    refine a_valG hs rfl rfl rfl (y_faddr (k' := 16) 16 hs (by kernel_rfl) rfl rfl) ?_; clear hs a; intro a hs
                    refine a_valG hs rfl rfl rfl (y_load hs Tryd.underlying23 rfl rfl (fun w hw => (hw.to 1 rfl).cellV rfl)) ?_; clear hs a; intro a hs
                    obtain ⟨RR2, hRR2⟩ : ∃ RR2 : Bool × Int, RR2 = (true, RR1.2) := ⟨_, rfl⟩
                    have hS : shI x RR1.2 = RR2 := by unfold shI; rw [if_neg (by omega), hRR2]
                    have hS1 : RR2.1 = true := by rw [hRR2]
                    have hb2 : 0 ≤ RR2.2 ∧ RR2.2 ≤ 8192 := by rw [hRR2]; exact hb1
                    rw [show RR1.2 = RR2.2 by rw [hRR2]] at hs
                    refine a_effG hs rfl (e_callX Tryd.func77 rfl rfl hs rfl rfl (walk_exprs g A16 c16 x.f5 RR2.2 _ w0 _ hA16 hsm.2.2.2 hb2 hs.mem) (fun e w1 ⟨he, hm⟩ => ⟨_, he, _, hm, ?_⟩)); clear hs a; intro a hs
                    refine a_val hs rfl rfl rfl (y_pickT hs rfl rfl rfl) ?_; clear hs a; intro a hs
                    refine a_val hs rfl rfl rfl (y_assign hs rfl) ?_; clear hs a; intro a hs
                    refine wpList_nil (then_normal ?_)
                    refine wp_ret ?_
                    have hX : itemF x left = xlist stE x.f5 RR2.2 := by unfold itemF; rw [if_neg (by omega), if_pos hH, hV, if_pos hV1, hS, if_pos hS1]
                    refine fin_ret hs (.tmp (hs.slots _ _ rfl) .nil) ⟨?_, ?_⟩
                    · rw [hX]; first | rfl | simp [tell]
                    · rw [hX]; exact (hs.mem.to 1 rfl).drop
          · replace h60 := bne_eq_false_iff_eq.1 h60
            refine a_skip hs rfl rfl rfl ?_; clear hs a; intro a hs
            refine a_skip hs rfl rfl rfl ?_; clear hs a; intro a hs
            refine a_skip hs rfl rfl rfl ?_; clear hs a; intro a hs
            refine a_valG hs rfl rfl rfl (y_pickF hs rfl rfl rfl) ?_; clear hs a; intro a hs
            refine a_val hs rfl rfl rfl (y_pickF hs rfl rfl rfl) ?_; clear hs a; intro a hs
            refine a_val hs rfl rfl rfl (y_assign hs rfl) ?_; clear hs a; intro a hs
            refine wpList_nil (then_normal ?_)
            refine wp_cond_false (hs.ev rfl) ?_
            refine wp_seq ?_
            refine wp_region_lit ?_
            refine a_val hs rfl rfl rfl (y_move hs rfl) ?_; clear hs a; intro a hs
            refine a_val hs rfl rfl rfl (y_move hs rfl) ?_; clear hs a; intro a hs
            refine a_skip hs rfl rfl rfl ?_; clear hs a; intro a hs
            refine a_skip hs rfl rfl rfl ?_; clear hs a; intro a hs
            refine a_skip hs rfl rfl rfl ?_; clear hs a; intro a hs
            refine a_skip hs rfl rfl rfl ?_; clear hs a; intro a hs
            refine a_skip hs rfl rfl rfl ?_; clear hs a; intro a hs
            refine a_val hs rfl rfl rfl (y_pickF hs rfl rfl rfl) ?_; clear hs a; intro a hs
            refine a_val hs rfl rfl rfl (y_move hs rfl) ?_; clear hs a; intro a hs
            refine a_valG hs rfl rfl rfl (y_move hs rfl) ?_; clear hs a; intro a hs
            refine a_valG hs rfl rfl rfl (y_not hs rfl) ?_; clear hs a; intro a hs
            refine a_valG hs rfl rfl rfl (y_move hs rfl) ?_; clear hs a; intro a hs
            refine a_valG hs rfl rfl rfl (y_faddr (k' := 16) 16 hs (by kernel_rfl) rfl rfl) ?_; clear hs a; intro a hs
            refine a_valG hs rfl rfl rfl (y_load hs Tryd.underlying23 rfl rfl (fun w hw => (hw.to 1 rfl).cellV rfl)) ?_; clear hs a; intro a hs
            refine a_valG hs rfl rfl rfl (y_lenL hs Tryd.underlying23 rfl) ?_; clear hs a; intro a hs
            refine a_valG hs rfl rfl rfl (y_cmp hs rfl rfl rfl) ?_; clear hs a; intro a hs
            refine a_valG hs rfl rfl rfl (y_pickT hs rfl rfl rfl) ?_; clear hs a; intro a hs
            refine a_val hs rfl rfl rfl (y_pickF hs rfl rfl rfl) ?_; clear hs a; intro a hs
            refine a_val hs rfl rfl rfl (y_assign hs rfl) ?_; clear hs a; intro a hs
            refine wpList_nil (then_normal ?_)
            refine wp_cond_split (hs.ev rfl) (fun h66 => ?_) (fun h66 => ?_)
            · replace h66 := of_decide_eq_true h66
              refine wp_seq ?_
              refine wp_region_lit ?_
              refine a_val hs rfl rfl rfl (y_assign hs rfl) ?_; clear hs a; intro a hs
              refine wpList_nil (then_normal ?_)
              refine wp_ret (in_ret (then_ret ?_))
              have hH : ¬ headI x := by
                rintro ⟨nm, v, sh, li, h1, n1, n2, n3, l1, l2, v1, s1⟩
                rw [hsp] at h1
                simp only [Option.some.injEq, Prod.mk.injEq] at h1
                obtain ⟨rfl, rfl, rfl, rfl⟩ := h1
                first | omega | (have := n2 rfl; omega) | (have := n3 (by omega); omega) | (have := l1 rfl; omega) | (have := l2 rfl; omega) | (rw [n1 rfl] at h47; cases h47; done) | (rw [v1 rfl] at h94; cases h94; done) | (rw [s1 rfl] at h85; cases h85; done)
              have hX : itemF x left = (false, left - 1) := by unfold itemF; rw [if_neg (by omega), if_neg hH]
              refine fin_ret hs (.tmp (hs.slots _ _ rfl) .nil) ⟨?_, ?_⟩
              · rw [hX]; first | rfl | simp [tell]
              · rw [hX]; exact (hs.mem.to 1 rfl).drop
            · replace h66 := of_decide_eq_false h66
              refine wp_seq ?_
              refine wp_region_lit ?_
              refine a_val hs rfl rfl rfl (y_move hs rfl) ?_; clear hs a; intro a hs
              refine a_val hs rfl rfl rfl (y_not hs rfl) ?_; clear hs a; intro a hs
              refine a_val hs rfl rfl rfl (y_move hs rfl) ?_; clear hs a; intro a hs
              refine a_valG hs rfl rfl rfl (y_faddr (k' := 2) 2 hs (by kernel_rfl) rfl rfl) ?_; clear hs a; intro a hs
              refine a_valG hs rfl rfl rfl (y_loadAgg (vs := [.int .u8 x.f2.f0, .int .i64 x.f2.f1, .string x.f2.f2, .slice A5 x.f2.f3.length c5, .int .i64 x.f2.f4, .int .i64 x.f2.f5]) hs Tryd.underlying24 rfl (by kernel_rfl) rfl (fun w hw k v hk => ((hw.to 1 rfl).cell).trans (sub_at 6 rfl hk))) ?_; clear hs a; intro a hs
              refine a_effG hs rfl (e_callB Tryd.func82 rfl rfl hs rfl rfl (tree_noExpr x.f2 A5 c5 _) ?_); clear hs a; intro a w hs
              refine a_valG hs rfl rfl rfl (y_not hs rfl) ?_; clear hs a; intro a hs
              refine a_val hs rfl rfl rfl (y_pickT hs rfl rfl rfl) ?_; clear hs a; intro a hs
              refine a_val hs rfl rfl rfl (y_move hs rfl) ?_; clear hs a; intro a hs
              rcases hs.know (d := 94) rfl with ⟨h94, hs1⟩ | ⟨h94, hs1⟩ <;> replace hs := hs1 <;> clear hs1
              · replace h94 := (not_t h94)
                refine a_skip hs rfl rfl rfl ?_; clear hs a; intro a hs
                refine a_skip hs rfl rfl rfl ?_; clear hs a; intro a hs
                refine a_skip hs rfl rfl rfl ?_; clear hs a; intro a hs
                refine a_skip hs rfl rfl rfl ?_; clear hs a; intro a hs
                refine a_skip hs rfl rfl rfl ?_; clear hs a; intro a hs
                refine a_skip hs rfl rfl rfl ?_; clear hs a; intro a hs
                refine a_skip hs rfl rfl rfl ?_; clear hs a; intro a hs
                refine a_skip hs rfl rfl rfl ?_; clear hs a; intro a hs
                refine a_val hs rfl rfl rfl (y_pickT hs rfl rfl rfl) ?_; clear hs a; intro a hs
                refine a_val hs rfl rfl rfl (y_assign hs rfl) ?_; clear hs a; intro a hs
                refine wpList_nil (then_normal ?_)
                refine wp_cond_true (hs.ev rfl) ?_
                refine wp_seq ?_
                refine wp_region_lit ?_
                refine a_val hs rfl rfl rfl (y_assign hs rfl) ?_; clear hs a; intro a hs
                refine wpList_nil (then_normal ?_)
                refine wp_ret (in_ret (then_ret ?_))
                have hH : ¬ headI x := by
                  rintro ⟨nm, v, sh, li, h1, n1, n2, n3, l1, l2, v1, s1⟩
                  rw [hsp] at h1
                  simp only [Option.some.injEq, Prod.mk.injEq] at h1
                  obtain ⟨rfl, rfl, rfl, rfl⟩ := h1
                  first | omega | (have := n2 rfl; omega) | (have := n3 (by omega); omega) | (have := l1 rfl; omega) | (have := l2 rfl; omega) | (rw [n1 rfl] at h47; cases h47; done) | (rw [v1 rfl] at h94; cases h94; done) | (rw [s1 rfl] at h85; cases h85; done)
                have hX : itemF x left = (false, left - 1) := by unfold itemF; rw [if_neg (by omega), if_neg hH]
                refine fin_ret hs (.tmp (hs.slots _ _ rfl) .nil) ⟨?_, ?_⟩
                · rw [hX]; first | rfl | simp [tell]
                · rw [hX]; exact (hs.mem.to 1 rfl).drop
              · replace h94 := (not_f h94)
                refine a_valG hs rfl rfl rfl (y_move hs rfl) ?_; clear hs a; intro a hs
                refine a_valG hs rfl rfl rfl (y_not hs rfl) ?_; clear hs a; intro a hs
                refine a_valG hs rfl rfl rfl (y_move hs rfl) ?_; clear hs a; intro a hs
                refine a_valG hs rfl rfl rfl (y_faddr (k' := 8) 8 hs (by kernel_rfl) rfl rfl) ?_; clear hs a; intro a hs
                refine a_valG hs rfl rfl rfl (y_loadAgg (vs := [.int .u8 x.f3.f0, .string x.f3.f1, .slice A10 x.f3.f2.length c10, .slice A11 x.f3.f3.length c11, .slice A12 x.f3.f4.length c12, .int .i64 x.f3.f5, .int .i64 x.f3.f6]) hs Tryd.underlying41 rfl (by kernel_rfl) rfl (fun w hw k v hk => ((hw.to 1 rfl).cell).trans (sub_at 7 rfl hk))) ?_; clear hs a; intro a hs
                refine a_effG hs rfl (e_callB Tryd.func83 rfl rfl hs rfl rfl (tree_noShape x.f3 A10 A11 A12 c10 c11 c12 _) ?_); clear hs a; intro a w hs
                refine a_valG hs rfl rfl rfl (y_not hs rfl) ?_; clear hs a; intro a hs
                refine a_valG hs rfl rfl rfl (y_pickT hs rfl rfl rfl) ?_; clear hs a; intro a hs
                refine a_val hs rfl rfl rfl (y_pickF hs rfl rfl rfl) ?_; clear hs a; intro a hs
                refine a_val hs rfl rfl rfl (y_assign hs rfl) ?_; clear hs a; intro a hs
                refine wpList_nil (then_normal ?_)
                refine wp_cond_split (hs.ev rfl) (fun h85 => ?_) (fun h85 => ?_)
                · replace h85 := (not_t h85)
                  refine wp_seq ?_
                  refine wp_region_lit ?_
                  refine a_val hs rfl rfl rfl (y_assign hs rfl) ?_; clear hs a; intro a hs
                  refine wpList_nil (then_normal ?_)
                  refine wp_ret (in_ret (then_ret ?_))
                  have hH : ¬ headI x := by
                    rintro ⟨nm, v, sh, li, h1, n1, n2, n3, l1, l2, v1, s1⟩
                    rw [hsp] at h1
                    simp only [Option.some.injEq, Prod.mk.injEq] at h1
                    obtain ⟨rfl, rfl, rfl, rfl⟩ := h1
                    first | omega | (have := n2 rfl; omega) | (have := n3 (by omega); omega) | (have := l1 rfl; omega) | (have := l2 rfl; omega) | (rw [n1 rfl] at h47; cases h47; done) | (rw [v1 rfl] at h94; cases h94; done) | (rw [s1 rfl] at h85; cases h85; done)
                  have hX : itemF x left = (false, left - 1) := by unfold itemF; rw [if_neg (by omega), if_neg hH]
                  refine fin_ret hs (.tmp (hs.slots _ _ rfl) .nil) ⟨?_, ?_⟩
                  · rw [hX]; first | rfl | simp [tell]
                  · rw [hX]; exact (hs.mem.to 1 rfl).drop
                · replace h85 := (not_f h85)
                  refine wp_skip (in_normal (then_normal ?_))
                  refine wp_seq ?_
                  have hH : headI x := ⟨_, _, _, _, hsp, (fun _ => h47), (fun h => by cases h), (fun h5 => by omega), (fun h => by cases h), (fun _ => by omega), (fun _ => h94), (fun _ => h85)⟩
                  obtain ⟨RR1, hRR⟩ : ∃ RR1 : Bool × Int, RR1 = (true, left - 1) := ⟨_, rfl⟩
                  have hV : valI x (left - 1) = RR1 := by unfold valI; rw [if_neg (show ¬ hasV x by unfold hasV; omega), hRR]
                  have hV1 : RR1.1 = true := by rw [hRR]
                  have hb1 : 0 ≤ RR1.2 ∧ RR1.2 ≤ 8192 := by rw [hRR]; exact ⟨by show 0 ≤ left - 1; omega, by show left - 1 ≤ 8192; omega⟩
                  rw [show left - 1 = RR1.2 by rw [hRR]] at hs
                  refine wp_region_lit ?_
                  refine a_val hs rfl rfl rfl (y_move hs rfl) ?_; clear hs a; intro a hs
                  refine a_val hs rfl rfl rfl (y_not hs rfl) ?_; clear hs a; intro a hs
                  refine a_val hs rfl rfl rfl (y_move hs rfl) ?_; clear hs a; intro a hs
                  refine a_skip hs rfl rfl rfl ?_; clear hs a; intro a hs
                  refine a_skip hs rfl rfl rfl ?_; clear hs a; intro a hs
                  refine a_skip hs rfl rfl rfl ?_; clear hs a; intro a hs
                  refine a_skip hs rfl rfl rfl ?_; clear hs a; intro a hs
                  refine a_skip hs rfl rfl rfl ?_; clear hs a; intro a hs
                  refine a_val hs rfl rfl rfl (y_pickT hs rfl rfl rfl) ?_; clear hs a; intro a hs
                  refine a_val hs rfl rfl rfl (y_move hs rfl) ?_; clear hs a; intro a hs
                  refine a_valG hs rfl rfl rfl (y_move hs rfl) ?_; clear hs a; intro a hs
                  refine a_valG hs rfl rfl rfl (y_not hs rfl) ?_; clear hs a; intro a hs
                  refine a_valG hs rfl rfl rfl (y_move hs rfl) ?_; clear hs a; intro a hs
                  refine a_skip hs rfl rfl rfl ?_; clear hs a; intro a hs
                  refine a_skip hs rfl rfl rfl ?_; clear hs a; intro a hs
                  refine a_skip hs rfl rfl rfl ?_; clear hs a; intro a hs
                  refine a_skip hs rfl rfl rfl ?_; clear hs a; intro a hs
                  refine a_valG hs rfl rfl rfl (y_pickT hs rfl rfl rfl) ?_; clear hs a; intro a hs
                  refine a_val hs rfl rfl rfl (y_pickT hs rfl rfl rfl) ?_; clear hs a; intro a hs
                  refine a_val hs rfl rfl rfl (y_move hs rfl) ?_; clear hs a; intro a hs
                  refine a_valG hs rfl rfl rfl (y_move hs rfl) ?_; clear hs a; intro a hs
                  refine a_valG hs rfl rfl rfl (y_faddr (k' := 16) 16 hs (by kernel_rfl) rfl rfl) ?_; clear hs a; intro a hs
                  refine a_valG hs rfl rfl rfl (y_load hs Tryd.underlying23 rfl rfl (fun w hw => (hw.to 1 rfl).cellV rfl)) ?_; clear hs a; intro a hs
                  obtain ⟨RR2, hRR2⟩ : ∃ RR2 : Bool × Int, RR2 = (true, RR1.2) := ⟨_, rfl⟩
                  have hS : shI x RR1.2 = RR2 := by unfold shI; rw [if_neg (by omega), hRR2]
                  have hS1 : RR2.1 = true := by rw [hRR2]
                  have hb2 : 0 ≤ RR2.2 ∧ RR2.2 ≤ 8192 := by rw [hRR2]; exact hb1
                  rw [show RR1.2 = RR2.2 by rw [hRR2]] at hs
                  refine a_effG hs rfl (e_callX Tryd.func77 rfl rfl hs rfl rfl (walk_exprs g A16 c16 x.f5 RR2.2 _ w0 _ hA16 hsm.2.2.2 hb2 hs.mem) (fun e w1 ⟨he, hm⟩ => ⟨_, he, _, hm, ?_⟩)); clear hs a; intro a hs
                  refine a_val hs rfl rfl rfl (y_pickT hs rfl rfl rfl) ?_; clear hs a; intro a hs
                  refine a_val hs rfl rfl rfl (y_assign hs rfl) ?_; clear hs a; intro a hs
                  refine wpList_nil (then_normal ?_)
                  refine wp_ret ?_
                  have hX : itemF x left = xlist stE x.f5 RR2.2 := by unfold itemF; rw [if_neg (by omega), if_pos hH, hV, if_pos hV1, hS, if_pos hS1]
                  refine fin_ret hs (.tmp (hs.slots _ _ rfl) .nil) ⟨?_, ?_⟩
                  · rw [hX]; first | rfl | simp [tell]
                  · rw [hX]; exact (hs.mem.to 1 rfl).drop
      · refine wp_region_lit ?_
        refine a_val hs rfl rfl rfl (y_move hs rfl) ?_; clear hs a; intro a hs
        refine a_val hs rfl rfl rfl (y_move hs rfl) ?_; clear hs a; intro a hs
        refine a_valG hs rfl rfl rfl (y_faddr (k' := 1) 1 hs (by kernel_rfl) rfl rfl) ?_; clear hs a; intro a hs
        refine a_valG hs rfl rfl rfl (y_load hs Tryd.underlying9 rfl rfl (fun w hw => (hw.to 1 rfl).cellV rfl)) ?_; clear hs a; intro a hs
        refine a_effG hs rfl (e_callB Tryd.func75 rfl rfl hs rfl rfl (tree_named.calls _ x.f1 (nameOk x.f1) _ (tnamed_ok x.f1 hsm.1)) ?_); clear hs a; intro a w hs
        refine a_valG hs rfl rfl rfl (y_not hs rfl) ?_; clear hs a; intro a hs
        refine a_val hs rfl rfl rfl (y_pickT hs rfl rfl rfl) ?_; clear hs a; intro a hs
        refine a_val hs rfl rfl rfl (y_move hs rfl) ?_; clear hs a; intro a hs
        rcases hs.know (d := 47) rfl with ⟨h47, hs1⟩ | ⟨h47, hs1⟩ <;> replace hs := hs1 <;> clear hs1
        · replace h47 := (not_t h47)
          refine a_skip hs rfl rfl rfl ?_; clear hs a; intro a hs
          refine a_skip hs rfl rfl rfl ?_; clear hs a; intro a hs
          refine a_skip hs rfl rfl rfl ?_; clear hs a; intro a hs
          refine a_skip hs rfl rfl rfl ?_; clear hs a; intro a hs
          refine a_skip hs rfl rfl rfl ?_; clear hs a; intro a hs
          refine a_skip hs rfl rfl rfl ?_; clear hs a; intro a hs
          refine a_skip hs rfl rfl rfl ?_; clear hs a; intro a hs
          refine a_val hs rfl rfl rfl (y_pickT hs rfl rfl rfl) ?_; clear hs a; intro a hs
          refine a_val hs rfl rfl rfl (y_move hs rfl) ?_; clear hs a; intro a hs
          refine a_skip hs rfl rfl rfl ?_; clear hs a; intro a hs
          refine a_skip hs rfl rfl rfl ?_; clear hs a; intro a hs
          refine a_skip hs rfl rfl rfl ?_; clear hs a; intro a hs
          refine a_skip hs rfl rfl rfl ?_; clear hs a; intro a hs
          refine a_skip hs rfl rfl rfl ?_; clear hs a; intro a hs
          refine a_skip hs rfl rfl rfl ?_; clear hs a; intro a hs
          refine a_skip hs rfl rfl rfl ?_; clear hs a; intro a hs
          refine a_skip hs rfl rfl rfl ?_; clear hs a; intro a hs
          refine a_val hs rfl rfl rfl (y_pickT hs rfl rfl rfl) ?_; clear hs a; intro a hs
          refine a_val hs rfl rfl rfl (y_assign hs rfl) ?_; clear hs a; intro a hs
          refine wpList_nil (then_normal ?_)
          refine wp_cond_true (hs.ev rfl) ?_
          refine wp_seq ?_
          refine wp_region_lit ?_
          refine a_val hs rfl rfl rfl (y_assign hs rfl) ?_; clear hs a; intro a hs
          refine wpList_nil (then_normal ?_)
          refine wp_ret (in_ret (then_ret ?_))
          have hH : ¬ headI x := by
            rintro ⟨nm, v, sh, li, h1, n1, n2, n3, l1, l2, v1, s1⟩
            rw [hsp] at h1
            simp only [Option.some.injEq, Prod.mk.injEq] at h1
            obtain ⟨rfl, rfl, rfl, rfl⟩ := h1
            first | omega | (have := n2 rfl; omega) | (have := n3 (by omega); omega) | (have := l1 rfl; omega) | (have := l2 rfl; omega) | (rw [n1 rfl] at h47; cases h47; done) | (rw [v1 rfl] at h94; cases h94; done) | (rw [s1 rfl] at h85; cases h85; done)
          have hX : itemF x left = (false, left - 1) := by unfold itemF; rw [if_neg (by omega), if_neg hH]
          refine fin_ret hs (.tmp (hs.slots _ _ rfl) .nil) ⟨?_, ?_⟩
          · rw [hX]; first | rfl | simp [tell]
          · rw [hX]; exact (hs.mem.to 1 rfl).drop
        · replace h47 := (not_f h47)
          refine a_valG hs rfl rfl rfl (y_move hs rfl) ?_; clear hs a; intro a hs
          refine a_valG hs rfl rfl rfl (y_not hs rfl) ?_; clear hs a; intro a hs
          refine a_valG hs rfl rfl rfl (y_move hs rfl) ?_; clear hs a; intro a hs
          refine a_skip hs rfl rfl rfl ?_; clear hs a; intro a hs
          refine a_skip hs rfl rfl rfl ?_; clear hs a; intro a hs
          refine a_skip hs rfl rfl rfl ?_; clear hs a; intro a hs
          refine a_valG hs rfl rfl rfl (y_pickF hs rfl rfl rfl) ?_; clear hs a; intro a hs
          refine a_val hs rfl rfl rfl (y_pickF hs rfl rfl rfl) ?_; clear hs a; intro a hs
          refine a_val hs rfl rfl rfl (y_move hs rfl) ?_; clear hs a; intro a hs
          refine a_valG hs rfl rfl rfl (y_faddr (k' := 0) 0 hs (by kernel_rfl) rfl rfl) ?_; clear hs a; intro a hs
          refine a_valG hs rfl rfl rfl (y_load hs Tryd.underlying37 rfl rfl (fun w hw => (hw.to 1 rfl).cellV rfl)) ?_; clear hs a; intro a hs
          refine a_valG hs rfl rfl rfl (y_cmp hs rfl rfl rfl) ?_; clear hs a; intro a hs
          refine a_valG hs rfl rfl rfl (y_move hs rfl) ?_; clear hs a; intro a hs
          rcases hs.know (d := 60) rfl with ⟨h60, hs1⟩ | ⟨h60, hs1⟩ <;> replace hs := hs1 <;> clear hs1
          · replace h60 := bne_iff_ne.1 h60
            refine a_valG hs rfl rfl rfl (y_faddr (k' := 15) 15 hs (by kernel_rfl) rfl rfl) ?_; clear hs a; intro a hs
            refine a_valG hs rfl rfl rfl (y_load hs Tryd.underlying43 rfl rfl (fun w hw => (hw.to 1 rfl).cellV rfl)) ?_; clear hs a; intro a hs
            refine a_valG hs rfl rfl rfl (y_cmp hs rfl rfl rfl) ?_; clear hs a; intro a hs
            refine a_valG hs rfl rfl rfl (y_pickT hs rfl rfl rfl) ?_; clear hs a; intro a hs
            refine a_val hs rfl rfl rfl (y_pickF hs rfl rfl rfl) ?_; clear hs a; intro a hs
            refine a_val hs rfl rfl rfl (y_assign hs rfl) ?_; clear hs a; intro a hs
            refine wpList_nil (then_normal ?_)
            refine wp_cond_split (hs.ev rfl) (fun h39 => ?_) (fun h39 => ?_)
            · replace h39 := bne_iff_ne.1 h39
              refine wp_seq ?_
              refine wp_region_lit ?_
              refine a_val hs rfl rfl rfl (y_assign hs rfl) ?_; clear hs a; intro a hs
              refine wpList_nil (then_normal ?_)
              refine wp_ret (in_ret (then_ret ?_))
              have hH : ¬ headI x := by
                rintro ⟨nm, v, sh, li, h1, n1, n2, n3, l1, l2, v1, s1⟩
                rw [hsp] at h1
                simp only [Option.some.injEq, Prod.mk.injEq] at h1
                obtain ⟨rfl, rfl, rfl, rfl⟩ := h1
                first | omega | (have := n2 rfl; omega) | (have := n3 (by omega); omega) | (have := l1 rfl; omega) | (have := l2 rfl; omega) | (rw [n1 rfl] at h47; cases h47; done) | (rw [v1 rfl] at h94; cases h94; done) | (rw [s1 rfl] at h85; cases h85; done)
              have hX : itemF x left = (false, left - 1) := by unfold itemF; rw [if_neg (by omega), if_neg hH]
              refine fin_ret hs (.tmp (hs.slots _ _ rfl) .nil) ⟨?_, ?_⟩
              · rw [hX]; first | rfl | simp [tell]
              · rw [hX]; exact (hs.mem.to 1 rfl).drop
            · replace h39 := bne_eq_false_iff_eq.1 h39
              refine wp_seq ?_
              refine wp_region_lit ?_
              refine a_val hs rfl rfl rfl (y_move hs rfl) ?_; clear hs a; intro a hs
              refine a_val hs rfl rfl rfl (y_move hs rfl) ?_; clear hs a; intro a hs
              refine a_skip hs rfl rfl rfl ?_; clear hs a; intro a hs
              refine a_skip hs rfl rfl rfl ?_; clear hs a; intro a hs
              refine a_skip hs rfl rfl rfl ?_; clear hs a; intro a hs
              refine a_skip hs rfl rfl rfl ?_; clear hs a; intro a hs
              refine a_skip hs rfl rfl rfl ?_; clear hs a; intro a hs
              refine a_val hs rfl rfl rfl (y_pickF hs rfl rfl rfl) ?_; clear hs a; intro a hs
              refine a_val hs rfl rfl rfl (y_move hs rfl) ?_; clear hs a; intro a hs
              refine a_valG hs rfl rfl rfl (y_move hs rfl) ?_; clear hs a; intro a hs
              refine a_valG hs rfl rfl rfl (y_not hs rfl) ?_; clear hs a; intro a hs
              refine a_valG hs rfl rfl rfl (y_move hs rfl) ?_; clear hs a; intro a hs
              refine a_valG hs rfl rfl rfl (y_faddr (k' := 16) 16 hs (by kernel_rfl) rfl rfl) ?_; clear hs a; intro a hs
              refine a_valG hs rfl rfl rfl (y_load hs Tryd.underlying23 rfl rfl (fun w hw => (hw.to 1 rfl).cellV rfl)) ?_; clear hs a; intro a hs
              refine a_valG hs rfl rfl rfl (y_lenL hs Tryd.underlying23 rfl) ?_; clear hs a; intro a hs
              refine a_valG hs rfl rfl rfl (y_cmp hs rfl rfl rfl) ?_; clear hs a; intro a hs
              refine a_valG hs rfl rfl rfl (y_pickT hs rfl rfl rfl) ?_; clear hs a; intro a hs
              refine a_val hs rfl rfl rfl (y_pickF hs rfl rfl rfl) ?_; clear hs a; intro a hs
              refine a_val hs rfl rfl rfl (y_assign hs rfl) ?_; clear hs a; intro a hs
              refine wpList_nil (then_normal ?_)
              refine wp_cond_split (hs.ev rfl) (fun h66 => ?_) (fun h66 => ?_)
              · replace h66 := of_decide_eq_true h66
                refine wp_seq ?_
                refine wp_region_lit ?_
                refine a_val hs rfl rfl rfl (y_assign hs rfl) ?_; clear hs a; intro a hs
                refine wpList_nil (then_normal ?_)
                refine wp_ret (in_ret (then_ret ?_))
                have hH : ¬ headI x := by
                  rintro ⟨nm, v, sh, li, h1, n1, n2, n3, l1, l2, v1, s1⟩
                  rw [hsp] at h1
                  simp only [Option.some.injEq, Prod.mk.injEq] at h1
                  obtain ⟨rfl, rfl, rfl, rfl⟩ := h1
                  first | omega | (have := n2 rfl; omega) | (have := n3 (by omega); omega) | (have := l1 rfl; omega) | (have := l2 rfl; omega) | (rw [n1 rfl] at h47; cases h47; done) | (rw [v1 rfl] at h94; cases h94; done) | (rw [s1 rfl] at h85; cases h85; done)
                have hX : itemF x left = (false, left - 1) := by unfold itemF; rw [if_neg (by omega), if_neg hH]
                refine fin_ret hs (.tmp (hs.slots _ _ rfl) .nil) ⟨?_, ?_⟩
                · rw [hX]; first | rfl | simp [tell]
                · rw [hX]; exact (hs.mem.to 1 rfl).drop
              · replace h66 := of_decide_eq_false h66
                refine wp_seq ?_
                refine wp_region_lit ?_
                refine a_val hs rfl rfl rfl (y_move hs rfl) ?_; clear hs a; intro a hs
                refine a_val hs rfl rfl rfl (y_not hs rfl) ?_; clear hs a; intro a hs
                refine a_val hs rfl rfl rfl (y_move hs rfl) ?_; clear hs a; intro a hs
                refine a_valG hs rfl rfl rfl (y_faddr (k' := 2) 2 hs (by kernel_rfl) rfl rfl) ?_; clear hs a; intro a hs
                refine a_valG hs rfl rfl rfl (y_loadAgg (vs := [.int .u8 x.f2.f0, .int .i64 x.f2.f1, .string x.f2.f2, .slice A5 x.f2.f3.length c5, .int .i64 x.f2.f4, .int .i64 x.f2.f5]) hs Tryd.underlying24 rfl (by kernel_rfl) rfl (fun w hw k v hk => ((hw.to 1 rfl).cell).trans (sub_at 6 rfl hk))) ?_; clear hs a; intro a hs
                refine a_effG hs rfl (e_callB Tryd.func82 rfl rfl hs rfl rfl (tree_noExpr x.f2 A5 c5 _) ?_); clear hs a; intro a w hs
                refine a_valG hs rfl rfl rfl (y_not hs rfl) ?_; clear hs a; intro a hs
                refine a_val hs rfl rfl rfl (y_pickT hs rfl rfl rfl) ?_; clear hs a; intro a hs
                refine a_val hs rfl rfl rfl (y_move hs rfl) ?_; clear hs a; intro a hs
                rcases hs.know (d := 94) rfl with ⟨h94, hs1⟩ | ⟨h94, hs1⟩ <;> replace hs := hs1 <;> clear hs1
                · replace h94 := (not_t h94)
                  refine a_skip hs rfl rfl rfl ?_; clear hs a; intro a hs
                  refine a_skip hs rfl rfl rfl ?_; clear hs a; intro a hs
                  refine a_skip hs rfl rfl rfl ?_; clear hs a; intro a hs
                  refine a_skip hs rfl rfl rfl ?_; clear hs a; intro a hs
                  refine a_skip hs rfl rfl rfl ?_; clear hs a; intro a hs
                  refine a_skip hs rfl rfl rfl ?_; clear hs a; intro a hs
                  refine a_skip hs rfl rfl rfl ?_; clear hs a; intro a hs
                  refine a_skip hs rfl rfl rfl ?_; clear hs a; intro a hs
                  refine a_val hs rfl rfl rfl (y_pickT hs rfl rfl rfl) ?_; clear hs a; intro a hs
                  refine a_val hs rfl rfl rfl (y_assign hs rfl) ?_; clear hs a; intro a hs
                  refine wpList_nil (then_normal ?_)
                  refine wp_cond_true (hs.ev rfl) ?_
                  refine wp_seq ?_
                  refine wp_region_lit ?_
                  refine a_val hs rfl rfl rfl (y_assign hs rfl) ?_; clear hs a; intro a hs
                  refine wpList_nil (then_normal ?_)
                  refine wp_ret (in_ret (then_ret ?_))
                  have hH : ¬ headI x := by
                    rintro ⟨nm, v, sh, li, h1, n1, n2, n3, l1, l2, v1, s1⟩
                    rw [hsp] at h1
                    simp only [Option.some.injEq, Prod.mk.injEq] at h1
                    obtain ⟨rfl, rfl, rfl, rfl⟩ := h1
                    first | omega | (have := n2 rfl; omega) | (have := n3 (by omega); omega) | (have := l1 rfl; omega) | (have := l2 rfl; omega) | (rw [n1 rfl] at h47; cases h47; done) | (rw [v1 rfl] at h94; cases h94; done) | (rw [s1 rfl] at h85; cases h85; done)
                  have hX : itemF x left = (false, left - 1) := by unfold itemF; rw [if_neg (by omega), if_neg hH]
                  refine fin_ret hs (.tmp (hs.slots _ _ rfl) .nil) ⟨?_, ?_⟩
                  · rw [hX]; first | rfl | simp [tell]
                  · rw [hX]; exact (hs.mem.to 1 rfl).drop
                · replace h94 := (not_f h94)
                  refine a_valG hs rfl rfl rfl (y_move hs rfl) ?_; clear hs a; intro a hs
                  refine a_valG hs rfl rfl rfl (y_not hs rfl) ?_; clear hs a; intro a hs
                  refine a_valG hs rfl rfl rfl (y_move hs rfl) ?_; clear hs a; intro a hs
                  refine a_skip hs rfl rfl rfl ?_; clear hs a; intro a hs
                  refine a_skip hs rfl rfl rfl ?_; clear hs a; intro a hs
                  refine a_skip hs rfl rfl rfl ?_; clear hs a; intro a hs
                  refine a_skip hs rfl rfl rfl ?_; clear hs a; intro a hs
                  refine a_valG hs rfl rfl rfl (y_pickF hs rfl rfl rfl) ?_; clear hs a; intro a hs
                  refine a_val hs rfl rfl rfl (y_pickF hs rfl rfl rfl) ?_; clear hs a; intro a hs
                  refine a_val hs rfl rfl rfl (y_assign hs rfl) ?_; clear hs a; intro a hs
                  refine wpList_nil (then_normal ?_)
                  refine wp_cond_false (hs.ev rfl) ?_
                  refine wp_skip (in_normal (then_normal ?_))
                  refine wp_seq ?_
                  have hH : headI x := ⟨_, _, _, _, hsp, (fun _ => h47), (fun h => by cases h), (fun h5 => by omega), (fun h => by cases h), (fun _ => by omega), (fun _ => h94), (fun h => by cases h)⟩
                  obtain ⟨RR1, hRR⟩ : ∃ RR1 : Bool × Int, RR1 = (true, left - 1) := ⟨_, rfl⟩
                  have hV : valI x (left - 1) = RR1 := by unfold valI; rw [if_neg (show ¬ hasV x by unfold hasV; omega), hRR]
                  have hV1 : RR1.1 = true := by rw [hRR]
                  have hb1 : 0 ≤ RR1.2 ∧ RR1.2 ≤ 8192 := by rw [hRR]; exact ⟨by show 0 ≤ left - 1; omega, by show left - 1 ≤ 8192; omega⟩
                  rw [show left - 1 = RR1.2 by rw [hRR]] at hs
                  refine wp_region_lit ?_
                  refine a_val hs rfl rfl rfl (y_move hs rfl) ?_; clear hs a; intro a hs
                  refine a_val hs rfl rfl rfl (y_not hs rfl) ?_; clear hs a; intro a hs
                  refine a_val hs rfl rfl rfl (y_move hs rfl) ?_; clear hs a; intro a hs
                  refine a_skip hs rfl rfl rfl ?_; clear hs a; intro a hs
                  refine a_skip hs rfl rfl rfl ?_; clear hs a; intro a hs
                  refine a_skip hs rfl rfl rfl ?_; clear hs a; intro a hs
                  refine a_skip hs rfl rfl rfl ?_; clear hs a; intro a hs
                  refine a_skip hs rfl rfl rfl ?_; clear hs a; intro a hs
                  refine a_val hs rfl rfl rfl (y_pickT hs rfl rfl rfl) ?_; clear hs a; intro a hs
                  refine a_val hs rfl rfl rfl (y_move hs rfl) ?_; clear hs a; intro a hs
                  refine a_valG hs rfl rfl rfl (y_move hs rfl) ?_; clear hs a; intro a hs
                  refine a_valG hs rfl rfl rfl (y_not hs rfl) ?_; clear hs a; intro a hs
                  refine a_valG hs rfl rfl rfl (y_move hs rfl) ?_; clear hs a; intro a hs
                  refine a_valG hs rfl rfl rfl (y_move hs rfl) ?_; clear hs a; intro a hs
                  refine a_valG hs rfl rfl rfl (y_faddr (k' := 8) 8 hs (by kernel_rfl) rfl rfl) ?_; clear hs a; intro a hs
                  refine a_valG hs rfl rfl rfl (y_loadAgg (vs := [.int .u8 x.f3.f0, .string x.f3.f1, .slice A10 x.f3.f2.length c10, .slice A11 x.f3.f3.length c11, .slice A12 x.f3.f4.length c12, .int .i64 x.f3.f5, .int .i64 x.f3.f6]) hs Tryd.underlying41 rfl (by kernel_rfl) rfl (fun w hw k v hk => ((hw.to 1 rfl).cell).trans (sub_at 7 rfl hk))) ?_; clear hs a; intro a hs
                  refine a_effG hs rfl (e_callX Tryd.func45 rfl rfl hs rfl rfl (walk_shape 16 (by decide) x.f3 A10 A11 A12 c10 c11 c12 g RR1.2 _ w0 _ hA10 hA11 hA12 hsm.2.2.1 hb1 hs.mem) (fun e w1 ⟨he, hm⟩ => ⟨_, he, _, hm, ?_⟩)); clear hs a; intro a hs
                  refine a_valG hs rfl rfl rfl (y_pickF hs rfl rfl rfl) ?_; clear hs a; intro a hs
                  refine a_val hs rfl rfl rfl (y_pickT hs rfl rfl rfl) ?_; clear hs a; intro a hs
                  refine a_val hs rfl rfl rfl (y_move hs rfl) ?_; clear hs a; intro a hs
                  rcases hs.know (d := 123) rfl with ⟨h123, hs1⟩ | ⟨h123, hs1⟩ <;> replace hs := hs1 <;> clear hs1
                  · obtain ⟨RR2, hRR2⟩ : ∃ RR2, RR2 = xshape 16 x.f3 RR1.2 := ⟨_, rfl⟩
                    have hS : shI x RR1.2 = RR2 := by unfold shI; rw [if_pos (by omega), hRR2]
                    have hS1 : RR2.1 = true := by rw [hRR2]; exact h123
                    have hsf := xshape_falls 16 x.f3 RR1.2 hb1.1
                    rw [← hRR2] at hsf
                    have hb2 : 0 ≤ RR2.2 ∧ RR2.2 ≤ 8192 := ⟨hsf.2.2 hS1, by have := hsf.2.1; omega⟩
                    rw [show (xshape 16 x.f3 RR1.2).2 = RR2.2 by rw [hRR2]] at hs
                    refine a_valG hs rfl rfl rfl (y_move hs rfl) ?_; clear hs a; intro a hs
                    refine a_valG hs rfl rfl rfl (y_faddr (k' := 16) 16 hs (by kernel_rfl) rfl rfl) ?_; clear hs a; intro a hs
                    refine a_valG hs rfl rfl rfl (y_load hs Tryd.underlying23 rfl rfl (fun w hw => (hw.to 1 rfl).cellV rfl)) ?_; clear hs a; intro a hs
                    refine a_effG hs rfl (e_callX Tryd.func77 rfl rfl hs rfl rfl (walk_exprs g A16 c16 x.f5 RR2.2 _ w0 _ hA16 hsm.2.2.2 hb2 hs.mem) (fun e w1 ⟨he, hm⟩ => ⟨_, he, _, hm, ?_⟩)); clear hs a; intro a hs
                    refine a_val hs rfl rfl rfl (y_pickT hs rfl rfl rfl) ?_; clear hs a; intro a hs
                    refine a_val hs rfl rfl rfl (y_assign hs rfl) ?_; clear hs a; intro a hs
                    refine wpList_nil (then_normal ?_)
                    refine wp_ret ?_
                    have hX : itemF x left = xlist stE x.f5 RR2.2 := by unfold itemF; rw [if_neg (by omega), if_pos hH, hV, if_pos hV1, hS, if_pos hS1]
                    refine fin_ret hs (.tmp (hs.slots _ _ rfl) .nil) ⟨?_, ?_⟩
                    · rw [hX]; first | rfl | simp [tell]
                    · rw [hX]; exact (hs.mem.to 1 rfl).drop
                  · refine a_skip hs rfl rfl rfl ?_; clear hs a; intro a hs
                    refine a_skip hs rfl rfl rfl ?_; clear hs a; intro a hs
                    refine a_skip hs rfl rfl rfl ?_; clear hs a; intro a hs
                    refine a_skip hs rfl rfl rfl ?_; clear hs a; intro a hs
                    refine a_val hs rfl rfl rfl (y_pickF hs rfl rfl rfl) ?_; clear hs a; intro a hs
                    refine a_val hs rfl rfl rfl (y_assign hs rfl) ?_; clear hs a; intro a hs
                    refine wpList_nil (then_normal ?_)
                    refine wp_ret ?_
                    have hS : shI x RR1.2 = xshape 16 x.f3 RR1.2 := by unfold shI; rw [if_pos (by omega)]
                    have hX : itemF x left = (false, (xshape 16 x.f3 RR1.2).2) := by unfold itemF; rw [if_neg (by omega), if_pos hH, hV, if_pos hV1, hS, if_neg (by rw [h123]; exact Bool.false_ne_true), ← h123]
                    refine fin_ret hs (.tmp (hs.slots _ _ rfl) .nil) ⟨?_, ?_⟩
                    · rw [hX]; first | rfl | simp [tell]
                    · rw [hX]; exact (hs.mem.to 1 rfl).drop
          · replace h60 := bne_eq_false_iff_eq.1 h60
            refine a_skip hs rfl rfl rfl ?_; clear hs a; intro a hs
            refine a_skip hs rfl rfl rfl ?_; clear hs a; intro a hs
            refine a_skip hs rfl rfl rfl ?_; clear hs a; intro a hs
            refine a_valG hs rfl rfl rfl (y_pickF hs rfl rfl rfl) ?_; clear hs a; intro a hs
            refine a_val hs rfl rfl rfl (y_pickF hs rfl rfl rfl) ?_; clear hs a; intro a hs
            refine a_val hs rfl rfl rfl (y_assign hs rfl) ?_; clear hs a; intro a hs
            refine wpList_nil (then_normal ?_)
            refine wp_cond_false (hs.ev rfl) ?_
            refine wp_seq ?_
            refine wp_region_lit ?_
            refine a_val hs rfl rfl rfl (y_move hs rfl) ?_; clear hs a; intro a hs
            refine a_val hs rfl rfl rfl (y_move hs rfl) ?_; clear hs a; intro a hs
            refine a_skip hs rfl rfl rfl ?_; clear hs a; intro a hs
            refine a_skip hs rfl rfl rfl ?_; clear hs a; intro a hs
            refine a_skip hs rfl rfl rfl ?_; clear hs a; intro a hs
            refine a_skip hs rfl rfl rfl ?_; clear hs a; intro a hs
            refine a_skip hs rfl rfl rfl ?_; clear hs a; intro a hs
            refine a_val hs rfl rfl rfl (y_pickF hs rfl rfl rfl) ?_; clear hs a; intro a hs
            refine a_val hs rfl rfl rfl (y_move hs rfl) ?_; clear hs a; intro a hs
            refine a_valG hs rfl rfl rfl (y_move hs rfl) ?_; clear hs a; intro a hs
            refine a_valG hs rfl rfl rfl (y_not hs rfl) ?_; clear hs a; intro a hs
            refine a_valG hs rfl rfl rfl (y_move hs rfl) ?_; clear hs a; intro a hs
            refine a_valG hs rfl rfl rfl (y_faddr (k' := 16) 16 hs (by kernel_rfl) rfl rfl) ?_; clear hs a; intro a hs
            refine a_valG hs rfl rfl rfl (y_load hs Tryd.underlying23 rfl rfl (fun w hw => (hw.to 1 rfl).cellV rfl)) ?_; clear hs a; intro a hs
            refine a_valG hs rfl rfl rfl (y_lenL hs Tryd.underlying23 rfl) ?_; clear hs a; intro a hs
            refine a_valG hs rfl rfl rfl (y_cmp hs rfl rfl rfl) ?_; clear hs a; intro a hs
            refine a_valG hs rfl rfl rfl (y_pickT hs rfl rfl rfl) ?_; clear hs a; intro a hs
            refine a_val hs rfl rfl rfl (y_pickF hs rfl rfl rfl) ?_; clear hs a; intro a hs
            refine a_val hs rfl rfl rfl (y_assign hs rfl) ?_; clear hs a; intro a hs
            refine wpList_nil (then_normal ?_)
            refine wp_cond_split (hs.ev rfl) (fun h66 => ?_) (fun h66 => ?_)
            · replace h66 := of_decide_eq_true h66
              refine wp_seq ?_
              refine wp_region_lit ?_
              refine a_val hs rfl rfl rfl (y_assign hs rfl) ?_; clear hs a; intro a hs
              refine wpList_nil (then_normal ?_)
              refine wp_ret (in_ret (then_ret ?_))
              have hH : ¬ headI x := by
                rintro ⟨nm, v, sh, li, h1, n1, n2, n3, l1, l2, v1, s1⟩
                rw [hsp] at h1
                simp only [Option.some.injEq, Prod.mk.injEq] at h1
                obtain ⟨rfl, rfl, rfl, rfl⟩ := h1
                first | omega | (have := n2 rfl; omega) | (have := n3 (by omega); omega) | (have := l1 rfl; omega) | (have := l2 rfl; omega) | (rw [n1 rfl] at h47; cases h47; done) | (rw [v1 rfl] at h94; cases h94; done) | (rw [s1 rfl] at h85; cases h85; done)
              have hX : itemF x left = (false, left - 1) := by unfold itemF; rw [if_neg (by omega), if_neg hH]
              refine fin_ret hs (.tmp (hs.slots _ _ rfl) .nil) ⟨?_, ?_⟩
              · rw [hX]; first | rfl | simp [tell]
              · rw [hX]; exact (hs.mem.to 1 rfl).drop
            · replace h66 := of_decide_eq_false h66
              refine wp_seq ?_
              refine wp_region_lit ?_
              refine a_val hs rfl rfl rfl (y_move hs rfl) ?_; clear hs a; intro a hs
              refine a_val hs rfl rfl rfl (y_not hs rfl) ?_; clear hs a; intro a hs
              refine a_val hs rfl rfl rfl (y_move hs rfl) ?_; clear hs a; intro a hs
              refine a_valG hs rfl rfl rfl (y_faddr (k' := 2) 2 hs (by kernel_rfl) rfl rfl) ?_; clear hs a; intro a hs
              refine a_valG hs rfl rfl rfl (y_loadAgg (vs := [.int .u8 x.f2.f0, .int .i64 x.f2.f1, .string x.f2.f2, .slice A5 x.f2.f3.length c5, .int .i64 x.f2.f4, .int .i64 x.f2.f5]) hs Tryd.underlying24 rfl (by kernel_rfl) rfl (fun w hw k v hk => ((hw.to 1 rfl).cell).trans (sub_at 6 rfl hk))) ?_; clear hs a; intro a hs
              refine a_effG hs rfl (e_callB Tryd.func82 rfl rfl hs rfl rfl (tree_noExpr x.f2 A5 c5 _) ?_); clear hs a; intro a w hs
              refine a_valG hs rfl rfl rfl (y_not hs rfl) ?_; clear hs a; intro a hs
              refine a_val hs rfl rfl rfl (y_pickT hs rfl rfl rfl) ?_; clear hs a; intro a hs
              refine a_val hs rfl rfl rfl (y_move hs rfl) ?_; clear hs a; intro a hs
              rcases hs.know (d := 94) rfl with ⟨h94, hs1⟩ | ⟨h94, hs1⟩ <;> replace hs := hs1 <;> clear hs1
              · replace h94 := (not_t h94)
                refine a_skip hs rfl rfl rfl ?_; clear hs a; intro a hs
                refine a_skip hs rfl rfl rfl ?_; clear hs a; intro a hs
                refine a_skip hs rfl rfl rfl ?_; clear hs a; intro a hs
                refine a_skip hs rfl rfl rfl ?_; clear hs a; intro a hs
                refine a_skip hs rfl rfl rfl ?_; clear hs a; intro a hs
                refine a_skip hs rfl rfl rfl ?_; clear hs a; intro a hs
                refine a_skip hs rfl rfl rfl ?_; clear hs a; intro a hs
                refine a_skip hs rfl rfl rfl ?_; clear hs a; intro a hs
                refine a_val hs rfl rfl rfl (y_pickT hs rfl rfl rfl) ?_; clear hs a; intro a hs
                refine a_val hs rfl rfl rfl (y_assign hs rfl) ?_; clear hs a; intro a hs
                refine wpList_nil (then_normal ?_)
                refine wp_cond_true (hs.ev rfl) ?_
                refine wp_seq ?_
                refine wp_region_lit ?_
                refine a_val hs rfl rfl rfl (y_assign hs rfl) ?_; clear hs a; intro a hs
                refine wpList_nil (then_normal ?_)
                refine wp_ret (in_ret (then_ret ?_))
                have hH : ¬ headI x := by
                  rintro ⟨nm, v, sh, li, h1, n1, n2, n3, l1, l2, v1, s1⟩
                  rw [hsp] at h1
                  simp only [Option.some.injEq, Prod.mk.injEq] at h1
                  obtain ⟨rfl, rfl, rfl, rfl⟩ := h1
                  first | omega | (have := n2 rfl; omega) | (have := n3 (by omega); omega) | (have := l1 rfl; omega) | (have := l2 rfl; omega) | (rw [n1 rfl] at h47; cases h47; done) | (rw [v1 rfl] at h94; cases h94; done) | (rw [s1 rfl] at h85; cases h85; done)
                have hX : itemF x left = (false, left - 1) := by unfold itemF; rw [if_neg (by omega), if_neg hH]
                refine fin_ret hs (.tmp (hs.slots _ _ rfl) .nil) ⟨?_, ?_⟩
                · rw [hX]; first | rfl | simp [tell]
                · rw [hX]; exact (hs.mem.to 1 rfl).drop
              · replace h94 := (not_f h94)
                refine a_valG hs rfl rfl rfl (y_move hs rfl) ?_; clear hs a; intro a hs
                refine a_valG hs rfl rfl rfl (y_not hs rfl) ?_; clear hs a; intro a hs
                refine a_valG hs rfl rfl rfl (y_move hs rfl) ?_; clear hs a; intro a hs
                refine a_skip hs rfl rfl rfl ?_; clear hs a; intro a hs
                refine a_skip hs rfl rfl rfl ?_; clear hs a; intro a hs
                refine a_skip hs rfl rfl rfl ?_; clear hs a; intro a hs
                refine a_skip hs rfl rfl rfl ?_; clear hs a; intro a hs
                refine a_valG hs rfl rfl rfl (y_pickF hs rfl rfl rfl) ?_; clear hs a; intro a hs
                refine a_val hs rfl rfl rfl (y_pickF hs rfl rfl rfl) ?_; clear hs a; intro a hs
                refine a_val hs rfl rfl rfl (y_assign hs rfl) ?_; clear hs a; intro a hs
                refine wpList_nil (then_normal ?_)
                refine wp_cond_false (hs.ev rfl) ?_
                refine wp_skip (in_normal (then_normal ?_))
                refine wp_seq ?_
                have hH : headI x := ⟨_, _, _, _, hsp, (fun _ => h47), (fun h => by cases h), (fun h5 => by omega), (fun h => by cases h), (fun _ => by omega), (fun _ => h94), (fun h => by cases h)⟩
                obtain ⟨RR1, hRR⟩ : ∃ RR1 : Bool × Int, RR1 = (true, left - 1) := ⟨_, rfl⟩
                have hV : valI x (left - 1) = RR1 := by unfold valI; rw [if_neg (show ¬ hasV x by unfold hasV; omega), hRR]
                have hV1 : RR1.1 = true := by rw [hRR]
                have hb1 : 0 ≤ RR1.2 ∧ RR1.2 ≤ 8192 := by rw [hRR]; exact ⟨by show 0 ≤ left - 1; omega, by show left - 1 ≤ 8192; omega⟩
                rw [show left - 1 = RR1.2 by rw [hRR]] at hs
                refine wp_region_lit ?_
                refine a_val hs rfl rfl rfl (y_move hs rfl) ?_; clear hs a; intro a hs
                refine a_val hs rfl rfl rfl (y_not hs rfl) ?_; clear hs a; intro a hs
                refine a_val hs rfl rfl rfl (y_move hs rfl) ?_; clear hs a; intro a hs
                refine a_skip hs rfl rfl rfl ?_; clear hs a; intro a hs
                refine a_skip hs rfl rfl rfl ?_; clear hs a; intro a hs
                refine a_skip hs rfl rfl rfl ?_; clear hs a; intro a hs
                refine a_skip hs rfl rfl rfl ?_; clear hs a; intro a hs
                refine a_skip hs rfl rfl rfl ?_; clear hs a; intro a hs
                refine a_val hs rfl rfl rfl (y_pickT hs rfl rfl rfl) ?_; clear hs a; intro a hs
                refine a_val hs rfl rfl rfl (y_move hs rfl) ?_; clear hs a; intro a hs
                refine a_valG hs rfl rfl rfl (y_move hs rfl) ?_; clear hs a; intro a hs
                refine a_valG hs rfl rfl rfl (y_not hs rfl) ?_; clear hs a; intro a hs
                refine a_valG hs rfl rfl rfl (y_move hs rfl) ?_; clear hs a; intro a hs
                refine a_valG hs rfl rfl rfl (y_move hs rfl) ?_; clear hs a; intro a hs
                refine a_valG hs rfl rfl rfl (y_faddr (k' := 8) 8 hs (by kernel_rfl) rfl rfl) ?_; clear hs a; intro a hs
                refine a_valG hs rfl rfl rfl (y_loadAgg (vs := [.int .u8 x.f3.f0, .string x.f3.f1, .slice A10 x.f3.f2.length c10, .slice A11 x.f3.f3.length c11, .slice A12 x.f3.f4.length c12, .int .i64 x.f3.f5, .int .i64 x.f3.f6]) hs Tryd.underlying41 rfl (by kernel_rfl) rfl (fun w hw k v hk => ((hw.to 1 rfl).cell).trans (sub_at 7 rfl hk))) ?_; clear hs a; intro a hs
                refine a_effG hs rfl (e_callX Tryd.func45 rfl rfl hs rfl rfl (walk_shape 16 (by decide) x.f3 A10 A11 A12 c10 c11 c12 g RR1.2 _ w0 _ hA10 hA11 hA12 hsm.2.2.1 hb1 hs.mem) (fun e w1 ⟨he, hm⟩ => ⟨_, he, _, hm, ?_⟩)); clear hs a; intro a hs
                refine a_valG hs rfl rfl rfl (y_pickF hs rfl rfl rfl) ?_; clear hs a; intro a hs
                refine a_val hs rfl rfl rfl (y_pickT hs rfl rfl rfl) ?_; clear hs a; intro a hs
                refine a_val hs rfl rfl rfl (y_move hs rfl) ?_; clear hs a; intro a hs
                rcases hs.know (d := 123) rfl with ⟨h123, hs1⟩ | ⟨h123, hs1⟩ <;> replace hs := hs1 <;> clear hs1
                · obtain ⟨RR2, hRR2⟩ : ∃ RR2, RR2 = xshape 16 x.f3 RR1.2 := ⟨_, rfl⟩
                  have hS : shI x RR1.2 = RR2 := by unfold shI; rw [if_pos (by omega), hRR2]
                  have hS1 : RR2.1 = true := by rw [hRR2]; exact h123
                  have hsf := xshape_falls 16 x.f3 RR1.2 hb1.1
                  rw [← hRR2] at hsf
                  have hb2 : 0 ≤ RR2.2 ∧ RR2.2 ≤ 8192 := ⟨hsf.2.2 hS1, by have := hsf.2.1; omega⟩
                  rw [show (xshape 16 x.f3 RR1.2).2 = RR2.2 by rw [hRR2]] at hs
                  refine a_valG hs rfl rfl rfl (y_move hs rfl) ?_; clear hs a; intro a hs
                  refine a_valG hs rfl rfl rfl (y_faddr (k' := 16) 16 hs (by kernel_rfl) rfl rfl) ?_; clear hs a; intro a hs
                  refine a_valG hs rfl rfl rfl (y_load hs Tryd.underlying23 rfl rfl (fun w hw => (hw.to 1 rfl).cellV rfl)) ?_; clear hs a; intro a hs
                  refine a_effG hs rfl (e_callX Tryd.func77 rfl rfl hs rfl rfl (walk_exprs g A16 c16 x.f5 RR2.2 _ w0 _ hA16 hsm.2.2.2 hb2 hs.mem) (fun e w1 ⟨he, hm⟩ => ⟨_, he, _, hm, ?_⟩)); clear hs a; intro a hs
                  refine a_val hs rfl rfl rfl (y_pickT hs rfl rfl rfl) ?_; clear hs a; intro a hs
                  refine a_val hs rfl rfl rfl (y_assign hs rfl) ?_; clear hs a; intro a hs
                  refine wpList_nil (then_normal ?_)
                  refine wp_ret ?_
                  have hX : itemF x left = xlist stE x.f5 RR2.2 := by unfold itemF; rw [if_neg (by omega), if_pos hH, hV, if_pos hV1, hS, if_pos hS1]
                  refine fin_ret hs (.tmp (hs.slots _ _ rfl) .nil) ⟨?_, ?_⟩
                  · rw [hX]; first | rfl | simp [tell]
                  · rw [hX]; exact (hs.mem.to 1 rfl).drop
                · refine a_skip hs rfl rfl rfl ?_; clear hs a; intro a hs
                  refine a_skip hs rfl rfl rfl ?_; clear hs a; intro a hs
                  refine a_skip hs rfl rfl rfl ?_; clear hs a; intro a hs
                  refine a_skip hs rfl rfl rfl ?_; clear hs a; intro a hs
                  refine a_val hs rfl rfl rfl (y_pickF hs rfl rfl rfl) ?_; clear hs a; intro a hs
                  refine a_val hs rfl rfl rfl (y_assign hs rfl) ?_; clear hs a; intro a hs
                  refine wpList_nil (then_normal ?_)
                  refine wp_ret ?_
                  have hS : shI x RR1.2 = xshape 16 x.f3 RR1.2 := by unfold shI; rw [if_pos (by omega)]
                  have hX : itemF x left = (false, (xshape 16 x.f3 RR1.2).2) := by unfold itemF; rw [if_neg (by omega), if_pos hH, hV, if_pos hV1, hS, if_neg (by rw [h123]; exact Bool.false_ne_true), ← h123]
                  refine fin_ret hs (.tmp (hs.slots _ _ rfl) .nil) ⟨?_, ?_⟩
                  · rw [hX]; first | rfl | simp [tell]
                  · rw [hX]; exact (hs.mem.to 1 rfl).drop
      · refine wp_region_lit ?_
        refine a_val hs rfl rfl rfl (y_move hs rfl) ?_; clear hs a; intro a hs
        refine a_val hs rfl rfl rfl (y_move hs rfl) ?_; clear hs a; intro a hs
        refine a_skip hs rfl rfl rfl ?_; clear hs a; intro a hs
        refine a_skip hs rfl rfl rfl ?_; clear hs a; intro a hs
        refine a_skip hs rfl rfl rfl ?_; clear hs a; intro a hs
        refine a_skip hs rfl rfl rfl ?_; clear hs a; intro a hs
        refine a_val hs rfl rfl rfl (y_pickF hs rfl rfl rfl) ?_; clear hs a; intro a hs
        refine a_val hs rfl rfl rfl (y_move hs rfl) ?_; clear hs a; intro a hs
        refine a_valG hs rfl rfl rfl (y_move hs rfl) ?_; clear hs a; intro a hs
        refine a_valG hs rfl rfl rfl (y_not hs rfl) ?_; clear hs a; intro a hs
        refine a_valG hs rfl rfl rfl (y_move hs rfl) ?_; clear hs a; intro a hs
        refine a_valG hs rfl rfl rfl (y_faddr (k' := 1) 1 hs (by kernel_rfl) rfl rfl) ?_; clear hs a; intro a hs
        refine a_valG hs rfl rfl rfl (y_load hs Tryd.underlying9 rfl rfl (fun w hw => (hw.to 1 rfl).cellV rfl)) ?_; clear hs a; intro a hs
        refine a_valG hs rfl rfl rfl (y_sneE hs rfl rfl) ?_; clear hs a; intro a hs
        refine a_valG hs rfl rfl rfl (y_pickT hs rfl rfl rfl) ?_; clear hs a; intro a hs
        refine a_val hs rfl rfl rfl (y_pickF hs rfl rfl rfl) ?_; clear hs a; intro a hs
        refine a_val hs rfl rfl rfl (y_move hs rfl) ?_; clear hs a; intro a hs
        rcases hs.know (d := 56) rfl with ⟨h56, hs1⟩ | ⟨h56, hs1⟩ <;> replace hs := hs1 <;> clear hs1
        · replace h56 := of_decide_eq_true h56
          refine a_skip hs rfl rfl rfl ?_; clear hs a; intro a hs
          refine a_skip hs rfl rfl rfl ?_; clear hs a; intro a hs
          refine a_skip hs rfl rfl rfl ?_; clear hs a; intro a hs
          refine a_skip hs rfl rfl rfl ?_; clear hs a; intro a hs
          refine a_skip hs rfl rfl rfl ?_; clear hs a; intro a hs
          refine a_skip hs rfl rfl rfl ?_; clear hs a; intro a hs
          refine a_skip hs rfl rfl rfl ?_; clear hs a; intro a hs
          refine a_skip hs rfl rfl rfl ?_; clear hs a; intro a hs
          refine a_val hs rfl rfl rfl (y_pickT hs rfl rfl rfl) ?_; clear hs a; intro a hs
          refine a_val hs rfl rfl rfl (y_assign hs rfl) ?_; clear hs a; intro a hs
          refine wpList_nil (then_normal ?_)
          refine wp_cond_true (hs.ev rfl) ?_
          refine wp_seq ?_
          refine wp_region_lit ?_
          refine a_val hs rfl rfl rfl (y_assign hs rfl) ?_; clear hs a; intro a hs
          refine wpList_nil (then_normal ?_)
          refine wp_ret (in_ret (then_ret ?_))
          have hH : ¬ headI x := by
            rintro ⟨nm, v, sh, li, h1, n1, n2, n3, l1, l2, v1, s1⟩
            rw [hsp] at h1
            simp only [Option.some.injEq, Prod.mk.injEq] at h1
            obtain ⟨rfl, rfl, rfl, rfl⟩ := h1
            first | omega | (have := n2 rfl; omega) | (have := n3 (by omega); omega) | (have := l1 rfl; omega) | (have := l2 rfl; omega) | (rw [n1 rfl] at h47; cases h47; done) | (rw [v1 rfl] at h94; cases h94; done) | (rw [s1 rfl] at h85; cases h85; done)
          have hX : itemF x left = (false, left - 1) := by unfold itemF; rw [if_neg (by omega), if_neg hH]
          refine fin_ret hs (.tmp (hs.slots _ _ rfl) .nil) ⟨?_, ?_⟩
          · rw [hX]; first | rfl | simp [tell]
          · rw [hX]; exact (hs.mem.to 1 rfl).drop
        · replace h56 := of_decide_eq_false h56
          refine a_valG hs rfl rfl rfl (y_faddr (k' := 0) 0 hs (by kernel_rfl) rfl rfl) ?_; clear hs a; intro a hs
          refine a_valG hs rfl rfl rfl (y_load hs Tryd.underlying37 rfl rfl (fun w hw => (hw.to 1 rfl).cellV rfl)) ?_; clear hs a; intro a hs
          refine a_valG hs rfl rfl rfl (y_cmp hs rfl rfl rfl) ?_; clear hs a; intro a hs
          refine a_valG hs rfl rfl rfl (y_move hs rfl) ?_; clear hs a; intro a hs
          rcases hs.know (d := 60) rfl with ⟨h60, hs1⟩ | ⟨h60, hs1⟩ <;> replace hs := hs1 <;> clear hs1
          · replace h60 := bne_iff_ne.1 h60
            refine a_valG hs rfl rfl rfl (y_faddr (k' := 15) 15 hs (by kernel_rfl) rfl rfl) ?_; clear hs a; intro a hs
            refine a_valG hs rfl rfl rfl (y_load hs Tryd.underlying43 rfl rfl (fun w hw => (hw.to 1 rfl).cellV rfl)) ?_; clear hs a; intro a hs
            refine a_valG hs rfl rfl rfl (y_cmp hs rfl rfl rfl) ?_; clear hs a; intro a hs
            refine a_valG hs rfl rfl rfl (y_pickT hs rfl rfl rfl) ?_; clear hs a; intro a hs
            refine a_val hs rfl rfl rfl (y_pickF hs rfl rfl rfl) ?_; clear hs a; intro a hs
            refine a_val hs rfl rfl rfl (y_assign hs rfl) ?_; clear hs a; intro a hs
            refine wpList_nil (then_normal ?_)
            refine wp_cond_split (hs.ev rfl) (fun h39 => ?_) (fun h39 => ?_)
            · replace h39 := bne_iff_ne.1 h39
              refine wp_seq ?_
              refine wp_region_lit ?_
              refine a_val hs rfl rfl rfl (y_assign hs rfl) ?_; clear hs a; intro a hs
              refine wpList_nil (then_normal ?_)
              refine wp_ret (in_ret (then_ret ?_))
              have hH : ¬ headI x := by
                rintro ⟨nm, v, sh, li, h1, n1, n2, n3, l1, l2, v1, s1⟩
                rw [hsp] at h1
                simp only [Option.some.injEq, Prod.mk.injEq] at h1
                obtain ⟨rfl, rfl, rfl, rfl⟩ := h1
                first | omega | (have := n2 rfl; omega) | (have := n3 (by omega); omega) | (have := l1 rfl; omega) | (have := l2 rfl; omega) | (rw [n1 rfl] at h47; cases h47; done) | (rw [v1 rfl] at h94; cases h94; done) | (rw [s1 rfl] at h85; cases h85; done)
              have hX : itemF x left = (false, left - 1) := by unfold itemF; rw [if_neg (by omega), if_neg hH]
              refine fin_ret hs (.tmp (hs.slots _ _ rfl) .nil) ⟨?_, ?_⟩
              · rw [hX]; first | rfl | simp [tell]
              · rw [hX]; exact (hs.mem.to 1 rfl).drop
            · replace h39 := bne_eq_false_iff_eq.1 h39
              refine wp_seq ?_
              refine wp_region_lit ?_
              refine a_val hs rfl rfl rfl (y_move hs rfl) ?_; clear hs a; intro a hs
              refine a_val hs rfl rfl rfl (y_move hs rfl) ?_; clear hs a; intro a hs
              refine a_skip hs rfl rfl rfl ?_; clear hs a; intro a hs
              refine a_skip hs rfl rfl rfl ?_; clear hs a; intro a hs
              refine a_skip hs rfl rfl rfl ?_; clear hs a; intro a hs
              refine a_skip hs rfl rfl rfl ?_; clear hs a; intro a hs
              refine a_skip hs rfl rfl rfl ?_; clear hs a; intro a hs
              refine a_val hs rfl rfl rfl (y_pickF hs rfl rfl rfl) ?_; clear hs a; intro a hs
              refine a_val hs rfl rfl rfl (y_move hs rfl) ?_; clear hs a; intro a hs
              refine a_valG hs rfl rfl rfl (y_move hs rfl) ?_; clear hs a; intro a hs
              refine a_valG hs rfl rfl rfl (y_not hs rfl) ?_; clear hs a; intro a hs
              refine a_valG hs rfl rfl rfl (y_move hs rfl) ?_; clear hs a; intro a hs
              refine a_valG hs rfl rfl rfl (y_faddr (k' := 16) 16 hs (by kernel_rfl) rfl rfl) ?_; clear hs a; intro a hs
              refine a_valG hs rfl rfl rfl (y_load hs Tryd.underlying23 rfl rfl (fun w hw => (hw.to 1 rfl).cellV rfl)) ?_; clear hs a; intro a hs
              refine a_valG hs rfl rfl rfl (y_lenL hs Tryd.underlying23 rfl) ?_; clear hs a; intro a hs
              refine a_valG hs rfl rfl rfl (y_cmp hs rfl rfl rfl) ?_; clear hs a; intro a hs
              refine a_valG hs rfl rfl rfl (y_pickT hs rfl rfl rfl) ?_; clear hs a; intro a hs
              refine a_val hs rfl rfl rfl (y_pickF hs rfl rfl rfl) ?_; clear hs a; intro a hs
              refine a_val hs rfl rfl rfl (y_assign hs rfl) ?_; clear hs a; intro a hs
              refine wpList_nil (then_normal ?_)
              refine wp_cond_split (hs.ev rfl) (fun h66 => ?_) (fun h66 => ?_)
              · replace h66 := of_decide_eq_true h66
                refine wp_seq ?_
                refine wp_region_lit ?_
                refine a_val hs rfl rfl rfl (y_assign hs rfl) ?_; clear hs a; intro a hs
                refine wpList_nil (then_normal ?_)
                refine wp_ret (in_ret (then_ret ?_))
                have hH : ¬ headI x := by
                  rintro ⟨nm, v, sh, li, h1, n1, n2, n3, l1, l2, v1, s1⟩
                  rw [hsp] at h1
                  simp only [Option.some.injEq, Prod.mk.injEq] at h1
                  obtain ⟨rfl, rfl, rfl, rfl⟩ := h1
                  first | omega | (have := n2 rfl; omega) | (have := n3 (by omega); omega) | (have := l1 rfl; omega) | (have := l2 rfl; omega) | (rw [n1 rfl] at h47; cases h47; done) | (rw [v1 rfl] at h94; cases h94; done) | (rw [s1 rfl] at h85; cases h85; done)
                have hX : itemF x left = (false, left - 1) := by unfold itemF; rw [if_neg (by omega), if_neg hH]
                refine fin_ret hs (.tmp (hs.slots _ _ rfl) .nil) ⟨?_, ?_⟩
                · rw [hX]; first | rfl | simp [tell]
                · rw [hX]; exact (hs.mem.to 1 rfl).drop
              · replace h66 := of_decide_eq_false h66
                refine wp_seq ?_
                refine wp_region_lit ?_
                refine a_val hs rfl rfl rfl (y_move hs rfl) ?_; clear hs a; intro a hs
                refine a_val hs rfl rfl rfl (y_not hs rfl) ?_; clear hs a; intro a hs
                refine a_val hs rfl rfl rfl (y_move hs rfl) ?_; clear hs a; intro a hs
                refine a_skip hs rfl rfl rfl ?_; clear hs a; intro a hs
                refine a_skip hs rfl rfl rfl ?_; clear hs a; intro a hs
                refine a_skip hs rfl rfl rfl ?_; clear hs a; intro a hs
                refine a_skip hs rfl rfl rfl ?_; clear hs a; intro a hs
                refine a_val hs rfl rfl rfl (y_pickF hs rfl rfl rfl) ?_; clear hs a; intro a hs
                refine a_val hs rfl rfl rfl (y_move hs rfl) ?_; clear hs a; intro a hs
                refine a_valG hs rfl rfl rfl (y_move hs rfl) ?_; clear hs a; intro a hs
                refine a_valG hs rfl rfl rfl (y_not hs rfl) ?_; clear hs a; intro a hs
                refine a_valG hs rfl rfl rfl (y_move hs rfl) ?_; clear hs a; intro a hs
                refine a_valG hs rfl rfl rfl (y_faddr (k' := 8) 8 hs (by kernel_rfl) rfl rfl) ?_; clear hs a; intro a hs
                refine a_valG hs rfl rfl rfl (y_loadAgg (vs := [.int .u8 x.f3.f0, .string x.f3.f1, .slice A10 x.f3.f2.length c10, .slice A11 x.f3.f3.length c11, .slice A12 x.f3.f4.length c12, .int .i64 x.f3.f5, .int .i64 x.f3.f6]) hs Tryd.underlying41 rfl (by kernel_rfl) rfl (fun w hw k v hk => ((hw.to 1 rfl).cell).trans (sub_at 7 rfl hk))) ?_; clear hs a; intro a hs
                refine a_effG hs rfl (e_callB Tryd.func83 rfl rfl hs rfl rfl (tree_noShape x.f3 A10 A11 A12 c10 c11 c12 _) ?_); clear hs a; intro a w hs
                refine a_valG hs rfl rfl rfl (y_not hs rfl) ?_; clear hs a; intro a hs
                refine a_valG hs rfl rfl rfl (y_pickT hs rfl rfl rfl) ?_; clear hs a; intro a hs
                refine a_val hs rfl rfl rfl (y_pickF hs rfl rfl rfl) ?_; clear hs a; intro a hs
                refine a_val hs rfl rfl rfl (y_assign hs rfl) ?_; clear hs a; intro a hs
                refine wpList_nil (then_normal ?_)
                refine wp_cond_split (hs.ev rfl) (fun h85 => ?_) (fun h85 => ?_)
                · replace h85 := (not_t h85)
                  refine wp_seq ?_
                  refine wp_region_lit ?_
                  refine a_val hs rfl rfl rfl (y_assign hs rfl) ?_; clear hs a; intro a hs
                  refine wpList_nil (then_normal ?_)
                  refine wp_ret (in_ret (then_ret ?_))
                  have hH : ¬ headI x := by
                    rintro ⟨nm, v, sh, li, h1, n1, n2, n3, l1, l2, v1, s1⟩
                    rw [hsp] at h1
                    simp only [Option.some.injEq, Prod.mk.injEq] at h1
                    obtain ⟨rfl, rfl, rfl, rfl⟩ := h1
                    first | omega | (have := n2 rfl; omega) | (have := n3 (by omega); omega) | (have := l1 rfl; omega) | (have := l2 rfl; omega) | (rw [n1 rfl] at h47; cases h47; done) | (rw [v1 rfl] at h94; cases h94; done) | (rw [s1 rfl] at h85; cases h85; done)
                  have hX : itemF x left = (false, left - 1) := by unfold itemF; rw [if_neg (by omega), if_neg hH]
                  refine fin_ret hs (.tmp (hs.slots _ _ rfl) .nil) ⟨?_, ?_⟩
                  · rw [hX]; first | rfl | simp [tell]
                  · rw [hX]; exact (hs.mem.to 1 rfl).drop
                · replace h85 := (not_f h85)
                  refine wp_skip (in_normal (then_normal ?_))
                  refine wp_seq ?_
                  have hH : headI x := ⟨_, _, _, _, hsp, (fun h => by cases h), (fun _ => by omega), (fun h5 => by omega), (fun h => by cases h), (fun _ => by omega), (fun h => by cases h), (fun _ => h85)⟩
                  obtain ⟨RR1, hRR⟩ : ∃ RR1, RR1 = stE x.f2 (left - 1) := ⟨_, rfl⟩
                  have hV : valI x (left - 1) = RR1 := by unfold valI; rw [if_pos (show hasV x by unfold hasV; omega), hRR]
                  refine wp_region_lit ?_
                  refine a_val hs rfl rfl rfl (y_move hs rfl) ?_; clear hs a; intro a hs
                  refine a_val hs rfl rfl rfl (y_not hs rfl) ?_; clear hs a; intro a hs
                  refine a_val hs rfl rfl rfl (y_move hs rfl) ?_; clear hs a; intro a hs
                  refine a_valG hs rfl rfl rfl (y_move hs rfl) ?_; clear hs a; intro a hs
                  refine a_valG hs rfl rfl rfl (y_faddr (k' := 2) 2 hs (by kernel_rfl) rfl rfl) ?_; clear hs a; intro a hs
                  refine a_valG hs rfl rfl rfl (y_loadAgg (vs := [.int .u8 x.f2.f0, .int .i64 x.f2.f1, .string x.f2.f2, .slice A5 x.f2.f3.length c5, .int .i64 x.f2.f4, .int .i64 x.f2.f5]) hs Tryd.underlying24 rfl (by kernel_rfl) rfl (fun w hw k v hk => ((hw.to 1 rfl).cell).trans (sub_at 6 rfl hk))) ?_; clear hs a; intro a hs
                  refine a_effG hs rfl (e_callX Tryd.func44 rfl rfl hs rfl rfl (walk_expr 16 (by decide) x.f2 A5 c5 g (left - 1) _ w0 _ hA5 hsm.2.1 (by omega) hs.mem) (fun e w1 ⟨he, hm⟩ => ⟨_, he, _, hm, ?_⟩)); clear hs a; intro a hs
                  refine a_valG hs rfl rfl rfl (y_cmp hs rfl rfl rfl) ?_; clear hs a; intro a hs
                  refine a_val hs rfl rfl rfl (y_pickF hs rfl rfl rfl) ?_; clear hs a; intro a hs
                  refine a_val hs rfl rfl rfl (y_move hs rfl) ?_; clear hs a; intro a hs
                  rcases hs.know (d := 113) rfl with ⟨h113, hs1⟩ | ⟨h113, hs1⟩ <;> replace hs := hs1 <;> clear hs1
                  · replace h113 := of_decide_eq_true h113
                    rw [show (xexpr 16 x.f2 (left - 1)).2 = RR1.2 by rw [hRR]; rfl] at hs
                    have hV1 : RR1.1 = true := by rw [hRR]; exact decide_eq_true (by omega)
                    have hvf := valI_falls x (left - 1) (by omega)
                    rw [hV] at hvf
                    have hb1 : 0 ≤ RR1.2 ∧ RR1.2 ≤ 8192 := ⟨hvf.2.2 hV1, by have := hvf.2.1; omega⟩
                    refine a_valG hs rfl rfl rfl (y_move hs rfl) ?_; clear hs a; intro a hs
                    refine a_valG hs rfl rfl rfl (y_not hs rfl) ?_; clear hs a; intro a hs
                    refine a_valG hs rfl rfl rfl (y_move hs rfl) ?_; clear hs a; intro a hs
                    refine a_skip hs rfl rfl rfl ?_; clear hs a; intro a hs
                    refine a_skip hs rfl rfl rfl ?_; clear hs a; intro a hs
                    refine a_skip hs rfl rfl rfl ?_; clear hs a; intro a hs
                    refine a_skip hs rfl rfl rfl ?_; clear hs a; intro a hs
                    refine a_valG hs rfl rfl rfl (y_pickT hs rfl rfl rfl) ?_; clear hs a; intro a hs
                    refine a_val hs rfl rfl rfl (y_pickT hs rfl rfl rfl) ?_; clear hs a; intro a hs
                    refine a_val hs rfl rfl rfl (y_move hs rfl) ?_; clear hs a; intro a hs
                    refine a_valG hs rfl rfl rfl (y_move hs rfl) ?_; clear hs a; intro a hs
                    refine a_valG hs rfl rfl rfl (y_faddr (k' := 16) 16 hs (by kernel_rfl) rfl rfl) ?_; clear hs a; intro a hs
                    refine a_valG hs rfl rfl rfl (y_load hs Tryd.underlying23 rfl rfl (fun w hw => (hw.to 1 rfl).cellV rfl)) ?_; clear hs a; intro a hs
                    obtain ⟨RR2, hRR2⟩ : ∃ RR2 : Bool × Int, RR2 = (true, RR1.2) := ⟨_, rfl⟩
                    have hS : shI x RR1.2 = RR2 := by unfold shI; rw [if_neg (by omega), hRR2]
                    have hS1 : RR2.1 = true := by rw [hRR2]
                    have hb2 : 0 ≤ RR2.2 ∧ RR2.2 ≤ 8192 := by rw [hRR2]; exact hb1
                    rw [show RR1.2 = RR2.2 by rw [hRR2]] at hs
                    refine a_effG hs rfl (e_callX Tryd.func77 rfl rfl hs rfl rfl (walk_exprs g A16 c16 x.f5 RR2.2 _ w0 _ hA16 hsm.2.2.2 hb2 hs.mem) (fun e w1 ⟨he, hm⟩ => ⟨_, he, _, hm, ?_⟩)); clear hs a; intro a hs
                    refine a_val hs rfl rfl rfl (y_pickT hs rfl rfl rfl) ?_; clear hs a; intro a hs
                    refine a_val hs rfl rfl rfl (y_assign hs rfl) ?_; clear hs a; intro a hs
                    refine wpList_nil (then_normal ?_)
                    refine wp_ret ?_
                    have hX : itemF x left = xlist stE x.f5 RR2.2 := by unfold itemF; rw [if_neg (by omega), if_pos hH, hV, if_pos hV1, hS, if_pos hS1]
                    refine fin_ret hs (.tmp (hs.slots _ _ rfl) .nil) ⟨?_, ?_⟩
                    · rw [hX]; first | rfl | simp [tell]
                    · rw [hX]; exact (hs.mem.to 1 rfl).drop
                  · replace h113 := of_decide_eq_false h113
                    refine a_skip hs rfl rfl rfl ?_; clear hs a; intro a hs
                    refine a_skip hs rfl rfl rfl ?_; clear hs a; intro a hs
                    refine a_skip hs rfl rfl rfl ?_; clear hs a; intro a hs
                    refine a_skip hs rfl rfl rfl ?_; clear hs a; intro a hs
                    refine a_skip hs rfl rfl rfl ?_; clear hs a; intro a hs
                    refine a_skip hs rfl rfl rfl ?_; clear hs a; intro a hs
                    refine a_skip hs rfl rfl rfl ?_; clear hs a; intro a hs
                    refine a_skip hs rfl rfl rfl ?_; clear hs a; intro a hs
                    refine a_val hs rfl rfl rfl (y_pickF hs rfl rfl rfl) ?_; clear hs a; intro a hs
                    refine a_val hs rfl rfl rfl (y_move hs rfl) ?_; clear hs a; intro a hs
                    refine a_skip hs rfl rfl rfl ?_; clear hs a; intro a hs
                    refine a_skip hs rfl rfl rfl ?_; clear hs a; intro a hs
                    refine a_skip hs rfl rfl rfl ?_; clear hs a; intro a hs
                    refine a_skip hs rfl rfl rfl ?_; clear hs a; intro a hs
                    refine a_val hs rfl rfl rfl (y_pickF hs rfl rfl rfl) ?_; clear hs a; intro a hs
                    refine a_val hs rfl rfl rfl (y_assign hs rfl) ?_; clear hs a; intro a hs
                    refine wpList_nil (then_normal ?_)
                    refine wp_ret ?_
                    have hE1 : RR1 = (false, (xexpr 16 x.f2 (left - 1)).2) := by rw [hRR]; unfold stE; rw [decide_eq_false (by omega)]
                    have hX : itemF x left = (false, (xexpr 16 x.f2 (left - 1)).2) := by unfold itemF; rw [if_neg (by omega), if_pos hH, hV, if_neg (by rw [hE1]; exact Bool.false_ne_true), hE1]
                    refine fin_ret hs (.tmp (hs.slots _ _ rfl) .nil) ⟨?_, ?_⟩
                    · rw [hX]; first | rfl | simp [tell]
                    · rw [hX]; exact (hs.mem.to 1 rfl).drop
          · replace h60 := bne_eq_false_iff_eq.1 h60
            refine a_skip hs rfl rfl rfl ?_; clear hs a; intro a hs
            refine a_skip hs rfl rfl rfl ?_; clear hs a; intro a hs
            refine a_skip hs rfl rfl rfl ?_; clear hs a; intro a hs
            refine a_valG hs rfl rfl rfl (y_pickF hs rfl rfl rfl) ?_; clear hs a; intro a hs
            refine a_val hs rfl rfl rfl (y_pickF hs rfl rfl rfl) ?_; clear hs a; intro a hs
            refine a_val hs rfl rfl rfl (y_assign hs rfl) ?_; clear hs a; intro a hs
            refine wpList_nil (then_normal ?_)
            refine wp_cond_false (hs.ev rfl) ?_
            refine wp_seq ?_
            refine wp_region_lit ?_
            refine a_val hs rfl rfl rfl (y_move hs rfl) ?_; clear hs a; intro a hs
            refine a_val hs rfl rfl rfl (y_move hs rfl) ?_; clear hs a; intro a hs
            refine a_skip hs rfl rfl rfl ?_; clear hs a; intro a hs
            refine a_skip hs rfl rfl rfl ?_; clear hs a; intro a hs
            refine a_skip hs rfl rfl rfl ?_; clear hs a; intro a hs
            refine a_skip hs rfl rfl rfl ?_; clear hs a; intro a hs
            refine a_skip hs rfl rfl rfl ?_; clear hs a; intro a hs
            refine a_val hs rfl rfl rfl (y_pickF hs rfl rfl rfl) ?_; clear hs a; intro a hs
            refine a_val hs rfl rfl rfl (y_move hs rfl) ?_; clear hs a; intro a hs
            refine a_valG hs rfl rfl rfl (y_move hs rfl) ?_; clear hs a; intro a hs
            refine a_valG hs rfl rfl rfl (y_not hs rfl) ?_; clear hs a; intro a hs
            refine a_valG hs rfl rfl rfl (y_move hs rfl) ?_; clear hs a; intro a hs
            refine a_valG hs rfl rfl rfl (y_faddr (k' := 16) 16 hs (by kernel_rfl) rfl rfl) ?_; clear hs a; intro a hs
            refine a_valG hs rfl rfl rfl (y_load hs Tryd.underlying23 rfl rfl (fun w hw => (hw.to 1 rfl).cellV rfl)) ?_; clear hs a; intro a hs
            refine a_valG hs rfl rfl rfl (y_lenL hs Tryd.underlying23 rfl) ?_; clear hs a; intro a hs
            refine a_valG hs rfl rfl rfl (y_cmp hs rfl rfl rfl) ?_; clear hs a; intro a hs
            refine a_valG hs rfl rfl rfl (y_pickT hs rfl rfl rfl) ?_; clear hs a; intro a hs
            refine a_val hs rfl rfl rfl (y_pickF hs rfl rfl rfl) ?_; clear hs a; intro a hs
            refine a_val hs rfl rfl rfl (y_assign hs rfl) ?_; clear hs a; intro a hs
            refine wpList_nil (then_normal ?_)
            refine wp_cond_split (hs.ev rfl) (fun h66 => ?_) (fun h66 => ?_)
            · replace h66 := of_decide_eq_true h66
              refine wp_seq ?_
              refine wp_region_lit ?_
              refine a_val hs rfl rfl rfl (y_assign hs rfl) ?_; clear hs a; intro a hs
              refine wpList_nil (then_normal ?_)
              refine wp_ret (in_ret (then_ret ?_))
              have hH : ¬ headI x := by
                rintro ⟨nm, v, sh, li, h1, n1, n2, n3, l1, l2, v1, s1⟩
                rw [hsp] at h1
                simp only [Option.some.injEq, Prod.mk.injEq] at h1
                obtain ⟨rfl, rfl, rfl, rfl⟩ := h1
                first | omega | (have := n2 rfl; omega) | (have := n3 (by omega); omega) | (have := l1 rfl; omega) | (have := l2 rfl; omega) | (rw [n1 rfl] at h47; cases h47; done) | (rw [v1 rfl] at h94; cases h94; done) | (rw [s1 rfl] at h85; cases h85; done)
              have hX : itemF x left = (false, left - 1) := by unfold itemF; rw [if_neg (by omega), if_neg hH]
              refine fin_ret hs (.tmp (hs.slots _ _ rfl) .nil) ⟨?_, ?_⟩
              · rw [hX]; first | rfl | simp [tell]
              · rw [hX]; exact (hs.mem.to 1 rfl).drop
            · replace h66 := of_decide_eq_false h66
              refine wp_seq ?_
              refine wp_region_lit ?_
              refine a_val hs rfl rfl rfl (y_move hs rfl) ?_; clear hs a; intro a hs
              refine a_val hs rfl rfl rfl (y_not hs rfl) ?_; clear hs a; intro a hs
              refine a_val hs rfl rfl rfl (y_move hs rfl) ?_; clear hs a; intro a hs
              refine a_skip hs rfl rfl rfl ?_; clear hs a; intro a hs
              refine a_skip hs rfl rfl rfl ?_; clear hs a; intro a hs
              refine a_skip hs rfl rfl rfl ?_; clear hs a; intro a hs
              refine a_skip hs rfl rfl rfl ?_; clear hs a; intro a hs
              refine a_val hs rfl rfl rfl (y_pickF hs rfl rfl rfl) ?_; clear hs a; intro a hs
              refine a_val hs rfl rfl rfl (y_move hs rfl) ?_; clear hs a; intro a hs
              refine a_valG hs rfl rfl rfl (y_move hs rfl) ?_; clear hs a; intro a hs
              refine a_valG hs rfl rfl rfl (y_not hs rfl) ?_; clear hs a; intro a hs
              refine a_valG hs rfl rfl rfl (y_move hs rfl) ?_; clear hs a; intro a hs
              refine a_valG hs rfl rfl rfl (y_faddr (k' := 8) 8 hs (by kernel_rfl) rfl rfl) ?_; clear hs a; intro a hs
              refine a_valG hs rfl rfl rfl (y_loadAgg (vs := [.int .u8 x.f3.f0, .string x.f3.f1, .slice A10 x.f3.f2.length c10, .slice A11 x.f3.f3.length c11, .slice A12 x.f3.f4.length c12, .int .i64 x.f3.f5, .int .i64 x.f3.f6]) hs Tryd.underlying41 rfl (by kernel_rfl) rfl (fun w hw k v hk => ((hw.to 1 rfl).cell).trans (sub_at 7 rfl hk))) ?_; clear hs a; intro a hs
              refine a_effG hs rfl (e_callB Tryd.func83 rfl rfl hs rfl rfl (tree_noShape x.f3 A10 A11 A12 c10 c11 c12 _) ?_); clear hs a; intro a w hs
              refine a_valG hs rfl rfl rfl (y_not hs rfl) ?_; clear hs a; intro a hs
              refine a_valG hs rfl rfl rfl (y_pickT hs rfl rfl rfl) ?_; clear hs a; intro a hs
              refine a_val hs rfl rfl rfl (y_pickF hs rfl rfl rfl) ?_; clear hs a; intro a hs
              refine a_val hs rfl rfl rfl (y_assign hs rfl) ?_; clear hs a; intro a hs
              refine wpList_nil (then_normal ?_)
              refine wp_cond_split (hs.ev rfl) (fun h85 => ?_) (fun h85 => ?_)
              · replace h85 := (not_t h85)
                refine wp_seq ?_
                refine wp_region_lit ?_
                refine a_val hs rfl rfl rfl (y_assign hs rfl) ?_; clear hs a; intro a hs
                refine wpList_nil (then_normal ?_)
                refine wp_ret (in_ret (then_ret ?_))
                have hH : ¬ headI x := by
                  rintro ⟨nm, v, sh, li, h1, n1, n2, n3, l1, l2, v1, s1⟩
                  rw [hsp] at h1
                  simp only [Option.some.injEq, Prod.mk.injEq] at h1
                  obtain ⟨rfl, rfl, rfl, rfl⟩ := h1
                  first | omega | (have := n2 rfl; omega) | (have := n3 (by omega); omega) | (have := l1 rfl; omega) | (have := l2 rfl; omega) | (rw [n1 rfl] at h47; cases h47; done) | (rw [v1 rfl] at h94; cases h94; done) | (rw [s1 rfl] at h85; cases h85; done)
                have hX : itemF x left = (false, left - 1) := by unfold itemF; rw [if_neg (by omega), if_neg hH]
                refine fin_ret hs (.tmp (hs.slots _ _ rfl) .nil) ⟨?_, ?_⟩
                · rw [hX]; first | rfl | simp [tell]
                · rw [hX]; exact (hs.mem.to 1 rfl).drop
              · replace h85 := (not_f h85)
                refine wp_skip (in_normal (then_normal ?_))
                refine wp_seq ?_
                have hH : headI x := ⟨_, _, _, _, hsp, (fun h => by cases h), (fun _ => by omega), (fun h5 => by omega), (fun h => by cases h), (fun _ => by omega), (fun h => by cases h), (fun _ => h85)⟩
                obtain ⟨RR1, hRR⟩ : ∃ RR1, RR1 = stE x.f2 (left - 1) := ⟨_, rfl⟩
                have hV : valI x (left - 1) = RR1 := by unfold valI; rw [if_pos (show hasV x by unfold hasV; omega), hRR]
                refine wp_region_lit ?_
                refine a_val hs rfl rfl rfl (y_move hs rfl) ?_; clear hs a; intro a hs
                refine a_val hs rfl rfl rfl (y_not hs rfl) ?_; clear hs a; intro a hs
                refine a_val hs rfl rfl rfl (y_move hs rfl) ?_; clear hs a; intro a hs
                refine a_valG hs rfl rfl rfl (y_move hs rfl) ?_; clear hs a; intro a hs
                refine a_valG hs rfl rfl rfl (y_faddr (k' := 2) 2 hs (by kernel_rfl) rfl rfl) ?_; clear hs a; intro a hs
                refine a_valG hs rfl rfl rfl (y_loadAgg (vs := [.int .u8 x.f2.f0, .int .i64 x.f2.f1, .string x.f2.f2, .slice A5 x.f2.f3.length c5, .int .i64 x.f2.f4, .int .i64 x.f2.f5]) hs Tryd.underlying24 rfl (by kernel_rfl) rfl (fun w hw k v hk => ((hw.to 1 rfl).cell).trans (sub_at 6 rfl hk))) ?_; clear hs a; intro a hs
                refine a_effG hs rfl (e_callX Tryd.func44 rfl rfl hs rfl rfl (walk_expr 16 (by decide) x.f2 A5 c5 g (left - 1) _ w0 _ hA5 hsm.2.1 (by omega) hs.mem) (fun e w1 ⟨he, hm⟩ => ⟨_, he, _, hm, ?_⟩)); clear hs a; intro a hs
                refine a_valG hs rfl rfl rfl (y_cmp hs rfl rfl rfl) ?_; clear hs a; intro a hs
                refine a_val hs rfl rfl rfl (y_pickF hs rfl rfl rfl) ?_; clear hs a; intro a hs
                refine a_val hs rfl rfl rfl (y_move hs rfl) ?_; clear hs a; intro a hs
                rcases hs.know (d := 113) rfl with ⟨h113, hs1⟩ | ⟨h113, hs1⟩ <;> replace hs := hs1 <;> clear hs1
                · replace h113 := of_decide_eq_true h113
                  rw [show (xexpr 16 x.f2 (left - 1)).2 = RR1.2 by rw [hRR]; rfl] at hs
                  have hV1 : RR1.1 = true := by rw [hRR]; exact decide_eq_true (by omega)
                  have hvf := valI_falls x (left - 1) (by omega)
                  rw [hV] at hvf
                  have hb1 : 0 ≤ RR1.2 ∧ RR1.2 ≤ 8192 := ⟨hvf.2.2 hV1, by have := hvf.2.1; omega⟩
                  refine a_valG hs rfl rfl rfl (y_move hs rfl) ?_; clear hs a; intro a hs
                  refine a_valG hs rfl rfl rfl (y_not hs rfl) ?_; clear hs a; intro a hs
                  refine a_valG hs rfl rfl rfl (y_move hs rfl) ?_; clear hs a; intro a hs
                  refine a_skip hs rfl rfl rfl ?_; clear hs a; intro a hs
                  refine a_skip hs rfl rfl rfl ?_; clear hs a; intro a hs
                  refine a_skip hs rfl rfl rfl ?_; clear hs a; intro a hs
                  refine a_skip hs rfl rfl rfl ?_; clear hs a; intro a hs
                  refine a_valG hs rfl rfl rfl (y_pickT hs rfl rfl rfl) ?_; clear hs a; intro a hs
                  refine a_val hs rfl rfl rfl (y_pickT hs rfl rfl rfl) ?_; clear hs a; intro a hs
                  refine a_val hs rfl rfl rfl (y_move hs rfl) ?_; clear hs a; intro a hs
                  refine a_valG hs rfl rfl rfl (y_move hs rfl) ?_; clear hs a; intro a hs
                  refine a_valG hs rfl rfl rfl (y_faddr (k' := 16) 16 hs (by kernel_rfl) rfl rfl) ?_; clear hs a; intro a hs
                  refine a_valG hs rfl rfl rfl (y_load hs Tryd.underlying23 rfl rfl (fun w hw => (hw.to 1 rfl).cellV rfl)) ?_; clear hs a; intro a hs
                  obtain ⟨RR2, hRR2⟩ : ∃ RR2 : Bool × Int, RR2 = (true, RR1.2) := ⟨_, rfl⟩
                  have hS : shI x RR1.2 = RR2 := by unfold shI; rw [if_neg (by omega), hRR2]
                  have hS1 : RR2.1 = true := by rw [hRR2]
                  have hb2 : 0 ≤ RR2.2 ∧ RR2.2 ≤ 8192 := by rw [hRR2]; exact hb1
                  rw [show RR1.2 = RR2.2 by rw [hRR2]] at hs
                  refine a_effG hs rfl (e_callX Tryd.func77 rfl rfl hs rfl rfl (walk_exprs g A16 c16 x.f5 RR2.2 _ w0 _ hA16 hsm.2.2.2 hb2 hs.mem) (fun e w1 ⟨he, hm⟩ => ⟨_, he, _, hm, ?_⟩)); clear hs a; intro a hs
                  refine a_val hs rfl rfl rfl (y_pickT hs rfl rfl rfl) ?_; clear hs a; intro a hs
                  refine a_val hs rfl rfl rfl (y_assign hs rfl) ?_; clear hs a; intro a hs
                  refine wpList_nil (then_normal ?_)
                  refine wp_ret ?_
                  have hX : itemF x left = xlist stE x.f5 RR2.2 := by unfold itemF; rw [if_neg (by omega), if_pos hH, hV, if_pos hV1, hS, if_pos hS1]
                  refine fin_ret hs (.tmp (hs.slots _ _ rfl) .nil) ⟨?_, ?_⟩
                  · rw [hX]; first | rfl | simp [tell]
                  · rw [hX]; exact (hs.mem.to 1 rfl).drop
                · replace h113 := of_decide_eq_false h113
                  refine a_skip hs rfl rfl rfl ?_; clear hs a; intro a hs
                  refine a_skip hs rfl rfl rfl ?_; clear hs a; intro a hs
                  refine a_skip hs rfl rfl rfl ?_; clear hs a; intro a hs
                  refine a_skip hs rfl rfl rfl ?_; clear hs a; intro a hs
                  refine a_skip hs rfl rfl rfl ?_; clear hs a; intro a hs
                  refine a_skip hs rfl rfl rfl ?_; clear hs a; intro a hs
                  refine a_skip hs rfl rfl rfl ?_; clear hs a; intro a hs
                  refine a_skip hs rfl rfl rfl ?_; clear hs a; intro a hs
                  refine a_val hs rfl rfl rfl (y_pickF hs rfl rfl rfl) ?_; clear hs a; intro a hs
                  refine a_val hs rfl rfl rfl (y_move hs rfl) ?_; clear hs a; intro a hs
                  refine a_skip hs rfl rfl rfl ?_; clear hs a; intro a hs
                  refine a_skip hs rfl rfl rfl ?_; clear hs a; intro a hs
                  refine a_skip hs rfl rfl rfl ?_; clear hs a; intro a hs
                  refine a_skip hs rfl rfl rfl ?_; clear hs a; intro a hs
                  refine a_val hs rfl rfl rfl (y_pickF hs rfl rfl rfl) ?_; clear hs a; intro a hs
                  refine a_val hs rfl rfl rfl (y_assign hs rfl) ?_; clear hs a; intro a hs
                  refine wpList_nil (then_normal ?_)
                  refine wp_ret ?_
                  have hE1 : RR1 = (false, (xexpr 16 x.f2 (left - 1)).2) := by rw [hRR]; unfold stE; rw [decide_eq_false (by omega)]
                  have hX : itemF x left = (false, (xexpr 16 x.f2 (left - 1)).2) := by unfold itemF; rw [if_neg (by omega), if_pos hH, hV, if_neg (by rw [hE1]; exact Bool.false_ne_true), hE1]
                  refine fin_ret hs (.tmp (hs.slots _ _ rfl) .nil) ⟨?_, ?_⟩
                  · rw [hX]; first | rfl | simp [tell]
                  · rw [hX]; exact (hs.mem.to 1 rfl).drop
      · refine wp_region_lit ?_
        refine a_val hs rfl rfl rfl (y_move hs rfl) ?_; clear hs a; intro a hs
        refine a_val hs rfl rfl rfl (y_move hs rfl) ?_; clear hs a; intro a hs
        refine a_skip hs rfl rfl rfl ?_; clear hs a; intro a hs
        refine a_skip hs rfl rfl rfl ?_; clear hs a; intro a hs
        refine a_skip hs rfl rfl rfl ?_; clear hs a; intro a hs
        refine a_skip hs rfl rfl rfl ?_; clear hs a; intro a hs
        refine a_val hs rfl rfl rfl (y_pickF hs rfl rfl rfl) ?_; clear hs a; intro a hs
        refine a_val hs rfl rfl rfl (y_move hs rfl) ?_; clear hs a; intro a hs
        refine a_valG hs rfl rfl rfl (y_move hs rfl) ?_; clear hs a; intro a hs
        refine a_valG hs rfl rfl rfl (y_not hs rfl) ?_; clear hs a; intro a hs
        refine a_valG hs rfl rfl rfl (y_move hs rfl) ?_; clear hs a; intro a hs
        refine a_valG hs rfl rfl rfl (y_faddr (k' := 1) 1 hs (by kernel_rfl) rfl rfl) ?_; clear hs a; intro a hs
        refine a_valG hs rfl rfl rfl (y_load hs Tryd.underlying9 rfl rfl (fun w hw => (hw.to 1 rfl).cellV rfl)) ?_; clear hs a; intro a hs
        refine a_valG hs rfl rfl rfl (y_sneE hs rfl rfl) ?_; clear hs a; intro a hs
        refine a_valG hs rfl rfl rfl (y_pickT hs rfl rfl rfl) ?_; clear hs a; intro a hs
        refine a_val hs rfl rfl rfl (y_pickF hs rfl rfl rfl) ?_; clear hs a; intro a hs
        refine a_val hs rfl rfl rfl (y_move hs rfl) ?_; clear hs a; intro a hs
        rcases hs.know (d := 56) rfl with ⟨h56, hs1⟩ | ⟨h56, hs1⟩ <;> replace hs := hs1 <;> clear hs1
        · replace h56 := of_decide_eq_true h56
          refine a_skip hs rfl rfl rfl ?_; clear hs a; intro a hs
          refine a_skip hs rfl rfl rfl ?_; clear hs a; intro a hs
          refine a_skip hs rfl rfl rfl ?_; clear hs a; intro a hs
          refine a_skip hs rfl rfl rfl ?_; clear hs a; intro a hs
          refine a_skip hs rfl rfl rfl ?_; clear hs a; intro a hs
          refine a_skip hs rfl rfl rfl ?_; clear hs a; intro a hs
          refine a_skip hs rfl rfl rfl ?_; clear hs a; intro a hs
          refine a_skip hs rfl rfl rfl ?_; clear hs a; intro a hs
          refine a_val hs rfl rfl rfl (y_pickT hs rfl rfl rfl) ?_; clear hs a; intro a hs
          refine a_val hs rfl rfl rfl (y_assign hs rfl) ?_; clear hs a; intro a hs
          refine wpList_nil (then_normal ?_)
          refine wp_cond_true (hs.ev rfl) ?_
          refine wp_seq ?_
          refine wp_region_lit ?_
          refine a_val hs rfl rfl rfl (y_assign hs rfl) ?_; clear hs a; intro a hs
          refine wpList_nil (then_normal ?_)
          refine wp_ret (in_ret (then_ret ?_))
          have hH : ¬ headI x := by
            rintro ⟨nm, v, sh, li, h1, n1, n2, n3, l1, l2, v1, s1⟩
            rw [hsp] at h1
            simp only [Option.some.injEq, Prod.mk.injEq] at h1
            obtain ⟨rfl, rfl, rfl, rfl⟩ := h1
            first | omega | (have := n2 rfl; omega) | (have := n3 (by omega); omega) | (have := l1 rfl; omega) | (have := l2 rfl; omega) | (rw [n1 rfl] at h47; cases h47; done) | (rw [v1 rfl] at h94; cases h94; done) | (rw [s1 rfl] at h85; cases h85; done)
          have hX : itemF x left = (false, left - 1) := by unfold itemF; rw [if_neg (by omega), if_neg hH]
          refine fin_ret hs (.tmp (hs.slots _ _ rfl) .nil) ⟨?_, ?_⟩
          · rw [hX]; first | rfl | simp [tell]
          · rw [hX]; exact (hs.mem.to 1 rfl).drop
        · replace h56 := of_decide_eq_false h56
          refine a_valG hs rfl rfl rfl (y_faddr (k' := 0) 0 hs (by kernel_rfl) rfl rfl) ?_; clear hs a; intro a hs
          refine a_valG hs rfl rfl rfl (y_load hs Tryd.underlying37 rfl rfl (fun w hw => (hw.to 1 rfl).cellV rfl)) ?_; clear hs a; intro a hs
          refine a_valG hs rfl rfl rfl (y_cmp hs rfl rfl rfl) ?_; clear hs a; intro a hs
          refine a_valG hs rfl rfl rfl (y_move hs rfl) ?_; clear hs a; intro a hs
          rcases hs.know (d := 60) rfl with ⟨h60, hs1⟩ | ⟨h60, hs1⟩ <;> replace hs := hs1 <;> clear hs1
          · replace h60 := bne_iff_ne.1 h60
            refine a_valG hs rfl rfl rfl (y_faddr (k' := 15) 15 hs (by kernel_rfl) rfl rfl) ?_; clear hs a; intro a hs
            refine a_valG hs rfl rfl rfl (y_load hs Tryd.underlying43 rfl rfl (fun w hw => (hw.to 1 rfl).cellV rfl)) ?_; clear hs a; intro a hs
            refine a_valG hs rfl rfl rfl (y_cmp hs rfl rfl rfl) ?_; clear hs a; intro a hs
            refine a_valG hs rfl rfl rfl (y_pickT hs rfl rfl rfl) ?_; clear hs a; intro a hs
            refine a_val hs rfl rfl rfl (y_pickF hs rfl rfl rfl) ?_; clear hs a; intro a hs
            refine a_val hs rfl rfl rfl (y_assign hs rfl) ?_; clear hs a; intro a hs
            refine wpList_nil (then_normal ?_)
            refine wp_cond_split (hs.ev rfl) (fun h39 => ?_) (fun h39 => ?_)
            · replace h39 := bne_iff_ne.1 h39
              refine wp_seq ?_
              refine wp_region_lit ?_
              refine a_val hs rfl rfl rfl (y_assign hs rfl) ?_; clear hs a; intro a hs
              refine wpList_nil (then_normal ?_)
              refine wp_ret (in_ret (then_ret ?_))
              have hH : ¬ headI x := by
                rintro ⟨nm, v, sh, li, h1, n1, n2, n3, l1, l2, v1, s1⟩
                rw [hsp] at h1
                simp only [Option.some.injEq, Prod.mk.injEq] at h1
                obtain ⟨rfl, rfl, rfl, rfl⟩ := h1
                first | omega | (have := n2 rfl; omega) | (have := n3 (by omega); omega) | (have := l1 rfl; omega) | (have := l2 rfl; omega) | (rw [n1 rfl] at h47; cases h47; done) | (rw [v1 rfl] at h94; cases h94; done) | (rw [s1 rfl] at h85; cases h85; done)
              have hX : itemF x left = (false, left - 1) := by unfold itemF; rw [if_neg (by omega), if_neg hH]
              refine fin_ret hs (.tmp (hs.slots _ _ rfl) .nil) ⟨?_, ?_⟩
              · rw [hX]; first | rfl | simp [tell]
              · rw [hX]; exact (hs.mem.to 1 rfl).drop
            · replace h39 := bne_eq_false_iff_eq.1 h39
              refine wp_seq ?_
              refine wp_region_lit ?_
              refine a_val hs rfl rfl rfl (y_move hs rfl) ?_; clear hs a; intro a hs
              refine a_val hs rfl rfl rfl (y_move hs rfl) ?_; clear hs a; intro a hs
              refine a_valG hs rfl rfl rfl (y_faddr (k' := 16) 16 hs (by kernel_rfl) rfl rfl) ?_; clear hs a; intro a hs
              refine a_valG hs rfl rfl rfl (y_load hs Tryd.underlying23 rfl rfl (fun w hw => (hw.to 1 rfl).cellV rfl)) ?_; clear hs a; intro a hs
              refine a_valG hs rfl rfl rfl (y_lenL hs Tryd.underlying23 rfl) ?_; clear hs a; intro a hs
              refine a_effG hs rfl (e_callB Tryd.func81 rfl rfl hs rfl rfl (tree_side x.f5.length _) ?_); clear hs a; intro a w hs
              refine a_valG hs rfl rfl rfl (y_not hs rfl) ?_; clear hs a; intro a hs
              refine a_val hs rfl rfl rfl (y_pickT hs rfl rfl rfl) ?_; clear hs a; intro a hs
              refine a_val hs rfl rfl rfl (y_move hs rfl) ?_; clear hs a; intro a hs
              rcases hs.know (d := 75) rfl with ⟨h75, hs1⟩ | ⟨h75, hs1⟩ <;> replace hs := hs1 <;> clear hs1
              · replace h75 := of_decide_eq_false (not_t h75)
                refine a_skip hs rfl rfl rfl ?_; clear hs a; intro a hs
                refine a_skip hs rfl rfl rfl ?_; clear hs a; intro a hs
                refine a_skip hs rfl rfl rfl ?_; clear hs a; intro a hs
                refine a_skip hs rfl rfl rfl ?_; clear hs a; intro a hs
                refine a_skip hs rfl rfl rfl ?_; clear hs a; intro a hs
                refine a_skip hs rfl rfl rfl ?_; clear hs a; intro a hs
                refine a_skip hs rfl rfl rfl ?_; clear hs a; intro a hs
                refine a_skip hs rfl rfl rfl ?_; clear hs a; intro a hs
                refine a_val hs rfl rfl rfl (y_pickT hs rfl rfl rfl) ?_; clear hs a; intro a hs
                refine a_val hs rfl rfl rfl (y_assign hs rfl) ?_; clear hs a; intro a hs
                refine wpList_nil (then_normal ?_)
                refine wp_cond_true (hs.ev rfl) ?_
                refine wp_seq ?_
                refine wp_region_lit ?_
                refine a_val hs rfl rfl rfl (y_assign hs rfl) ?_; clear hs a; intro a hs
                refine wpList_nil (then_normal ?_)
                refine wp_ret (in_ret (then_ret ?_))
                have hH : ¬ headI x := by
                  rintro ⟨nm, v, sh, li, h1, n1, n2, n3, l1, l2, v1, s1⟩
                  rw [hsp] at h1
                  simp only [Option.some.injEq, Prod.mk.injEq] at h1
                  obtain ⟨rfl, rfl, rfl, rfl⟩ := h1
                  first | omega | (have := n2 rfl; omega) | (have := n3 (by omega); omega) | (have := l1 rfl; omega) | (have := l2 rfl; omega) | (rw [n1 rfl] at h47; cases h47; done) | (rw [v1 rfl] at h94; cases h94; done) | (rw [s1 rfl] at h85; cases h85; done)
                have hX : itemF x left = (false, left - 1) := by unfold itemF; rw [if_neg (by omega), if_neg hH]
                refine fin_ret hs (.tmp (hs.slots _ _ rfl) .nil) ⟨?_, ?_⟩
                · rw [hX]; first | rfl | simp [tell]
                · rw [hX]; exact (hs.mem.to 1 rfl).drop
              · replace h75 := of_decide_eq_true (not_f h75)
                refine a_valG hs rfl rfl rfl (y_move hs rfl) ?_; clear hs a; intro a hs
                refine a_valG hs rfl rfl rfl (y_not hs rfl) ?_; clear hs a; intro a hs
                refine a_valG hs rfl rfl rfl (y_move hs rfl) ?_; clear hs a; intro a hs
                refine a_skip hs rfl rfl rfl ?_; clear hs a; intro a hs
                refine a_skip hs rfl rfl rfl ?_; clear hs a; intro a hs
                refine a_skip hs rfl rfl rfl ?_; clear hs a; intro a hs
                refine a_skip hs rfl rfl rfl ?_; clear hs a; intro a hs
                refine a_valG hs rfl rfl rfl (y_pickF hs rfl rfl rfl) ?_; clear hs a; intro a hs
                refine a_val hs rfl rfl rfl (y_pickF hs rfl rfl rfl) ?_; clear hs a; intro a hs
                refine a_val hs rfl rfl rfl (y_assign hs rfl) ?_; clear hs a; intro a hs
                refine wpList_nil (then_normal ?_)
                refine wp_cond_false (hs.ev rfl) ?_
                refine wp_seq ?_
                refine wp_region_lit ?_
                refine a_val hs rfl rfl rfl (y_move hs rfl) ?_; clear hs a; intro a hs
                refine a_val hs rfl rfl rfl (y_not hs rfl) ?_; clear hs a; intro a hs
                refine a_val hs rfl rfl rfl (y_move hs rfl) ?_; clear hs a; intro a hs
                refine a_valG hs rfl rfl rfl (y_faddr (k' := 2) 2 hs (by kernel_rfl) rfl rfl) ?_; clear hs a; intro a hs
                refine a_valG hs rfl rfl rfl (y_loadAgg (vs := [.int .u8 x.f2.f0, .int .i64 x.f2.f1, .string x.f2.f2, .slice A5 x.f2.f3.length c5, .int .i64 x.f2.f4, .int .i64 x.f2.f5]) hs Tryd.underlying24 rfl (by kernel_rfl) rfl (fun w hw k v hk => ((hw.to 1 rfl).cell).trans (sub_at 6 rfl hk))) ?_; clear hs a; intro a hs
                refine a_effG hs rfl (e_callB Tryd.func82 rfl rfl hs rfl rfl (tree_noExpr x.f2 A5 c5 _) ?_); clear hs a; intro a w hs
                refine a_valG hs rfl rfl rfl (y_not hs rfl) ?_; clear hs a; intro a hs
                refine a_val hs rfl rfl rfl (y_pickT hs rfl rfl rfl) ?_; clear hs a; intro a hs
                refine a_val hs rfl rfl rfl (y_move hs rfl) ?_; clear hs a; intro a hs
                rcases hs.know (d := 94) rfl with ⟨h94, hs1⟩ | ⟨h94, hs1⟩ <;> replace hs := hs1 <;> clear hs1
                · replace h94 := (not_t h94)
                  refine a_skip hs rfl rfl rfl ?_; clear hs a; intro a hs
                  refine a_skip hs rfl rfl rfl ?_; clear hs a; intro a hs
                  refine a_skip hs rfl rfl rfl ?_; clear hs a; intro a hs
                  refine a_skip hs rfl rfl rfl ?_; clear hs a; intro a hs
                  refine a_skip hs rfl rfl rfl ?_; clear hs a; intro a hs
                  refine a_skip hs rfl rfl rfl ?_; clear hs a; intro a hs
                  refine a_skip hs rfl rfl rfl ?_; clear hs a; intro a hs
                  refine a_skip hs rfl rfl rfl ?_; clear hs a; intro a hs
                  refine a_val hs rfl rfl rfl (y_pickT hs rfl rfl rfl) ?_; clear hs a; intro a hs
                  refine a_val hs rfl rfl rfl (y_assign hs rfl) ?_; clear hs a; intro a hs
                  refine wpList_nil (then_normal ?_)
                  refine wp_cond_true (hs.ev rfl) ?_
                  refine wp_seq ?_
                  refine wp_region_lit ?_
                  refine a_val hs rfl rfl rfl (y_assign hs rfl) ?_; clear hs a; intro a hs
                  refine wpList_nil (then_normal ?_)
                  refine wp_ret (in_ret (then_ret ?_))
                  have hH : ¬ headI x := by
                    rintro ⟨nm, v, sh, li, h1, n1, n2, n3, l1, l2, v1, s1⟩
                    rw [hsp] at h1
                    simp only [Option.some.injEq, Prod.mk.injEq] at h1
                    obtain ⟨rfl, rfl, rfl, rfl⟩ := h1
                    first | omega | (have := n2 rfl; omega) | (have := n3 (by omega); omega) | (have := l1 rfl; omega) | (have := l2 rfl; omega) | (rw [n1 rfl] at h47; cases h47; done) | (rw [v1 rfl] at h94; cases h94; done) | (rw [s1 rfl] at h85; cases h85; done)
                  have hX : itemF x left = (false, left - 1) := by unfold itemF; rw [if_neg (by omega), if_neg hH]
                  refine fin_ret hs (.tmp (hs.slots _ _ rfl) .nil) ⟨?_, ?_⟩
                  · rw [hX]; first | rfl | simp [tell]
                  · rw [hX]; exact (hs.mem.to 1 rfl).drop
                · replace h94 := (not_f h94)
                  refine a_valG hs rfl rfl rfl (y_move hs rfl) ?_; clear hs a; intro a hs
                  refine a_valG hs rfl rfl rfl (y_not hs rfl) ?_; clear hs a; intro a hs
                  refine a_valG hs rfl rfl rfl (y_move hs rfl) ?_; clear hs a; intro a hs
                  refine a_valG hs rfl rfl rfl (y_faddr (k' := 8) 8 hs (by kernel_rfl) rfl rfl) ?_; clear hs a; intro a hs
                  refine a_valG hs rfl rfl rfl (y_loadAgg (vs := [.int .u8 x.f3.f0, .string x.f3.f1, .slice A10 x.f3.f2.length c10, .slice A11 x.f3.f3.length c11, .slice A12 x.f3.f4.length c12, .int .i64 x.f3.f5, .int .i64 x.f3.f6]) hs Tryd.underlying41 rfl (by kernel_rfl) rfl (fun w hw k v hk => ((hw.to 1 rfl).cell).trans (sub_at 7 rfl hk))) ?_; clear hs a; intro a hs
                  refine a_effG hs rfl (e_callB Tryd.func83 rfl rfl hs rfl rfl (tree_noShape x.f3 A10 A11 A12 c10 c11 c12 _) ?_); clear hs a; intro a w hs
                  refine a_valG hs rfl rfl rfl (y_not hs rfl) ?_; clear hs a; intro a hs
                  refine a_valG hs rfl rfl rfl (y_pickT hs rfl rfl rfl) ?_; clear hs a; intro a hs
                  refine a_val hs rfl rfl rfl (y_pickF hs rfl rfl rfl) ?_; clear hs a; intro a hs
                  refine a_val hs rfl rfl rfl (y_assign hs rfl) ?_; clear hs a; intro a hs
                  refine wpList_nil (then_normal ?_)
                  refine wp_cond_split (hs.ev rfl) (fun h85 => ?_) (fun h85 => ?_)
                  · replace h85 := (not_t h85)
                    refine wp_seq ?_
                    refine wp_region_lit ?_
                    refine a_val hs rfl rfl rfl (y_assign hs rfl) ?_; clear hs a; intro a hs
                    refine wpList_nil (then_normal ?_)
                    refine wp_ret (in_ret (then_ret ?_))
                    have hH : ¬ headI x := by
                      rintro ⟨nm, v, sh, li, h1, n1, n2, n3, l1, l2, v1, s1⟩
                      rw [hsp] at h1
                      simp only [Option.some.injEq, Prod.mk.injEq] at h1
                      obtain ⟨rfl, rfl, rfl, rfl⟩ := h1
                      first | omega | (have := n2 rfl; omega) | (have := n3 (by omega); omega) | (have := l1 rfl; omega) | (have := l2 rfl; omega) | (rw [n1 rfl] at h47; cases h47; done) | (rw [v1 rfl] at h94; cases h94; done) | (rw [s1 rfl] at h85; cases h85; done)
                    have hX : itemF x left = (false, left - 1) := by unfold itemF; rw [if_neg (by omega), if_neg hH]
                    refine fin_ret hs (.tmp (hs.slots _ _ rfl) .nil) ⟨?_, ?_⟩
                    · rw [hX]; first | rfl | simp [tell]
                    · rw [hX]; exact (hs.mem.to 1 rfl).drop
                  · replace h85 := (not_f h85)
                    refine wp_skip (in_normal (then_normal ?_))
                    refine wp_seq ?_
                    have hH : headI x := ⟨_, _, _, _, hsp, (fun h => by cases h), (fun _ => by omega), (fun h5 => by omega), (fun _ => by omega), (fun h => by cases h), (fun _ => h94), (fun _ => h85)⟩
                    obtain ⟨RR1, hRR⟩ : ∃ RR1 : Bool × Int, RR1 = (true, left - 1) := ⟨_, rfl⟩
                    have hV : valI x (left - 1) = RR1 := by unfold valI; rw [if_neg (show ¬ hasV x by unfold hasV; omega), hRR]
                    have hV1 : RR1.1 = true := by rw [hRR]
                    have hb1 : 0 ≤ RR1.2 ∧ RR1.2 ≤ 8192 := by rw [hRR]; exact ⟨by show 0 ≤ left - 1; omega, by show left - 1 ≤ 8192; omega⟩
                    rw [show left - 1 = RR1.2 by rw [hRR]] at hs
                    refine wp_region_lit ?_
                    refine a_val hs rfl rfl rfl (y_move hs rfl) ?_; clear hs a; intro a hs
                    refine a_val hs rfl rfl rfl (y_not hs rfl) ?_; clear hs a; intro a hs
                    refine a_val hs rfl rfl rfl (y_move hs rfl) ?_; clear hs a; intro a hs
                    refine a_skip hs rfl rfl rfl ?_; clear hs a; intro a hs
                    refine a_skip hs rfl rfl rfl ?_; clear hs a; intro a hs
                    refine a_skip hs rfl rfl rfl ?_; clear hs a; intro a hs
                    refine a_skip hs rfl rfl rfl ?_; clear hs a; intro a hs
                    refine a_skip hs rfl rfl rfl ?_; clear hs a; intro a hs
                    refine a_val hs rfl rfl rfl (y_pickT hs rfl rfl rfl) ?_; clear hs a; intro a hs
                    refine a_val hs rfl rfl rfl (y_move hs rfl) ?_; clear hs a; intro a hs
                    refine a_valG hs rfl rfl rfl (y_move hs rfl) ?_; clear hs a; intro a hs
                    refine a_valG hs rfl rfl rfl (y_not hs rfl) ?_; clear hs a; intro a hs
                    refine a_valG hs rfl rfl rfl (y_move hs rfl) ?_; clear hs a; intro a hs
                    refine a_skip hs rfl rfl rfl ?_; clear hs a; intro a hs
                    refine a_skip hs rfl rfl rfl ?_; clear hs a; intro a hs
                    refine a_skip hs rfl rfl rfl ?_; clear hs a; intro a hs
                    refine a_skip hs rfl rfl rfl ?_; clear hs a; intro a hs
                    refine a_valG hs rfl rfl rfl (y_pickT hs rfl rfl rfl) ?_; clear hs a; intro a hs
                    refine a_val hs rfl rfl rfl (y_pickT hs rfl rfl rfl) ?_; clear hs a; intro a hs
                    refine a_val hs rfl rfl rfl (y_move hs rfl) ?_; clear hs a; intro a hs
                    refine a_valG hs rfl rfl rfl (y_move hs rfl) ?_; clear hs a; intro a hs
                    refine a_valG hs rfl rfl rfl (y_faddr (k' := 16) 16 hs (by kernel_rfl) rfl rfl) ?_; clear hs a; intro a hs
                    refine a_valG hs rfl rfl rfl (y_load hs Tryd.underlying23 rfl rfl (fun w hw => (hw.to 1 rfl).cellV rfl)) ?_; clear hs a; intro a hs
                    obtain ⟨RR2, hRR2⟩ : ∃ RR2 : Bool × Int, RR2 = (true, RR1.2) := ⟨_, rfl⟩
                    have hS : shI x RR1.2 = RR2 := by unfold shI; rw [if_neg (by omega), hRR2]
                    have hS1 : RR2.1 = true := by rw [hRR2]
                    have hb2 : 0 ≤ RR2.2 ∧ RR2.2 ≤ 8192 := by rw [hRR2]; exact hb1
                    rw [show RR1.2 = RR2.2 by rw [hRR2]] at hs
                    refine a_effG hs rfl (e_callX Tryd.func77 rfl rfl hs rfl rfl (walk_exprs g A16 c16 x.f5 RR2.2 _ w0 _ hA16 hsm.2.2.2 hb2 hs.mem) (fun e w1 ⟨he, hm⟩ => ⟨_, he, _, hm, ?_⟩)); clear hs a; intro a hs
                    refine a_val hs rfl rfl rfl (y_pickT hs rfl rfl rfl) ?_; clear hs a; intro a hs
                    refine a_val hs rfl rfl rfl (y_assign hs rfl) ?_; clear hs a; intro a hs
                    refine wpList_nil (then_normal ?_)
                    refine wp_ret ?_
                    have hX : itemF x left = xlist stE x.f5 RR2.2 := by unfold itemF; rw [if_neg (by omega), if_pos hH, hV, if_pos hV1, hS, if_pos hS1]
                    refine fin_ret hs (.tmp (hs.slots _ _ rfl) .nil) ⟨?_, ?_⟩
                    · rw [hX]; first | rfl | simp [tell]
                    · rw [hX]; exact (hs.mem.to 1 rfl).drop
          · replace h60 := bne_eq_false_iff_eq.1 h60
            refine a_skip hs rfl rfl rfl ?_; clear hs a; intro a hs
            refine a_skip hs rfl rfl rfl ?_; clear hs a; intro a hs
            refine a_skip hs rfl rfl rfl ?_; clear hs a; intro a hs
            refine a_valG hs rfl rfl rfl (y_pickF hs rfl rfl rfl) ?_; clear hs a; intro a hs
            refine a_val hs rfl rfl rfl (y_pickF hs rfl rfl rfl) ?_; clear hs a; intro a hs
            refine a_val hs rfl rfl rfl (y_assign hs rfl) ?_; clear hs a; intro a hs
            refine wpList_nil (then_normal ?_)
            refine wp_cond_false (hs.ev rfl) ?_
            refine wp_seq ?_
            refine wp_region_lit ?_
            refine a_val hs rfl rfl rfl (y_move hs rfl) ?_; clear hs a; intro a hs
            refine a_val hs rfl rfl rfl (y_move hs rfl) ?_; clear hs a; intro a hs
            refine a_valG hs rfl rfl rfl (y_faddr (k' := 16) 16 hs (by kernel_rfl) rfl rfl) ?_; clear hs a; intro a hs
            refine a_valG hs rfl rfl rfl (y_load hs Tryd.underlying23 rfl rfl (fun w hw => (hw.to 1 rfl).cellV rfl)) ?_; clear hs a; intro a hs
            refine a_valG hs rfl rfl rfl (y_lenL hs Tryd.underlying23 rfl) ?_; clear hs a; intro a hs
            refine a_effG hs rfl (e_callB Tryd.func81 rfl rfl hs rfl rfl (tree_side x.f5.length _) ?_); clear hs a; intro a w hs
            refine a_valG hs rfl rfl rfl (y_not hs rfl) ?_; clear hs a; intro a hs
            refine a_val hs rfl rfl rfl (y_pickT hs rfl rfl rfl) ?_; clear hs a; intro a hs
            refine a_val hs rfl rfl rfl (y_move hs rfl) ?_; clear hs a; intro a hs
            rcases hs.know (d := 75) rfl with ⟨h75, hs1⟩ | ⟨h75, hs1⟩ <;> replace hs := hs1 <;> clear hs1
            · replace h75 := of_decide_eq_false (not_t h75)
              refine a_skip hs rfl rfl rfl ?_; clear hs a; intro a hs
              refine a_skip hs rfl rfl rfl ?_; clear hs a; intro a hs
              refine a_skip hs rfl rfl rfl ?_; clear hs a; intro a hs
              refine a_skip hs rfl rfl rfl ?_; clear hs a; intro a hs
              refine a_skip hs rfl rfl rfl ?_; clear hs a; intro a hs
              refine a_skip hs rfl rfl rfl ?_; clear hs a; intro a hs
              refine a_skip hs rfl rfl rfl ?_; clear hs a; intro a hs
              refine a_skip hs rfl rfl rfl ?_; clear hs a; intro a hs
              refine a_val hs rfl rfl rfl (y_pickT hs rfl rfl rfl) ?_; clear hs a; intro a hs
              refine a_val hs rfl rfl rfl (y_assign hs rfl) ?_; clear hs a; intro a hs
              refine wpList_nil (then_normal ?_)
              refine wp_cond_true (hs.ev rfl) ?_
              refine wp_seq ?_
              refine wp_region_lit ?_
              refine a_val hs rfl rfl rfl (y_assign hs rfl) ?_; clear hs a; intro a hs
              refine wpList_nil (then_normal ?_)
              refine wp_ret (in_ret (then_ret ?_))
              have hH : ¬ headI x := by
                rintro ⟨nm, v, sh, li, h1, n1, n2, n3, l1, l2, v1, s1⟩
                rw [hsp] at h1
                simp only [Option.some.injEq, Prod.mk.injEq] at h1
                obtain ⟨rfl, rfl, rfl, rfl⟩ := h1
                first | omega | (have := n2 rfl; omega) | (have := n3 (by omega); omega) | (have := l1 rfl; omega) | (have := l2 rfl; omega) | (rw [n1 rfl] at h47; cases h47; done) | (rw [v1 rfl] at h94; cases h94; done) | (rw [s1 rfl] at h85; cases h85; done)
              have hX : itemF x left = (false, left - 1) := by unfold itemF; rw [if_neg (by omega), if_neg hH]
              refine fin_ret hs (.tmp (hs.slots _ _ rfl) .nil) ⟨?_, ?_⟩
              · rw [hX]; first | rfl | simp [tell]
              · rw [hX]; exact (hs.mem.to 1 rfl).drop
            · replace h75 := of_decide_eq_true (not_f h75)
              refine a_valG hs rfl rfl rfl (y_move hs rfl) ?_; clear hs a; intro a hs
              refine a_valG hs rfl rfl rfl (y_not hs rfl) ?_; clear hs a; intro a hs
              refine a_valG hs rfl rfl rfl (y_move hs rfl) ?_; clear hs a; intro a hs
              refine a_skip hs rfl rfl rfl ?_; clear hs a; intro a hs
              refine a_skip hs rfl rfl rfl ?_; clear hs a; intro a hs
              refine a_skip hs rfl rfl rfl ?_; clear hs a; intro a hs
              refine a_skip hs rfl rfl rfl ?_; clear hs a; intro a hs
              refine a_valG hs rfl rfl rfl (y_pickF hs rfl rfl rfl) ?_; clear hs a; intro a hs
              refine a_val hs rfl rfl rfl (y_pickF hs rfl rfl rfl) ?_; clear hs a; intro a hs
              refine a_val hs rfl rfl rfl (y_assign hs rfl) ?_; clear hs a; intro a hs
              refine wpList_nil (then_normal ?_)
              refine wp_cond_false (hs.ev rfl) ?_
              refine wp_seq ?_
              refine wp_region_lit ?_
              refine a_val hs rfl rfl rfl (y_move hs rfl) ?_; clear hs a; intro a hs
              refine a_val hs rfl rfl rfl (y_not hs rfl) ?_; clear hs a; intro a hs
              refine a_val hs rfl rfl rfl (y_move hs rfl) ?_; clear hs a; intro a hs
              refine a_valG hs rfl rfl rfl (y_faddr (k' := 2) 2 hs (by kernel_rfl) rfl rfl) ?_; clear hs a; intro a hs
              refine a_valG hs rfl rfl rfl (y_loadAgg (vs := [.int .u8 x.f2.f0, .int .i64 x.f2.f1, .string x.f2.f2, .slice A5 x.f2.f3.length c5, .int .i64 x.f2.f4, .int .i64 x.f2.f5]) hs Tryd.underlying24 rfl (by kernel_rfl) rfl (fun w hw k v hk => ((hw.to 1 rfl).cell).trans (sub_at 6 rfl hk))) ?_; clear hs a; intro a hs
              refine a_effG hs rfl (e_callB Tryd.func82 rfl rfl hs rfl rfl (tree_noExpr x.f2 A5 c5 _) ?_); clear hs a; intro a w hs
              refine a_valG hs rfl rfl rfl (y_not hs rfl) ?_; clear hs a; intro a hs
              refine a_val hs rfl rfl rfl (y_pickT hs rfl rfl rfl) ?_; clear hs a; intro a hs
              refine a_val hs rfl rfl rfl (y_move hs rfl) ?_; clear hs a; intro a hs
              rcases hs.know (d := 94) rfl with ⟨h94, hs1⟩ | ⟨h94, hs1⟩ <;> replace hs := hs1 <;> clear hs1
              · replace h94 := (not_t h94)
                refine a_skip hs rfl rfl rfl ?_; clear hs a; intro a hs
                refine a_skip hs rfl rfl rfl ?_; clear hs a; intro a hs
                refine a_skip hs rfl rfl rfl ?_; clear hs a; intro a hs
                refine a_skip hs rfl rfl rfl ?_; clear hs a; intro a hs
                refine a_skip hs rfl rfl rfl ?_; clear hs a; intro a hs
                refine a_skip hs rfl rfl rfl ?_; clear hs a; intro a hs
                refine a_skip hs rfl rfl rfl ?_; clear hs a; intro a hs
                refine a_skip hs rfl rfl rfl ?_; clear hs a; intro a hs
                refine a_val hs rfl rfl rfl (y_pickT hs rfl rfl rfl) ?_; clear hs a; intro a hs
                refine a_val hs rfl rfl rfl (y_assign hs rfl) ?_; clear hs a; intro a hs
                refine wpList_nil (then_normal ?_)
                refine wp_cond_true (hs.ev rfl) ?_
                refine wp_seq ?_
                refine wp_region_lit ?_
                refine a_val hs rfl rfl rfl (y_assign hs rfl) ?_; clear hs a; intro a hs
                refine wpList_nil (then_normal ?_)
                refine wp_ret (in_ret (then_ret ?_))
                have hH : ¬ headI x := by
                  rintro ⟨nm, v, sh, li, h1, n1, n2, n3, l1, l2, v1, s1⟩
                  rw [hsp] at h1
                  simp only [Option.some.injEq, Prod.mk.injEq] at h1
                  obtain ⟨rfl, rfl, rfl, rfl⟩ := h1
                  first | omega | (have := n2 rfl; omega) | (have := n3 (by omega); omega) | (have := l1 rfl; omega) | (have := l2 rfl; omega) | (rw [n1 rfl] at h47; cases h47; done) | (rw [v1 rfl] at h94; cases h94; done) | (rw [s1 rfl] at h85; cases h85; done)
                have hX : itemF x left = (false, left - 1) := by unfold itemF; rw [if_neg (by omega), if_neg hH]
                refine fin_ret hs (.tmp (hs.slots _ _ rfl) .nil) ⟨?_, ?_⟩
                · rw [hX]; first | rfl | simp [tell]
                · rw [hX]; exact (hs.mem.to 1 rfl).drop
              · replace h94 := (not_f h94)
                refine a_valG hs rfl rfl rfl (y_move hs rfl) ?_; clear hs a; intro a hs
                refine a_valG hs rfl rfl rfl (y_not hs rfl) ?_; clear hs a; intro a hs
                refine a_valG hs rfl rfl rfl (y_move hs rfl) ?_; clear hs a; intro a hs
                refine a_valG hs rfl rfl rfl (y_faddr (k' := 8) 8 hs (by kernel_rfl) rfl rfl) ?_; clear hs a; intro a hs
                refine a_valG hs rfl rfl rfl (y_loadAgg (vs := [.int .u8 x.f3.f0, .string x.f3.f1, .slice A10 x.f3.f2.length c10, .slice A11 x.f3.f3.length c11, .slice A12 x.f3.f4.length c12, .int .i64 x.f3.f5, .int .i64 x.f3.f6]) hs Tryd.underlying41 rfl (by kernel_rfl) rfl (fun w hw k v hk => ((hw.to 1 rfl).cell).trans (sub_at 7 rfl hk))) ?_; clear hs a; intro a hs
                refine a_effG hs rfl (e_callB Tryd.func83 rfl rfl hs rfl rfl (tree_noShape x.f3 A10 A11 A12 c10 c11 c12 _) ?_); clear hs a; intro a w hs
                refine a_valG hs rfl rfl rfl (y_not hs rfl) ?_; clear hs a; intro a hs
                refine a_valG hs rfl rfl rfl (y_pickT hs rfl rfl rfl) ?_; clear hs a; intro a hs
                refine a_val hs rfl rfl rfl (y_pickF hs rfl rfl rfl) ?_; clear hs a; intro a hs
                refine a_val hs rfl rfl rfl (y_assign hs rfl) ?_; clear hs a; intro a hs
                refine wpList_nil (then_normal ?_)
                refine wp_cond_split (hs.ev rfl) (fun h85 => ?_) (fun h85 => ?_)
                · replace h85 := (not_t h85)
                  refine wp_seq ?_
                  refine wp_region_lit ?_
                  refine a_val hs rfl rfl rfl (y_assign hs rfl) ?_; clear hs a; intro a hs
                  refine wpList_nil (then_normal ?_)
                  refine wp_ret (in_ret (then_ret ?_))
                  have hH : ¬ headI x := by
                    rintro ⟨nm, v, sh, li, h1, n1, n2, n3, l1, l2, v1, s1⟩
                    rw [hsp] at h1
                    simp only [Option.some.injEq, Prod.mk.injEq] at h1
                    obtain ⟨rfl, rfl, rfl, rfl⟩ := h1
                    first | omega | (have := n2 rfl; omega) | (have := n3 (by omega); omega) | (have := l1 rfl; omega) | (have := l2 rfl; omega) | (rw [n1 rfl] at h47; cases h47; done) | (rw [v1 rfl] at h94; cases h94; done) | (rw [s1 rfl] at h85; cases h85; done)
                  have hX : itemF x left = (false, left - 1) := by unfold itemF; rw [if_neg (by omega), if_neg hH]
                  refine fin_ret hs (.tmp (hs.slots _ _ rfl) .nil) ⟨?_, ?_⟩
                  · rw [hX]; first | rfl | simp [tell]
                  · rw [hX]; exact (hs.mem.to 1 rfl).drop
                · replace h85 := (not_f h85)
                  refine wp_skip (in_normal (then_normal ?_))
                  refine wp_seq ?_
                  have hH : headI x := ⟨_, _, _, _, hsp, (fun h => by cases h), (fun _ => by omega), (fun h5 => by omega), (fun _ => by omega), (fun h => by cases h), (fun _ => h94), (fun _ => h85)⟩
                  obtain ⟨RR1, hRR⟩ : ∃ RR1 : Bool × Int, RR1 = (true, left - 1) := ⟨_, rfl⟩
                  have hV : valI x (left - 1) = RR1 := by unfold valI; rw [if_neg (show ¬ hasV x by unfold hasV; omega), hRR]
                  have hV1 : RR1.1 = true := by rw [hRR]
                  have hb1 : 0 ≤ RR1.2 ∧ RR1.2 ≤ 8192 := by rw [hRR]; exact ⟨by show 0 ≤ left - 1; omega, by show left - 1 ≤ 8192; omega⟩
                  rw [show left - 1 = RR1.2 by rw [hRR]] at hs
                  refine wp_region_lit ?_
                  refine a_val hs rfl rfl rfl (y_move hs rfl) ?_; clear hs a; intro a hs
                  refine a_val hs rfl rfl rfl (y_not hs rfl) ?_; clear hs a; intro a hs
                  refine a_val hs rfl rfl rfl (y_move hs rfl) ?_; clear hs a; intro a hs
                  refine a_skip hs rfl rfl rfl ?_; clear hs a; intro a hs
                  refine a_skip hs rfl rfl rfl ?_; clear hs a; intro a hs
                  refine a_skip hs rfl rfl rfl ?_; clear hs a; intro a hs
                  refine a_skip hs rfl rfl rfl ?_; clear hs a; intro a hs
                  refine a_skip hs rfl rfl rfl ?_; clear hs a; intro a hs
                  refine a_val hs rfl rfl rfl (y_pickT hs rfl rfl rfl) ?_; clear hs a; intro a hs
                  refine a_val hs rfl rfl rfl (y_move hs rfl) ?_; clear hs a; intro a hs
                  refine a_valG hs rfl rfl rfl (y_move hs rfl) ?_; clear hs a; intro a hs
                  refine a_valG hs rfl rfl rfl (y_not hs rfl) ?_; clear hs a; intro a hs
                  refine a_valG hs rfl rfl rfl (y_move hs rfl) ?_; clear hs a; intro a hs
                  refine a_skip hs rfl rfl rfl ?_; clear hs a; intro a hs
                  refine a_skip hs rfl rfl rfl ?_; clear hs a; intro a hs
                  refine a_skip hs rfl rfl rfl ?_; clear hs a; intro a hs
                  refine a_skip hs rfl rfl rfl ?_; clear hs a; intro a hs
                  refine a_valG hs rfl rfl rfl (y_pickT hs rfl rfl rfl) ?_; clear hs a; intro a hs
                  refine a_val hs rfl rfl rfl (y_pickT hs rfl rfl rfl) ?_; clear hs a; intro a hs
                  refine a_val hs rfl rfl rfl (y_move hs rfl) ?_; clear hs a; intro a hs
                  refine a_valG hs rfl rfl rfl (y_move hs rfl) ?_; clear hs a; intro a hs
                  refine a_valG hs rfl rfl rfl (y_faddr (k' := 16) 16 hs (by kernel_rfl) rfl rfl) ?_; clear hs a; intro a hs
                  refine a_valG hs rfl rfl rfl (y_load hs Tryd.underlying23 rfl rfl (fun w hw => (hw.to 1 rfl).cellV rfl)) ?_; clear hs a; intro a hs
                  obtain ⟨RR2, hRR2⟩ : ∃ RR2 : Bool × Int, RR2 = (true, RR1.2) := ⟨_, rfl⟩
                  have hS : shI x RR1.2 = RR2 := by unfold shI; rw [if_neg (by omega), hRR2]
                  have hS1 : RR2.1 = true := by rw [hRR2]
                  have hb2 : 0 ≤ RR2.2 ∧ RR2.2 ≤ 8192 := by rw [hRR2]; exact hb1
                  rw [show RR1.2 = RR2.2 by rw [hRR2]] at hs
                  refine a_effG hs rfl (e_callX Tryd.func77 rfl rfl hs rfl rfl (walk_exprs g A16 c16 x.f5 RR2.2 _ w0 _ hA16 hsm.2.2.2 hb2 hs.mem) (fun e w1 ⟨he, hm⟩ => ⟨_, he, _, hm, ?_⟩)); clear hs a; intro a hs
                  refine a_val hs rfl rfl rfl (y_pickT hs rfl rfl rfl) ?_; clear hs a; intro a hs
                  refine a_val hs rfl rfl rfl (y_assign hs rfl) ?_; clear hs a; intro a hs
                  refine wpList_nil (then_normal ?_)
                  refine wp_ret ?_
                  have hX : itemF x left = xlist stE x.f5 RR2.2 := by unfold itemF; rw [if_neg (by omega), if_pos hH, hV, if_pos hV1, hS, if_pos hS1]
                  refine fin_ret hs (.tmp (hs.slots _ _ rfl) .nil) ⟨?_, ?_⟩
                  · rw [hX]; first | rfl | simp [tell]
                  · rw [hX]; exact (hs.mem.to 1 rfl).drop
      · refine wp_region_lit ?_
        refine a_val hs rfl rfl rfl (y_move hs rfl) ?_; clear hs a; intro a hs
        refine a_val hs rfl rfl rfl (y_move hs rfl) ?_; clear hs a; intro a hs
        refine a_skip hs rfl rfl rfl ?_; clear hs a; intro a hs
        refine a_skip hs rfl rfl rfl ?_; clear hs a; intro a hs
        refine a_skip hs rfl rfl rfl ?_; clear hs a; intro a hs
        refine a_skip hs rfl rfl rfl ?_; clear hs a; intro a hs
        refine a_val hs rfl rfl rfl (y_pickF hs rfl rfl rfl) ?_; clear hs a; intro a hs
        refine a_val hs rfl rfl rfl (y_move hs rfl) ?_; clear hs a; intro a hs
        refine a_valG hs rfl rfl rfl (y_move hs rfl) ?_; clear hs a; intro a hs
        refine a_valG hs rfl rfl rfl (y_not hs rfl) ?_; clear hs a; intro a hs
        refine a_valG hs rfl rfl rfl (y_move hs rfl) ?_; clear hs a; intro a hs
        refine a_valG hs rfl rfl rfl (y_faddr (k' := 1) 1 hs (by kernel_rfl) rfl rfl) ?_; clear hs a; intro a hs
        refine a_valG hs rfl rfl rfl (y_load hs Tryd.underlying9 rfl rfl (fun w hw => (hw.to 1 rfl).cellV rfl)) ?_; clear hs a; intro a hs
        refine a_valG hs rfl rfl rfl (y_sneE hs rfl rfl) ?_; clear hs a; intro a hs
        refine a_valG hs rfl rfl rfl (y_pickT hs rfl rfl rfl) ?_; clear hs a; intro a hs
        refine a_val hs rfl rfl rfl (y_pickF hs rfl rfl rfl) ?_; clear hs a; intro a hs
        refine a_val hs rfl rfl rfl (y_move hs rfl) ?_; clear hs a; intro a hs
        rcases hs.know (d := 56) rfl with ⟨h56, hs1⟩ | ⟨h56, hs1⟩ <;> replace hs := hs1 <;> clear hs1
        · replace h56 := of_decide_eq_true h56
          refine a_skip hs rfl rfl rfl ?_; clear hs a; intro a hs
          refine a_skip hs rfl rfl rfl ?_; clear hs a; intro a hs
          refine a_skip hs rfl rfl rfl ?_; clear hs a; intro a hs
          refine a_skip hs rfl rfl rfl ?_; clear hs a; intro a hs
          refine a_skip hs rfl rfl rfl ?_; clear hs a; intro a hs
          refine a_skip hs rfl rfl rfl ?_; clear hs a; intro a hs
          refine a_skip hs rfl rfl rfl ?_; clear hs a; intro a hs
          refine a_skip hs rfl rfl rfl ?_; clear hs a; intro a hs
          refine a_val hs rfl rfl rfl (y_pickT hs rfl rfl rfl) ?_; clear hs a; intro a hs
          refine a_val hs rfl rfl rfl (y_assign hs rfl) ?_; clear hs a; intro a hs
          refine wpList_nil (then_normal ?_)
          refine wp_cond_true (hs.ev rfl) ?_
          refine wp_seq ?_
          refine wp_region_lit ?_
          refine a_val hs rfl rfl rfl (y_assign hs rfl) ?_; clear hs a; intro a hs
          refine wpList_nil (then_normal ?_)
          refine wp_ret (in_ret (then_ret ?_))
          have hH : ¬ headI x := by
            rintro ⟨nm, v, sh, li, h1, n1, n2, n3, l1, l2, v1, s1⟩
            rw [hsp] at h1
            simp only [Option.some.injEq, Prod.mk.injEq] at h1
            obtain ⟨rfl, rfl, rfl, rfl⟩ := h1
            first | omega | (have := n2 rfl; omega) | (have := n3 (by omega); omega) | (have := l1 rfl; omega) | (have := l2 rfl; omega) | (rw [n1 rfl] at h47; cases h47; done) | (rw [v1 rfl] at h94; cases h94; done) | (rw [s1 rfl] at h85; cases h85; done)
          have hX : itemF x left = (false, left - 1) := by unfold itemF; rw [if_neg (by omega), if_neg hH]
          refine fin_ret hs (.tmp (hs.slots _ _ rfl) .nil) ⟨?_, ?_⟩
          · rw [hX]; first | rfl | simp [tell]
          · rw [hX]; exact (hs.mem.to 1 rfl).drop
        · replace h56 := of_decide_eq_false h56
          refine a_valG hs rfl rfl rfl (y_faddr (k' := 0) 0 hs (by kernel_rfl) rfl rfl) ?_; clear hs a; intro a hs
          refine a_valG hs rfl rfl rfl (y_load hs Tryd.underlying37 rfl rfl (fun w hw => (hw.to 1 rfl).cellV rfl)) ?_; clear hs a; intro a hs
          refine a_valG hs rfl rfl rfl (y_cmp hs rfl rfl rfl) ?_; clear hs a; intro a hs
          refine a_valG hs rfl rfl rfl (y_move hs rfl) ?_; clear hs a; intro a hs
          rcases hs.know (d := 60) rfl with ⟨h60, hs1⟩ | ⟨h60, hs1⟩ <;> replace hs := hs1 <;> clear hs1
          · replace h60 := bne_iff_ne.1 h60
            refine a_valG hs rfl rfl rfl (y_faddr (k' := 15) 15 hs (by kernel_rfl) rfl rfl) ?_; clear hs a; intro a hs
            refine a_valG hs rfl rfl rfl (y_load hs Tryd.underlying43 rfl rfl (fun w hw => (hw.to 1 rfl).cellV rfl)) ?_; clear hs a; intro a hs
            refine a_valG hs rfl rfl rfl (y_cmp hs rfl rfl rfl) ?_; clear hs a; intro a hs
            refine a_valG hs rfl rfl rfl (y_pickT hs rfl rfl rfl) ?_; clear hs a; intro a hs
            refine a_val hs rfl rfl rfl (y_pickF hs rfl rfl rfl) ?_; clear hs a; intro a hs
            refine a_val hs rfl rfl rfl (y_assign hs rfl) ?_; clear hs a; intro a hs
            refine wpList_nil (then_normal ?_)
            refine wp_cond_split (hs.ev rfl) (fun h39 => ?_) (fun h39 => ?_)
            · replace h39 := bne_iff_ne.1 h39
              refine wp_seq ?_
              refine wp_region_lit ?_
              refine a_val hs rfl rfl rfl (y_assign hs rfl) ?_; clear hs a; intro a hs
              refine wpList_nil (then_normal ?_)
              refine wp_ret (in_ret (then_ret ?_))
              have hH : ¬ headI x := by
                rintro ⟨nm, v, sh, li, h1, n1, n2, n3, l1, l2, v1, s1⟩
                rw [hsp] at h1
                simp only [Option.some.injEq, Prod.mk.injEq] at h1
                obtain ⟨rfl, rfl, rfl, rfl⟩ := h1
                first | omega | (have := n2 rfl; omega) | (have := n3 (by omega); omega) | (have := l1 rfl; omega) | (have := l2 rfl; omega) | (rw [n1 rfl] at h47; cases h47; done) | (rw [v1 rfl] at h94; cases h94; done) | (rw [s1 rfl] at h85; cases h85; done)
              have hX : itemF x left = (false, left - 1) := by unfold itemF; rw [if_neg (by omega), if_neg hH]
              refine fin_ret hs (.tmp (hs.slots _ _ rfl) .nil) ⟨?_, ?_⟩
              · rw [hX]; first | rfl | simp [tell]
              · rw [hX]; exact (hs.mem.to 1 rfl).drop
            · replace h39 := bne_eq_false_iff_eq.1 h39
              refine wp_seq ?_
              refine wp_region_lit ?_
              refine a_val hs rfl rfl rfl (y_move hs rfl) ?_; clear hs a; intro a hs
              refine a_val hs rfl rfl rfl (y_move hs rfl) ?_; clear hs a; intro a hs
              refine a_skip hs rfl rfl rfl ?_; clear hs a; intro a hs
              refine a_skip hs rfl rfl rfl ?_; clear hs a; intro a hs
              refine a_skip hs rfl rfl rfl ?_; clear hs a; intro a hs
              refine a_skip hs rfl rfl rfl ?_; clear hs a; intro a hs
              refine a_skip hs rfl rfl rfl ?_; clear hs a; intro a hs
              refine a_val hs rfl rfl rfl (y_pickF hs rfl rfl rfl) ?_; clear hs a; intro a hs
              refine a_val hs rfl rfl rfl (y_move hs rfl) ?_; clear hs a; intro a hs
              refine a_valG hs rfl rfl rfl (y_move hs rfl) ?_; clear hs a; intro a hs
              refine a_valG hs rfl rfl rfl (y_not hs rfl) ?_; clear hs a; intro a hs
              refine a_valG hs rfl rfl rfl (y_move hs rfl) ?_; clear hs a; intro a hs
              refine a_valG hs rfl rfl rfl (y_faddr (k' := 16) 16 hs (by kernel_rfl) rfl rfl) ?_; clear hs a; intro a hs
              refine a_valG hs rfl rfl rfl (y_load hs Tryd.underlying23 rfl rfl (fun w hw => (hw.to 1 rfl).cellV rfl)) ?_; clear hs a; intro a hs
              refine a_valG hs rfl rfl rfl (y_lenL hs Tryd.underlying23 rfl) ?_; clear hs a; intro a hs
              refine a_valG hs rfl rfl rfl (y_cmp hs rfl rfl rfl) ?_; clear hs a; intro a hs
              refine a_valG hs rfl rfl rfl (y_pickT hs rfl rfl rfl) ?_; clear hs a; intro a hs
              refine a_val hs rfl rfl rfl (y_pickF hs rfl rfl rfl) ?_; clear hs a; intro a hs
              refine a_val hs rfl rfl rfl (y_assign hs rfl) ?_; clear hs a; intro a hs
              refine wpList_nil (then_normal ?_)
              refine wp_cond_split (hs.ev rfl) (fun h66 => ?_) (fun h66 => ?_)
              · replace h66 := of_decide_eq_true h66
                refine wp_seq ?_
                refine wp_region_lit ?_
                refine a_val hs rfl rfl rfl (y_assign hs rfl) ?_; clear hs a; intro a hs
                refine wpList_nil (then_normal ?_)
                refine wp_ret (in_ret (then_ret ?_))
                have hH : ¬ headI x := by
                  rintro ⟨nm, v, sh, li, h1, n1, n2, n3, l1, l2, v1, s1⟩
                  rw [hsp] at h1
                  simp only [Option.some.injEq, Prod.mk.injEq] at h1
                  obtain ⟨rfl, rfl, rfl, rfl⟩ := h1
                  first | omega | (have := n2 rfl; omega) | (have := n3 (by omega); omega) | (have := l1 rfl; omega) | (have := l2 rfl; omega) | (rw [n1 rfl] at h47; cases h47; done) | (rw [v1 rfl] at h94; cases h94; done) | (rw [s1 rfl] at h85; cases h85; done)
                have hX : itemF x left = (false, left - 1) := by unfold itemF; rw [if_neg (by omega), if_neg hH]
                refine fin_ret hs (.tmp (hs.slots _ _ rfl) .nil) ⟨?_, ?_⟩
                · rw [hX]; first | rfl | simp [tell]
                · rw [hX]; exact (hs.mem.to 1 rfl).drop
              · replace h66 := of_decide_eq_false h66
                refine wp_seq ?_
                refine wp_region_lit ?_
                refine a_val hs rfl rfl rfl (y_move hs rfl) ?_; clear hs a; intro a hs
                refine a_val hs rfl rfl rfl (y_not hs rfl) ?_; clear hs a; intro a hs
                refine a_val hs rfl rfl rfl (y_move hs rfl) ?_; clear hs a; intro a hs
                refine a_valG hs rfl rfl rfl (y_faddr (k' := 2) 2 hs (by kernel_rfl) rfl rfl) ?_; clear hs a; intro a hs
                refine a_valG hs rfl rfl rfl (y_loadAgg (vs := [.int .u8 x.f2.f0, .int .i64 x.f2.f1, .string x.f2.f2, .slice A5 x.f2.f3.length c5, .int .i64 x.f2.f4, .int .i64 x.f2.f5]) hs Tryd.underlying24 rfl (by kernel_rfl) rfl (fun w hw k v hk => ((hw.to 1 rfl).cell).trans (sub_at 6 rfl hk))) ?_; clear hs a; intro a hs
                refine a_effG hs rfl (e_callB Tryd.func82 rfl rfl hs rfl rfl (tree_noExpr x.f2 A5 c5 _) ?_); clear hs a; intro a w hs
                refine a_valG hs rfl rfl rfl (y_not hs rfl) ?_; clear hs a; intro a hs
                refine a_val hs rfl rfl rfl (y_pickT hs rfl rfl rfl) ?_; clear hs a; intro a hs
                refine a_val hs rfl rfl rfl (y_move hs rfl) ?_; clear hs a; intro a hs
                rcases hs.know (d := 94) rfl with ⟨h94, hs1⟩ | ⟨h94, hs1⟩ <;> replace hs := hs1 <;> clear hs1
                · replace h94 := (not_t h94)
                  refine a_skip hs rfl rfl rfl ?_; clear hs a; intro a hs
                  refine a_skip hs rfl rfl rfl ?_; clear hs a; intro a hs
                  refine a_skip hs rfl rfl rfl ?_; clear hs a; intro a hs
                  refine a_skip hs rfl rfl rfl ?_; clear hs a; intro a hs
                  refine a_skip hs rfl rfl rfl ?_; clear hs a; intro a hs
                  refine a_skip hs rfl rfl rfl ?_; clear hs a; intro a hs
                  refine a_skip hs rfl rfl rfl ?_; clear hs a; intro a hs
                  refine a_skip hs rfl rfl rfl ?_; clear hs a; intro a hs
                  refine a_val hs rfl rfl rfl (y_pickT hs rfl rfl rfl) ?_; clear hs a; intro a hs
                  refine a_val hs rfl rfl rfl (y_assign hs rfl) ?_; clear hs a; intro a hs
                  refine wpList_nil (then_normal ?_)
                  refine wp_cond_true (hs.ev rfl) ?_
                  refine wp_seq ?_
                  refine wp_region_lit ?_
                  refine a_val hs rfl rfl rfl (y_assign hs rfl) ?_; clear hs a; intro a hs
                  refine wpList_nil (then_normal ?_)
                  refine wp_ret (in_ret (then_ret ?_))
                  have hH : ¬ headI x := by
                    rintro ⟨nm, v, sh, li, h1, n1, n2, n3, l1, l2, v1, s1⟩
                    rw [hsp] at h1
                    simp only [Option.some.injEq, Prod.mk.injEq] at h1
                    obtain ⟨rfl, rfl, rfl, rfl⟩ := h1
                    first | omega | (have := n2 rfl; omega) | (have := n3 (by omega); omega) | (have := l1 rfl; omega) | (have := l2 rfl; omega) | (rw [n1 rfl] at h47; cases h47; done) | (rw [v1 rfl] at h94; cases h94; done) | (rw [s1 rfl] at h85; cases h85; done)
                  have hX : itemF x left = (false, left - 1) := by unfold itemF; rw [if_neg (by omega), if_neg hH]
                  refine fin_ret hs (.tmp (hs.slots _ _ rfl) .nil) ⟨?_, ?_⟩
                  · rw [hX]; first | rfl | simp [tell]
                  · rw [hX]; exact (hs.mem.to 1 rfl).drop
                · replace h94 := (not_f h94)
                  refine a_valG hs rfl rfl rfl (y_move hs rfl) ?_; clear hs a; intro a hs
                  refine a_valG hs rfl rfl rfl (y_not hs rfl) ?_; clear hs a; intro a hs
                  refine a_valG hs rfl rfl rfl (y_move hs rfl) ?_; clear hs a; intro a hs
                  refine a_valG hs rfl rfl rfl (y_faddr (k' := 8) 8 hs (by kernel_rfl) rfl rfl) ?_; clear hs a; intro a hs
                  refine a_valG hs rfl rfl rfl (y_loadAgg (vs := [.int .u8 x.f3.f0, .string x.f3.f1, .slice A10 x.f3.f2.length c10, .slice A11 x.f3.f3.length c11, .slice A12 x.f3.f4.length c12, .int .i64 x.f3.f5, .int .i64 x.f3.f6]) hs Tryd.underlying41 rfl (by kernel_rfl) rfl (fun w hw k v hk => ((hw.to 1 rfl).cell).trans (sub_at 7 rfl hk))) ?_; clear hs a; intro a hs
                  refine a_effG hs rfl (e_callB Tryd.func83 rfl rfl hs rfl rfl (tree_noShape x.f3 A10 A11 A12 c10 c11 c12 _) ?_); clear hs a; intro a w hs
                  refine a_valG hs rfl rfl rfl (y_not hs rfl) ?_; clear hs a; intro a hs
                  refine a_valG hs rfl rfl rfl (y_pickT hs rfl rfl rfl) ?_; clear hs a; intro a hs
                  refine a_val hs rfl rfl rfl (y_pickF hs rfl rfl rfl) ?_; clear hs a; intro a hs
                  refine a_val hs rfl rfl rfl (y_assign hs rfl) ?_; clear hs a; intro a hs
                  refine wpList_nil (then_normal ?_)
                  refine wp_cond_split (hs.ev rfl) (fun h85 => ?_) (fun h85 => ?_)
                  · replace h85 := (not_t h85)
                    refine wp_seq ?_
                    refine wp_region_lit ?_
                    refine a_val hs rfl rfl rfl (y_assign hs rfl) ?_; clear hs a; intro a hs
                    refine wpList_nil (then_normal ?_)
                    refine wp_ret (in_ret (then_ret ?_))
                    have hH : ¬ headI x := by
                      rintro ⟨nm, v, sh, li, h1, n1, n2, n3, l1, l2, v1, s1⟩
                      rw [hsp] at h1
                      simp only [Option.some.injEq, Prod.mk.injEq] at h1
                      obtain ⟨rfl, rfl, rfl, rfl⟩ := h1
                      first | omega | (have := n2 rfl; omega) | (have := n3 (by omega); omega) | (have := l1 rfl; omega) | (have := l2 rfl; omega) | (rw [n1 rfl] at h47; cases h47; done) | (rw [v1 rfl] at h94; cases h94; done) | (rw [s1 rfl] at h85; cases h85; done)
                    have hX : itemF x left = (false, left - 1) := by unfold itemF; rw [if_neg (by omega), if_neg hH]
                    refine fin_ret hs (.tmp (hs.slots _ _ rfl) .nil) ⟨?_, ?_⟩
                    · rw [hX]; first | rfl | simp [tell]
                    · rw [hX]; exact (hs.mem.to 1 rfl).drop
                  · replace h85 := (not_f h85)
                    refine wp_skip (in_normal (then_normal ?_))
                    refine wp_seq ?_
                    have hH : headI x := ⟨_, _, _, _, hsp, (fun h => by cases h), (fun _ => by omega), (fun h5 => by omega), (fun h => by cases h), (fun _ => by omega), (fun _ => h94), (fun _ => h85)⟩
                    obtain ⟨RR1, hRR⟩ : ∃ RR1 : Bool × Int, RR1 = (true, left - 1) := ⟨_, rfl⟩
                    have hV : valI x (left - 1) = RR1 := by unfold valI; rw [if_neg (show ¬ hasV x by unfold hasV; omega), hRR]
                    have hV1 : RR1.1 = true := by rw [hRR]
                    have hb1 : 0 ≤ RR1.2 ∧ RR1.2 ≤ 8192 := by rw [hRR]; exact ⟨by show 0 ≤ left - 1; omega, by show left - 1 ≤ 8192; omega⟩
                    rw [show left - 1 = RR1.2 by rw [hRR]] at hs
                    refine wp_region_lit ?_
                    refine a_val hs rfl rfl rfl (y_move hs rfl) ?_; clear hs a; intro a hs
                    refine a_val hs rfl rfl rfl (y_not hs rfl) ?_; clear hs a; intro a hs
                    refine a_val hs rfl rfl rfl (y_move hs rfl) ?_; clear hs a; intro a hs
                    refine a_skip hs rfl rfl rfl ?_; clear hs a; intro a hs
                    refine a_skip hs rfl rfl rfl ?_; clear hs a; intro a hs
                    refine a_skip hs rfl rfl rfl ?_; clear hs a; intro a hs
                    refine a_skip hs rfl rfl rfl ?_; clear hs a; intro a hs
                    refine a_skip hs rfl rfl rfl ?_; clear hs a; intro a hs
                    refine a_val hs rfl rfl rfl (y_pickT hs rfl rfl rfl) ?_; clear hs a; intro a hs
                    refine a_val hs rfl rfl rfl (y_move hs rfl) ?_; clear hs a; intro a hs
                    refine a_valG hs rfl rfl rfl (y_move hs rfl) ?_; clear hs a; intro a hs
                    refine a_valG hs rfl rfl rfl (y_not hs rfl) ?_; clear hs a; intro a hs
                    refine a_valG hs rfl rfl rfl (y_move hs rfl) ?_; clear hs a; intro a hs
                    refine a_skip hs rfl rfl rfl ?_; clear hs a; intro a hs
                    refine a_skip hs rfl rfl rfl ?_; clear hs a; intro a hs
                    refine a_skip hs rfl rfl rfl ?_; clear hs a; intro a hs
                    refine a_skip hs rfl rfl rfl ?_; clear hs a; intro a hs
                    refine a_valG hs rfl rfl rfl (y_pickT hs rfl rfl rfl) ?_; clear hs a; intro a hs
                    refine a_val hs rfl rfl rfl (y_pickT hs rfl rfl rfl) ?_; clear hs a; intro a hs
                    refine a_val hs rfl rfl rfl (y_move hs rfl) ?_; clear hs a; intro a hs
                    refine a_valG hs rfl rfl rfl (y_move hs rfl) ?_; clear hs a; intro a hs
                    refine a_valG hs rfl rfl rfl (y_faddr (k' := 16) 16 hs (by kernel_rfl) rfl rfl) ?_; clear hs a; intro a hs
                    refine a_valG hs rfl rfl rfl (y_load hs Tryd.underlying23 rfl rfl (fun w hw => (hw.to 1 rfl).cellV rfl)) ?_; clear hs a; intro a hs
                    obtain ⟨RR2, hRR2⟩ : ∃ RR2 : Bool × Int, RR2 = (true, RR1.2) := ⟨_, rfl⟩
                    have hS : shI x RR1.2 = RR2 := by unfold shI; rw [if_neg (by omega), hRR2]
                    have hS1 : RR2.1 = true := by rw [hRR2]
                    have hb2 : 0 ≤ RR2.2 ∧ RR2.2 ≤ 8192 := by rw [hRR2]; exact hb1
                    rw [show RR1.2 = RR2.2 by rw [hRR2]] at hs
                    refine a_effG hs rfl (e_callX Tryd.func77 rfl rfl hs rfl rfl (walk_exprs g A16 c16 x.f5 RR2.2 _ w0 _ hA16 hsm.2.2.2 hb2 hs.mem) (fun e w1 ⟨he, hm⟩ => ⟨_, he, _, hm, ?_⟩)); clear hs a; intro a hs
                    refine a_val hs rfl rfl rfl (y_pickT hs rfl rfl rfl) ?_; clear hs a; intro a hs
                    refine a_val hs rfl rfl rfl (y_assign hs rfl) ?_; clear hs a; intro a hs
                    refine wpList_nil (then_normal ?_)
                    refine wp_ret ?_
                    have hX : itemF x left = xlist stE x.f5 RR2.2 := by unfold itemF; rw [if_neg (by omega), if_pos hH, hV, if_pos hV1, hS, if_pos hS1]
                    refine fin_ret hs (.tmp (hs.slots _ _ rfl) .nil) ⟨?_, ?_⟩
                    · rw [hX]; first | rfl | simp [tell]
                    · rw [hX]; exact (hs.mem.to 1 rfl).drop
          · replace h60 := bne_eq_false_iff_eq.1 h60
            refine a_skip hs rfl rfl rfl ?_; clear hs a; intro a hs
            refine a_skip hs rfl rfl rfl ?_; clear hs a; intro a hs
            refine a_skip hs rfl rfl rfl ?_; clear hs a; intro a hs
            refine a_valG hs rfl rfl rfl (y_pickF hs rfl rfl rfl) ?_; clear hs a; intro a hs
            refine a_val hs rfl rfl rfl (y_pickF hs rfl rfl rfl) ?_; clear hs a; intro a hs
            refine a_val hs rfl rfl rfl (y_assign hs rfl) ?_; clear hs a; intro a hs
            refine wpList_nil (then_normal ?_)
            refine wp_cond_false (hs.ev rfl) ?_
            refine wp_seq ?_
            refine wp_region_lit ?_
            refine a_val hs rfl rfl rfl (y_move hs rfl) ?_; clear hs a; intro a hs
            refine a_val hs rfl rfl rfl (y_move hs rfl) ?_; clear hs a; intro a hs
            refine a_skip hs rfl rfl rfl ?_; clear hs a; intro a hs
            refine a_skip hs rfl rfl rfl ?_; clear hs a; intro a hs
            refine a_skip hs rfl rfl rfl ?_; clear hs a; intro a hs
            refine a_skip hs rfl rfl rfl ?_; clear hs a; intro a hs
            refine a_skip hs rfl rfl rfl ?_; clear hs a; intro a hs
            refine a_val hs rfl rfl rfl (y_pickF hs rfl rfl rfl) ?_; clear hs a; intro a hs
            refine a_val hs rfl rfl rfl (y_move hs rfl) ?_; clear hs a; intro a hs
            refine a_valG hs rfl rfl rfl (y_move hs rfl) ?_; clear hs a; intro a hs
            refine a_valG hs rfl rfl rfl (y_not hs rfl) ?_; clear hs a; intro a hs
            refine a_valG hs rfl rfl rfl (y_move hs rfl) ?_; clear hs a; intro a hs
            refine a_valG hs rfl rfl rfl (y_faddr (k' := 16) 16 hs (by kernel_rfl) rfl rfl) ?_; clear hs a; intro a hs
            refine a_valG hs rfl rfl rfl (y_load hs Tryd.underlying23 rfl rfl (fun w hw => (hw.to 1 rfl).cellV rfl)) ?_; clear hs a; intro a hs
            refine a_valG hs rfl rfl rfl (y_lenL hs Tryd.underlying23 rfl) ?_; clear hs a; intro a hs
            refine a_valG hs rfl rfl rfl (y_cmp hs rfl rfl rfl) ?_; clear hs a; intro a hs
            refine a_valG hs rfl rfl rfl (y_pickT hs rfl rfl rfl) ?_; clear hs a; intro a hs
            refine a_val hs rfl rfl rfl (y_pickF hs rfl rfl rfl) ?_; clear hs a; intro a hs
            refine a_val hs rfl rfl rfl (y_assign hs rfl) ?_; clear hs a; intro a hs
            refine wpList_nil (then_normal ?_)
            refine wp_cond_split (hs.ev rfl) (fun h66 => ?_) (fun h66 => ?_)
            · replace h66 := of_decide_eq_true h66
              refine wp_seq ?_
              refine wp_region_lit ?_
              refine a_val hs rfl rfl rfl (y_assign hs rfl) ?_; clear hs a; intro a hs
              refine wpList_nil (then_normal ?_)
              refine wp_ret (in_ret (then_ret ?_))
              have hH : ¬ headI x := by
                rintro ⟨nm, v, sh, li, h1, n1, n2, n3, l1, l2, v1, s1⟩
                rw [hsp] at h1
                simp only [Option.some.injEq, Prod.mk.injEq] at h1
                obtain ⟨rfl, rfl, rfl, rfl⟩ := h1
                first | omega | (have := n2 rfl; omega) | (have := n3 (by omega); omega) | (have := l1 rfl; omega) | (have := l2 rfl; omega) | (rw [n1 rfl] at h47; cases h47; done) | (rw [v1 rfl] at h94; cases h94; done) | (rw [s1 rfl] at h85; cases h85; done)
              have hX : itemF x left = (false, left - 1) := by unfold itemF; rw [if_neg (by omega), if_neg hH]
              refine fin_ret hs (.tmp (hs.slots _ _ rfl) .nil) ⟨?_, ?_⟩
              · rw [hX]; first | rfl | simp [tell]
              · rw [hX]; exact (hs.mem.to 1 rfl).drop
            · replace h66 := of_decide_eq_false h66
              refine wp_seq ?_
              refine wp_region_lit ?_
              refine a_val hs rfl rfl rfl (y_move hs rfl) ?_; clear hs a; intro a hs
              refine a_val hs rfl rfl rfl (y_not hs rfl) ?_; clear hs a; intro a hs
              refine a_val hs rfl rfl rfl (y_move hs rfl) ?_; clear hs a; intro a hs
              refine a_valG hs rfl rfl rfl (y_faddr (k' := 2) 2 hs (by kernel_rfl) rfl rfl) ?_; clear hs a; intro a hs
              refine a_valG hs rfl rfl rfl (y_loadAgg (vs := [.int .u8 x.f2.f0, .int .i64 x.f2.f1, .string x.f2.f2, .slice A5 x.f2.f3.length c5, .int .i64 x.f2.f4, .int .i64 x.f2.f5]) hs Tryd.underlying24 rfl (by kernel_rfl) rfl (fun w hw k v hk => ((hw.to 1 rfl).cell).trans (sub_at 6 rfl hk))) ?_; clear hs a; intro a hs
              refine a_effG hs rfl (e_callB Tryd.func82 rfl rfl hs rfl rfl (tree_noExpr x.f2 A5 c5 _) ?_); clear hs a; intro a w hs
              refine a_valG hs rfl rfl rfl (y_not hs rfl) ?_; clear hs a; intro a hs
              refine a_val hs rfl rfl rfl (y_pickT hs rfl rfl rfl) ?_; clear hs a; intro a hs
              refine a_val hs rfl rfl rfl (y_move hs rfl) ?_; clear hs a; intro a hs
              rcases hs.know (d := 94) rfl with ⟨h94, hs1⟩ | ⟨h94, hs1⟩ <;> replace hs := hs1 <;> clear hs1
              · replace h94 := (not_t h94)
                refine a_skip hs rfl rfl rfl ?_; clear hs a; intro a hs
                refine a_skip hs rfl rfl rfl ?_; clear hs a; intro a hs
                refine a_skip hs rfl rfl rfl ?_; clear hs a; intro a hs
                refine a_skip hs rfl rfl rfl ?_; clear hs a; intro a hs
                refine a_skip hs rfl rfl rfl ?_; clear hs a; intro a hs
                refine a_skip hs rfl rfl rfl ?_; clear hs a; intro a hs
                refine a_skip hs rfl rfl rfl ?_; clear hs a; intro a hs
                refine a_skip hs rfl rfl rfl ?_; clear hs a; intro a hs
                refine a_val hs rfl rfl rfl (y_pickT hs rfl rfl rfl) ?_; clear hs a; intro a hs
                refine a_val hs rfl rfl rfl (y_assign hs rfl) ?_; clear hs a; intro a hs
                refine wpList_nil (then_normal ?_)
                refine wp_cond_true (hs.ev rfl) ?_
                refine wp_seq ?_
                refine wp_region_lit ?_
                refine a_val hs rfl rfl rfl (y_assign hs rfl) ?_; clear hs a; intro a hs
                refine wpList_nil (then_normal ?_)
                refine wp_ret (in_ret (then_ret ?_))
                have hH : ¬ headI x := by
                  rintro ⟨nm, v, sh, li, h1, n1, n2, n3, l1, l2, v1, s1⟩
                  rw [hsp] at h1
                  simp only [Option.some.injEq, Prod.mk.injEq] at h1
                  obtain ⟨rfl, rfl, rfl, rfl⟩ := h1
                  first | omega | (have := n2 rfl; omega) | (have := n3 (by omega); omega) | (have := l1 rfl; omega) | (have := l2 rfl; omega) | (rw [n1 rfl] at h47; cases h47; done) | (rw [v1 rfl] at h94; cases h94; done) | (rw [s1 rfl] at h85; cases h85; done)
                have hX : itemF x left = (false, left - 1) := by unfold itemF; rw [if_neg (by omega), if_neg hH]
                refine fin_ret hs (.tmp (hs.slots _ _ rfl) .nil) ⟨?_, ?_⟩
                · rw [hX]; first | rfl | simp [tell]
                · rw [hX]; exact (hs.mem.to 1 rfl).drop
              · replace h94 := (not_f h94)
                refine a_valG hs rfl rfl rfl (y_move hs rfl) ?_; clear hs a; intro a hs
                refine a_valG hs rfl rfl rfl (y_not hs rfl) ?_; clear hs a; intro a hs
                refine a_valG hs rfl rfl rfl (y_move hs rfl) ?_; clear hs a; intro a hs
                refine a_valG hs rfl rfl rfl (y_faddr (k' := 8) 8 hs (by kernel_rfl) rfl rfl) ?_; clear hs a; intro a hs
                refine a_valG hs rfl rfl rfl (y_loadAgg (vs := [.int .u8 x.f3.f0, .string x.f3.f1, .slice A10 x.f3.f2.length c10, .slice A11 x.f3.f3.length c11, .slice A12 x.f3.f4.length c12, .int .i64 x.f3.f5, .int .i64 x.f3.f6]) hs Tryd.underlying41 rfl (by kernel_rfl) rfl (fun w hw k v hk => ((hw.to 1 rfl).cell).trans (sub_at 7 rfl hk))) ?_; clear hs a; intro a hs
                refine a_effG hs rfl (e_callB Tryd.func83 rfl rfl hs rfl rfl (tree_noShape x.f3 A10 A11 A12 c10 c11 c12 _) ?_); clear hs a; intro a w hs
                refine a_valG hs rfl rfl rfl (y_not hs rfl) ?_; clear hs a; intro a hs
                refine a_valG hs rfl rfl rfl (y_pickT hs rfl rfl rfl) ?_; clear hs a; intro a hs
                refine a_val hs rfl rfl rfl (y_pickF hs rfl rfl rfl) ?_; clear hs a; intro a hs
                refine a_val hs rfl rfl rfl (y_assign hs rfl) ?_; clear hs a; intro a hs
                refine wpList_nil (then_normal ?_)
                refine wp_cond_split (hs.ev rfl) (fun h85 => ?_) (fun h85 => ?_)
                · replace h85 := (not_t h85)
                  refine wp_seq ?_
                  refine wp_region_lit ?_
                  refine a_val hs rfl rfl rfl (y_assign hs rfl) ?_; clear hs a; intro a hs
                  refine wpList_nil (then_normal ?_)
                  refine wp_ret (in_ret (then_ret ?_))
                  have hH : ¬ headI x := by
                    rintro ⟨nm, v, sh, li, h1, n1, n2, n3, l1, l2, v1, s1⟩
                    rw [hsp] at h1
                    simp only [Option.some.injEq, Prod.mk.injEq] at h1
                    obtain ⟨rfl, rfl, rfl, rfl⟩ := h1
                    first | omega | (have := n2 rfl; omega) | (have := n3 (by omega); omega) | (have := l1 rfl; omega) | (have := l2 rfl; omega) | (rw [n1 rfl] at h47; cases h47; done) | (rw [v1 rfl] at h94; cases h94; done) | (rw [s1 rfl] at h85; cases h85; done)
                  have hX : itemF x left = (false, left - 1) := by unfold itemF; rw [if_neg (by omega), if_neg hH]
                  refine fin_ret hs (.tmp (hs.slots _ _ rfl) .nil) ⟨?_, ?_⟩
                  · rw [hX]; first | rfl | simp [tell]
                  · rw [hX]; exact (hs.mem.to 1 rfl).drop
                · replace h85 := (not_f h85)
                  refine wp_skip (in_normal (then_normal ?_))
                  refine wp_seq ?_
                  have hH : headI x := ⟨_, _, _, _, hsp, (fun h => by cases h), (fun _ => by omega), (fun h5 => by omega), (fun h => by cases h), (fun _ => by omega), (fun _ => h94), (fun _ => h85)⟩
                  obtain ⟨RR1, hRR⟩ : ∃ RR1 : Bool × Int, RR1 = (true, left - 1) := ⟨_, rfl⟩
                  have hV : valI x (left - 1) = RR1 := by unfold valI; rw [if_neg (show ¬ hasV x by unfold hasV; omega), hRR]
                  have hV1 : RR1.1 = true := by rw [hRR]
                  have hb1 : 0 ≤ RR1.2 ∧ RR1.2 ≤ 8192 := by rw [hRR]; exact ⟨by show 0 ≤ left - 1; omega, by show left - 1 ≤ 8192; omega⟩
                  rw [show left - 1 = RR1.2 by rw [hRR]] at hs
                  refine wp_region_lit ?_
                  refine a_val hs rfl rfl rfl (y_move hs rfl) ?_; clear hs a; intro a hs
                  refine a_val hs rfl rfl rfl (y_not hs rfl) ?_; clear hs a; intro a hs
                  refine a_val hs rfl rfl rfl (y_move hs rfl) ?_; clear hs a; intro a hs
                  refine a_skip hs rfl rfl rfl ?_; clear hs a; intro a hs
                  refine a_skip hs rfl rfl rfl ?_; clear hs a; intro a hs
                  refine a_skip hs rfl rfl rfl ?_; clear hs a; intro a hs
                  refine a_skip hs rfl rfl rfl ?_; clear hs a; intro a hs
                  refine a_skip hs rfl rfl rfl ?_; clear hs a; intro a hs
                  refine a_val hs rfl rfl rfl (y_pickT hs rfl rfl rfl) ?_; clear hs a; intro a hs
                  refine a_val hs rfl rfl rfl (y_move hs rfl) ?_; clear hs a; intro a hs
                  refine a_valG hs rfl rfl rfl (y_move hs rfl) ?_; clear hs a; intro a hs
                  refine a_valG hs rfl rfl rfl (y_not hs rfl) ?_; clear hs a; intro a hs
                  refine a_valG hs rfl rfl rfl (y_move hs rfl) ?_; clear hs a; intro a hs
                  refine a_skip hs rfl rfl rfl ?_; clear hs a; intro a hs
                  refine a_skip hs rfl rfl rfl ?_; clear hs a; intro a hs
                  refine a_skip hs rfl rfl rfl ?_; clear hs a; intro a hs
                  refine a_skip hs rfl rfl rfl ?_; clear hs a; intro a hs
                  refine a_valG hs rfl rfl rfl (y_pickT hs rfl rfl rfl) ?_; clear hs a; intro a hs
                  refine a_val hs rfl rfl rfl (y_pickT hs rfl rfl rfl) ?_; clear hs a; intro a hs
                  refine a_val hs rfl rfl rfl (y_move hs rfl) ?_; clear hs a; intro a hs
                  refine a_valG hs rfl rfl rfl (y_move hs rfl) ?_; clear hs a; intro a hs
                  refine a_valG hs rfl rfl rfl (y_faddr (k' := 16) 16 hs (by kernel_rfl) rfl rfl) ?_; clear hs a; intro a hs
                  refine a_valG hs rfl rfl rfl (y_load hs Tryd.underlying23 rfl rfl (fun w hw => (hw.to 1 rfl).cellV rfl)) ?_; clear hs a; intro a hs
                  obtain ⟨RR2, hRR2⟩ : ∃ RR2 : Bool × Int, RR2 = (true, RR1.2) := ⟨_, rfl⟩
                  have hS : shI x RR1.2 = RR2 := by unfold shI; rw [if_neg (by omega), hRR2]
                  have hS1 : RR2.1 = true := by rw [hRR2]
                  have hb2 : 0 ≤ RR2.2 ∧ RR2.2 ≤ 8192 := by rw [hRR2]; exact hb1
                  rw [show RR1.2 = RR2.2 by rw [hRR2]] at hs
                  refine a_effG hs rfl (e_callX Tryd.func77 rfl rfl hs rfl rfl (walk_exprs g A16 c16 x.f5 RR2.2 _ w0 _ hA16 hsm.2.2.2 hb2 hs.mem) (fun e w1 ⟨he, hm⟩ => ⟨_, he, _, hm, ?_⟩)); clear hs a; intro a hs
                  refine a_val hs rfl rfl rfl (y_pickT hs rfl rfl rfl) ?_; clear hs a; intro a hs
                  refine a_val hs rfl rfl rfl (y_assign hs rfl) ?_; clear hs a; intro a hs
                  refine wpList_nil (then_normal ?_)
                  refine wp_ret ?_
                  have hX : itemF x left = xlist stE x.f5 RR2.2 := by unfold itemF; rw [if_neg (by omega), if_pos hH, hV, if_pos hV1, hS, if_pos hS1]
                  refine fin_ret hs (.tmp (hs.slots _ _ rfl) .nil) ⟨?_, ?_⟩
                  · rw [hX]; first | rfl | simp [tell]
                  · rw [hX]; exact (hs.mem.to 1 rfl).drop
set_option maxRecDepth 100000 in
theorem item_one (g gc : Nat) (x : XI) (A5 A10 A11 A12 A16 : Option Addr) (c5 c10 c11 c12 c16 : Nat) (lf : Int) (bs : List Res) (w0 w : World) (hA5 : Kd.C k25 w0 A5 x.f2.f3.length x.f2.f3) (hA10 : Kd.C k25 w0 A10 x.f3.f2.length x.f3.f2) (hA11 : Kd.C k42 w0 A11 x.f3.f3.length x.f3.f3) (hA12 : Kd.C (Kd.slice 25 k25) w0 A12 x.f3.f4.length x.f3.f4) (hA16 : Kd.C k25 w0 A16 x.f5.length x.f5) (hsm : smallI x) (hlf : 0 ≤ lf ∧ lf ≤ 8192) (h : H w0 (pt g #[.int .i64 (lf)] 102 :: pt gc #[.pointer (some ⟨g, 0, none⟩)] 72 :: bs) w) :
    Calls Tryd.prog 48 #[.agg #[.int .u8 x.f0, .string x.f1, .int .u8 x.f2.f0, .int .i64 x.f2.f1, .string x.f2.f2, .slice A5 x.f2.f3.length c5, .int .i64 x.f2.f4, .int .i64 x.f2.f5, .int .u8 x.f3.f0, .string x.f3.f1, .slice A10 x.f3.f2.length c10, .slice A11 x.f3.f3.length c11, .slice A12 x.f3.f4.length c12, .int .i64 x.f3.f5, .int .i64 x.f3.f6, .int .u8 x.f4, .slice A16 x.f5.length c16, .int .i64 x.f6, .int .i64 x.f7], .pointer (some ⟨gc, 0, none⟩)] w fun e w' => e = .returned (.bool (!(itemF x lf).1)) ∧ H w0 (pt g #[.int .i64 ((itemF x lf).2)] 102 :: pt gc #[.pointer (some ⟨g, 0, none⟩)] 72 :: bs) w' := by
  refine calls_enter (N := 8) (n := 6) (args := [.agg #[.int .u8 x.f0, .string x.f1, .int .u8 x.f2.f0, .int .i64 x.f2.f1, .string x.f2.f2, .slice A5 x.f2.f3.length c5, .int .i64 x.f2.f4, .int .i64 x.f2.f5, .int .u8 x.f3.f0, .string x.f3.f1, .slice A10 x.f3.f2.length c10, .slice A11 x.f3.f3.length c11, .slice A12 x.f3.f4.length c12, .int .i64 x.f3.f5, .int .i64 x.f3.f6, .int .u8 x.f4, .slice A16 x.f5.length c16, .int .i64 x.f6, .int .i64 x.f7], .pointer (some ⟨gc, 0, none⟩)]) Tryd.func48 rfl rfl rfl (h) (fun a hs => ?_)
  refine wp_seq ?_
  refine wp_region_lit ?_
  refine a_eff rfl (e_box (cs := #[_, _, _, _, _, _, _, _, _, _, _, _, _, _, _, _, _, _, _]) hs rfl rfl rfl ?_); clear hs a; intro gy a w hs
  refine a_val hs rfl rfl rfl (y_assign hs rfl) ?_; clear hs a; intro a hs
  refine wpList_nil (then_normal ?_)
  refine wp_seq ?_
  refine wp_region_lit ?_
  refine a_val hs rfl rfl rfl (y_load hs Tryd.underlying72 rfl rfl (fun w hw => (hw.to 2 rfl).cellV rfl)) ?_; clear hs a; intro a hs
  refine a_val hs rfl rfl rfl (y_loadPt 0 rfl hs Tryd.underlying45 rfl (by kernel_rfl) rfl) ?_; clear hs a; intro a hs
  refine a_eff rfl (e_callX Tryd.func49 rfl rfl hs rfl rfl (walk_item g x A5 A10 A11 A12 A16 c5 c10 c11 c12 c16 lf _ w0 _ hA5 hA10 hA11 hA12 hA16 hsm hlf (hs.mem.to 1 rfl)) (fun e w1 ⟨he, hm⟩ => ⟨_, he, _, hm, ?_⟩)); clear hs a; intro a hs
  refine a_val hs rfl rfl rfl (y_not hs rfl) ?_; clear hs a; intro a hs
  refine a_val hs rfl rfl rfl (y_assign hs rfl) ?_; clear hs a; intro a hs
  refine wpList_nil (then_normal ?_)
  refine wp_ret ?_
  refine fin_ret hs (.tmp (hs.slots _ _ rfl) .nil) ⟨rfl, (((hs.mem.to 1 rfl).drop.to 1 rfl).to 1 rfl)⟩
noncomputable def mayI (l : List XI) : Bool := decide (l.length ≤ 64) && (xlist itemF l 8192).1
set_option maxRecDepth 100000 in
theorem tree_May (A : Option Addr) (c : Nat) (l : List XI) (v0 : World) (hA : Kd.C k45 v0 A l.length l) (hsm : ∀ p ∈ l, smallI p) :
    Calls Tryd.prog 23 #[.slice A l.length c] v0 fun e w' => e = .returned (.bool (mayI l)) ∧ Below v0.heap.size v0 w' := by
  refine calls_enter (N := 14) (n := 13) (args := [.slice A l.length c]) Tryd.func23 rfl rfl rfl (H.init v0) (fun a hs => ?_)
  refine wp_seq ?_
  refine wp_region_lit ?_
  refine a_val hs rfl rfl rfl (y_assign hs rfl) ?_; clear hs a; intro a hs
  refine wpList_nil (then_normal ?_)
  refine wp_seq ?_
  refine wp_region_lit ?_
  refine a_eff rfl (e_callX Tryd.func43 rfl rfl hs rfl rfl (tree_all _) (fun e w1 ⟨ga, he, hm⟩ => ⟨_, he, _, hs.mem.more hm, ?_⟩)); clear hs a; intro a hs
  refine a_eff rfl (e_alloc (z := .pointer none) (cs := #[.pointer none]) hs rfl (by kernel_rfl) rfl ?_); clear hs a; intro gc a w hs
  refine a_eff rfl (e_store (cl := [_]) 0 rfl hs rfl rfl (by kernel_rfl) rfl rfl rfl ?_); clear hs a; intro a w hs
  refine wpList_nil (then_normal ?_)
  refine wp_seq ?_
  refine wp_region_lit ?_
  refine a_val hs rfl rfl rfl (y_move hs rfl) ?_; clear hs a; intro a hs
  refine a_val hs rfl rfl rfl (y_lenL hs Tryd.underlying32 rfl) ?_; clear hs a; intro a hs
  refine a_val hs rfl rfl rfl (y_cmp hs rfl rfl rfl) ?_; clear hs a; intro a hs
  refine a_val hs rfl rfl rfl (y_move hs rfl) ?_; clear hs a; intro a hs
  rcases hs.know (d := 8) rfl with ⟨h8, hs1⟩ | ⟨h8, hs1⟩ <;> replace hs := hs1 <;> clear hs1
  · replace h8 := of_decide_eq_true h8
    refine a_valG hs rfl rfl rfl (y_move hs rfl) ?_; clear hs a; intro a hs
    refine a_valG hs rfl rfl rfl (y_func hs rfl rfl) ?_; clear hs a; intro a hs
    refine a_effG hs rfl (e_callX Tryd.func47 rfl rfl hs rfl rfl (contains_I ga 48 _ [.pointer (some ⟨gc, 0, none⟩)] itemF A c l 8192 [pt gc #[.pointer (some ⟨ga, 0, none⟩)] 72] v0 _ Tryd.func48 rfl rfl hA (fun p hp cs lf w1 hK hlen hlf h => by obtain ⟨A5, c5, A10, c10, A11, c11, A12, c12, A16, c16, rfl, l5, g5, l10, g10, l11, g11, l12, g12, l16, g16⟩ := k45_open hK; exact item_one ga gc p A5 A10 A11 A12 A16 c5 c10 c11 c12 c16 lf [] v0 w1 g5 g10 g11 g12 g16 (hsm p hp) hlf h) (fun p hp lf h => itemF_falls p lf h) (by omega) (hs.mem.to 1 rfl)) (fun e w1 ⟨he, hm⟩ => ⟨_, he, _, hm, ?_⟩)); clear hs a; intro a hs
    refine a_valG hs rfl rfl rfl (y_not hs rfl) ?_; clear hs a; intro a hs
    refine a_val hs rfl rfl rfl (y_pickT hs rfl rfl rfl) ?_; clear hs a; intro a hs
    refine a_val hs rfl rfl rfl (y_assign hs rfl) ?_; clear hs a; intro a hs
    refine wpList_nil (then_normal ?_)
    refine wp_ret ?_
    refine fin_ret hs (.tmp (hs.slots _ _ rfl) .nil) ⟨?_, hs.mem.base⟩
    first | (rw [show mayI l = false from by unfold mayI; rw [decide_eq_false (by omega)]; rfl]; rfl) | (rw [show mayI l = (xlist itemF l 8192).1 from by unfold mayI; rw [decide_eq_true (by omega)]; rfl]; simp [tell])
  · replace h8 := of_decide_eq_false h8
    refine a_skip hs rfl rfl rfl ?_; clear hs a; intro a hs
    refine a_skip hs rfl rfl rfl ?_; clear hs a; intro a hs
    refine a_skip hs rfl rfl rfl ?_; clear hs a; intro a hs
    refine a_skip hs rfl rfl rfl ?_; clear hs a; intro a hs
    refine a_val hs rfl rfl rfl (y_pickF hs rfl rfl rfl) ?_; clear hs a; intro a hs
    refine a_val hs rfl rfl rfl (y_assign hs rfl) ?_; clear hs a; intro a hs
    refine wpList_nil (then_normal ?_)
    refine wp_ret ?_
    refine fin_ret hs (.tmp (hs.slots _ _ rfl) .nil) ⟨?_, hs.mem.base⟩
    first | (rw [show mayI l = false from by unfold mayI; rw [decide_eq_false (by omega)]; rfl]; rfl) | (rw [show mayI l = (xlist itemF l 8192).1 from by unfold mayI; rw [decide_eq_true (by omega)]; rfl]; simp [tell])
end Go.Proofs.YtibaidddhmdafaaDoor.E
end
section
namespace Go.Proofs.YtibaidddhmdafaaDoor.E
open Go Go.RowKit Go.Proofs.YtibaidddhmdafaaDoorW.PrintWords Go.Proofs.YtibaidddhmdafaaDoorW.PrintLast Go.Proofs.YtibaidddhmdafaaDoorW.PrintMore Go.Proofs.YtibaidddhmdafaaDoor.PA
set_option linter.unusedVariables false
set_option linter.unusedSimpArgs false
theorem up {α : Type} {f : Nat → Option α} (hm : ∀ k, LeO (f k) (f (k + 1))) {k m : Nat} (h : k ≤ m) {r : α} (e : f k = some r) : f m = some r := by
  induction m with
  | zero => obtain rfl : k = 0 := by omega
            exact e
  | succ m ih =>
    by_cases c : k = m + 1
    · subst c; exact e
    · exact hm m r (ih (by omega))
theorem w64 {n : Int} (h : -9223372036854775808 ≤ n) (h1 : n < 9223372036854775808) : wrap64 n = n := by unfold wrap64; omega
theorem word_at_drop (i : Nat) (h : i < 17) : wordList.drop i = rdOf ByteArray.empty wordList (i : Int) :: wordList.drop (i + 1) := by
  have h1 : i < wordList.length := by rw [wordList_length]; exact h
  rw [List.drop_eq_getElem_cons h1]
  unfold rdOf
  rw [Int.toNat_natCast, List.getD_eq_getElem?_getD, List.getElem?_eq_getElem h1]; rfl
theorem refWord_l (a : ByteArray) : ∀ (m i k : Nat), i + m = 17 → recoupref09_Word.l0 (k + m + 1) a wordList (i : Int) = some (wordIn (wordList.drop i) a)
  | 0, i, k, h => by
    simp only [recoupref09_Word.l0]
    rw [wordList_length, if_neg (by omega), List.drop_eq_nil_of_le (by rw [wordList_length]; omega)]
    rfl
  | m + 1, i, k, h => by
    have ih := refWord_l a m (i + 1) k (by omega)
    show recoupref09_Word.l0 ((k + m + 1) + 1) a wordList (i : Int) = _
    generalize k + m + 1 = K at ih ⊢
    simp only [recoupref09_Word.l0]
    rw [wordList_length, if_pos (by omega), if_pos (by omega), word_at_drop i (by omega)]
    unfold wordIn
    rw [List.any_cons]
    by_cases e : (rdOf ByteArray.empty wordList (i : Int)).toList = a.toList
    · rw [if_pos e, decide_eq_true e.symm]; rfl
    · rw [if_neg e, decide_eq_false (fun h => e h.symm), Bool.false_or, w64 (by omega) (by omega)]
      exact ih
theorem refWord (a : ByteArray) : recoupref09_Word.f 18 a = some (wordIn wordList a) := by
  have h := refWord_l a 17 0 0 (by omega)
  exact h
theorem refLetter (c : Int) : recoupref09_letter.f c = some (isLetter c) := by
  unfold recoupref09_letter.f isLetter
  by_cases h : c ≥ 97
  · rw [if_pos h]; exact congrArg some (decide_eq_decide.2 (by omega))
  · rw [if_neg h]; exact congrArg some (decide_eq_false (by omega)).symm
theorem refDigit (c : Int) : recoupref09_digit.f c = some (isDigit c) := by
  unfold recoupref09_digit.f isDigit
  by_cases h : c ≥ 48
  · rw [if_pos h]; exact congrArg some (decide_eq_decide.2 (by omega))
  · rw [if_neg h]; exact congrArg some (decide_eq_false (by omega)).symm
def allLD (s : ByteArray) : Nat → Nat → Bool
  | 0, _ => true
  | m + 1, i => (isLetter (bt s i) || isDigit (bt s i)) && allLD s m (i + 1)
theorem allLD_name (s : ByteArray) : ∀ (m i : Nat), 1 ≤ i → nameFrom s m i = allLD s m i
  | 0, _, _ => rfl
  | m + 1, i, h => by
    have e : decide (i ≠ 0) = true := decide_eq_true (by omega)
    show ((isLetter (bt s i) || (isDigit (bt s i) && decide (i ≠ 0))) && nameFrom s m (i + 1)) = _
    rw [e, Bool.and_true, allLD_name s m (i + 1) (by omega)]; rfl
theorem refName_l (s : ByteArray) (hs : s.size ≤ 9223372036854775807) : ∀ (m i k : Nat), i + m = s.size → recoupref09_Name.l0 (k + m + 1) s (i : Int) = some (allLD s m i)
  | 0, i, k, h => by
    simp only [recoupref09_Name.l0]
    rw [if_neg (by omega)]; rfl
  | m + 1, i, k, h => by
    have ih := refName_l s hs m (i + 1) k (by omega)
    show recoupref09_Name.l0 ((k + m + 1) + 1) s (i : Int) = some ((isLetter (bt s i) || isDigit (bt s i)) && allLD s m (i + 1))
    generalize k + m + 1 = K at ih ⊢
    simp only [recoupref09_Name.l0]
    have ew : wrap64 ((i : Int) + 1) = ((i + 1 : Nat) : Int) := by rw [w64 (by omega) (by omega)]; omega
    rw [if_pos (by omega), if_pos (by omega), refLetter, refDigit, ew, ih]
    cases isLetter (bt s i) <;> cases isDigit (bt s i) <;> simp
theorem refName (s : ByteArray) (hs : s.size ≤ 9223372036854775807) : recoupref09_Name.f (s.size + 20) s = some (nameOk s) := by
  unfold recoupref09_Name.f nameOk nameText
  by_cases c1 : (s.size : Int) < 1
  · rw [if_pos c1]
    have c1' : ¬ 1 ≤ s.size := by omega
    rw [decide_eq_false c1', Bool.false_and, Bool.and_false, Bool.false_and]
    simp only [recoupref09_Name.j0, if_true]
  · rw [if_neg c1]
    by_cases c2 : (s.size : Int) > 16
    · rw [if_pos c2]
      have c2' : ¬ s.size ≤ 16 := by omega
      rw [decide_eq_false c2', Bool.and_false, Bool.and_false, Bool.false_and]
      simp only [recoupref09_Name.j0, if_true]
    · rw [if_neg c2, if_pos (by omega), refLetter]
      have c1' : 1 ≤ s.size := by omega
      have c2' : s.size ≤ 16 := by omega
      obtain ⟨m, hm⟩ : ∃ m, s.size = m + 1 := ⟨s.size - 1, by omega⟩
      have hw := up (f := fun k => recoupref09_Word.f k s) (recoupref09_Word.mono s) (show 18 ≤ s.size + 20 by omega) (refWord s)
      have hl := refName_l s hs s.size 0 18 (by omega)
      rw [decide_eq_true c1', decide_eq_true c2', Bool.and_true, Bool.and_true]
      simp only [Option.bind_some]
      have hn : nameFrom s s.size 0 = (isLetter (bt s 0) && allLD s m 1) := by
        rw [hm]
        show ((isLetter (bt s (0 : Nat)) || (isDigit (bt s (0 : Nat)) && decide (0 ≠ 0))) && nameFrom s m 1) = _
        rw [allLD_name s m 1 (by omega)]
        simp
      rw [hn]
      cases h0 : isLetter (bt s 0)
      · simp only [recoupref09_Name.j0, Bool.false_eq_true, if_false, if_true, Bool.false_and]
      · have ha : allLD s s.size 0 = allLD s m 1 := by
          rw [hm]
          show ((isLetter (bt s (0 : Nat)) || isDigit (bt s (0 : Nat))) && allLD s m 1) = _
          have h0' : isLetter (bt s ((0 : Nat) : Int)) = true := h0
          rw [h0']; simp
        have hw' : recoupref09_Word.f (s.size + 20) s = some (wordIn wordList s) := hw
        rw [if_pos rfl, hw', Option.bind_some, Bool.true_and]
        have hl' : recoupref09_Name.l0 (s.size + 19) s 0 = some (allLD s s.size 0) := by
          have : 18 + s.size + 1 = s.size + 19 := by omega
          rw [this] at hl; exact hl
        cases wordIn wordList s
        · show recoupref09_Name.j0 ((s.size + 19) + 1) s false = _
          simp only [recoupref09_Name.j0, Bool.false_eq_true, if_false]
          rw [hl', ha]; simp
        · simp [recoupref09_Name.j0]
/-- What the reference's expr answers: the nodes that are left, or -1. -/
def refE (n : Nat) (x : XE) (left : Int) : Int := if (xexpr n x left).1 = 0 then -1 else (xexpr n x left).2
theorem refE_bounds (n : Nat) (x : XE) (left : Int) (h : 0 ≤ left) : -1 ≤ refE n x left ∧ refE n x left ≤ left := by
  obtain ⟨a, b, c⟩ := xexpr_left n x left h
  unfold refE
  split
  · omega
  · exact ⟨by have := c (by assumption); omega, b⟩
end Go.Proofs.YtibaidddhmdafaaDoor.E
end
