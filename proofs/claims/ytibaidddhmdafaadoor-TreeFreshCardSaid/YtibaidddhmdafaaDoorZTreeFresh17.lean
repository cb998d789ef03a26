/- What YtibaidddhmdafaaDoorRTreeFresh's proof reaches of its texts, part 17. Conditions: as each says. -/
import Derived.ArgAppend
import Derived.Below
import Derived.BigCall
import Derived.BigQuiet
import Derived.Deep.AppendLies
import Derived.Deep.CutBlock
import Derived.Deep.DeepCutAuto
import Derived.Deep.Draws
import Derived.Deep.LoopGhost
import Derived.Deep.OwnRows
import Derived.Deep.QuietTactic
import Derived.Deep.RegionHeld3
import Derived.Deep.WholeRow
import Derived.KernelRfl
import Derived.Laws.AppendOwn
import Derived.Laws.BitsLemmas
import Derived.Laws.BytesArg
import Derived.Laws.CopyRow
import Derived.Laws.Externs
import Derived.Laws.IdiomCopy
import Derived.Laws.MakeOwn
import Derived.Laws.OwnMore
import Derived.Laws.Rows
import Derived.Laws.Slices
import Derived.Laws.StructEq
import Derived.Laws.Tables
import Derived.Lib.AppendStr
import Derived.Lib.Builder
import Derived.Lib.Bytealg
import Derived.Lib.ConvBytes
import Derived.Lib.ItoaLen
import Derived.Lib.ItoaMem
import Derived.Lib.LaidTab
import Derived.Lib.Strings
import Derived.Lib.Walk
import Derived.Maps.AppendAt
import Derived.OrdersHeld
import Derived.OwnWalk
import Derived.RowKit
import Derived.RowKit3
import Derived.ScopeJumps
import Derived.Shelf.LaysM
import Derived.Shelf.Strconv.Itoa3
import Derived.Shelf.Strings.Builder1
import Derived.Sort.Grow
import Derived.Tactics
import Derived.Test.YtibaidddhmdafaaDoorProg
import Derived.WalkKit
import Derived.WideLaws
import Derived.Test.YtibaidddhmdafaaDoorZTreeFresh5
import Derived.Test.YtibaidddhmdafaaDoorZTreeFresh15
import Derived.Test.YtibaidddhmdafaaDoorZTreeFresh16
section
namespace Go.Proofs.YtibaidddhmdafaaDoor.E
open Go Go.RowKit Go.Proofs.YtibaidddhmdafaaDoorW.PrintWords Go.Proofs.YtibaidddhmdafaaDoorW.PrintLast Go.Proofs.YtibaidddhmdafaaDoorW.PrintMore Go.Proofs.YtibaidddhmdafaaDoor.PA
set_option linter.unusedVariables false
set_option linter.unusedSimpArgs false
set_option maxHeartbeats 4000000 in
set_option maxRecDepth 100000 in
theorem walk_item (g : Nat) (x : XI) (A5 A10 A11 A12 A16 : Option Addr) (c5 c10 c11 c12 c16 : Nat) (left : Int) (bs : List Res) (w0 w : World) (hA5 : Kd.C k25 w0 A5 x.f2.f3.length x.f2.f3) (hA10 : Kd.C k25 w0 A10 x.f3.f2.length x.f3.f2) (hA11 : Kd.C k42 w0 A11 x.f3.f3.length x.f3.f3) (hA12 : Kd.C (Kd.slice 25 k25) w0 A12 x.f3.f4.length x.f3.f4) (hA16 : Kd.C k25 w0 A16 x.f5.length x.f5) (hsm : smallI x) (hl : 0 ≤ left ∧ left ≤ 8192) (h : H w0 (pt g #[.int .i64 (left)] 102 :: bs) w) :
    Calls Tryd.prog 49 #[.pointer (some ⟨g, 0, none⟩), .agg #[.int .u8 x.f0, .string x.f1, .int .u8 x.f2.f0, .int .i64 x.f2.f1, .string x.f2.f2, .slice A5 x.f2.f3.length c5, .int .i64 x.f2.f4, .int .i64 x.f2.f5, .int .u8 x.f3.f0, .string x.f3.f1, .slice A10 x.f3.f2.length c10, .slice A11 x.f3.f3.length c11, .slice A12 x.f3.f4.length c12, .int .i64 x.f3.f5, .int .i64 x.f3.f6, .int .u8 x.f4, .slice A16 x.f5.length c16, .int .i64 x.f6, .int .i64 x.f7]] w fun e w' => e = .returned (.bool (itemF x left).1) ∧ H w0 (pt g #[.int .i64 ((itemF x left).2)] 102 :: bs) w' := by
  refine calls_enter (N := 129) (n := 127) (args := [.pointer (some ⟨g, 0, none⟩), .agg #[.int .u8 x.f0, .string x.f1, .int .u8 x.f2.f0, .int .i64 x.f2.f1, .string x.f2.f2, .slice A5 x.f2.f3.length c5, .int .i64 x.f2.f4, .int .i64 x.f2.f5, .int .u8 x.f3.f0, .string x.f3.f1, .slice A10 x.f3.f2.length c10, .slice A11 x.f3.f3.length c11, .slice A12 x.f3.f4.length c12, .int .i64 x.f3.f5, .int .i64 x.f3.f6, .int .u8 x.f4, .slice A16 x.f5.length c16, .int .i64 x.f6, .int .i64 x.f7]]) Tryd.func49 rfl rfl rfl (h) (fun a hs => ?_)
  refine wp_seq (wp_region_lit ?_)
  refine a_eff rfl (e_box (cs := #[_, _, _, _, _, _, _, _, _, _, _, _, _, _, _, _, _, _, _]) hs rfl rfl rfl ?_); clear hs a; intro gx a w hs
  refine go hs (pA rfl <| ?_); clear hs a; intro a hs
  refine wpList_nil (then_normal (wp_seq ?_))
  refine wp_seq (wp_region_lit ?_)
  refine go hs (pM rfl <| ?_); clear hs a; intro a hs
  refine a_eff rfl (e_callX Tryd.func74 rfl rfl hs rfl rfl (walk_node g left hl _ w0 _ (hs.mem.to 1 rfl)) (fun e w1 ⟨he, hm⟩ => ⟨_, he, _, hm, ?_⟩)); clear hs a; intro a hs
  refine go hs (pV rfl (fun a hs => y_not hs rfl) <| ?_); clear hs a; intro a hs
  refine wpList_nil (then_normal ?_)
  refine wp_cond_split (hs.ev rfl) (fun h11 => ?_) (fun h11 => ?_)
  · replace h11 := of_decide_eq_false (not_t h11)
    refine wp_seq (wp_region_lit ?_)
    refine go hs (pA rfl <| ?_); clear hs a; intro a hs
    refine wpList_nil (then_normal (wp_ret (then_ret ?_)))
    have hX : itemF x left = (false, left - 1) := by unfold itemF; rw [if_pos (by omega)]
    refine fin_ret hs (.tmp (hs.slots _ _ rfl) .nil) ⟨?_, ?_⟩
    · rw [hX]; first | rfl | simp [tell]
    rw [hX]; exact (hs.mem.to 1 rfl).drop
  replace h11 := of_decide_eq_true (not_f h11)
  refine wp_skip (then_normal (wp_seq ?_))
  refine wp_region_lit (go hs (pA rfl <| pA rfl <| pA rfl <| pA rfl <| ?_)); clear hs a; intro a hs
  refine wpList_nil (then_normal ?_)
  refine wp_seq_cut (fun a w1 => ∃ (nm v sh li : Bool), (itemParts x.f0 x.f4 = some (nm, v, sh, li)) ∧ St 129 w0 [(0, .pointer (some ⟨g, 0, none⟩)), (3, .pointer (some ⟨gx, 0, none⟩)), (5, .bool nm), (6, .bool v), (7, .bool sh), (8, .bool li)] (pt g #[.int .i64 (left - 1)] 102 :: pt gx #[.int .u8 x.f0, .string x.f1, .int .u8 x.f2.f0, .int .i64 x.f2.f1, .string x.f2.f2, .slice A5 x.f2.f3.length c5, .int .i64 x.f2.f4, .int .i64 x.f2.f5, .int .u8 x.f3.f0, .string x.f3.f1, .slice A10 x.f3.f2.length c10, .slice A11 x.f3.f3.length c11, .slice A12 x.f3.f4.length c12, .int .i64 x.f3.f5, .int .i64 x.f3.f6, .int .u8 x.f4, .slice A16 x.f5.length c16, .int .i64 x.f6, .int .i64 x.f7] 45 :: bs) a w1) ?_ (fun a w1 hJ => ?_)
  · refine wp_seq (wp_region_lit ?_)
    refine go hs (pV rfl (fun a hs => y_faddr (k' := 0) 0 hs (by kernel_rfl) rfl rfl) <| pV rfl (fun a hs => y_load hs Tryd.underlying37 rfl rfl (fun w hw => (hw.to 1 rfl).cellV rfl)) <| ?_); clear hs a; intro a hs
    refine wpList_nil (then_normal (wp_block ?_))
    refine wp_seq (wp_block ?_)
    refine wp_seq (wp_block ?_)
    refine wp_seq (wp_block ?_)
    refine wp_seq (wp_block ?_)
    refine wp_seq (wp_block ?_)
    refine wp_seq (wp_block ?_)
    refine wp_seq (wp_seq ?_)
    refine wp_seq (wp_region_lit ?_)
    refine go hs (pV rfl (fun a hs => y_cmp hs rfl rfl rfl) <| pA rfl <| ?_); clear hs a; intro a hs
    refine wpList_nil (then_normal ?_)
    refine wp_cond_split (hs.ev rfl) (fun h14 => ?_) (fun h14 => ?_)
    · replace h14 := eq_of_beq h14
      refine wp_exit (then_exit (then_exit (in_here (then_normal (wp_region_lit ?_)))))
      refine go hs (pA rfl <| ?_); clear hs a; intro a hs
      refine wpList_nil (in_normal (then_normal (wp_seq ?_)))
      refine wp_region_lit (go hs (pA rfl <| ?_)); clear hs a; intro a hs
      refine wpList_nil (then_normal (wp_exit (in_other rfl (then_exit (in_other rfl (then_exit (in_other rfl (then_exit (in_other rfl (then_exit (in_here (then_normal ?_))))))))))))
      refine ⟨true, true, false, false, by clear hs; unfold itemParts; (repeat' split) <;> first | rfl | (exfalso; omega) | (simp_all; done), ?_⟩
      exact (hs.mem_to ((hs.mem.to 1 rfl).to 1 rfl)).cut _ ⟨rfl, rfl, rfl, rfl, rfl, rfl, trivial⟩
    replace h14 := ne_of_beq_false h14
    refine wp_skip (then_normal (wp_seq ?_))
    refine wp_seq (wp_region_lit ?_)
    refine go hs (pV rfl (fun a hs => y_cmp hs rfl rfl rfl) <| pA rfl <| ?_); clear hs a; intro a hs
    refine wpList_nil (then_normal ?_)
    refine wp_cond_split (hs.ev rfl) (fun h16 => ?_) (fun h16 => ?_)
    · replace h16 := eq_of_beq h16
      refine wp_exit (then_exit (then_exit (in_other rfl (then_exit (in_here (then_normal (wp_seq ?_)))))))
      refine wp_region_lit (go hs (pA rfl <| ?_)); clear hs a; intro a hs
      refine wpList_nil (then_normal (wp_exit (in_other rfl (then_exit (in_other rfl (then_exit (in_other rfl (then_exit (in_other rfl (then_exit (in_here (then_normal ?_))))))))))))
      refine ⟨true, false, false, false, by clear hs; unfold itemParts; (repeat' split) <;> first | rfl | (exfalso; omega) | (simp_all; done), ?_⟩
      exact (hs.mem_to ((hs.mem.to 1 rfl).to 1 rfl)).cut _ ⟨rfl, rfl, rfl, rfl, rfl, rfl, trivial⟩
    replace h16 := ne_of_beq_false h16
    refine wp_skip (then_normal (wp_seq ?_))
    refine wp_seq (wp_region_lit ?_)
    refine go hs (pV rfl (fun a hs => y_cmp hs rfl rfl rfl) <| pA rfl <| ?_); clear hs a; intro a hs
    refine wpList_nil (then_normal ?_)
    refine wp_cond_split (hs.ev rfl) (fun h18 => ?_) (fun h18 => ?_)
    · replace h18 := eq_of_beq h18
      refine wp_exit (then_exit (then_exit (in_other rfl (then_exit (in_other rfl (then_exit (in_here (then_normal (wp_seq ?_)))))))))
      refine wp_region_lit (go hs (pA rfl <| pA rfl <| ?_)); clear hs a; intro a hs
      refine wpList_nil (then_normal (wp_exit (in_other rfl (then_exit (in_other rfl (then_exit (in_other rfl (then_exit (in_here (then_normal ?_))))))))))
      refine ⟨true, false, true, false, by clear hs; unfold itemParts; (repeat' split) <;> first | rfl | (exfalso; omega) | (simp_all; done), ?_⟩
      exact (hs.mem_to ((hs.mem.to 1 rfl).to 1 rfl)).cut _ ⟨rfl, rfl, rfl, rfl, rfl, rfl, trivial⟩
    replace h18 := ne_of_beq_false h18
    refine wp_skip (then_normal (wp_seq ?_))
    refine wp_seq (wp_seq ?_)
    refine wp_region_lit (go hs (pV rfl (fun a hs => y_cmp hs rfl rfl rfl) <| pA rfl <| ?_)); clear hs a; intro a hs
    refine wpList_nil (then_normal ?_)
    refine wp_cond_split (hs.ev rfl) (fun h20 => ?_) (fun h20 => ?_)
    · replace h20 := eq_of_beq h20
      replace hs := hs.say 20 rfl (congrArg Value.bool (beq_iff_eq.2 h20))
      refine wp_skip (then_normal ?_)
      refine wp_cond_true (hs.ev rfl) ?_
      refine wp_exit (then_exit (then_exit (in_other rfl (then_exit (in_other rfl (then_exit (in_other rfl (then_exit (in_here (then_normal (wp_seq ?_)))))))))))
      refine wp_region_lit (go hs (pA rfl <| ?_)); clear hs a; intro a hs
      refine wpList_nil (then_normal (wp_exit (in_other rfl (then_exit (in_other rfl (then_exit (in_here (then_normal ?_))))))))
      refine ⟨false, true, false, false, by clear hs; unfold itemParts; (repeat' split) <;> first | rfl | (exfalso; omega) | (simp_all; done), ?_⟩
      exact (hs.mem_to ((hs.mem.to 1 rfl).to 1 rfl)).cut _ ⟨rfl, rfl, rfl, rfl, rfl, rfl, trivial⟩
    replace h20 := ne_of_beq_false h20
    replace hs := hs.say 20 rfl (congrArg Value.bool (beq_eq_false_iff_ne.2 h20))
    refine wp_region_lit (go hs (pV rfl (fun a hs => y_cmp hs rfl rfl rfl) <| pA rfl <| ?_)); clear hs a; intro a hs
    refine wpList_nil (then_normal ?_)
    refine wp_cond_split (hs.ev rfl) (fun h20 => ?_) (fun h20 => ?_)
    · replace h20 := eq_of_beq h20
      replace hs := hs.say 20 rfl (congrArg Value.bool (beq_iff_eq.2 h20))
      refine wp_exit (then_exit (then_exit (in_other rfl (then_exit (in_other rfl (then_exit (in_other rfl (then_exit (in_here (then_normal (wp_seq ?_)))))))))))
      refine wp_region_lit (go hs (pA rfl <| ?_)); clear hs a; intro a hs
      refine wpList_nil (then_normal (wp_exit (in_other rfl (then_exit (in_other rfl (then_exit (in_here (then_normal ?_))))))))
      refine ⟨false, true, false, false, by clear hs; unfold itemParts; (repeat' split) <;> first | rfl | (exfalso; omega) | (simp_all; done), ?_⟩
      exact (hs.mem_to ((hs.mem.to 1 rfl).to 1 rfl)).cut _ ⟨rfl, rfl, rfl, rfl, rfl, rfl, trivial⟩
    replace h20 := ne_of_beq_false h20
    replace hs := hs.say 20 rfl (congrArg Value.bool (beq_eq_false_iff_ne.2 h20))
    refine wp_skip (then_normal (wp_seq ?_))
    refine wp_region_lit (go hs (pV rfl (fun a hs => y_cmp hs rfl rfl rfl) <| pA rfl <| ?_)); clear hs a; intro a hs
    refine wpList_nil (then_normal ?_)
    refine wp_cond_split (hs.ev rfl) (fun h23 => ?_) (fun h23 => ?_)
    · replace h23 := eq_of_beq h23
      refine wp_exit (then_exit (in_other rfl (then_exit (in_other rfl (then_exit (in_other rfl (then_exit (in_other rfl (then_exit (in_here (then_normal (wp_seq ?_))))))))))))
      refine wp_seq ?_
      refine b_enter [0, 1] (by kernel_rfl) hs #[false, false, false, false, false, false, false, false] (by rfl) 8 (by rfl) ?_; clear hs; intro w hs
      refine b_take 0 rfl #[true, false, false, false, false, false, false, false] rfl (by kernel_rfl) hs ((((hs.mem.to 1 rfl).to 1 rfl).first 2)) rfl rfl rfl (fun _ _ _ h => h) (y_faddr (k' := 15) 15 hs (by kernel_rfl) rfl rfl) ?_; clear hs a; intro a hs
      refine b_take 1 rfl #[true, true, false, false, false, false, false, false] rfl (by kernel_rfl) hs ((((hs.mem.to 1 rfl).to 1 rfl).first 2)) rfl rfl rfl (fun _ _ _ h => h) (y_load hs Tryd.underlying43 rfl rfl (fun w hw => (hw.to 1 rfl).cellV rfl)) ?_; clear hs a; intro a hs
      refine b_take 2 rfl #[true, true, true, false, false, false, false, false] rfl (by kernel_rfl) hs ((((hs.mem.to 1 rfl).to 1 rfl).first 2)) rfl rfl rfl (fun _ _ _ h => h) (y_cmp hs rfl rfl rfl) ?_; clear hs a; intro a hs
      refine b_take 3 rfl #[true, true, true, true, false, false, false, false] rfl (by kernel_rfl) hs ((((hs.mem.to 1 rfl).to 1 rfl).first 2)) rfl rfl rfl (fun _ _ _ h => h) (y_faddr (k' := 15) 15 hs (by kernel_rfl) rfl rfl) ?_; clear hs a; intro a hs
      refine b_take 4 rfl #[true, true, true, true, true, false, false, false] rfl (by kernel_rfl) hs ((((hs.mem.to 1 rfl).to 1 rfl).first 2)) rfl rfl rfl (fun _ _ _ h => h) (y_load hs Tryd.underlying43 rfl rfl (fun w hw => (hw.to 1 rfl).cellV rfl)) ?_; clear hs a; intro a hs
      refine b_take 5 rfl #[true, true, true, true, true, true, false, false] rfl (by kernel_rfl) hs ((((hs.mem.to 1 rfl).to 1 rfl).first 2)) rfl rfl rfl (fun _ _ _ h => h) (y_cmp hs rfl rfl rfl) ?_; clear hs a; intro a hs
      refine b_take 6 rfl #[true, true, true, true, true, true, true, false] rfl (by kernel_rfl) hs ((((hs.mem.to 1 rfl).to 1 rfl).first 2)) rfl rfl rfl (fun _ _ _ h => h) (y_assign hs rfl) ?_; clear hs a; intro a hs
      refine b_take 7 rfl #[true, true, true, true, true, true, true, true] rfl (by kernel_rfl) hs ((((hs.mem.to 1 rfl).to 1 rfl).first 2)) rfl rfl rfl (fun _ _ _ h => h) (y_assign hs rfl) ?_; clear hs a; intro a hs
      refine b_done (by kernel_rfl) (then_normal ?_)
      refine wp_seq (wp_region_lit ?_)
      refine go hs (pV rfl (fun a hs => y_faddr (k' := 15) 15 hs (by kernel_rfl) rfl rfl) <| pV rfl (fun a hs => y_load hs Tryd.underlying43 rfl rfl (fun w hw => (hw.to 1 rfl).cellV rfl)) <| pV rfl (fun a hs => y_cmp hs rfl rfl rfl) <| pM rfl <| ?_); clear hs a; intro a hs
      rcases hs.know (d := 34) rfl with ⟨h34, hs1⟩ | ⟨h34, hs1⟩ <;> replace hs := hs1 <;> clear hs1
      · replace h34 := of_decide_eq_true h34
        refine go hs (pS rfl <| pS rfl <| pS rfl <| pT rfl rfl <| ?_); clear hs a; intro a hs
        refine wpList_nil (then_normal ?_)
        refine wp_cond_true (hs.ev rfl) ?_
        refine wp_seq (wp_region_lit ?_)
        refine go hs (pA rfl <| ?_); clear hs a; intro a hs
        refine wpList_nil (then_normal (wp_ret (then_ret (in_ret (then_ret (in_ret (then_ret ?_)))))))
        have hP : itemParts x.f0 x.f4 = none := by clear hs; unfold itemParts; (repeat' split) <;> first | rfl | (exfalso; omega)
        have hH : ¬ headI x := by rintro ⟨nm, v, sh, li, h1, _⟩; rw [hP] at h1; cases h1
        have hX : itemF x left = (false, left - 1) := by unfold itemF; rw [if_neg (by omega), if_neg hH]
        refine fin_ret hs (.tmp (hs.slots _ _ rfl) .nil) ⟨?_, ?_⟩
        · rw [hX]; first | rfl | simp [tell]
        rw [hX]; exact (hs.mem.to 1 rfl).drop
      replace h34 := of_decide_eq_false h34
      refine go hs (pG rfl (fun a hs => y_faddr (k' := 15) 15 hs (by kernel_rfl) rfl rfl) <| pG rfl (fun a hs => y_load hs Tryd.underlying43 rfl rfl (fun w hw => (hw.to 1 rfl).cellV rfl)) <| pG rfl (fun a hs => y_cmp hs rfl rfl rfl) <| pF rfl rfl <| ?_); clear hs a; intro a hs
      refine wpList_nil (then_normal ?_)
      refine wp_cond_split (hs.ev rfl) (fun h38 => ?_) (fun h38 => ?_)
      · replace h38 := of_decide_eq_true h38
        refine wp_seq (wp_region_lit ?_)
        refine go hs (pA rfl <| ?_); clear hs a; intro a hs
        refine wpList_nil (then_normal (wp_ret (then_ret (in_ret (then_ret (in_ret (then_ret ?_)))))))
        have hP : itemParts x.f0 x.f4 = none := by clear hs; unfold itemParts; (repeat' split) <;> first | rfl | (exfalso; omega)
        have hH : ¬ headI x := by rintro ⟨nm, v, sh, li, h1, _⟩; rw [hP] at h1; cases h1
        have hX : itemF x left = (false, left - 1) := by unfold itemF; rw [if_neg (by omega), if_neg hH]
        refine fin_ret hs (.tmp (hs.slots _ _ rfl) .nil) ⟨?_, ?_⟩
        · rw [hX]; first | rfl | simp [tell]
        rw [hX]; exact (hs.mem.to 1 rfl).drop
      replace h38 := of_decide_eq_false h38
      refine wp_skip (then_normal (wp_exit (in_other rfl (then_exit (in_here (then_normal ?_))))))
      refine ⟨false, (x.f4 == 3), false, (x.f4 == 4), by clear hs; unfold itemParts; (repeat' split) <;> first | rfl | (exfalso; omega) | (simp_all; done), ?_⟩
      exact (hs.mem_to ((hs.mem.to 1 rfl).to 1 rfl)).cut _ ⟨rfl, rfl, rfl, rfl, rfl, rfl, trivial⟩
    replace h23 := ne_of_beq_false h23
    refine wp_skip (then_normal (wp_exit (in_other rfl (then_exit (in_other rfl (then_exit (in_other rfl (then_exit (in_other rfl (then_exit (in_other rfl (then_exit (in_here (then_normal ?_))))))))))))))
    refine wp_seq (wp_seq ?_)
    refine wp_region_lit (go hs (pA rfl <| ?_)); clear hs a; intro a hs
    refine wpList_nil (then_normal (wp_ret (then_ret (in_ret (then_ret ?_)))))
    have hP : itemParts x.f0 x.f4 = none := by clear hs; unfold itemParts; (repeat' split) <;> first | rfl | (exfalso; omega)
    have hH : ¬ headI x := by rintro ⟨nm, v, sh, li, h1, _⟩; rw [hP] at h1; cases h1
    have hX : itemF x left = (false, left - 1) := by unfold itemF; rw [if_neg (by omega), if_neg hH]
    refine fin_ret hs (.tmp (hs.slots _ _ rfl) .nil) ⟨?_, ?_⟩
    · rw [hX]; first | rfl | simp [tell]
    rw [hX]; exact (hs.mem.to 1 rfl).drop
  clear hs
  obtain ⟨nm, v, sh, li, hsp, hs⟩ := hJ
  refine wp_seq (wp_block ?_)
  refine wp_seq ?_
  rcases items_cases hsp with ⟨rfl, rfl, rfl, rfl, hk⟩ | ⟨rfl, rfl, rfl, rfl, hk⟩ | ⟨rfl, rfl, rfl, rfl, hk⟩ | ⟨rfl, rfl, rfl, rfl, hk⟩ | ⟨rfl, rfl, rfl, rfl, hk⟩ | ⟨rfl, rfl, rfl, rfl, hk⟩
  · refine wp_region_lit (go hs (pM rfl <| pM rfl <| pG rfl (fun a hs => y_faddr (k' := 1) 1 hs (by kernel_rfl) rfl rfl) <| pG rfl (fun a hs => y_load hs Tryd.underlying9 rfl rfl (fun w hw => (hw.to 1 rfl).cellV rfl)) <| ?_)); clear hs a; intro a hs
    refine a_effG hs rfl (e_callB Tryd.func75 rfl rfl hs rfl rfl (tree_named.calls _ x.f1 (nameOk x.f1) _ (tnamed_ok x.f1 hsm.1)) ?_); clear hs a; intro a w hs
    refine go hs (pG rfl (fun a hs => y_not hs rfl) <| pT rfl rfl <| pM rfl <| ?_); clear hs a; intro a hs
    rcases hs.know (d := 47) rfl with ⟨h47, hs1⟩ | ⟨h47, hs1⟩ <;> replace hs := hs1 <;> clear hs1
    · replace h47 := (not_t h47)
      refine go hs (pS rfl <| pS rfl <| pS rfl <| pS rfl <| pS rfl <| pS rfl <| pS rfl <| pT rfl rfl <| pM rfl <| pS rfl <| pS rfl <| pS rfl <| pS rfl <| pS rfl <| pS rfl <| pS rfl <| pS rfl <| pT rfl rfl <| pA rfl <| ?_); clear hs a; intro a hs
      refine wpList_nil (then_normal ?_)
      refine wp_cond_true (hs.ev rfl) ?_
      refine wp_seq (wp_region_lit ?_)
      refine go hs (pA rfl <| ?_); clear hs a; intro a hs
      refine wpList_nil (then_normal (wp_ret (in_ret (then_ret ?_))))
      have hH : ¬ headI x := by
        rintro ⟨nm, v, sh, li, h1, n1, n2, n3, l1, l2, v1, s1⟩
        rw [hsp] at h1
        simp only [Option.some.injEq, Prod.mk.injEq] at h1
        obtain ⟨rfl, rfl, rfl, rfl⟩ := h1
        first | omega | (have := n2 rfl; omega) | (have := n3 (by omega); omega) | (have := l1 rfl; omega) | (have := l2 rfl; omega) | (rw [n1 rfl] at h47; cases h47; done) | (rw [v1 rfl] at h94; cases h94; done) | (rw [s1 rfl] at h85; cases h85; done)
      have hX : itemF x left = (false, left - 1) := by unfold itemF; rw [if_neg (by omega), if_neg hH]
      refine fin_ret hs (.tmp (hs.slots _ _ rfl) .nil) ⟨?_, ?_⟩
      · rw [hX]; first | rfl | simp [tell]
      rw [hX]; exact (hs.mem.to 1 rfl).drop
    replace h47 := (not_f h47)
    refine go hs (pG rfl (fun a hs => y_move hs rfl) <| pG rfl (fun a hs => y_not hs rfl) <| pG rfl (fun a hs => y_move hs rfl) <| pS rfl <| pS rfl <| pS rfl <| pG rfl (fun a hs => y_pickF hs rfl rfl rfl) <| pF rfl rfl <| pM rfl <| pG rfl (fun a hs => y_faddr (k' := 0) 0 hs (by kernel_rfl) rfl rfl) <| pG rfl (fun a hs => y_load hs Tryd.underlying37 rfl rfl (fun w hw => (hw.to 1 rfl).cellV rfl)) <| pG rfl (fun a hs => y_cmp hs rfl rfl rfl) <| pG rfl (fun a hs => y_move hs rfl) <| ?_); clear hs a; intro a hs
    rcases hs.know (d := 60) rfl with ⟨h60, hs1⟩ | ⟨h60, hs1⟩ <;> replace hs := hs1 <;> clear hs1
    · replace h60 := bne_iff_ne.1 h60
      refine go hs (pG rfl (fun a hs => y_faddr (k' := 15) 15 hs (by kernel_rfl) rfl rfl) <| pG rfl (fun a hs => y_load hs Tryd.underlying43 rfl rfl (fun w hw => (hw.to 1 rfl).cellV rfl)) <| pG rfl (fun a hs => y_cmp hs rfl rfl rfl) <| pG rfl (fun a hs => y_pickT hs rfl rfl rfl) <| pF rfl rfl <| pA rfl <| ?_); clear hs a; intro a hs
      refine wpList_nil (then_normal ?_)
      refine wp_cond_split (hs.ev rfl) (fun h39 => ?_) (fun h39 => ?_)
      · replace h39 := bne_iff_ne.1 h39
        refine wp_seq (wp_region_lit ?_)
        refine go hs (pA rfl <| ?_); clear hs a; intro a hs
        refine wpList_nil (then_normal (wp_ret (in_ret (then_ret ?_))))
        have hH : ¬ headI x := by
          rintro ⟨nm, v, sh, li, h1, n1, n2, n3, l1, l2, v1, s1⟩
          rw [hsp] at h1
          simp only [Option.some.injEq, Prod.mk.injEq] at h1
          obtain ⟨rfl, rfl, rfl, rfl⟩ := h1
          first | omega | (have := n2 rfl; omega) | (have := n3 (by omega); omega) | (have := l1 rfl; omega) | (have := l2 rfl; omega) | (rw [n1 rfl] at h47; cases h47; done) | (rw [v1 rfl] at h94; cases h94; done) | (rw [s1 rfl] at h85; cases h85; done)
        have hX : itemF x left = (false, left - 1) := by unfold itemF; rw [if_neg (by omega), if_neg hH]
        refine fin_ret hs (.tmp (hs.slots _ _ rfl) .nil) ⟨?_, ?_⟩
        · rw [hX]; first | rfl | simp [tell]
        rw [hX]; exact (hs.mem.to 1 rfl).drop
      replace h39 := bne_eq_false_iff_eq.1 h39
      refine wp_seq (wp_region_lit ?_)
      refine go hs (pM rfl <| pM rfl <| pS rfl <| pS rfl <| pS rfl <| pS rfl <| pS rfl <| pF rfl rfl <| pM rfl <| pG rfl (fun a hs => y_move hs rfl) <| pG rfl (fun a hs => y_not hs rfl) <| pG rfl (fun a hs => y_move hs rfl) <| pG rfl (fun a hs => y_faddr (k' := 16) 16 hs (by kernel_rfl) rfl rfl) <| pG rfl (fun a hs => y_load hs Tryd.underlying23 rfl rfl (fun w hw => (hw.to 1 rfl).cellV rfl)) <| pG rfl (fun a hs => y_lenL hs Tryd.underlying23 rfl) <| pG rfl (fun a hs => y_cmp hs rfl rfl rfl) <| pG rfl (fun a hs => y_pickT hs rfl rfl rfl) <| pF rfl rfl <| pA rfl <| ?_); clear hs a; intro a hs
      refine wpList_nil (then_normal ?_)
      refine wp_cond_split (hs.ev rfl) (fun h66 => ?_) (fun h66 => ?_)
      · replace h66 := of_decide_eq_true h66
        refine wp_seq (wp_region_lit ?_)
        refine go hs (pA rfl <| ?_); clear hs a; intro a hs
        refine wpList_nil (then_normal (wp_ret (in_ret (then_ret ?_))))
        have hH : ¬ headI x := by
          rintro ⟨nm, v, sh, li, h1, n1, n2, n3, l1, l2, v1, s1⟩
          rw [hsp] at h1
          simp only [Option.some.injEq, Prod.mk.injEq] at h1
          obtain ⟨rfl, rfl, rfl, rfl⟩ := h1
          first | omega | (have := n2 rfl; omega) | (have := n3 (by omega); omega) | (have := l1 rfl; omega) | (have := l2 rfl; omega) | (rw [n1 rfl] at h47; cases h47; done) | (rw [v1 rfl] at h94; cases h94; done) | (rw [s1 rfl] at h85; cases h85; done)
        have hX : itemF x left = (false, left - 1) := by unfold itemF; rw [if_neg (by omega), if_neg hH]
        refine fin_ret hs (.tmp (hs.slots _ _ rfl) .nil) ⟨?_, ?_⟩
        · rw [hX]; first | rfl | simp [tell]
        rw [hX]; exact (hs.mem.to 1 rfl).drop
      replace h66 := of_decide_eq_false h66
      refine wp_seq (wp_region_lit ?_)
      refine go hs (pM rfl <| pV rfl (fun a hs => y_not hs rfl) <| pM rfl <| pS rfl <| pS rfl <| pS rfl <| pS rfl <| pF rfl rfl <| pM rfl <| pG rfl (fun a hs => y_move hs rfl) <| pG rfl (fun a hs => y_not hs rfl) <| pG rfl (fun a hs => y_move hs rfl) <| pG rfl (fun a hs => y_faddr (k' := 8) 8 hs (by kernel_rfl) rfl rfl) <| pG rfl (fun a hs => y_loadAgg (vs := [.int .u8 x.f3.f0, .string x.f3.f1, .slice A10 x.f3.f2.length c10, .slice A11 x.f3.f3.length c11, .slice A12 x.f3.f4.length c12, .int .i64 x.f3.f5, .int .i64 x.f3.f6]) hs Tryd.underlying41 rfl (by kernel_rfl) rfl (fun w hw k v hk => ((hw.to 1 rfl).cell).trans (sub_at 7 rfl hk))) <| ?_); clear hs a; intro a hs
      refine a_effG hs rfl (e_callB Tryd.func83 rfl rfl hs rfl rfl (tree_noShape x.f3 A10 A11 A12 c10 c11 c12 _) ?_); clear hs a; intro a w hs
      refine go hs (pG rfl (fun a hs => y_not hs rfl) <| pG rfl (fun a hs => y_pickT hs rfl rfl rfl) <| pF rfl rfl <| pA rfl <| ?_); clear hs a; intro a hs
      refine wpList_nil (then_normal ?_)
      refine wp_cond_split (hs.ev rfl) (fun h85 => ?_) (fun h85 => ?_)
      · replace h85 := (not_t h85)
        refine wp_seq (wp_region_lit ?_)
        refine go hs (pA rfl <| ?_); clear hs a; intro a hs
        refine wpList_nil (then_normal (wp_ret (in_ret (then_ret ?_))))
        have hH : ¬ headI x := by
          rintro ⟨nm, v, sh, li, h1, n1, n2, n3, l1, l2, v1, s1⟩
          rw [hsp] at h1
          simp only [Option.some.injEq, Prod.mk.injEq] at h1
          obtain ⟨rfl, rfl, rfl, rfl⟩ := h1
          first | omega | (have := n2 rfl; omega) | (have := n3 (by omega); omega) | (have := l1 rfl; omega) | (have := l2 rfl; omega) | (rw [n1 rfl] at h47; cases h47; done) | (rw [v1 rfl] at h94; cases h94; done) | (rw [s1 rfl] at h85; cases h85; done)
        have hX : itemF x left = (false, left - 1) := by unfold itemF; rw [if_neg (by omega), if_neg hH]
        refine fin_ret hs (.tmp (hs.slots _ _ rfl) .nil) ⟨?_, ?_⟩
        · rw [hX]; first | rfl | simp [tell]
        rw [hX]; exact (hs.mem.to 1 rfl).drop
      replace h85 := (not_f h85)
      refine wp_skip (in_normal (then_normal (wp_seq ?_)))
      have hH : headI x := ⟨_, _, _, _, hsp, (fun _ => h47), (fun h => by cases h), (fun h5 => by omega), (fun h => by cases h), (fun _ => by omega), (fun h => by cases h), (fun _ => h85)⟩
      obtain ⟨RR1, hRR⟩ : ∃ RR1, RR1 = stE x.f2 (left - 1) := ⟨_, rfl⟩
      have hV : valI x (left - 1) = RR1 := by unfold valI; rw [if_pos (show hasV x by unfold hasV; omega), hRR]
      refine wp_region_lit (go hs (pM rfl <| pV rfl (fun a hs => y_not hs rfl) <| pM rfl <| pG rfl (fun a hs => y_move hs rfl) <| pG rfl (fun a hs => y_faddr (k' := 2) 2 hs (by kernel_rfl) rfl rfl) <| pG rfl (fun a hs => y_loadAgg (vs := [.int .u8 x.f2.f0, .int .i64 x.f2.f1, .string x.f2.f2, .slice A5 x.f2.f3.length c5, .int .i64 x.f2.f4, .int .i64 x.f2.f5]) hs Tryd.underlying24 rfl (by kernel_rfl) rfl (fun w hw k v hk => ((hw.to 1 rfl).cell).trans (sub_at 6 rfl hk))) <| ?_)); clear hs a; intro a hs
      refine a_effG hs rfl (e_callX Tryd.func44 rfl rfl hs rfl rfl (walk_expr 16 (by decide) x.f2 A5 c5 g (left - 1) _ w0 _ hA5 hsm.2.1 (by omega) hs.mem) (fun e w1 ⟨he, hm⟩ => ⟨_, he, _, hm, ?_⟩)); clear hs a; intro a hs
      refine go hs (pG rfl (fun a hs => y_cmp hs rfl rfl rfl) <| pF rfl rfl <| pM rfl <| ?_); clear hs a; intro a hs
      rcases hs.know (d := 113) rfl with ⟨h113, hs1⟩ | ⟨h113, hs1⟩ <;> replace hs := hs1 <;> clear hs1
      · replace h113 := of_decide_eq_true h113
        rw [show (xexpr 16 x.f2 (left - 1)).2 = RR1.2 by rw [hRR]; rfl] at hs
        have hV1 : RR1.1 = true := by rw [hRR]; exact decide_eq_true (by omega)
        have hvf := valI_falls x (left - 1) (by omega)
        rw [hV] at hvf
        have hb1 : 0 ≤ RR1.2 ∧ RR1.2 ≤ 8192 := ⟨hvf.2.2 hV1, by have := hvf.2.1; omega⟩
        refine go hs (pG rfl (fun a hs => y_move hs rfl) <| pG rfl (fun a hs => y_not hs rfl) <| pG rfl (fun a hs => y_move hs rfl) <| pS rfl <| pS rfl <| pS rfl <| pS rfl <| pG rfl (fun a hs => y_pickT hs rfl rfl rfl) <| pT rfl rfl <| pM rfl <| pG rfl (fun a hs => y_move hs rfl) <| pG rfl (fun a hs => y_faddr (k' := 16) 16 hs (by kernel_rfl) rfl rfl) <| pG rfl (fun a hs => y_load hs Tryd.underlying23 rfl rfl (fun w hw => (hw.to 1 rfl).cellV rfl)) <| ?_); clear hs a; intro a hs
        obtain ⟨RR2, hRR2⟩ : ∃ RR2 : Bool × Int, RR2 = (true, RR1.2) := ⟨_, rfl⟩
        have hS : shI x RR1.2 = RR2 := by unfold shI; rw [if_neg (by omega), hRR2]
        have hS1 : RR2.1 = true := by rw [hRR2]
        have hb2 : 0 ≤ RR2.2 ∧ RR2.2 ≤ 8192 := by rw [hRR2]; exact hb1
        rw [show RR1.2 = RR2.2 by rw [hRR2]] at hs
        refine a_effG hs rfl (e_callX Tryd.func77 rfl rfl hs rfl rfl (walk_exprs g A16 c16 x.f5 RR2.2 _ w0 _ hA16 hsm.2.2.2 hb2 hs.mem) (fun e w1 ⟨he, hm⟩ => ⟨_, he, _, hm, ?_⟩)); clear hs a; intro a hs
        refine go hs (pT rfl rfl <| pA rfl <| ?_); clear hs a; intro a hs
        refine wpList_nil (then_normal (wp_ret ?_))
        have hX : itemF x left = xlist stE x.f5 RR2.2 := by unfold itemF; rw [if_neg (by omega), if_pos hH, hV, if_pos hV1, hS, if_pos hS1]
        refine fin_ret hs (.tmp (hs.slots _ _ rfl) .nil) ⟨?_, ?_⟩
        · rw [hX]; first | rfl | simp [tell]
        rw [hX]; exact (hs.mem.to 1 rfl).drop
      replace h113 := of_decide_eq_false h113
      refine go hs (pS rfl <| pS rfl <| pS rfl <| pS rfl <| pS rfl <| pS rfl <| pS rfl <| pS rfl <| pF rfl rfl <| pM rfl <| pS rfl <| pS rfl <| pS rfl <| pS rfl <| pF rfl rfl <| pA rfl <| ?_); clear hs a; intro a hs
      refine wpList_nil (then_normal (wp_ret ?_))
      have hE1 : RR1 = (false, (xexpr 16 x.f2 (left - 1)).2) := by rw [hRR]; unfold stE; rw [decide_eq_false (by omega)]
      have hX : itemF x left = (false, (xexpr 16 x.f2 (left - 1)).2) := by unfold itemF; rw [if_neg (by omega), if_pos hH, hV, if_neg (by rw [hE1]; exact Bool.false_ne_true), hE1]
      refine fin_ret hs (.tmp (hs.slots _ _ rfl) .nil) ⟨?_, ?_⟩
      · rw [hX]; first | rfl | simp [tell]
      rw [hX]; exact (hs.mem.to 1 rfl).drop
    replace h60 := bne_eq_false_iff_eq.1 h60
    refine go hs (pS rfl <| pS rfl <| pS rfl <| pG rfl (fun a hs => y_pickF hs rfl rfl rfl) <| pF rfl rfl <| pA rfl <| ?_); clear hs a; intro a hs
    refine wpList_nil (then_normal ?_)
    refine wp_cond_false (hs.ev rfl) ?_
    refine wp_seq (wp_region_lit ?_)
    refine go hs (pM rfl <| pM rfl <| pS rfl <| pS rfl <| pS rfl <| pS rfl <| pS rfl <| pF rfl rfl <| pM rfl <| pG rfl (fun a hs => y_move hs rfl) <| pG rfl (fun a hs => y_not hs rfl) <| pG rfl (fun a hs => y_move hs rfl) <| pG rfl (fun a hs => y_faddr (k' := 16) 16 hs (by kernel_rfl) rfl rfl) <| pG rfl (fun a hs => y_load hs Tryd.underlying23 rfl rfl (fun w hw => (hw.to 1 rfl).cellV rfl)) <| pG rfl (fun a hs => y_lenL hs Tryd.underlying23 rfl) <| pG rfl (fun a hs => y_cmp hs rfl rfl rfl) <| pG rfl (fun a hs => y_pickT hs rfl rfl rfl) <| pF rfl rfl <| pA rfl <| ?_); clear hs a; intro a hs
    refine wpList_nil (then_normal ?_)
    refine wp_cond_split (hs.ev rfl) (fun h66 => ?_) (fun h66 => ?_)
    · replace h66 := of_decide_eq_true h66
      refine wp_seq (wp_region_lit ?_)
      refine go hs (pA rfl <| ?_); clear hs a; intro a hs
      refine wpList_nil (then_normal (wp_ret (in_ret (then_ret ?_))))
      have hH : ¬ headI x := by
        rintro ⟨nm, v, sh, li, h1, n1, n2, n3, l1, l2, v1, s1⟩
        rw [hsp] at h1
        simp only [Option.some.injEq, Prod.mk.injEq] at h1
        obtain ⟨rfl, rfl, rfl, rfl⟩ := h1
        first | omega | (have := n2 rfl; omega) | (have := n3 (by omega); omega) | (have := l1 rfl; omega) | (have := l2 rfl; omega) | (rw [n1 rfl] at h47; cases h47; done) | (rw [v1 rfl] at h94; cases h94; done) | (rw [s1 rfl] at h85; cases h85; done)
      have hX : itemF x left = (false, left - 1) := by unfold itemF; rw [if_neg (by omega), if_neg hH]
      refine fin_ret hs (.tmp (hs.slots _ _ rfl) .nil) ⟨?_, ?_⟩
      · rw [hX]; first | rfl | simp [tell]
      rw [hX]; exact (hs.mem.to 1 rfl).drop
    replace h66 := of_decide_eq_false h66
    refine wp_seq (wp_region_lit ?_)
    refine go hs (pM rfl <| pV rfl (fun a hs => y_not hs rfl) <| pM rfl <| pS rfl <| pS rfl <| pS rfl <| pS rfl <| pF rfl rfl <| pM rfl <| pG rfl (fun a hs => y_move hs rfl) <| pG rfl (fun a hs => y_not hs rfl) <| pG rfl (fun a hs => y_move hs rfl) <| pG rfl (fun a hs => y_faddr (k' := 8) 8 hs (by kernel_rfl) rfl rfl) <| pG rfl (fun a hs => y_loadAgg (vs := [.int .u8 x.f3.f0, .string x.f3.f1, .slice A10 x.f3.f2.length c10, .slice A11 x.f3.f3.length c11, .slice A12 x.f3.f4.length c12, .int .i64 x.f3.f5, .int .i64 x.f3.f6]) hs Tryd.underlying41 rfl (by kernel_rfl) rfl (fun w hw k v hk => ((hw.to 1 rfl).cell).trans (sub_at 7 rfl hk))) <| ?_); clear hs a; intro a hs
    refine a_effG hs rfl (e_callB Tryd.func83 rfl rfl hs rfl rfl (tree_noShape x.f3 A10 A11 A12 c10 c11 c12 _) ?_); clear hs a; intro a w hs
    refine go hs (pG rfl (fun a hs => y_not hs rfl) <| pG rfl (fun a hs => y_pickT hs rfl rfl rfl) <| pF rfl rfl <| pA rfl <| ?_); clear hs a; intro a hs
    refine wpList_nil (then_normal ?_)
    refine wp_cond_split (hs.ev rfl) (fun h85 => ?_) (fun h85 => ?_)
    · replace h85 := (not_t h85)
      refine wp_seq (wp_region_lit ?_)
      refine go hs (pA rfl <| ?_); clear hs a; intro a hs
      refine wpList_nil (then_normal (wp_ret (in_ret (then_ret ?_))))
      have hH : ¬ headI x := by
        rintro ⟨nm, v, sh, li, h1, n1, n2, n3, l1, l2, v1, s1⟩
        rw [hsp] at h1
        simp only [Option.some.injEq, Prod.mk.injEq] at h1
        obtain ⟨rfl, rfl, rfl, rfl⟩ := h1
        first | omega | (have := n2 rfl; omega) | (have := n3 (by omega); omega) | (have := l1 rfl; omega) | (have := l2 rfl; omega) | (rw [n1 rfl] at h47; cases h47; done) | (rw [v1 rfl] at h94; cases h94; done) | (rw [s1 rfl] at h85; cases h85; done)
      have hX : itemF x left = (false, left - 1) := by unfold itemF; rw [if_neg (by omega), if_neg hH]
      refine fin_ret hs (.tmp (hs.slots _ _ rfl) .nil) ⟨?_, ?_⟩
      · rw [hX]; first | rfl | simp [tell]
      rw [hX]; exact (hs.mem.to 1 rfl).drop
    replace h85 := (not_f h85)
    refine wp_skip (in_normal (then_normal (wp_seq ?_)))
    have hH : headI x := ⟨_, _, _, _, hsp, (fun _ => h47), (fun h => by cases h), (fun h5 => by omega), (fun h => by cases h), (fun _ => by omega), (fun h => by cases h), (fun _ => h85)⟩
    obtain ⟨RR1, hRR⟩ : ∃ RR1, RR1 = stE x.f2 (left - 1) := ⟨_, rfl⟩
    have hV : valI x (left - 1) = RR1 := by unfold valI; rw [if_pos (show hasV x by unfold hasV; omega), hRR]
    refine wp_region_lit (go hs (pM rfl <| pV rfl (fun a hs => y_not hs rfl) <| pM rfl <| pG rfl (fun a hs => y_move hs rfl) <| pG rfl (fun a hs => y_faddr (k' := 2) 2 hs (by kernel_rfl) rfl rfl) <| pG rfl (fun a hs => y_loadAgg (vs := [.int .u8 x.f2.f0, .int .i64 x.f2.f1, .string x.f2.f2, .slice A5 x.f2.f3.length c5, .int .i64 x.f2.f4, .int .i64 x.f2.f5]) hs Tryd.underlying24 rfl (by kernel_rfl) rfl (fun w hw k v hk => ((hw.to 1 rfl).cell).trans (sub_at 6 rfl hk))) <| ?_)); clear hs a; intro a hs
    refine a_effG hs rfl (e_callX Tryd.func44 rfl rfl hs rfl rfl (walk_expr 16 (by decide) x.f2 A5 c5 g (left - 1) _ w0 _ hA5 hsm.2.1 (by omega) hs.mem) (fun e w1 ⟨he, hm⟩ => ⟨_, he, _, hm, ?_⟩)); clear hs a; intro a hs
    refine go hs (pG rfl (fun a hs => y_cmp hs rfl rfl rfl) <| pF rfl rfl <| pM rfl <| ?_); clear hs a; intro a hs
    rcases hs.know (d := 113) rfl with ⟨h113, hs1⟩ | ⟨h113, hs1⟩ <;> replace hs := hs1 <;> clear hs1
    · replace h113 := of_decide_eq_true h113
      rw [show (xexpr 16 x.f2 (left - 1)).2 = RR1.2 by rw [hRR]; rfl] at hs
      have hV1 : RR1.1 = true := by rw [hRR]; exact decide_eq_true (by omega)
      have hvf := valI_falls x (left - 1) (by omega)
      rw [hV] at hvf
      have hb1 : 0 ≤ RR1.2 ∧ RR1.2 ≤ 8192 := ⟨hvf.2.2 hV1, by have := hvf.2.1; omega⟩
      refine go hs (pG rfl (fun a hs => y_move hs rfl) <| pG rfl (fun a hs => y_not hs rfl) <| pG rfl (fun a hs => y_move hs rfl) <| pS rfl <| pS rfl <| pS rfl <| pS rfl <| pG rfl (fun a hs => y_pickT hs rfl rfl rfl) <| pT rfl rfl <| pM rfl <| pG rfl (fun a hs => y_move hs rfl) <| pG rfl (fun a hs => y_faddr (k' := 16) 16 hs (by kernel_rfl) rfl rfl) <| pG rfl (fun a hs => y_load hs Tryd.underlying23 rfl rfl (fun w hw => (hw.to 1 rfl).cellV rfl)) <| ?_); clear hs a; intro a hs
      obtain ⟨RR2, hRR2⟩ : ∃ RR2 : Bool × Int, RR2 = (true, RR1.2) := ⟨_, rfl⟩
      have hS : shI x RR1.2 = RR2 := by unfold shI; rw [if_neg (by omega), hRR2]
      have hS1 : RR2.1 = true := by rw [hRR2]
      have hb2 : 0 ≤ RR2.2 ∧ RR2.2 ≤ 8192 := by rw [hRR2]; exact hb1
      rw [show RR1.2 = RR2.2 by rw [hRR2]] at hs
      refine a_effG hs rfl (e_callX Tryd.func77 rfl rfl hs rfl rfl (walk_exprs g A16 c16 x.f5 RR2.2 _ w0 _ hA16 hsm.2.2.2 hb2 hs.mem) (fun e w1 ⟨he, hm⟩ => ⟨_, he, _, hm, ?_⟩)); clear hs a; intro a hs
      refine go hs (pT rfl rfl <| pA rfl <| ?_); clear hs a; intro a hs
      refine wpList_nil (then_normal (wp_ret ?_))
      have hX : itemF x left = xlist stE x.f5 RR2.2 := by unfold itemF; rw [if_neg (by omega), if_pos hH, hV, if_pos hV1, hS, if_pos hS1]
      refine fin_ret hs (.tmp (hs.slots _ _ rfl) .nil) ⟨?_, ?_⟩
      · rw [hX]; first | rfl | simp [tell]
      rw [hX]; exact (hs.mem.to 1 rfl).drop
    replace h113 := of_decide_eq_false h113
    refine go hs (pS rfl <| pS rfl <| pS rfl <| pS rfl <| pS rfl <| pS rfl <| pS rfl <| pS rfl <| pF rfl rfl <| pM rfl <| pS rfl <| pS rfl <| pS rfl <| pS rfl <| pF rfl rfl <| pA rfl <| ?_); clear hs a; intro a hs
    refine wpList_nil (then_normal (wp_ret ?_))
    have hE1 : RR1 = (false, (xexpr 16 x.f2 (left - 1)).2) := by rw [hRR]; unfold stE; rw [decide_eq_false (by omega)]
    have hX : itemF x left = (false, (xexpr 16 x.f2 (left - 1)).2) := by unfold itemF; rw [if_neg (by omega), if_pos hH, hV, if_neg (by rw [hE1]; exact Bool.false_ne_true), hE1]
    refine fin_ret hs (.tmp (hs.slots _ _ rfl) .nil) ⟨?_, ?_⟩
    · rw [hX]; first | rfl | simp [tell]
    rw [hX]; exact (hs.mem.to 1 rfl).drop
  · refine wp_region_lit (go hs (pM rfl <| pM rfl <| pG rfl (fun a hs => y_faddr (k' := 1) 1 hs (by kernel_rfl) rfl rfl) <| pG rfl (fun a hs => y_load hs Tryd.underlying9 rfl rfl (fun w hw => (hw.to 1 rfl).cellV rfl)) <| ?_)); clear hs a; intro a hs
    refine a_effG hs rfl (e_callB Tryd.func75 rfl rfl hs rfl rfl (tree_named.calls _ x.f1 (nameOk x.f1) _ (tnamed_ok x.f1 hsm.1)) ?_); clear hs a; intro a w hs
    refine go hs (pG rfl (fun a hs => y_not hs rfl) <| pT rfl rfl <| pM rfl <| ?_); clear hs a; intro a hs
    rcases hs.know (d := 47) rfl with ⟨h47, hs1⟩ | ⟨h47, hs1⟩ <;> replace hs := hs1 <;> clear hs1
    · replace h47 := (not_t h47)
      refine go hs (pS rfl <| pS rfl <| pS rfl <| pS rfl <| pS rfl <| pS rfl <| pS rfl <| pT rfl rfl <| pM rfl <| pS rfl <| pS rfl <| pS rfl <| pS rfl <| pS rfl <| pS rfl <| pS rfl <| pS rfl <| pT rfl rfl <| pA rfl <| ?_); clear hs a; intro a hs
      refine wpList_nil (then_normal ?_)
      refine wp_cond_true (hs.ev rfl) ?_
      refine wp_seq (wp_region_lit ?_)
      refine go hs (pA rfl <| ?_); clear hs a; intro a hs
      refine wpList_nil (then_normal (wp_ret (in_ret (then_ret ?_))))
      have hH : ¬ headI x := by
        rintro ⟨nm, v, sh, li, h1, n1, n2, n3, l1, l2, v1, s1⟩
        rw [hsp] at h1
        simp only [Option.some.injEq, Prod.mk.injEq] at h1
        obtain ⟨rfl, rfl, rfl, rfl⟩ := h1
        first | omega | (have := n2 rfl; omega) | (have := n3 (by omega); omega) | (have := l1 rfl; omega) | (have := l2 rfl; omega) | (rw [n1 rfl] at h47; cases h47; done) | (rw [v1 rfl] at h94; cases h94; done) | (rw [s1 rfl] at h85; cases h85; done)
      have hX : itemF x left = (false, left - 1) := by unfold itemF; rw [if_neg (by omega), if_neg hH]
      refine fin_ret hs (.tmp (hs.slots _ _ rfl) .nil) ⟨?_, ?_⟩
      · rw [hX]; first | rfl | simp [tell]
      rw [hX]; exact (hs.mem.to 1 rfl).drop
    replace h47 := (not_f h47)
    refine go hs (pG rfl (fun a hs => y_move hs rfl) <| pG rfl (fun a hs => y_not hs rfl) <| pG rfl (fun a hs => y_move hs rfl) <| pS rfl <| pS rfl <| pS rfl <| pG rfl (fun a hs => y_pickF hs rfl rfl rfl) <| pF rfl rfl <| pM rfl <| pG rfl (fun a hs => y_faddr (k' := 0) 0 hs (by kernel_rfl) rfl rfl) <| pG rfl (fun a hs => y_load hs Tryd.underlying37 rfl rfl (fun w hw => (hw.to 1 rfl).cellV rfl)) <| pG rfl (fun a hs => y_cmp hs rfl rfl rfl) <| pG rfl (fun a hs => y_move hs rfl) <| ?_); clear hs a; intro a hs
    rcases hs.know (d := 60) rfl with ⟨h60, hs1⟩ | ⟨h60, hs1⟩ <;> replace hs := hs1 <;> clear hs1
    · replace h60 := bne_iff_ne.1 h60
      refine go hs (pG rfl (fun a hs => y_faddr (k' := 15) 15 hs (by kernel_rfl) rfl rfl) <| pG rfl (fun a hs => y_load hs Tryd.underlying43 rfl rfl (fun w hw => (hw.to 1 rfl).cellV rfl)) <| pG rfl (fun a hs => y_cmp hs rfl rfl rfl) <| pG rfl (fun a hs => y_pickT hs rfl rfl rfl) <| pF rfl rfl <| pA rfl <| ?_); clear hs a; intro a hs
      refine wpList_nil (then_normal ?_)
      refine wp_cond_split (hs.ev rfl) (fun h39 => ?_) (fun h39 => ?_)
      · replace h39 := bne_iff_ne.1 h39
        refine wp_seq (wp_region_lit ?_)
        refine go hs (pA rfl <| ?_); clear hs a; intro a hs
        refine wpList_nil (then_normal (wp_ret (in_ret (then_ret ?_))))
        have hH : ¬ headI x := by
          rintro ⟨nm, v, sh, li, h1, n1, n2, n3, l1, l2, v1, s1⟩
          rw [hsp] at h1
          simp only [Option.some.injEq, Prod.mk.injEq] at h1
          obtain ⟨rfl, rfl, rfl, rfl⟩ := h1
          first | omega | (have := n2 rfl; omega) | (have := n3 (by omega); omega) | (have := l1 rfl; omega) | (have := l2 rfl; omega) | (rw [n1 rfl] at h47; cases h47; done) | (rw [v1 rfl] at h94; cases h94; done) | (rw [s1 rfl] at h85; cases h85; done)
        have hX : itemF x left = (false, left - 1) := by unfold itemF; rw [if_neg (by omega), if_neg hH]
        refine fin_ret hs (.tmp (hs.slots _ _ rfl) .nil) ⟨?_, ?_⟩
        · rw [hX]; first | rfl | simp [tell]
        rw [hX]; exact (hs.mem.to 1 rfl).drop
      replace h39 := bne_eq_false_iff_eq.1 h39
      refine wp_seq (wp_region_lit ?_)
      refine go hs (pM rfl <| pM rfl <| pS rfl <| pS rfl <| pS rfl <| pS rfl <| pS rfl <| pF rfl rfl <| pM rfl <| pG rfl (fun a hs => y_move hs rfl) <| pG rfl (fun a hs => y_not hs rfl) <| pG rfl (fun a hs => y_move hs rfl) <| pG rfl (fun a hs => y_faddr (k' := 16) 16 hs (by kernel_rfl) rfl rfl) <| pG rfl (fun a hs => y_load hs Tryd.underlying23 rfl rfl (fun w hw => (hw.to 1 rfl).cellV rfl)) <| pG rfl (fun a hs => y_lenL hs Tryd.underlying23 rfl) <| pG rfl (fun a hs => y_cmp hs rfl rfl rfl) <| pG rfl (fun a hs => y_pickT hs rfl rfl rfl) <| pF rfl rfl <| pA rfl <| ?_); clear hs a; intro a hs
      refine wpList_nil (then_normal ?_)
      refine wp_cond_split (hs.ev rfl) (fun h66 => ?_) (fun h66 => ?_)
      · replace h66 := of_decide_eq_true h66
        refine wp_seq (wp_region_lit ?_)
        refine go hs (pA rfl <| ?_); clear hs a; intro a hs
        refine wpList_nil (then_normal (wp_ret (in_ret (then_ret ?_))))
        have hH : ¬ headI x := by
          rintro ⟨nm, v, sh, li, h1, n1, n2, n3, l1, l2, v1, s1⟩
          rw [hsp] at h1
          simp only [Option.some.injEq, Prod.mk.injEq] at h1
          obtain ⟨rfl, rfl, rfl, rfl⟩ := h1
          first | omega | (have := n2 rfl; omega) | (have := n3 (by omega); omega) | (have := l1 rfl; omega) | (have := l2 rfl; omega) | (rw [n1 rfl] at h47; cases h47; done) | (rw [v1 rfl] at h94; cases h94; done) | (rw [s1 rfl] at h85; cases h85; done)
        have hX : itemF x left = (false, left - 1) := by unfold itemF; rw [if_neg (by omega), if_neg hH]
        refine fin_ret hs (.tmp (hs.slots _ _ rfl) .nil) ⟨?_, ?_⟩
        · rw [hX]; first | rfl | simp [tell]
        rw [hX]; exact (hs.mem.to 1 rfl).drop
      replace h66 := of_decide_eq_false h66
      refine wp_seq (wp_region_lit ?_)
      refine go hs (pM rfl <| pV rfl (fun a hs => y_not hs rfl) <| pM rfl <| pG rfl (fun a hs => y_faddr (k' := 2) 2 hs (by kernel_rfl) rfl rfl) <| pG rfl (fun a hs => y_loadAgg (vs := [.int .u8 x.f2.f0, .int .i64 x.f2.f1, .string x.f2.f2, .slice A5 x.f2.f3.length c5, .int .i64 x.f2.f4, .int .i64 x.f2.f5]) hs Tryd.underlying24 rfl (by kernel_rfl) rfl (fun w hw k v hk => ((hw.to 1 rfl).cell).trans (sub_at 6 rfl hk))) <| ?_); clear hs a; intro a hs
      refine a_effG hs rfl (e_callB Tryd.func82 rfl rfl hs rfl rfl (tree_noExpr x.f2 A5 c5 _) ?_); clear hs a; intro a w hs
      refine go hs (pG rfl (fun a hs => y_not hs rfl) <| pT rfl rfl <| pM rfl <| ?_); clear hs a; intro a hs
      rcases hs.know (d := 94) rfl with ⟨h94, hs1⟩ | ⟨h94, hs1⟩ <;> replace hs := hs1 <;> clear hs1
      · replace h94 := (not_t h94)
        refine go hs (pS rfl <| pS rfl <| pS rfl <| pS rfl <| pS rfl <| pS rfl <| pS rfl <| pS rfl <| pT rfl rfl <| pA rfl <| ?_); clear hs a; intro a hs
        refine wpList_nil (then_normal ?_)
        refine wp_cond_true (hs.ev rfl) ?_
        refine wp_seq (wp_region_lit ?_)
        refine go hs (pA rfl <| ?_); clear hs a; intro a hs
        refine wpList_nil (then_normal (wp_ret (in_ret (then_ret ?_))))
        have hH : ¬ headI x := by
          rintro ⟨nm, v, sh, li, h1, n1, n2, n3, l1, l2, v1, s1⟩
          rw [hsp] at h1
          simp only [Option.some.injEq, Prod.mk.injEq] at h1
          obtain ⟨rfl, rfl, rfl, rfl⟩ := h1
          first | omega | (have := n2 rfl; omega) | (have := n3 (by omega); omega) | (have := l1 rfl; omega) | (have := l2 rfl; omega) | (rw [n1 rfl] at h47; cases h47; done) | (rw [v1 rfl] at h94; cases h94; done) | (rw [s1 rfl] at h85; cases h85; done)
        have hX : itemF x left = (false, left - 1) := by unfold itemF; rw [if_neg (by omega), if_neg hH]
        refine fin_ret hs (.tmp (hs.slots _ _ rfl) .nil) ⟨?_, ?_⟩
        · rw [hX]; first | rfl | simp [tell]
        rw [hX]; exact (hs.mem.to 1 rfl).drop
      replace h94 := (not_f h94)
      refine go hs (pG rfl (fun a hs => y_move hs rfl) <| pG rfl (fun a hs => y_not hs rfl) <| pG rfl (fun a hs => y_move hs rfl) <| pG rfl (fun a hs => y_faddr (k' := 8) 8 hs (by kernel_rfl) rfl rfl) <| pG rfl (fun a hs => y_loadAgg (vs := [.int .u8 x.f3.f0, .string x.f3.f1, .slice A10 x.f3.f2.length c10, .slice A11 x.f3.f3.length c11, .slice A12 x.f3.f4.length c12, .int .i64 x.f3.f5, .int .i64 x.f3.f6]) hs Tryd.underlying41 rfl (by kernel_rfl) rfl (fun w hw k v hk => ((hw.to 1 rfl).cell).trans (sub_at 7 rfl hk))) <| ?_); clear hs a; intro a hs
      refine a_effG hs rfl (e_callB Tryd.func83 rfl rfl hs rfl rfl (tree_noShape x.f3 A10 A11 A12 c10 c11 c12 _) ?_); clear hs a; intro a w hs
      refine go hs (pG rfl (fun a hs => y_not hs rfl) <| pG rfl (fun a hs => y_pickT hs rfl rfl rfl) <| pF rfl rfl <| pA rfl <| ?_); clear hs a; intro a hs
      refine wpList_nil (then_normal ?_)
      refine wp_cond_split (hs.ev rfl) (fun h85 => ?_) (fun h85 => ?_)
      · replace h85 := (not_t h85)
        refine wp_seq (wp_region_lit ?_)
        refine go hs (pA rfl <| ?_); clear hs a; intro a hs
        refine wpList_nil (then_normal (wp_ret (in_ret (then_ret ?_))))
        have hH : ¬ headI x := by
          rintro ⟨nm, v, sh, li, h1, n1, n2, n3, l1, l2, v1, s1⟩
          rw [hsp] at h1
          simp only [Option.some.injEq, Prod.mk.injEq] at h1
          obtain ⟨rfl, rfl, rfl, rfl⟩ := h1
          first | omega | (have := n2 rfl; omega) | (have := n3 (by omega); omega) | (have := l1 rfl; omega) | (have := l2 rfl; omega) | (rw [n1 rfl] at h47; cases h47; done) | (rw [v1 rfl] at h94; cases h94; done) | (rw [s1 rfl] at h85; cases h85; done)
        have hX : itemF x left = (false, left - 1) := by unfold itemF; rw [if_neg (by omega), if_neg hH]
        refine fin_ret hs (.tmp (hs.slots _ _ rfl) .nil) ⟨?_, ?_⟩
        · rw [hX]; first | rfl | simp [tell]
        rw [hX]; exact (hs.mem.to 1 rfl).drop
      replace h85 := (not_f h85)
      refine wp_skip (in_normal (then_normal (wp_seq ?_)))
      have hH : headI x := ⟨_, _, _, _, hsp, (fun _ => h47), (fun h => by cases h), (fun h5 => by omega), (fun h => by cases h), (fun _ => by omega), (fun _ => h94), (fun _ => h85)⟩
      obtain ⟨RR1, hRR⟩ : ∃ RR1 : Bool × Int, RR1 = (true, left - 1) := ⟨_, rfl⟩
      have hV : valI x (left - 1) = RR1 := by unfold valI; rw [if_neg (show ¬ hasV x by unfold hasV; omega), hRR]
      have hV1 : RR1.1 = true := by rw [hRR]
      have hb1 : 0 ≤ RR1.2 ∧ RR1.2 ≤ 8192 := by rw [hRR]; exact ⟨by show 0 ≤ left - 1; omega, by show left - 1 ≤ 8192; omega⟩
      rw [show left - 1 = RR1.2 by rw [hRR]] at hs
      refine wp_region_lit (go hs (pM rfl <| pV rfl (fun a hs => y_not hs rfl) <| pM rfl <| pS rfl <| pS rfl <| pS rfl <| pS rfl <| pS rfl <| pT rfl rfl <| pM rfl <| pG rfl (fun a hs => y_move hs rfl) <| pG rfl (fun a hs => y_not hs rfl) <| pG rfl (fun a hs => y_move hs rfl) <| pS rfl <| pS rfl <| pS rfl <| pS rfl <| pG rfl (fun a hs => y_pickT hs rfl rfl rfl) <| pT rfl rfl <| pM rfl <| pG rfl (fun a hs => y_move hs rfl) <| pG rfl (fun a hs => y_faddr (k' := 16) 16 hs (by kernel_rfl) rfl rfl) <| pG rfl (fun a hs => y_load hs Tryd.underlying23 rfl rfl (fun w hw => (hw.to 1 rfl).cellV rfl)) <| ?_)); clear hs a; intro a hs
      obtain ⟨RR2, hRR2⟩ : ∃ RR2 : Bool × Int, RR2 = (true, RR1.2) := ⟨_, rfl⟩
      have hS : shI x RR1.2 = RR2 := by unfold shI; rw [if_neg (by omega), hRR2]
      have hS1 : RR2.1 = true := by rw [hRR2]
      have hb2 : 0 ≤ RR2.2 ∧ RR2.2 ≤ 8192 := by rw [hRR2]; exact hb1
      rw [show RR1.2 = RR2.2 by rw [hRR2]] at hs
      refine a_effG hs rfl (e_callX Tryd.func77 rfl rfl hs rfl rfl (walk_exprs g A16 c16 x.f5 RR2.2 _ w0 _ hA16 hsm.2.2.2 hb2 hs.mem) (fun e w1 ⟨he, hm⟩ => ⟨_, he, _, hm, ?_⟩)); clear hs a; intro a hs
      refine go hs (pT rfl rfl <| pA rfl <| ?_); clear hs a; intro a hs
      refine wpList_nil (then_normal (wp_ret ?_))
      have hX : itemF x left = xlist stE x.f5 RR2.2 := by unfold itemF; rw [if_neg (by omega), if_pos hH, hV, if_pos hV1, hS, if_pos hS1]
      refine fin_ret hs (.tmp (hs.slots _ _ rfl) .nil) ⟨?_, ?_⟩
      · rw [hX]; first | rfl | simp [tell]
      rw [hX]; exact (hs.mem.to 1 rfl).drop
    replace h60 := bne_eq_false_iff_eq.1 h60
    refine go hs (pS rfl <| pS rfl <| pS rfl <| pG rfl (fun a hs => y_pickF hs rfl rfl rfl) <| pF rfl rfl <| pA rfl <| ?_); clear hs a; intro a hs
    refine wpList_nil (then_normal ?_)
    refine wp_cond_false (hs.ev rfl) ?_
    refine wp_seq (wp_region_lit ?_)
    refine go hs (pM rfl <| pM rfl <| pS rfl <| pS rfl <| pS rfl <| pS rfl <| pS rfl <| pF rfl rfl <| pM rfl <| pG rfl (fun a hs => y_move hs rfl) <| pG rfl (fun a hs => y_not hs rfl) <| pG rfl (fun a hs => y_move hs rfl) <| pG rfl (fun a hs => y_faddr (k' := 16) 16 hs (by kernel_rfl) rfl rfl) <| pG rfl (fun a hs => y_load hs Tryd.underlying23 rfl rfl (fun w hw => (hw.to 1 rfl).cellV rfl)) <| pG rfl (fun a hs => y_lenL hs Tryd.underlying23 rfl) <| pG rfl (fun a hs => y_cmp hs rfl rfl rfl) <| pG rfl (fun a hs => y_pickT hs rfl rfl rfl) <| pF rfl rfl <| pA rfl <| ?_); clear hs a; intro a hs
    refine wpList_nil (then_normal ?_)
    refine wp_cond_split (hs.ev rfl) (fun h66 => ?_) (fun h66 => ?_)
    · replace h66 := of_decide_eq_true h66
      refine wp_seq (wp_region_lit ?_)
      refine go hs (pA rfl <| ?_); clear hs a; intro a hs
      refine wpList_nil (then_normal (wp_ret (in_ret (then_ret ?_))))
      have hH : ¬ headI x := by
        rintro ⟨nm, v, sh, li, h1, n1, n2, n3, l1, l2, v1, s1⟩
        rw [hsp] at h1
        simp only [Option.some.injEq, Prod.mk.injEq] at h1
        obtain ⟨rfl, rfl, rfl, rfl⟩ := h1
        first | omega | (have := n2 rfl; omega) | (have := n3 (by omega); omega) | (have := l1 rfl; omega) | (have := l2 rfl; omega) | (rw [n1 rfl] at h47; cases h47; done) | (rw [v1 rfl] at h94; cases h94; done) | (rw [s1 rfl] at h85; cases h85; done)
      have hX : itemF x left = (false, left - 1) := by unfold itemF; rw [if_neg (by omega), if_neg hH]
      refine fin_ret hs (.tmp (hs.slots _ _ rfl) .nil) ⟨?_, ?_⟩
      · rw [hX]; first | rfl | simp [tell]
      rw [hX]; exact (hs.mem.to 1 rfl).drop
    replace h66 := of_decide_eq_false h66
    refine wp_seq (wp_region_lit ?_)
    refine go hs (pM rfl <| pV rfl (fun a hs => y_not hs rfl) <| pM rfl <| pG rfl (fun a hs => y_faddr (k' := 2) 2 hs (by kernel_rfl) rfl rfl) <| pG rfl (fun a hs => y_loadAgg (vs := [.int .u8 x.f2.f0, .int .i64 x.f2.f1, .string x.f2.f2, .slice A5 x.f2.f3.length c5, .int .i64 x.f2.f4, .int .i64 x.f2.f5]) hs Tryd.underlying24 rfl (by kernel_rfl) rfl (fun w hw k v hk => ((hw.to 1 rfl).cell).trans (sub_at 6 rfl hk))) <| ?_); clear hs a; intro a hs
    refine a_effG hs rfl (e_callB Tryd.func82 rfl rfl hs rfl rfl (tree_noExpr x.f2 A5 c5 _) ?_); clear hs a; intro a w hs
    refine go hs (pG rfl (fun a hs => y_not hs rfl) <| pT rfl rfl <| pM rfl <| ?_); clear hs a; intro a hs
    rcases hs.know (d := 94) rfl with ⟨h94, hs1⟩ | ⟨h94, hs1⟩ <;> replace hs := hs1 <;> clear hs1
    · replace h94 := (not_t h94)
      refine go hs (pS rfl <| pS rfl <| pS rfl <| pS rfl <| pS rfl <| pS rfl <| pS rfl <| pS rfl <| pT rfl rfl <| pA rfl <| ?_); clear hs a; intro a hs
      refine wpList_nil (then_normal ?_)
      refine wp_cond_true (hs.ev rfl) ?_
      refine wp_seq (wp_region_lit ?_)
      refine go hs (pA rfl <| ?_); clear hs a; intro a hs
      refine wpList_nil (then_normal (wp_ret (in_ret (then_ret ?_))))
      have hH : ¬ headI x := by
        rintro ⟨nm, v, sh, li, h1, n1, n2, n3, l1, l2, v1, s1⟩
        rw [hsp] at h1
        simp only [Option.some.injEq, Prod.mk.injEq] at h1
        obtain ⟨rfl, rfl, rfl, rfl⟩ := h1
        first | omega | (have := n2 rfl; omega) | (have := n3 (by omega); omega) | (have := l1 rfl; omega) | (have := l2 rfl; omega) | (rw [n1 rfl] at h47; cases h47; done) | (rw [v1 rfl] at h94; cases h94; done) | (rw [s1 rfl] at h85; cases h85; done)
      have hX : itemF x left = (false, left - 1) := by unfold itemF; rw [if_neg (by omega), if_neg hH]
      refine fin_ret hs (.tmp (hs.slots _ _ rfl) .nil) ⟨?_, ?_⟩
      · rw [hX]; first | rfl | simp [tell]
      rw [hX]; exact (hs.mem.to 1 rfl).drop
    replace h94 := (not_f h94)
    refine go hs (pG rfl (fun a hs => y_move hs rfl) <| pG rfl (fun a hs => y_not hs rfl) <| pG rfl (fun a hs => y_move hs rfl) <| pG rfl (fun a hs => y_faddr (k' := 8) 8 hs (by kernel_rfl) rfl rfl) <| pG rfl (fun a hs => y_loadAgg (vs := [.int .u8 x.f3.f0, .string x.f3.f1, .slice A10 x.f3.f2.length c10, .slice A11 x.f3.f3.length c11, .slice A12 x.f3.f4.length c12, .int .i64 x.f3.f5, .int .i64 x.f3.f6]) hs Tryd.underlying41 rfl (by kernel_rfl) rfl (fun w hw k v hk => ((hw.to 1 rfl).cell).trans (sub_at 7 rfl hk))) <| ?_); clear hs a; intro a hs
    refine a_effG hs rfl (e_callB Tryd.func83 rfl rfl hs rfl rfl (tree_noShape x.f3 A10 A11 A12 c10 c11 c12 _) ?_); clear hs a; intro a w hs
    refine go hs (pG rfl (fun a hs => y_not hs rfl) <| pG rfl (fun a hs => y_pickT hs rfl rfl rfl) <| pF rfl rfl <| pA rfl <| ?_); clear hs a; intro a hs
    refine wpList_nil (then_normal ?_)
    refine wp_cond_split (hs.ev rfl) (fun h85 => ?_) (fun h85 => ?_)
    · replace h85 := (not_t h85)
      refine wp_seq (wp_region_lit ?_)
      refine go hs (pA rfl <| ?_); clear hs a; intro a hs
      refine wpList_nil (then_normal (wp_ret (in_ret (then_ret ?_))))
      have hH : ¬ headI x := by
        rintro ⟨nm, v, sh, li, h1, n1, n2, n3, l1, l2, v1, s1⟩
        rw [hsp] at h1
        simp only [Option.some.injEq, Prod.mk.injEq] at h1
        obtain ⟨rfl, rfl, rfl, rfl⟩ := h1
        first | omega | (have := n2 rfl; omega) | (have := n3 (by omega); omega) | (have := l1 rfl; omega) | (have := l2 rfl; omega) | (rw [n1 rfl] at h47; cases h47; done) | (rw [v1 rfl] at h94; cases h94; done) | (rw [s1 rfl] at h85; cases h85; done)
      have hX : itemF x left = (false, left - 1) := by unfold itemF; rw [if_neg (by omega), if_neg hH]
      refine fin_ret hs (.tmp (hs.slots _ _ rfl) .nil) ⟨?_, ?_⟩
      · rw [hX]; first | rfl | simp [tell]
      rw [hX]; exact (hs.mem.to 1 rfl).drop
    replace h85 := (not_f h85)
    refine wp_skip (in_normal (then_normal (wp_seq ?_)))
    have hH : headI x := ⟨_, _, _, _, hsp, (fun _ => h47), (fun h => by cases h), (fun h5 => by omega), (fun h => by cases h), (fun _ => by omega), (fun _ => h94), (fun _ => h85)⟩
    obtain ⟨RR1, hRR⟩ : ∃ RR1 : Bool × Int, RR1 = (true, left - 1) := ⟨_, rfl⟩
    have hV : valI x (left - 1) = RR1 := by unfold valI; rw [if_neg (show ¬ hasV x by unfold hasV; omega), hRR]
    have hV1 : RR1.1 = true := by rw [hRR]
    have hb1 : 0 ≤ RR1.2 ∧ RR1.2 ≤ 8192 := by rw [hRR]; exact ⟨by show 0 ≤ left - 1; omega, by show left - 1 ≤ 8192; omega⟩
    rw [show left - 1 = RR1.2 by rw [hRR]] at hs
    refine wp_region_lit (go hs (pM rfl <| pV rfl (fun a hs => y_not hs rfl) <| pM rfl <| pS rfl <| pS rfl <| pS rfl <| pS rfl <| pS rfl <| pT rfl rfl <| pM rfl <| pG rfl (fun a hs => y_move hs rfl) <| pG rfl (fun a hs => y_not hs rfl) <| pG rfl (fun a hs => y_move hs rfl) <| pS rfl <| pS rfl <| pS rfl <| pS rfl <| pG rfl (fun a hs => y_pickT hs rfl rfl rfl) <| pT rfl rfl <| pM rfl <| pG rfl (fun a hs => y_move hs rfl) <| pG rfl (fun a hs => y_faddr (k' := 16) 16 hs (by kernel_rfl) rfl rfl) <| pG rfl (fun a hs => y_load hs Tryd.underlying23 rfl rfl (fun w hw => (hw.to 1 rfl).cellV rfl)) <| ?_)); clear hs a; intro a hs
    obtain ⟨RR2, hRR2⟩ : ∃ RR2 : Bool × Int, RR2 = (true, RR1.2) := ⟨_, rfl⟩
    have hS : shI x RR1.2 = RR2 := by unfold shI; rw [if_neg (by omega), hRR2]
    have hS1 : RR2.1 = true := by rw [hRR2]
    have hb2 : 0 ≤ RR2.2 ∧ RR2.2 ≤ 8192 := by rw [hRR2]; exact hb1
    rw [show RR1.2 = RR2.2 by rw [hRR2]] at hs
    refine a_effG hs rfl (e_callX Tryd.func77 rfl rfl hs rfl rfl (walk_exprs g A16 c16 x.f5 RR2.2 _ w0 _ hA16 hsm.2.2.2 hb2 hs.mem) (fun e w1 ⟨he, hm⟩ => ⟨_, he, _, hm, ?_⟩)); clear hs a; intro a hs
    refine go hs (pT rfl rfl <| pA rfl <| ?_); clear hs a; intro a hs
    refine wpList_nil (then_normal (wp_ret ?_))
    have hX : itemF x left = xlist stE x.f5 RR2.2 := by unfold itemF; rw [if_neg (by omega), if_pos hH, hV, if_pos hV1, hS, if_pos hS1]
    refine fin_ret hs (.tmp (hs.slots _ _ rfl) .nil) ⟨?_, ?_⟩
    · rw [hX]; first | rfl | simp [tell]
    rw [hX]; exact (hs.mem.to 1 rfl).drop
  · refine wp_region_lit (go hs (pM rfl <| pM rfl <| pG rfl (fun a hs => y_faddr (k' := 1) 1 hs (by kernel_rfl) rfl rfl) <| pG rfl (fun a hs => y_load hs Tryd.underlying9 rfl rfl (fun w hw => (hw.to 1 rfl).cellV rfl)) <| ?_)); clear hs a; intro a hs
    refine a_effG hs rfl (e_callB Tryd.func75 rfl rfl hs rfl rfl (tree_named.calls _ x.f1 (nameOk x.f1) _ (tnamed_ok x.f1 hsm.1)) ?_); clear hs a; intro a w hs
    refine go hs (pG rfl (fun a hs => y_not hs rfl) <| pT rfl rfl <| pM rfl <| ?_); clear hs a; intro a hs
    rcases hs.know (d := 47) rfl with ⟨h47, hs1⟩ | ⟨h47, hs1⟩ <;> replace hs := hs1 <;> clear hs1
    · replace h47 := (not_t h47)
      refine go hs (pS rfl <| pS rfl <| pS rfl <| pS rfl <| pS rfl <| pS rfl <| pS rfl <| pT rfl rfl <| pM rfl <| pS rfl <| pS rfl <| pS rfl <| pS rfl <| pS rfl <| pS rfl <| pS rfl <| pS rfl <| pT rfl rfl <| pA rfl <| ?_); clear hs a; intro a hs
      refine wpList_nil (then_normal ?_)
      refine wp_cond_true (hs.ev rfl) ?_
      refine wp_seq (wp_region_lit ?_)
      refine go hs (pA rfl <| ?_); clear hs a; intro a hs
      refine wpList_nil (then_normal (wp_ret (in_ret (then_ret ?_))))
      have hH : ¬ headI x := by
        rintro ⟨nm, v, sh, li, h1, n1, n2, n3, l1, l2, v1, s1⟩
        rw [hsp] at h1
        simp only [Option.some.injEq, Prod.mk.injEq] at h1
        obtain ⟨rfl, rfl, rfl, rfl⟩ := h1
        first | omega | (have := n2 rfl; omega) | (have := n3 (by omega); omega) | (have := l1 rfl; omega) | (have := l2 rfl; omega) | (rw [n1 rfl] at h47; cases h47; done) | (rw [v1 rfl] at h94; cases h94; done) | (rw [s1 rfl] at h85; cases h85; done)
      have hX : itemF x left = (false, left - 1) := by unfold itemF; rw [if_neg (by omega), if_neg hH]
      refine fin_ret hs (.tmp (hs.slots _ _ rfl) .nil) ⟨?_, ?_⟩
      · rw [hX]; first | rfl | simp [tell]
      rw [hX]; exact (hs.mem.to 1 rfl).drop
    replace h47 := (not_f h47)
    refine go hs (pG rfl (fun a hs => y_move hs rfl) <| pG rfl (fun a hs => y_not hs rfl) <| pG rfl (fun a hs => y_move hs rfl) <| pS rfl <| pS rfl <| pS rfl <| pG rfl (fun a hs => y_pickF hs rfl rfl rfl) <| pF rfl rfl <| pM rfl <| pG rfl (fun a hs => y_faddr (k' := 0) 0 hs (by kernel_rfl) rfl rfl) <| pG rfl (fun a hs => y_load hs Tryd.underlying37 rfl rfl (fun w hw => (hw.to 1 rfl).cellV rfl)) <| pG rfl (fun a hs => y_cmp hs rfl rfl rfl) <| pG rfl (fun a hs => y_move hs rfl) <| ?_); clear hs a; intro a hs
    rcases hs.know (d := 60) rfl with ⟨h60, hs1⟩ | ⟨h60, hs1⟩ <;> replace hs := hs1 <;> clear hs1
    · replace h60 := bne_iff_ne.1 h60
      refine go hs (pG rfl (fun a hs => y_faddr (k' := 15) 15 hs (by kernel_rfl) rfl rfl) <| pG rfl (fun a hs => y_load hs Tryd.underlying43 rfl rfl (fun w hw => (hw.to 1 rfl).cellV rfl)) <| pG rfl (fun a hs => y_cmp hs rfl rfl rfl) <| pG rfl (fun a hs => y_pickT hs rfl rfl rfl) <| pF rfl rfl <| pA rfl <| ?_); clear hs a; intro a hs
      refine wpList_nil (then_normal ?_)
      refine wp_cond_split (hs.ev rfl) (fun h39 => ?_) (fun h39 => ?_)
      · replace h39 := bne_iff_ne.1 h39
        refine wp_seq (wp_region_lit ?_)
        refine go hs (pA rfl <| ?_); clear hs a; intro a hs
        refine wpList_nil (then_normal (wp_ret (in_ret (then_ret ?_))))
        have hH : ¬ headI x := by
          rintro ⟨nm, v, sh, li, h1, n1, n2, n3, l1, l2, v1, s1⟩
          rw [hsp] at h1
          simp only [Option.some.injEq, Prod.mk.injEq] at h1
          obtain ⟨rfl, rfl, rfl, rfl⟩ := h1
          first | omega | (have := n2 rfl; omega) | (have := n3 (by omega); omega) | (have := l1 rfl; omega) | (have := l2 rfl; omega) | (rw [n1 rfl] at h47; cases h47; done) | (rw [v1 rfl] at h94; cases h94; done) | (rw [s1 rfl] at h85; cases h85; done)
        have hX : itemF x left = (false, left - 1) := by unfold itemF; rw [if_neg (by omega), if_neg hH]
        refine fin_ret hs (.tmp (hs.slots _ _ rfl) .nil) ⟨?_, ?_⟩
        · rw [hX]; first | rfl | simp [tell]
        rw [hX]; exact (hs.mem.to 1 rfl).drop
      replace h39 := bne_eq_false_iff_eq.1 h39
      refine wp_seq (wp_region_lit ?_)
      refine go hs (pM rfl <| pM rfl <| pS rfl <| pS rfl <| pS rfl <| pS rfl <| pS rfl <| pF rfl rfl <| pM rfl <| pG rfl (fun a hs => y_move hs rfl) <| pG rfl (fun a hs => y_not hs rfl) <| pG rfl (fun a hs => y_move hs rfl) <| pG rfl (fun a hs => y_faddr (k' := 16) 16 hs (by kernel_rfl) rfl rfl) <| pG rfl (fun a hs => y_load hs Tryd.underlying23 rfl rfl (fun w hw => (hw.to 1 rfl).cellV rfl)) <| pG rfl (fun a hs => y_lenL hs Tryd.underlying23 rfl) <| pG rfl (fun a hs => y_cmp hs rfl rfl rfl) <| pG rfl (fun a hs => y_pickT hs rfl rfl rfl) <| pF rfl rfl <| pA rfl <| ?_); clear hs a; intro a hs
      refine wpList_nil (then_normal ?_)
      refine wp_cond_split (hs.ev rfl) (fun h66 => ?_) (fun h66 => ?_)
      · replace h66 := of_decide_eq_true h66
        refine wp_seq (wp_region_lit ?_)
        refine go hs (pA rfl <| ?_); clear hs a; intro a hs
        refine wpList_nil (then_normal (wp_ret (in_ret (then_ret ?_))))
        have hH : ¬ headI x := by
          rintro ⟨nm, v, sh, li, h1, n1, n2, n3, l1, l2, v1, s1⟩
          rw [hsp] at h1
          simp only [Option.some.injEq, Prod.mk.injEq] at h1
          obtain ⟨rfl, rfl, rfl, rfl⟩ := h1
          first | omega | (have := n2 rfl; omega) | (have := n3 (by omega); omega) | (have := l1 rfl; omega) | (have := l2 rfl; omega) | (rw [n1 rfl] at h47; cases h47; done) | (rw [v1 rfl] at h94; cases h94; done) | (rw [s1 rfl] at h85; cases h85; done)
        have hX : itemF x left = (false, left - 1) := by unfold itemF; rw [if_neg (by omega), if_neg hH]
        refine fin_ret hs (.tmp (hs.slots _ _ rfl) .nil) ⟨?_, ?_⟩
        · rw [hX]; first | rfl | simp [tell]
        rw [hX]; exact (hs.mem.to 1 rfl).drop
      replace h66 := of_decide_eq_false h66
      refine wp_seq (wp_region_lit ?_)
      refine go hs (pM rfl <| pV rfl (fun a hs => y_not hs rfl) <| pM rfl <| pG rfl (fun a hs => y_faddr (k' := 2) 2 hs (by kernel_rfl) rfl rfl) <| pG rfl (fun a hs => y_loadAgg (vs := [.int .u8 x.f2.f0, .int .i64 x.f2.f1, .string x.f2.f2, .slice A5 x.f2.f3.length c5, .int .i64 x.f2.f4, .int .i64 x.f2.f5]) hs Tryd.underlying24 rfl (by kernel_rfl) rfl (fun w hw k v hk => ((hw.to 1 rfl).cell).trans (sub_at 6 rfl hk))) <| ?_); clear hs a; intro a hs
      refine a_effG hs rfl (e_callB Tryd.func82 rfl rfl hs rfl rfl (tree_noExpr x.f2 A5 c5 _) ?_); clear hs a; intro a w hs
      refine go hs (pG rfl (fun a hs => y_not hs rfl) <| pT rfl rfl <| pM rfl <| ?_); clear hs a; intro a hs
      rcases hs.know (d := 94) rfl with ⟨h94, hs1⟩ | ⟨h94, hs1⟩ <;> replace hs := hs1 <;> clear hs1
      · replace h94 := (not_t h94)
        refine go hs (pS rfl <| pS rfl <| pS rfl <| pS rfl <| pS rfl <| pS rfl <| pS rfl <| pS rfl <| pT rfl rfl <| pA rfl <| ?_); clear hs a; intro a hs
        refine wpList_nil (then_normal ?_)
        refine wp_cond_true (hs.ev rfl) ?_
        refine wp_seq (wp_region_lit ?_)
        refine go hs (pA rfl <| ?_); clear hs a; intro a hs
        refine wpList_nil (then_normal (wp_ret (in_ret (then_ret ?_))))
        have hH : ¬ headI x := by
          rintro ⟨nm, v, sh, li, h1, n1, n2, n3, l1, l2, v1, s1⟩
          rw [hsp] at h1
          simp only [Option.some.injEq, Prod.mk.injEq] at h1
          obtain ⟨rfl, rfl, rfl, rfl⟩ := h1
          first | omega | (have := n2 rfl; omega) | (have := n3 (by omega); omega) | (have := l1 rfl; omega) | (have := l2 rfl; omega) | (rw [n1 rfl] at h47; cases h47; done) | (rw [v1 rfl] at h94; cases h94; done) | (rw [s1 rfl] at h85; cases h85; done)
        have hX : itemF x left = (false, left - 1) := by unfold itemF; rw [if_neg (by omega), if_neg hH]
        refine fin_ret hs (.tmp (hs.slots _ _ rfl) .nil) ⟨?_, ?_⟩
        · rw [hX]; first | rfl | simp [tell]
        rw [hX]; exact (hs.mem.to 1 rfl).drop
      replace h94 := (not_f h94)
      refine go hs (pG rfl (fun a hs => y_move hs rfl) <| pG rfl (fun a hs => y_not hs rfl) <| pG rfl (fun a hs => y_move hs rfl) <| pS rfl <| pS rfl <| pS rfl <| pS rfl <| pG rfl (fun a hs => y_pickF hs rfl rfl rfl) <| pF rfl rfl <| pA rfl <| ?_); clear hs a; intro a hs
      refine wpList_nil (then_normal ?_)
      refine wp_cond_false (hs.ev rfl) ?_
      refine wp_skip (in_normal (then_normal (wp_seq ?_)))
      have hH : headI x := ⟨_, _, _, _, hsp, (fun _ => h47), (fun h => by cases h), (fun h5 => by omega), (fun h => by cases h), (fun _ => by omega), (fun _ => h94), (fun h => by cases h)⟩
      obtain ⟨RR1, hRR⟩ : ∃ RR1 : Bool × Int, RR1 = (true, left - 1) := ⟨_, rfl⟩
      have hV : valI x (left - 1) = RR1 := by unfold valI; rw [if_neg (show ¬ hasV x by unfold hasV; omega), hRR]
      have hV1 : RR1.1 = true := by rw [hRR]
      have hb1 : 0 ≤ RR1.2 ∧ RR1.2 ≤ 8192 := by rw [hRR]; exact ⟨by show 0 ≤ left - 1; omega, by show left - 1 ≤ 8192; omega⟩
      rw [show left - 1 = RR1.2 by rw [hRR]] at hs
      refine wp_region_lit (go hs (pM rfl <| pV rfl (fun a hs => y_not hs rfl) <| pM rfl <| pS rfl <| pS rfl <| pS rfl <| pS rfl <| pS rfl <| pT rfl rfl <| pM rfl <| pG rfl (fun a hs => y_move hs rfl) <| pG rfl (fun a hs => y_not hs rfl) <| pG rfl (fun a hs => y_move hs rfl) <| pG rfl (fun a hs => y_move hs rfl) <| pG rfl (fun a hs => y_faddr (k' := 8) 8 hs (by kernel_rfl) rfl rfl) <| pG rfl (fun a hs => y_loadAgg (vs := [.int .u8 x.f3.f0, .string x.f3.f1, .slice A10 x.f3.f2.length c10, .slice A11 x.f3.f3.length c11, .slice A12 x.f3.f4.length c12, .int .i64 x.f3.f5, .int .i64 x.f3.f6]) hs Tryd.underlying41 rfl (by kernel_rfl) rfl (fun w hw k v hk => ((hw.to 1 rfl).cell).trans (sub_at 7 rfl hk))) <| ?_)); clear hs a; intro a hs
      refine a_effG hs rfl (e_callX Tryd.func45 rfl rfl hs rfl rfl (walk_shape 16 (by decide) x.f3 A10 A11 A12 c10 c11 c12 g RR1.2 _ w0 _ hA10 hA11 hA12 hsm.2.2.1 hb1 hs.mem) (fun e w1 ⟨he, hm⟩ => ⟨_, he, _, hm, ?_⟩)); clear hs a; intro a hs
      refine go hs (pG rfl (fun a hs => y_pickF hs rfl rfl rfl) <| pT rfl rfl <| pM rfl <| ?_); clear hs a; intro a hs
      rcases hs.know (d := 123) rfl with ⟨h123, hs1⟩ | ⟨h123, hs1⟩ <;> replace hs := hs1 <;> clear hs1
      · obtain ⟨RR2, hRR2⟩ : ∃ RR2, RR2 = xshape 16 x.f3 RR1.2 := ⟨_, rfl⟩
        have hS : shI x RR1.2 = RR2 := by unfold shI; rw [if_pos (by omega), hRR2]
        have hS1 : RR2.1 = true := by rw [hRR2]; exact h123
        have hsf := xshape_falls 16 x.f3 RR1.2 hb1.1
        rw [← hRR2] at hsf
        have hb2 : 0 ≤ RR2.2 ∧ RR2.2 ≤ 8192 := ⟨hsf.2.2 hS1, by have := hsf.2.1; omega⟩
        rw [show (xshape 16 x.f3 RR1.2).2 = RR2.2 by rw [hRR2]] at hs
        refine go hs (pG rfl (fun a hs => y_move hs rfl) <| pG rfl (fun a hs => y_faddr (k' := 16) 16 hs (by kernel_rfl) rfl rfl) <| pG rfl (fun a hs => y_load hs Tryd.underlying23 rfl rfl (fun w hw => (hw.to 1 rfl).cellV rfl)) <| ?_); clear hs a; intro a hs
        refine a_effG hs rfl (e_callX Tryd.func77 rfl rfl hs rfl rfl (walk_exprs g A16 c16 x.f5 RR2.2 _ w0 _ hA16 hsm.2.2.2 hb2 hs.mem) (fun e w1 ⟨he, hm⟩ => ⟨_, he, _, hm, ?_⟩)); clear hs a; intro a hs
        refine go hs (pT rfl rfl <| pA rfl <| ?_); clear hs a; intro a hs
        refine wpList_nil (then_normal (wp_ret ?_))
        have hX : itemF x left = xlist stE x.f5 RR2.2 := by unfold itemF; rw [if_neg (by omega), if_pos hH, hV, if_pos hV1, hS, if_pos hS1]
        refine fin_ret hs (.tmp (hs.slots _ _ rfl) .nil) ⟨?_, ?_⟩
        · rw [hX]; first | rfl | simp [tell]
        rw [hX]; exact (hs.mem.to 1 rfl).drop
      refine go hs (pS rfl <| pS rfl <| pS rfl <| pS rfl <| pF rfl rfl <| pA rfl <| ?_); clear hs a; intro a hs
      refine wpList_nil (then_normal (wp_ret ?_))
      have hS : shI x RR1.2 = xshape 16 x.f3 RR1.2 := by unfold shI; rw [if_pos (by omega)]
      have hX : itemF x left = (false, (xshape 16 x.f3 RR1.2).2) := by unfold itemF; rw [if_neg (by omega), if_pos hH, hV, if_pos hV1, hS, if_neg (by rw [h123]; exact Bool.false_ne_true), ← h123]
      refine fin_ret hs (.tmp (hs.slots _ _ rfl) .nil) ⟨?_, ?_⟩
      · rw [hX]; first | rfl | simp [tell]
      rw [hX]; exact (hs.mem.to 1 rfl).drop
    replace h60 := bne_eq_false_iff_eq.1 h60
    refine go hs (pS rfl <| pS rfl <| pS rfl <| pG rfl (fun a hs => y_pickF hs rfl rfl rfl) <| pF rfl rfl <| pA rfl <| ?_); clear hs a; intro a hs
    refine wpList_nil (then_normal ?_)
    refine wp_cond_false (hs.ev rfl) ?_
    refine wp_seq (wp_region_lit ?_)
    refine go hs (pM rfl <| pM rfl <| pS rfl <| pS rfl <| pS rfl <| pS rfl <| pS rfl <| pF rfl rfl <| pM rfl <| pG rfl (fun a hs => y_move hs rfl) <| pG rfl (fun a hs => y_not hs rfl) <| pG rfl (fun a hs => y_move hs rfl) <| pG rfl (fun a hs => y_faddr (k' := 16) 16 hs (by kernel_rfl) rfl rfl) <| pG rfl (fun a hs => y_load hs Tryd.underlying23 rfl rfl (fun w hw => (hw.to 1 rfl).cellV rfl)) <| pG rfl (fun a hs => y_lenL hs Tryd.underlying23 rfl) <| pG rfl (fun a hs => y_cmp hs rfl rfl rfl) <| pG rfl (fun a hs => y_pickT hs rfl rfl rfl) <| pF rfl rfl <| pA rfl <| ?_); clear hs a; intro a hs
    refine wpList_nil (then_normal ?_)
    refine wp_cond_split (hs.ev rfl) (fun h66 => ?_) (fun h66 => ?_)
    · replace h66 := of_decide_eq_true h66
      refine wp_seq (wp_region_lit ?_)
      refine go hs (pA rfl <| ?_); clear hs a; intro a hs
      refine wpList_nil (then_normal (wp_ret (in_ret (then_ret ?_))))
      have hH : ¬ headI x := by
        rintro ⟨nm, v, sh, li, h1, n1, n2, n3, l1, l2, v1, s1⟩
        rw [hsp] at h1
        simp only [Option.some.injEq, Prod.mk.injEq] at h1
        obtain ⟨rfl, rfl, rfl, rfl⟩ := h1
        first | omega | (have := n2 rfl; omega) | (have := n3 (by omega); omega) | (have := l1 rfl; omega) | (have := l2 rfl; omega) | (rw [n1 rfl] at h47; cases h47; done) | (rw [v1 rfl] at h94; cases h94; done) | (rw [s1 rfl] at h85; cases h85; done)
      have hX : itemF x left = (false, left - 1) := by unfold itemF; rw [if_neg (by omega), if_neg hH]
      refine fin_ret hs (.tmp (hs.slots _ _ rfl) .nil) ⟨?_, ?_⟩
      · rw [hX]; first | rfl | simp [tell]
      rw [hX]; exact (hs.mem.to 1 rfl).drop
    replace h66 := of_decide_eq_false h66
    refine wp_seq (wp_region_lit ?_)
    refine go hs (pM rfl <| pV rfl (fun a hs => y_not hs rfl) <| pM rfl <| pG rfl (fun a hs => y_faddr (k' := 2) 2 hs (by kernel_rfl) rfl rfl) <| pG rfl (fun a hs => y_loadAgg (vs := [.int .u8 x.f2.f0, .int .i64 x.f2.f1, .string x.f2.f2, .slice A5 x.f2.f3.length c5, .int .i64 x.f2.f4, .int .i64 x.f2.f5]) hs Tryd.underlying24 rfl (by kernel_rfl) rfl (fun w hw k v hk => ((hw.to 1 rfl).cell).trans (sub_at 6 rfl hk))) <| ?_); clear hs a; intro a hs
    refine a_effG hs rfl (e_callB Tryd.func82 rfl rfl hs rfl rfl (tree_noExpr x.f2 A5 c5 _) ?_); clear hs a; intro a w hs
    refine go hs (pG rfl (fun a hs => y_not hs rfl) <| pT rfl rfl <| pM rfl <| ?_); clear hs a; intro a hs
    rcases hs.know (d := 94) rfl with ⟨h94, hs1⟩ | ⟨h94, hs1⟩ <;> replace hs := hs1 <;> clear hs1
    · replace h94 := (not_t h94)
      refine go hs (pS rfl <| pS rfl <| pS rfl <| pS rfl <| pS rfl <| pS rfl <| pS rfl <| pS rfl <| pT rfl rfl <| pA rfl <| ?_); clear hs a; intro a hs
      refine wpList_nil (then_normal ?_)
      refine wp_cond_true (hs.ev rfl) ?_
      refine wp_seq (wp_region_lit ?_)
      refine go hs (pA rfl <| ?_); clear hs a; intro a hs
      refine wpList_nil (then_normal (wp_ret (in_ret (then_ret ?_))))
      have hH : ¬ headI x := by
        rintro ⟨nm, v, sh, li, h1, n1, n2, n3, l1, l2, v1, s1⟩
        rw [hsp] at h1
        simp only [Option.some.injEq, Prod.mk.injEq] at h1
        obtain ⟨rfl, rfl, rfl, rfl⟩ := h1
        first | omega | (have := n2 rfl; omega) | (have := n3 (by omega); omega) | (have := l1 rfl; omega) | (have := l2 rfl; omega) | (rw [n1 rfl] at h47; cases h47; done) | (rw [v1 rfl] at h94; cases h94; done) | (rw [s1 rfl] at h85; cases h85; done)
      have hX : itemF x left = (false, left - 1) := by unfold itemF; rw [if_neg (by omega), if_neg hH]
      refine fin_ret hs (.tmp (hs.slots _ _ rfl) .nil) ⟨?_, ?_⟩
      · rw [hX]; first | rfl | simp [tell]
      rw [hX]; exact (hs.mem.to 1 rfl).drop
    replace h94 := (not_f h94)
    refine go hs (pG rfl (fun a hs => y_move hs rfl) <| pG rfl (fun a hs => y_not hs rfl) <| pG rfl (fun a hs => y_move hs rfl) <| pS rfl <| pS rfl <| pS rfl <| pS rfl <| pG rfl (fun a hs => y_pickF hs rfl rfl rfl) <| pF rfl rfl <| pA rfl <| ?_); clear hs a; intro a hs
    refine wpList_nil (then_normal ?_)
    refine wp_cond_false (hs.ev rfl) ?_
    refine wp_skip (in_normal (then_normal (wp_seq ?_)))
    have hH : headI x := ⟨_, _, _, _, hsp, (fun _ => h47), (fun h => by cases h), (fun h5 => by omega), (fun h => by cases h), (fun _ => by omega), (fun _ => h94), (fun h => by cases h)⟩
    obtain ⟨RR1, hRR⟩ : ∃ RR1 : Bool × Int, RR1 = (true, left - 1) := ⟨_, rfl⟩
    have hV : valI x (left - 1) = RR1 := by unfold valI; rw [if_neg (show ¬ hasV x by unfold hasV; omega), hRR]
    have hV1 : RR1.1 = true := by rw [hRR]
    have hb1 : 0 ≤ RR1.2 ∧ RR1.2 ≤ 8192 := by rw [hRR]; exact ⟨by show 0 ≤ left - 1; omega, by show left - 1 ≤ 8192; omega⟩
    rw [show left - 1 = RR1.2 by rw [hRR]] at hs
    refine wp_region_lit (go hs (pM rfl <| pV rfl (fun a hs => y_not hs rfl) <| pM rfl <| pS rfl <| pS rfl <| pS rfl <| pS rfl <| pS rfl <| pT rfl rfl <| pM rfl <| pG rfl (fun a hs => y_move hs rfl) <| pG rfl (fun a hs => y_not hs rfl) <| pG rfl (fun a hs => y_move hs rfl) <| pG rfl (fun a hs => y_move hs rfl) <| pG rfl (fun a hs => y_faddr (k' := 8) 8 hs (by kernel_rfl) rfl rfl) <| pG rfl (fun a hs => y_loadAgg (vs := [.int .u8 x.f3.f0, .string x.f3.f1, .slice A10 x.f3.f2.length c10, .slice A11 x.f3.f3.length c11, .slice A12 x.f3.f4.length c12, .int .i64 x.f3.f5, .int .i64 x.f3.f6]) hs Tryd.underlying41 rfl (by kernel_rfl) rfl (fun w hw k v hk => ((hw.to 1 rfl).cell).trans (sub_at 7 rfl hk))) <| ?_)); clear hs a; intro a hs
    refine a_effG hs rfl (e_callX Tryd.func45 rfl rfl hs rfl rfl (walk_shape 16 (by decide) x.f3 A10 A11 A12 c10 c11 c12 g RR1.2 _ w0 _ hA10 hA11 hA12 hsm.2.2.1 hb1 hs.mem) (fun e w1 ⟨he, hm⟩ => ⟨_, he, _, hm, ?_⟩)); clear hs a; intro a hs
    refine go hs (pG rfl (fun a hs => y_pickF hs rfl rfl rfl) <| pT rfl rfl <| pM rfl <| ?_); clear hs a; intro a hs
    rcases hs.know (d := 123) rfl with ⟨h123, hs1⟩ | ⟨h123, hs1⟩ <;> replace hs := hs1 <;> clear hs1
    · obtain ⟨RR2, hRR2⟩ : ∃ RR2, RR2 = xshape 16 x.f3 RR1.2 := ⟨_, rfl⟩
      have hS : shI x RR1.2 = RR2 := by unfold shI; rw [if_pos (by omega), hRR2]
      have hS1 : RR2.1 = true := by rw [hRR2]; exact h123
      have hsf := xshape_falls 16 x.f3 RR1.2 hb1.1
      rw [← hRR2] at hsf
      have hb2 : 0 ≤ RR2.2 ∧ RR2.2 ≤ 8192 := ⟨hsf.2.2 hS1, by have := hsf.2.1; omega⟩
      rw [show (xshape 16 x.f3 RR1.2).2 = RR2.2 by rw [hRR2]] at hs
      refine go hs (pG rfl (fun a hs => y_move hs rfl) <| pG rfl (fun a hs => y_faddr (k' := 16) 16 hs (by kernel_rfl) rfl rfl) <| pG rfl (fun a hs => y_load hs Tryd.underlying23 rfl rfl (fun w hw => (hw.to 1 rfl).cellV rfl)) <| ?_); clear hs a; intro a hs
      refine a_effG hs rfl (e_callX Tryd.func77 rfl rfl hs rfl rfl (walk_exprs g A16 c16 x.f5 RR2.2 _ w0 _ hA16 hsm.2.2.2 hb2 hs.mem) (fun e w1 ⟨he, hm⟩ => ⟨_, he, _, hm, ?_⟩)); clear hs a; intro a hs
      refine go hs (pT rfl rfl <| pA rfl <| ?_); clear hs a; intro a hs
      refine wpList_nil (then_normal (wp_ret ?_))
      have hX : itemF x left = xlist stE x.f5 RR2.2 := by unfold itemF; rw [if_neg (by omega), if_pos hH, hV, if_pos hV1, hS, if_pos hS1]
      refine fin_ret hs (.tmp (hs.slots _ _ rfl) .nil) ⟨?_, ?_⟩
      · rw [hX]; first | rfl | simp [tell]
      rw [hX]; exact (hs.mem.to 1 rfl).drop
    refine go hs (pS rfl <| pS rfl <| pS rfl <| pS rfl <| pF rfl rfl <| pA rfl <| ?_); clear hs a; intro a hs
    refine wpList_nil (then_normal (wp_ret ?_))
    have hS : shI x RR1.2 = xshape 16 x.f3 RR1.2 := by unfold shI; rw [if_pos (by omega)]
    have hX : itemF x left = (false, (xshape 16 x.f3 RR1.2).2) := by unfold itemF; rw [if_neg (by omega), if_pos hH, hV, if_pos hV1, hS, if_neg (by rw [h123]; exact Bool.false_ne_true), ← h123]
    refine fin_ret hs (.tmp (hs.slots _ _ rfl) .nil) ⟨?_, ?_⟩
    · rw [hX]; first | rfl | simp [tell]
    rw [hX]; exact (hs.mem.to 1 rfl).drop
  · refine wp_region_lit (go hs (pM rfl <| pM rfl <| pS rfl <| pS rfl <| pS rfl <| pS rfl <| pF rfl rfl <| pM rfl <| pG rfl (fun a hs => y_move hs rfl) <| pG rfl (fun a hs => y_not hs rfl) <| pG rfl (fun a hs => y_move hs rfl) <| pG rfl (fun a hs => y_faddr (k' := 1) 1 hs (by kernel_rfl) rfl rfl) <| pG rfl (fun a hs => y_load hs Tryd.underlying9 rfl rfl (fun w hw => (hw.to 1 rfl).cellV rfl)) <| pG rfl (fun a hs => y_sneE hs rfl rfl) <| pG rfl (fun a hs => y_pickT hs rfl rfl rfl) <| pF rfl rfl <| pM rfl <| ?_)); clear hs a; intro a hs
    rcases hs.know (d := 56) rfl with ⟨h56, hs1⟩ | ⟨h56, hs1⟩ <;> replace hs := hs1 <;> clear hs1
    · replace h56 := of_decide_eq_true h56
      refine go hs (pS rfl <| pS rfl <| pS rfl <| pS rfl <| pS rfl <| pS rfl <| pS rfl <| pS rfl <| pT rfl rfl <| pA rfl <| ?_); clear hs a; intro a hs
      refine wpList_nil (then_normal ?_)
      refine wp_cond_true (hs.ev rfl) ?_
      refine wp_seq (wp_region_lit ?_)
      refine go hs (pA rfl <| ?_); clear hs a; intro a hs
      refine wpList_nil (then_normal (wp_ret (in_ret (then_ret ?_))))
      have hH : ¬ headI x := by
        rintro ⟨nm, v, sh, li, h1, n1, n2, n3, l1, l2, v1, s1⟩
        rw [hsp] at h1
        simp only [Option.some.injEq, Prod.mk.injEq] at h1
        obtain ⟨rfl, rfl, rfl, rfl⟩ := h1
        first | omega | (have := n2 rfl; omega) | (have := n3 (by omega); omega) | (have := l1 rfl; omega) | (have := l2 rfl; omega) | (rw [n1 rfl] at h47; cases h47; done) | (rw [v1 rfl] at h94; cases h94; done) | (rw [s1 rfl] at h85; cases h85; done)
      have hX : itemF x left = (false, left - 1) := by unfold itemF; rw [if_neg (by omega), if_neg hH]
      refine fin_ret hs (.tmp (hs.slots _ _ rfl) .nil) ⟨?_, ?_⟩
      · rw [hX]; first | rfl | simp [tell]
      rw [hX]; exact (hs.mem.to 1 rfl).drop
    replace h56 := of_decide_eq_false h56
    refine go hs (pG rfl (fun a hs => y_faddr (k' := 0) 0 hs (by kernel_rfl) rfl rfl) <| pG rfl (fun a hs => y_load hs Tryd.underlying37 rfl rfl (fun w hw => (hw.to 1 rfl).cellV rfl)) <| pG rfl (fun a hs => y_cmp hs rfl rfl rfl) <| pG rfl (fun a hs => y_move hs rfl) <| ?_); clear hs a; intro a hs
    rcases hs.know (d := 60) rfl with ⟨h60, hs1⟩ | ⟨h60, hs1⟩ <;> replace hs := hs1 <;> clear hs1
    · replace h60 := bne_iff_ne.1 h60
      refine go hs (pG rfl (fun a hs => y_faddr (k' := 15) 15 hs (by kernel_rfl) rfl rfl) <| pG rfl (fun a hs => y_load hs Tryd.underlying43 rfl rfl (fun w hw => (hw.to 1 rfl).cellV rfl)) <| pG rfl (fun a hs => y_cmp hs rfl rfl rfl) <| pG rfl (fun a hs => y_pickT hs rfl rfl rfl) <| pF rfl rfl <| pA rfl <| ?_); clear hs a; intro a hs
      refine wpList_nil (then_normal ?_)
      refine wp_cond_split (hs.ev rfl) (fun h39 => ?_) (fun h39 => ?_)
      · replace h39 := bne_iff_ne.1 h39
        refine wp_seq (wp_region_lit ?_)
        refine go hs (pA rfl <| ?_); clear hs a; intro a hs
        refine wpList_nil (then_normal (wp_ret (in_ret (then_ret ?_))))
        have hH : ¬ headI x := by
          rintro ⟨nm, v, sh, li, h1, n1, n2, n3, l1, l2, v1, s1⟩
          rw [hsp] at h1
          simp only [Option.some.injEq, Prod.mk.injEq] at h1
          obtain ⟨rfl, rfl, rfl, rfl⟩ := h1
          first | omega | (have := n2 rfl; omega) | (have := n3 (by omega); omega) | (have := l1 rfl; omega) | (have := l2 rfl; omega) | (rw [n1 rfl] at h47; cases h47; done) | (rw [v1 rfl] at h94; cases h94; done) | (rw [s1 rfl] at h85; cases h85; done)
        have hX : itemF x left = (false, left - 1) := by unfold itemF; rw [if_neg (by omega), if_neg hH]
        refine fin_ret hs (.tmp (hs.slots _ _ rfl) .nil) ⟨?_, ?_⟩
        · rw [hX]; first | rfl | simp [tell]
        rw [hX]; exact (hs.mem.to 1 rfl).drop
      replace h39 := bne_eq_false_iff_eq.1 h39
      refine wp_seq (wp_region_lit ?_)
      refine go hs (pM rfl <| pM rfl <| pS rfl <| pS rfl <| pS rfl <| pS rfl <| pS rfl <| pF rfl rfl <| pM rfl <| pG rfl (fun a hs => y_move hs rfl) <| pG rfl (fun a hs => y_not hs rfl) <| pG rfl (fun a hs => y_move hs rfl) <| pG rfl (fun a hs => y_faddr (k' := 16) 16 hs (by kernel_rfl) rfl rfl) <| pG rfl (fun a hs => y_load hs Tryd.underlying23 rfl rfl (fun w hw => (hw.to 1 rfl).cellV rfl)) <| pG rfl (fun a hs => y_lenL hs Tryd.underlying23 rfl) <| pG rfl (fun a hs => y_cmp hs rfl rfl rfl) <| pG rfl (fun a hs => y_pickT hs rfl rfl rfl) <| pF rfl rfl <| pA rfl <| ?_); clear hs a; intro a hs
      refine wpList_nil (then_normal ?_)
      refine wp_cond_split (hs.ev rfl) (fun h66 => ?_) (fun h66 => ?_)
      · replace h66 := of_decide_eq_true h66
        refine wp_seq (wp_region_lit ?_)
        refine go hs (pA rfl <| ?_); clear hs a; intro a hs
        refine wpList_nil (then_normal (wp_ret (in_ret (then_ret ?_))))
        have hH : ¬ headI x := by
          rintro ⟨nm, v, sh, li, h1, n1, n2, n3, l1, l2, v1, s1⟩
          rw [hsp] at h1
          simp only [Option.some.injEq, Prod.mk.injEq] at h1
          obtain ⟨rfl, rfl, rfl, rfl⟩ := h1
          first | omega | (have := n2 rfl; omega) | (have := n3 (by omega); omega) | (have := l1 rfl; omega) | (have := l2 rfl; omega) | (rw [n1 rfl] at h47; cases h47; done) | (rw [v1 rfl] at h94; cases h94; done) | (rw [s1 rfl] at h85; cases h85; done)
        have hX : itemF x left = (false, left - 1) := by unfold itemF; rw [if_neg (by omega), if_neg hH]
        refine fin_ret hs (.tmp (hs.slots _ _ rfl) .nil) ⟨?_, ?_⟩
        · rw [hX]; first | rfl | simp [tell]
        rw [hX]; exact (hs.mem.to 1 rfl).drop
      replace h66 := of_decide_eq_false h66
      refine wp_seq (wp_region_lit ?_)
      refine go hs (pM rfl <| pV rfl (fun a hs => y_not hs rfl) <| pM rfl <| pS rfl <| pS rfl <| pS rfl <| pS rfl <| pF rfl rfl <| pM rfl <| pG rfl (fun a hs => y_move hs rfl) <| pG rfl (fun a hs => y_not hs rfl) <| pG rfl (fun a hs => y_move hs rfl) <| pG rfl (fun a hs => y_faddr (k' := 8) 8 hs (by kernel_rfl) rfl rfl) <| pG rfl (fun a hs => y_loadAgg (vs := [.int .u8 x.f3.f0, .string x.f3.f1, .slice A10 x.f3.f2.length c10, .slice A11 x.f3.f3.length c11, .slice A12 x.f3.f4.length c12, .int .i64 x.f3.f5, .int .i64 x.f3.f6]) hs Tryd.underlying41 rfl (by kernel_rfl) rfl (fun w hw k v hk => ((hw.to 1 rfl).cell).trans (sub_at 7 rfl hk))) <| ?_); clear hs a; intro a hs
      refine a_effG hs rfl (e_callB Tryd.func83 rfl rfl hs rfl rfl (tree_noShape x.f3 A10 A11 A12 c10 c11 c12 _) ?_); clear hs a; intro a w hs
      refine go hs (pG rfl (fun a hs => y_not hs rfl) <| pG rfl (fun a hs => y_pickT hs rfl rfl rfl) <| pF rfl rfl <| pA rfl <| ?_); clear hs a; intro a hs
      refine wpList_nil (then_normal ?_)
      refine wp_cond_split (hs.ev rfl) (fun h85 => ?_) (fun h85 => ?_)
      · replace h85 := (not_t h85)
        refine wp_seq (wp_region_lit ?_)
        refine go hs (pA rfl <| ?_); clear hs a; intro a hs
        refine wpList_nil (then_normal (wp_ret (in_ret (then_ret ?_))))
        have hH : ¬ headI x := by
          rintro ⟨nm, v, sh, li, h1, n1, n2, n3, l1, l2, v1, s1⟩
          rw [hsp] at h1
          simp only [Option.some.injEq, Prod.mk.injEq] at h1
          obtain ⟨rfl, rfl, rfl, rfl⟩ := h1
          first | omega | (have := n2 rfl; omega) | (have := n3 (by omega); omega) | (have := l1 rfl; omega) | (have := l2 rfl; omega) | (rw [n1 rfl] at h47; cases h47; done) | (rw [v1 rfl] at h94; cases h94; done) | (rw [s1 rfl] at h85; cases h85; done)
        have hX : itemF x left = (false, left - 1) := by unfold itemF; rw [if_neg (by omega), if_neg hH]
        refine fin_ret hs (.tmp (hs.slots _ _ rfl) .nil) ⟨?_, ?_⟩
        · rw [hX]; first | rfl | simp [tell]
        rw [hX]; exact (hs.mem.to 1 rfl).drop
      replace h85 := (not_f h85)
      refine wp_skip (in_normal (then_normal (wp_seq ?_)))
      have hH : headI x := ⟨_, _, _, _, hsp, (fun h => by cases h), (fun _ => by omega), (fun h5 => by omega), (fun h => by cases h), (fun _ => by omega), (fun h => by cases h), (fun _ => h85)⟩
      obtain ⟨RR1, hRR⟩ : ∃ RR1, RR1 = stE x.f2 (left - 1) := ⟨_, rfl⟩
      have hV : valI x (left - 1) = RR1 := by unfold valI; rw [if_pos (show hasV x by unfold hasV; omega), hRR]
      refine wp_region_lit (go hs (pM rfl <| pV rfl (fun a hs => y_not hs rfl) <| pM rfl <| pG rfl (fun a hs => y_move hs rfl) <| pG rfl (fun a hs => y_faddr (k' := 2) 2 hs (by kernel_rfl) rfl rfl) <| pG rfl (fun a hs => y_loadAgg (vs := [.int .u8 x.f2.f0, .int .i64 x.f2.f1, .string x.f2.f2, .slice A5 x.f2.f3.length c5, .int .i64 x.f2.f4, .int .i64 x.f2.f5]) hs Tryd.underlying24 rfl (by kernel_rfl) rfl (fun w hw k v hk => ((hw.to 1 rfl).cell).trans (sub_at 6 rfl hk))) <| ?_)); clear hs a; intro a hs
      refine a_effG hs rfl (e_callX Tryd.func44 rfl rfl hs rfl rfl (walk_expr 16 (by decide) x.f2 A5 c5 g (left - 1) _ w0 _ hA5 hsm.2.1 (by omega) hs.mem) (fun e w1 ⟨he, hm⟩ => ⟨_, he, _, hm, ?_⟩)); clear hs a; intro a hs
      refine go hs (pG rfl (fun a hs => y_cmp hs rfl rfl rfl) <| pF rfl rfl <| pM rfl <| ?_); clear hs a; intro a hs
      rcases hs.know (d := 113) rfl with ⟨h113, hs1⟩ | ⟨h113, hs1⟩ <;> replace hs := hs1 <;> clear hs1
      · replace h113 := of_decide_eq_true h113
        rw [show (xexpr 16 x.f2 (left - 1)).2 = RR1.2 by rw [hRR]; rfl] at hs
        have hV1 : RR1.1 = true := by rw [hRR]; exact decide_eq_true (by omega)
        have hvf := valI_falls x (left - 1) (by omega)
        rw [hV] at hvf
        have hb1 : 0 ≤ RR1.2 ∧ RR1.2 ≤ 8192 := ⟨hvf.2.2 hV1, by have := hvf.2.1; omega⟩
        refine go hs (pG rfl (fun a hs => y_move hs rfl) <| pG rfl (fun a hs => y_not hs rfl) <| pG rfl (fun a hs => y_move hs rfl) <| pS rfl <| pS rfl <| pS rfl <| pS rfl <| pG rfl (fun a hs => y_pickT hs rfl rfl rfl) <| pT rfl rfl <| pM rfl <| pG rfl (fun a hs => y_move hs rfl) <| pG rfl (fun a hs => y_faddr (k' := 16) 16 hs (by kernel_rfl) rfl rfl) <| pG rfl (fun a hs => y_load hs Tryd.underlying23 rfl rfl (fun w hw => (hw.to 1 rfl).cellV rfl)) <| ?_); clear hs a; intro a hs
        obtain ⟨RR2, hRR2⟩ : ∃ RR2 : Bool × Int, RR2 = (true, RR1.2) := ⟨_, rfl⟩
        have hS : shI x RR1.2 = RR2 := by unfold shI; rw [if_neg (by omega), hRR2]
        have hS1 : RR2.1 = true := by rw [hRR2]
        have hb2 : 0 ≤ RR2.2 ∧ RR2.2 ≤ 8192 := by rw [hRR2]; exact hb1
        rw [show RR1.2 = RR2.2 by rw [hRR2]] at hs
        refine a_effG hs rfl (e_callX Tryd.func77 rfl rfl hs rfl rfl (walk_exprs g A16 c16 x.f5 RR2.2 _ w0 _ hA16 hsm.2.2.2 hb2 hs.mem) (fun e w1 ⟨he, hm⟩ => ⟨_, he, _, hm, ?_⟩)); clear hs a; intro a hs
        refine go hs (pT rfl rfl <| pA rfl <| ?_); clear hs a; intro a hs
        refine wpList_nil (then_normal (wp_ret ?_))
        have hX : itemF x left = xlist stE x.f5 RR2.2 := by unfold itemF; rw [if_neg (by omega), if_pos hH, hV, if_pos hV1, hS, if_pos hS1]
        refine fin_ret hs (.tmp (hs.slots _ _ rfl) .nil) ⟨?_, ?_⟩
        · rw [hX]; first | rfl | simp [tell]
        rw [hX]; exact (hs.mem.to 1 rfl).drop
      replace h113 := of_decide_eq_false h113
      refine go hs (pS rfl <| pS rfl <| pS rfl <| pS rfl <| pS rfl <| pS rfl <| pS rfl <| pS rfl <| pF rfl rfl <| pM rfl <| pS rfl <| pS rfl <| pS rfl <| pS rfl <| pF rfl rfl <| pA rfl <| ?_); clear hs a; intro a hs
      refine wpList_nil (then_normal (wp_ret ?_))
      have hE1 : RR1 = (false, (xexpr 16 x.f2 (left - 1)).2) := by rw [hRR]; unfold stE; rw [decide_eq_false (by omega)]
      have hX : itemF x left = (false, (xexpr 16 x.f2 (left - 1)).2) := by unfold itemF; rw [if_neg (by omega), if_pos hH, hV, if_neg (by rw [hE1]; exact Bool.false_ne_true), hE1]
      refine fin_ret hs (.tmp (hs.slots _ _ rfl) .nil) ⟨?_, ?_⟩
      · rw [hX]; first | rfl | simp [tell]
      rw [hX]; exact (hs.mem.to 1 rfl).drop
    replace h60 := bne_eq_false_iff_eq.1 h60
    refine go hs (pS rfl <| pS rfl <| pS rfl <| pG rfl (fun a hs => y_pickF hs rfl rfl rfl) <| pF rfl rfl <| pA rfl <| ?_); clear hs a; intro a hs
    refine wpList_nil (then_normal ?_)
    refine wp_cond_false (hs.ev rfl) ?_
    refine wp_seq (wp_region_lit ?_)
    refine go hs (pM rfl <| pM rfl <| pS rfl <| pS rfl <| pS rfl <| pS rfl <| pS rfl <| pF rfl rfl <| pM rfl <| pG rfl (fun a hs => y_move hs rfl) <| pG rfl (fun a hs => y_not hs rfl) <| pG rfl (fun a hs => y_move hs rfl) <| pG rfl (fun a hs => y_faddr (k' := 16) 16 hs (by kernel_rfl) rfl rfl) <| pG rfl (fun a hs => y_load hs Tryd.underlying23 rfl rfl (fun w hw => (hw.to 1 rfl).cellV rfl)) <| pG rfl (fun a hs => y_lenL hs Tryd.underlying23 rfl) <| pG rfl (fun a hs => y_cmp hs rfl rfl rfl) <| pG rfl (fun a hs => y_pickT hs rfl rfl rfl) <| pF rfl rfl <| pA rfl <| ?_); clear hs a; intro a hs
    refine wpList_nil (then_normal ?_)
    refine wp_cond_split (hs.ev rfl) (fun h66 => ?_) (fun h66 => ?_)
    · replace h66 := of_decide_eq_true h66
      refine wp_seq (wp_region_lit ?_)
      refine go hs (pA rfl <| ?_); clear hs a; intro a hs
      refine wpList_nil (then_normal (wp_ret (in_ret (then_ret ?_))))
      have hH : ¬ headI x := by
        rintro ⟨nm, v, sh, li, h1, n1, n2, n3, l1, l2, v1, s1⟩
        rw [hsp] at h1
        simp only [Option.some.injEq, Prod.mk.injEq] at h1
        obtain ⟨rfl, rfl, rfl, rfl⟩ := h1
        first | omega | (have := n2 rfl; omega) | (have := n3 (by omega); omega) | (have := l1 rfl; omega) | (have := l2 rfl; omega) | (rw [n1 rfl] at h47; cases h47; done) | (rw [v1 rfl] at h94; cases h94; done) | (rw [s1 rfl] at h85; cases h85; done)
      have hX : itemF x left = (false, left - 1) := by unfold itemF; rw [if_neg (by omega), if_neg hH]
      refine fin_ret hs (.tmp (hs.slots _ _ rfl) .nil) ⟨?_, ?_⟩
      · rw [hX]; first | rfl | simp [tell]
      rw [hX]; exact (hs.mem.to 1 rfl).drop
    replace h66 := of_decide_eq_false h66
    refine wp_seq (wp_region_lit ?_)
    refine go hs (pM rfl <| pV rfl (fun a hs => y_not hs rfl) <| pM rfl <| pS rfl <| pS rfl <| pS rfl <| pS rfl <| pF rfl rfl <| pM rfl <| pG rfl (fun a hs => y_move hs rfl) <| pG rfl (fun a hs => y_not hs rfl) <| pG rfl (fun a hs => y_move hs rfl) <| pG rfl (fun a hs => y_faddr (k' := 8) 8 hs (by kernel_rfl) rfl rfl) <| pG rfl (fun a hs => y_loadAgg (vs := [.int .u8 x.f3.f0, .string x.f3.f1, .slice A10 x.f3.f2.length c10, .slice A11 x.f3.f3.length c11, .slice A12 x.f3.f4.length c12, .int .i64 x.f3.f5, .int .i64 x.f3.f6]) hs Tryd.underlying41 rfl (by kernel_rfl) rfl (fun w hw k v hk => ((hw.to 1 rfl).cell).trans (sub_at 7 rfl hk))) <| ?_); clear hs a; intro a hs
    refine a_effG hs rfl (e_callB Tryd.func83 rfl rfl hs rfl rfl (tree_noShape x.f3 A10 A11 A12 c10 c11 c12 _) ?_); clear hs a; intro a w hs
    refine go hs (pG rfl (fun a hs => y_not hs rfl) <| pG rfl (fun a hs => y_pickT hs rfl rfl rfl) <| pF rfl rfl <| pA rfl <| ?_); clear hs a; intro a hs
    refine wpList_nil (then_normal ?_)
    refine wp_cond_split (hs.ev rfl) (fun h85 => ?_) (fun h85 => ?_)
    · replace h85 := (not_t h85)
      refine wp_seq (wp_region_lit ?_)
      refine go hs (pA rfl <| ?_); clear hs a; intro a hs
      refine wpList_nil (then_normal (wp_ret (in_ret (then_ret ?_))))
      have hH : ¬ headI x := by
        rintro ⟨nm, v, sh, li, h1, n1, n2, n3, l1, l2, v1, s1⟩
        rw [hsp] at h1
        simp only [Option.some.injEq, Prod.mk.injEq] at h1
        obtain ⟨rfl, rfl, rfl, rfl⟩ := h1
        first | omega | (have := n2 rfl; omega) | (have := n3 (by omega); omega) | (have := l1 rfl; omega) | (have := l2 rfl; omega) | (rw [n1 rfl] at h47; cases h47; done) | (rw [v1 rfl] at h94; cases h94; done) | (rw [s1 rfl] at h85; cases h85; done)
      have hX : itemF x left = (false, left - 1) := by unfold itemF; rw [if_neg (by omega), if_neg hH]
      refine fin_ret hs (.tmp (hs.slots _ _ rfl) .nil) ⟨?_, ?_⟩
      · rw [hX]; first | rfl | simp [tell]
      rw [hX]; exact (hs.mem.to 1 rfl).drop
    replace h85 := (not_f h85)
    refine wp_skip (in_normal (then_normal (wp_seq ?_)))
    have hH : headI x := ⟨_, _, _, _, hsp, (fun h => by cases h), (fun _ => by omega), (fun h5 => by omega), (fun h => by cases h), (fun _ => by omega), (fun h => by cases h), (fun _ => h85)⟩
    obtain ⟨RR1, hRR⟩ : ∃ RR1, RR1 = stE x.f2 (left - 1) := ⟨_, rfl⟩
    have hV : valI x (left - 1) = RR1 := by unfold valI; rw [if_pos (show hasV x by unfold hasV; omega), hRR]
    refine wp_region_lit (go hs (pM rfl <| pV rfl (fun a hs => y_not hs rfl) <| pM rfl <| pG rfl (fun a hs => y_move hs rfl) <| pG rfl (fun a hs => y_faddr (k' := 2) 2 hs (by kernel_rfl) rfl rfl) <| pG rfl (fun a hs => y_loadAgg (vs := [.int .u8 x.f2.f0, .int .i64 x.f2.f1, .string x.f2.f2, .slice A5 x.f2.f3.length c5, .int .i64 x.f2.f4, .int .i64 x.f2.f5]) hs Tryd.underlying24 rfl (by kernel_rfl) rfl (fun w hw k v hk => ((hw.to 1 rfl).cell).trans (sub_at 6 rfl hk))) <| ?_)); clear hs a; intro a hs
    refine a_effG hs rfl (e_callX Tryd.func44 rfl rfl hs rfl rfl (walk_expr 16 (by decide) x.f2 A5 c5 g (left - 1) _ w0 _ hA5 hsm.2.1 (by omega) hs.mem) (fun e w1 ⟨he, hm⟩ => ⟨_, he, _, hm, ?_⟩)); clear hs a; intro a hs
    refine go hs (pG rfl (fun a hs => y_cmp hs rfl rfl rfl) <| pF rfl rfl <| pM rfl <| ?_); clear hs a; intro a hs
    rcases hs.know (d := 113) rfl with ⟨h113, hs1⟩ | ⟨h113, hs1⟩ <;> replace hs := hs1 <;> clear hs1
    · replace h113 := of_decide_eq_true h113
      rw [show (xexpr 16 x.f2 (left - 1)).2 = RR1.2 by rw [hRR]; rfl] at hs
      have hV1 : RR1.1 = true := by rw [hRR]; exact decide_eq_true (by omega)
      have hvf := valI_falls x (left - 1) (by omega)
      rw [hV] at hvf
      have hb1 : 0 ≤ RR1.2 ∧ RR1.2 ≤ 8192 := ⟨hvf.2.2 hV1, by have := hvf.2.1; omega⟩
      refine go hs (pG rfl (fun a hs => y_move hs rfl) <| pG rfl (fun a hs => y_not hs rfl) <| pG rfl (fun a hs => y_move hs rfl) <| pS rfl <| pS rfl <| pS rfl <| pS rfl <| pG rfl (fun a hs => y_pickT hs rfl rfl rfl) <| pT rfl rfl <| pM rfl <| pG rfl (fun a hs => y_move hs rfl) <| pG rfl (fun a hs => y_faddr (k' := 16) 16 hs (by kernel_rfl) rfl rfl) <| pG rfl (fun a hs => y_load hs Tryd.underlying23 rfl rfl (fun w hw => (hw.to 1 rfl).cellV rfl)) <| ?_); clear hs a; intro a hs
      obtain ⟨RR2, hRR2⟩ : ∃ RR2 : Bool × Int, RR2 = (true, RR1.2) := ⟨_, rfl⟩
      have hS : shI x RR1.2 = RR2 := by unfold shI; rw [if_neg (by omega), hRR2]
      have hS1 : RR2.1 = true := by rw [hRR2]
      have hb2 : 0 ≤ RR2.2 ∧ RR2.2 ≤ 8192 := by rw [hRR2]; exact hb1
      rw [show RR1.2 = RR2.2 by rw [hRR2]] at hs
      refine a_effG hs rfl (e_callX Tryd.func77 rfl rfl hs rfl rfl (walk_exprs g A16 c16 x.f5 RR2.2 _ w0 _ hA16 hsm.2.2.2 hb2 hs.mem) (fun e w1 ⟨he, hm⟩ => ⟨_, he, _, hm, ?_⟩)); clear hs a; intro a hs
      refine go hs (pT rfl rfl <| pA rfl <| ?_); clear hs a; intro a hs
      refine wpList_nil (then_normal (wp_ret ?_))
      have hX : itemF x left = xlist stE x.f5 RR2.2 := by unfold itemF; rw [if_neg (by omega), if_pos hH, hV, if_pos hV1, hS, if_pos hS1]
      refine fin_ret hs (.tmp (hs.slots _ _ rfl) .nil) ⟨?_, ?_⟩
      · rw [hX]; first | rfl | simp [tell]
      rw [hX]; exact (hs.mem.to 1 rfl).drop
    replace h113 := of_decide_eq_false h113
    refine go hs (pS rfl <| pS rfl <| pS rfl <| pS rfl <| pS rfl <| pS rfl <| pS rfl <| pS rfl <| pF rfl rfl <| pM rfl <| pS rfl <| pS rfl <| pS rfl <| pS rfl <| pF rfl rfl <| pA rfl <| ?_); clear hs a; intro a hs
    refine wpList_nil (then_normal (wp_ret ?_))
    have hE1 : RR1 = (false, (xexpr 16 x.f2 (left - 1)).2) := by rw [hRR]; unfold stE; rw [decide_eq_false (by omega)]
    have hX : itemF x left = (false, (xexpr 16 x.f2 (left - 1)).2) := by unfold itemF; rw [if_neg (by omega), if_pos hH, hV, if_neg (by rw [hE1]; exact Bool.false_ne_true), hE1]
    refine fin_ret hs (.tmp (hs.slots _ _ rfl) .nil) ⟨?_, ?_⟩
    · rw [hX]; first | rfl | simp [tell]
    rw [hX]; exact (hs.mem.to 1 rfl).drop
  · refine wp_region_lit (go hs (pM rfl <| pM rfl <| pS rfl <| pS rfl <| pS rfl <| pS rfl <| pF rfl rfl <| pM rfl <| pG rfl (fun a hs => y_move hs rfl) <| pG rfl (fun a hs => y_not hs rfl) <| pG rfl (fun a hs => y_move hs rfl) <| pG rfl (fun a hs => y_faddr (k' := 1) 1 hs (by kernel_rfl) rfl rfl) <| pG rfl (fun a hs => y_load hs Tryd.underlying9 rfl rfl (fun w hw => (hw.to 1 rfl).cellV rfl)) <| pG rfl (fun a hs => y_sneE hs rfl rfl) <| pG rfl (fun a hs => y_pickT hs rfl rfl rfl) <| pF rfl rfl <| pM rfl <| ?_)); clear hs a; intro a hs
    rcases hs.know (d := 56) rfl with ⟨h56, hs1⟩ | ⟨h56, hs1⟩ <;> replace hs := hs1 <;> clear hs1
    · replace h56 := of_decide_eq_true h56
      refine go hs (pS rfl <| pS rfl <| pS rfl <| pS rfl <| pS rfl <| pS rfl <| pS rfl <| pS rfl <| pT rfl rfl <| pA rfl <| ?_); clear hs a; intro a hs
      refine wpList_nil (then_normal ?_)
      refine wp_cond_true (hs.ev rfl) ?_
      refine wp_seq (wp_region_lit ?_)
      refine go hs (pA rfl <| ?_); clear hs a; intro a hs
      refine wpList_nil (then_normal (wp_ret (in_ret (then_ret ?_))))
      have hH : ¬ headI x := by
        rintro ⟨nm, v, sh, li, h1, n1, n2, n3, l1, l2, v1, s1⟩
        rw [hsp] at h1
        simp only [Option.some.injEq, Prod.mk.injEq] at h1
        obtain ⟨rfl, rfl, rfl, rfl⟩ := h1
        first | omega | (have := n2 rfl; omega) | (have := n3 (by omega); omega) | (have := l1 rfl; omega) | (have := l2 rfl; omega) | (rw [n1 rfl] at h47; cases h47; done) | (rw [v1 rfl] at h94; cases h94; done) | (rw [s1 rfl] at h85; cases h85; done)
      have hX : itemF x left = (false, left - 1) := by unfold itemF; rw [if_neg (by omega), if_neg hH]
      refine fin_ret hs (.tmp (hs.slots _ _ rfl) .nil) ⟨?_, ?_⟩
      · rw [hX]; first | rfl | simp [tell]
      rw [hX]; exact (hs.mem.to 1 rfl).drop
    replace h56 := of_decide_eq_false h56
    refine go hs (pG rfl (fun a hs => y_faddr (k' := 0) 0 hs (by kernel_rfl) rfl rfl) <| pG rfl (fun a hs => y_load hs Tryd.underlying37 rfl rfl (fun w hw => (hw.to 1 rfl).cellV rfl)) <| pG rfl (fun a hs => y_cmp hs rfl rfl rfl) <| pG rfl (fun a hs => y_move hs rfl) <| ?_); clear hs a; intro a hs
    rcases hs.know (d := 60) rfl with ⟨h60, hs1⟩ | ⟨h60, hs1⟩ <;> replace hs := hs1 <;> clear hs1
    · replace h60 := bne_iff_ne.1 h60
      refine go hs (pG rfl (fun a hs => y_faddr (k' := 15) 15 hs (by kernel_rfl) rfl rfl) <| pG rfl (fun a hs => y_load hs Tryd.underlying43 rfl rfl (fun w hw => (hw.to 1 rfl).cellV rfl)) <| pG rfl (fun a hs => y_cmp hs rfl rfl rfl) <| pG rfl (fun a hs => y_pickT hs rfl rfl rfl) <| pF rfl rfl <| pA rfl <| ?_); clear hs a; intro a hs
      refine wpList_nil (then_normal ?_)
      refine wp_cond_split (hs.ev rfl) (fun h39 => ?_) (fun h39 => ?_)
      · replace h39 := bne_iff_ne.1 h39
        refine wp_seq (wp_region_lit ?_)
        refine go hs (pA rfl <| ?_); clear hs a; intro a hs
        refine wpList_nil (then_normal (wp_ret (in_ret (then_ret ?_))))
        have hH : ¬ headI x := by
          rintro ⟨nm, v, sh, li, h1, n1, n2, n3, l1, l2, v1, s1⟩
          rw [hsp] at h1
          simp only [Option.some.injEq, Prod.mk.injEq] at h1
          obtain ⟨rfl, rfl, rfl, rfl⟩ := h1
          first | omega | (have := n2 rfl; omega) | (have := n3 (by omega); omega) | (have := l1 rfl; omega) | (have := l2 rfl; omega) | (rw [n1 rfl] at h47; cases h47; done) | (rw [v1 rfl] at h94; cases h94; done) | (rw [s1 rfl] at h85; cases h85; done)
        have hX : itemF x left = (false, left - 1) := by unfold itemF; rw [if_neg (by omega), if_neg hH]
        refine fin_ret hs (.tmp (hs.slots _ _ rfl) .nil) ⟨?_, ?_⟩
        · rw [hX]; first | rfl | simp [tell]
        rw [hX]; exact (hs.mem.to 1 rfl).drop
      replace h39 := bne_eq_false_iff_eq.1 h39
      refine wp_seq (wp_region_lit ?_)
      refine go hs (pM rfl <| pM rfl <| pG rfl (fun a hs => y_faddr (k' := 16) 16 hs (by kernel_rfl) rfl rfl) <| pG rfl (fun a hs => y_load hs Tryd.underlying23 rfl rfl (fun w hw => (hw.to 1 rfl).cellV rfl)) <| pG rfl (fun a hs => y_lenL hs Tryd.underlying23 rfl) <| ?_); clear hs a; intro a hs
      refine a_effG hs rfl (e_callB Tryd.func81 rfl rfl hs rfl rfl (tree_side x.f5.length _) ?_); clear hs a; intro a w hs
      refine go hs (pG rfl (fun a hs => y_not hs rfl) <| pT rfl rfl <| pM rfl <| ?_); clear hs a; intro a hs
      rcases hs.know (d := 75) rfl with ⟨h75, hs1⟩ | ⟨h75, hs1⟩ <;> replace hs := hs1 <;> clear hs1
      · replace h75 := of_decide_eq_false (not_t h75)
        refine go hs (pS rfl <| pS rfl <| pS rfl <| pS rfl <| pS rfl <| pS rfl <| pS rfl <| pS rfl <| pT rfl rfl <| pA rfl <| ?_); clear hs a; intro a hs
        refine wpList_nil (then_normal ?_)
        refine wp_cond_true (hs.ev rfl) ?_
        refine wp_seq (wp_region_lit ?_)
        refine go hs (pA rfl <| ?_); clear hs a; intro a hs
        refine wpList_nil (then_normal (wp_ret (in_ret (then_ret ?_))))
        have hH : ¬ headI x := by
          rintro ⟨nm, v, sh, li, h1, n1, n2, n3, l1, l2, v1, s1⟩
          rw [hsp] at h1
          simp only [Option.some.injEq, Prod.mk.injEq] at h1
          obtain ⟨rfl, rfl, rfl, rfl⟩ := h1
          first | omega | (have := n2 rfl; omega) | (have := n3 (by omega); omega) | (have := l1 rfl; omega) | (have := l2 rfl; omega) | (rw [n1 rfl] at h47; cases h47; done) | (rw [v1 rfl] at h94; cases h94; done) | (rw [s1 rfl] at h85; cases h85; done)
        have hX : itemF x left = (false, left - 1) := by unfold itemF; rw [if_neg (by omega), if_neg hH]
        refine fin_ret hs (.tmp (hs.slots _ _ rfl) .nil) ⟨?_, ?_⟩
        · rw [hX]; first | rfl | simp [tell]
        rw [hX]; exact (hs.mem.to 1 rfl).drop
      replace h75 := of_decide_eq_true (not_f h75)
      refine go hs (pG rfl (fun a hs => y_move hs rfl) <| pG rfl (fun a hs => y_not hs rfl) <| pG rfl (fun a hs => y_move hs rfl) <| pS rfl <| pS rfl <| pS rfl <| pS rfl <| pG rfl (fun a hs => y_pickF hs rfl rfl rfl) <| pF rfl rfl <| pA rfl <| ?_); clear hs a; intro a hs
      refine wpList_nil (then_normal ?_)
      refine wp_cond_false (hs.ev rfl) ?_
      refine wp_seq (wp_region_lit ?_)
      refine go hs (pM rfl <| pV rfl (fun a hs => y_not hs rfl) <| pM rfl <| pG rfl (fun a hs => y_faddr (k' := 2) 2 hs (by kernel_rfl) rfl rfl) <| pG rfl (fun a hs => y_loadAgg (vs := [.int .u8 x.f2.f0, .int .i64 x.f2.f1, .string x.f2.f2, .slice A5 x.f2.f3.length c5, .int .i64 x.f2.f4, .int .i64 x.f2.f5]) hs Tryd.underlying24 rfl (by kernel_rfl) rfl (fun w hw k v hk => ((hw.to 1 rfl).cell).trans (sub_at 6 rfl hk))) <| ?_); clear hs a; intro a hs
      refine a_effG hs rfl (e_callB Tryd.func82 rfl rfl hs rfl rfl (tree_noExpr x.f2 A5 c5 _) ?_); clear hs a; intro a w hs
      refine go hs (pG rfl (fun a hs => y_not hs rfl) <| pT rfl rfl <| pM rfl <| ?_); clear hs a; intro a hs
      rcases hs.know (d := 94) rfl with ⟨h94, hs1⟩ | ⟨h94, hs1⟩ <;> replace hs := hs1 <;> clear hs1
      · replace h94 := (not_t h94)
        refine go hs (pS rfl <| pS rfl <| pS rfl <| pS rfl <| pS rfl <| pS rfl <| pS rfl <| pS rfl <| pT rfl rfl <| pA rfl <| ?_); clear hs a; intro a hs
        refine wpList_nil (then_normal ?_)
        refine wp_cond_true (hs.ev rfl) ?_
        refine wp_seq (wp_region_lit ?_)
        refine go hs (pA rfl <| ?_); clear hs a; intro a hs
        refine wpList_nil (then_normal (wp_ret (in_ret (then_ret ?_))))
        have hH : ¬ headI x := by
          rintro ⟨nm, v, sh, li, h1, n1, n2, n3, l1, l2, v1, s1⟩
          rw [hsp] at h1
          simp only [Option.some.injEq, Prod.mk.injEq] at h1
          obtain ⟨rfl, rfl, rfl, rfl⟩ := h1
          first | omega | (have := n2 rfl; omega) | (have := n3 (by omega); omega) | (have := l1 rfl; omega) | (have := l2 rfl; omega) | (rw [n1 rfl] at h47; cases h47; done) | (rw [v1 rfl] at h94; cases h94; done) | (rw [s1 rfl] at h85; cases h85; done)
        have hX : itemF x left = (false, left - 1) := by unfold itemF; rw [if_neg (by omega), if_neg hH]
        refine fin_ret hs (.tmp (hs.slots _ _ rfl) .nil) ⟨?_, ?_⟩
        · rw [hX]; first | rfl | simp [tell]
        rw [hX]; exact (hs.mem.to 1 rfl).drop
      replace h94 := (not_f h94)
      refine go hs (pG rfl (fun a hs => y_move hs rfl) <| pG rfl (fun a hs => y_not hs rfl) <| pG rfl (fun a hs => y_move hs rfl) <| pG rfl (fun a hs => y_faddr (k' := 8) 8 hs (by kernel_rfl) rfl rfl) <| pG rfl (fun a hs => y_loadAgg (vs := [.int .u8 x.f3.f0, .string x.f3.f1, .slice A10 x.f3.f2.length c10, .slice A11 x.f3.f3.length c11, .slice A12 x.f3.f4.length c12, .int .i64 x.f3.f5, .int .i64 x.f3.f6]) hs Tryd.underlying41 rfl (by kernel_rfl) rfl (fun w hw k v hk => ((hw.to 1 rfl).cell).trans (sub_at 7 rfl hk))) <| ?_); clear hs a; intro a hs
      refine a_effG hs rfl (e_callB Tryd.func83 rfl rfl hs rfl rfl (tree_noShape x.f3 A10 A11 A12 c10 c11 c12 _) ?_); clear hs a; intro a w hs
      refine go hs (pG rfl (fun a hs => y_not hs rfl) <| pG rfl (fun a hs => y_pickT hs rfl rfl rfl) <| pF rfl rfl <| pA rfl <| ?_); clear hs a; intro a hs
      refine wpList_nil (then_normal ?_)
      refine wp_cond_split (hs.ev rfl) (fun h85 => ?_) (fun h85 => ?_)
      · replace h85 := (not_t h85)
        refine wp_seq (wp_region_lit ?_)
        refine go hs (pA rfl <| ?_); clear hs a; intro a hs
        refine wpList_nil (then_normal (wp_ret (in_ret (then_ret ?_))))
        have hH : ¬ headI x := by
          rintro ⟨nm, v, sh, li, h1, n1, n2, n3, l1, l2, v1, s1⟩
          rw [hsp] at h1
          simp only [Option.some.injEq, Prod.mk.injEq] at h1
          obtain ⟨rfl, rfl, rfl, rfl⟩ := h1
          first | omega | (have := n2 rfl; omega) | (have := n3 (by omega); omega) | (have := l1 rfl; omega) | (have := l2 rfl; omega) | (rw [n1 rfl] at h47; cases h47; done) | (rw [v1 rfl] at h94; cases h94; done) | (rw [s1 rfl] at h85; cases h85; done)
        have hX : itemF x left = (false, left - 1) := by unfold itemF; rw [if_neg (by omega), if_neg hH]
        refine fin_ret hs (.tmp (hs.slots _ _ rfl) .nil) ⟨?_, ?_⟩
        · rw [hX]; first | rfl | simp [tell]
        rw [hX]; exact (hs.mem.to 1 rfl).drop
      replace h85 := (not_f h85)
      refine wp_skip (in_normal (then_normal (wp_seq ?_)))
      have hH : headI x := ⟨_, _, _, _, hsp, (fun h => by cases h), (fun _ => by omega), (fun h5 => by omega), (fun _ => by omega), (fun h => by cases h), (fun _ => h94), (fun _ => h85)⟩
      obtain ⟨RR1, hRR⟩ : ∃ RR1 : Bool × Int, RR1 = (true, left - 1) := ⟨_, rfl⟩
      have hV : valI x (left - 1) = RR1 := by unfold valI; rw [if_neg (show ¬ hasV x by unfold hasV; omega), hRR]
      have hV1 : RR1.1 = true := by rw [hRR]
      have hb1 : 0 ≤ RR1.2 ∧ RR1.2 ≤ 8192 := by rw [hRR]; exact ⟨by show 0 ≤ left - 1; omega, by show left - 1 ≤ 8192; omega⟩
      rw [show left - 1 = RR1.2 by rw [hRR]] at hs
      refine wp_region_lit (go hs (pM rfl <| pV rfl (fun a hs => y_not hs rfl) <| pM rfl <| pS rfl <| pS rfl <| pS rfl <| pS rfl <| pS rfl <| pT rfl rfl <| pM rfl <| pG rfl (fun a hs => y_move hs rfl) <| pG rfl (fun a hs => y_not hs rfl) <| pG rfl (fun a hs => y_move hs rfl) <| pS rfl <| pS rfl <| pS rfl <| pS rfl <| pG rfl (fun a hs => y_pickT hs rfl rfl rfl) <| pT rfl rfl <| pM rfl <| pG rfl (fun a hs => y_move hs rfl) <| pG rfl (fun a hs => y_faddr (k' := 16) 16 hs (by kernel_rfl) rfl rfl) <| pG rfl (fun a hs => y_load hs Tryd.underlying23 rfl rfl (fun w hw => (hw.to 1 rfl).cellV rfl)) <| ?_)); clear hs a; intro a hs
      obtain ⟨RR2, hRR2⟩ : ∃ RR2 : Bool × Int, RR2 = (true, RR1.2) := ⟨_, rfl⟩
      have hS : shI x RR1.2 = RR2 := by unfold shI; rw [if_neg (by omega), hRR2]
      have hS1 : RR2.1 = true := by rw [hRR2]
      have hb2 : 0 ≤ RR2.2 ∧ RR2.2 ≤ 8192 := by rw [hRR2]; exact hb1
      rw [show RR1.2 = RR2.2 by rw [hRR2]] at hs
      refine a_effG hs rfl (e_callX Tryd.func77 rfl rfl hs rfl rfl (walk_exprs g A16 c16 x.f5 RR2.2 _ w0 _ hA16 hsm.2.2.2 hb2 hs.mem) (fun e w1 ⟨he, hm⟩ => ⟨_, he, _, hm, ?_⟩)); clear hs a; intro a hs
      refine go hs (pT rfl rfl <| pA rfl <| ?_); clear hs a; intro a hs
      refine wpList_nil (then_normal (wp_ret ?_))
      have hX : itemF x left = xlist stE x.f5 RR2.2 := by unfold itemF; rw [if_neg (by omega), if_pos hH, hV, if_pos hV1, hS, if_pos hS1]
      refine fin_ret hs (.tmp (hs.slots _ _ rfl) .nil) ⟨?_, ?_⟩
      · rw [hX]; first | rfl | simp [tell]
      rw [hX]; exact (hs.mem.to 1 rfl).drop
    replace h60 := bne_eq_false_iff_eq.1 h60
    refine go hs (pS rfl <| pS rfl <| pS rfl <| pG rfl (fun a hs => y_pickF hs rfl rfl rfl) <| pF rfl rfl <| pA rfl <| ?_); clear hs a; intro a hs
    refine wpList_nil (then_normal ?_)
    refine wp_cond_false (hs.ev rfl) ?_
    refine wp_seq (wp_region_lit ?_)
    refine go hs (pM rfl <| pM rfl <| pG rfl (fun a hs => y_faddr (k' := 16) 16 hs (by kernel_rfl) rfl rfl) <| pG rfl (fun a hs => y_load hs Tryd.underlying23 rfl rfl (fun w hw => (hw.to 1 rfl).cellV rfl)) <| pG rfl (fun a hs => y_lenL hs Tryd.underlying23 rfl) <| ?_); clear hs a; intro a hs
    refine a_effG hs rfl (e_callB Tryd.func81 rfl rfl hs rfl rfl (tree_side x.f5.length _) ?_); clear hs a; intro a w hs
    refine go hs (pG rfl (fun a hs => y_not hs rfl) <| pT rfl rfl <| pM rfl <| ?_); clear hs a; intro a hs
    rcases hs.know (d := 75) rfl with ⟨h75, hs1⟩ | ⟨h75, hs1⟩ <;> replace hs := hs1 <;> clear hs1
    · replace h75 := of_decide_eq_false (not_t h75)
      refine go hs (pS rfl <| pS rfl <| pS rfl <| pS rfl <| pS rfl <| pS rfl <| pS rfl <| pS rfl <| pT rfl rfl <| pA rfl <| ?_); clear hs a; intro a hs
      refine wpList_nil (then_normal ?_)
      refine wp_cond_true (hs.ev rfl) ?_
      refine wp_seq (wp_region_lit ?_)
      refine go hs (pA rfl <| ?_); clear hs a; intro a hs
      refine wpList_nil (then_normal (wp_ret (in_ret (then_ret ?_))))
      have hH : ¬ headI x := by
        rintro ⟨nm, v, sh, li, h1, n1, n2, n3, l1, l2, v1, s1⟩
        rw [hsp] at h1
        simp only [Option.some.injEq, Prod.mk.injEq] at h1
        obtain ⟨rfl, rfl, rfl, rfl⟩ := h1
        first | omega | (have := n2 rfl; omega) | (have := n3 (by omega); omega) | (have := l1 rfl; omega) | (have := l2 rfl; omega) | (rw [n1 rfl] at h47; cases h47; done) | (rw [v1 rfl] at h94; cases h94; done) | (rw [s1 rfl] at h85; cases h85; done)
      have hX : itemF x left = (false, left - 1) := by unfold itemF; rw [if_neg (by omega), if_neg hH]
      refine fin_ret hs (.tmp (hs.slots _ _ rfl) .nil) ⟨?_, ?_⟩
      · rw [hX]; first | rfl | simp [tell]
      rw [hX]; exact (hs.mem.to 1 rfl).drop
    replace h75 := of_decide_eq_true (not_f h75)
    refine go hs (pG rfl (fun a hs => y_move hs rfl) <| pG rfl (fun a hs => y_not hs rfl) <| pG rfl (fun a hs => y_move hs rfl) <| pS rfl <| pS rfl <| pS rfl <| pS rfl <| pG rfl (fun a hs => y_pickF hs rfl rfl rfl) <| pF rfl rfl <| pA rfl <| ?_); clear hs a; intro a hs
    refine wpList_nil (then_normal ?_)
    refine wp_cond_false (hs.ev rfl) ?_
    refine wp_seq (wp_region_lit ?_)
    refine go hs (pM rfl <| pV rfl (fun a hs => y_not hs rfl) <| pM rfl <| pG rfl (fun a hs => y_faddr (k' := 2) 2 hs (by kernel_rfl) rfl rfl) <| pG rfl (fun a hs => y_loadAgg (vs := [.int .u8 x.f2.f0, .int .i64 x.f2.f1, .string x.f2.f2, .slice A5 x.f2.f3.length c5, .int .i64 x.f2.f4, .int .i64 x.f2.f5]) hs Tryd.underlying24 rfl (by kernel_rfl) rfl (fun w hw k v hk => ((hw.to 1 rfl).cell).trans (sub_at 6 rfl hk))) <| ?_); clear hs a; intro a hs
    refine a_effG hs rfl (e_callB Tryd.func82 rfl rfl hs rfl rfl (tree_noExpr x.f2 A5 c5 _) ?_); clear hs a; intro a w hs
    refine go hs (pG rfl (fun a hs => y_not hs rfl) <| pT rfl rfl <| pM rfl <| ?_); clear hs a; intro a hs
    rcases hs.know (d := 94) rfl with ⟨h94, hs1⟩ | ⟨h94, hs1⟩ <;> replace hs := hs1 <;> clear hs1
    · replace h94 := (not_t h94)
      refine go hs (pS rfl <| pS rfl <| pS rfl <| pS rfl <| pS rfl <| pS rfl <| pS rfl <| pS rfl <| pT rfl rfl <| pA rfl <| ?_); clear hs a; intro a hs
      refine wpList_nil (then_normal ?_)
      refine wp_cond_true (hs.ev rfl) ?_
      refine wp_seq (wp_region_lit ?_)
      refine go hs (pA rfl <| ?_); clear hs a; intro a hs
      refine wpList_nil (then_normal (wp_ret (in_ret (then_ret ?_))))
      have hH : ¬ headI x := by
        rintro ⟨nm, v, sh, li, h1, n1, n2, n3, l1, l2, v1, s1⟩
        rw [hsp] at h1
        simp only [Option.some.injEq, Prod.mk.injEq] at h1
        obtain ⟨rfl, rfl, rfl, rfl⟩ := h1
        first | omega | (have := n2 rfl; omega) | (have := n3 (by omega); omega) | (have := l1 rfl; omega) | (have := l2 rfl; omega) | (rw [n1 rfl] at h47; cases h47; done) | (rw [v1 rfl] at h94; cases h94; done) | (rw [s1 rfl] at h85; cases h85; done)
      have hX : itemF x left = (false, left - 1) := by unfold itemF; rw [if_neg (by omega), if_neg hH]
      refine fin_ret hs (.tmp (hs.slots _ _ rfl) .nil) ⟨?_, ?_⟩
      · rw [hX]; first | rfl | simp [tell]
      rw [hX]; exact (hs.mem.to 1 rfl).drop
    replace h94 := (not_f h94)
    refine go hs (pG rfl (fun a hs => y_move hs rfl) <| pG rfl (fun a hs => y_not hs rfl) <| pG rfl (fun a hs => y_move hs rfl) <| pG rfl (fun a hs => y_faddr (k' := 8) 8 hs (by kernel_rfl) rfl rfl) <| pG rfl (fun a hs => y_loadAgg (vs := [.int .u8 x.f3.f0, .string x.f3.f1, .slice A10 x.f3.f2.length c10, .slice A11 x.f3.f3.length c11, .slice A12 x.f3.f4.length c12, .int .i64 x.f3.f5, .int .i64 x.f3.f6]) hs Tryd.underlying41 rfl (by kernel_rfl) rfl (fun w hw k v hk => ((hw.to 1 rfl).cell).trans (sub_at 7 rfl hk))) <| ?_); clear hs a; intro a hs
    refine a_effG hs rfl (e_callB Tryd.func83 rfl rfl hs rfl rfl (tree_noShape x.f3 A10 A11 A12 c10 c11 c12 _) ?_); clear hs a; intro a w hs
    refine go hs (pG rfl (fun a hs => y_not hs rfl) <| pG rfl (fun a hs => y_pickT hs rfl rfl rfl) <| pF rfl rfl <| pA rfl <| ?_); clear hs a; intro a hs
    refine wpList_nil (then_normal ?_)
    refine wp_cond_split (hs.ev rfl) (fun h85 => ?_) (fun h85 => ?_)
    · replace h85 := (not_t h85)
      refine wp_seq (wp_region_lit ?_)
      refine go hs (pA rfl <| ?_); clear hs a; intro a hs
      refine wpList_nil (then_normal (wp_ret (in_ret (then_ret ?_))))
      have hH : ¬ headI x := by
        rintro ⟨nm, v, sh, li, h1, n1, n2, n3, l1, l2, v1, s1⟩
        rw [hsp] at h1
        simp only [Option.some.injEq, Prod.mk.injEq] at h1
        obtain ⟨rfl, rfl, rfl, rfl⟩ := h1
        first | omega | (have := n2 rfl; omega) | (have := n3 (by omega); omega) | (have := l1 rfl; omega) | (have := l2 rfl; omega) | (rw [n1 rfl] at h47; cases h47; done) | (rw [v1 rfl] at h94; cases h94; done) | (rw [s1 rfl] at h85; cases h85; done)
      have hX : itemF x left = (false, left - 1) := by unfold itemF; rw [if_neg (by omega), if_neg hH]
      refine fin_ret hs (.tmp (hs.slots _ _ rfl) .nil) ⟨?_, ?_⟩
      · rw [hX]; first | rfl | simp [tell]
      rw [hX]; exact (hs.mem.to 1 rfl).drop
    replace h85 := (not_f h85)
    refine wp_skip (in_normal (then_normal (wp_seq ?_)))
    have hH : headI x := ⟨_, _, _, _, hsp, (fun h => by cases h), (fun _ => by omega), (fun h5 => by omega), (fun _ => by omega), (fun h => by cases h), (fun _ => h94), (fun _ => h85)⟩
    obtain ⟨RR1, hRR⟩ : ∃ RR1 : Bool × Int, RR1 = (true, left - 1) := ⟨_, rfl⟩
    have hV : valI x (left - 1) = RR1 := by unfold valI; rw [if_neg (show ¬ hasV x by unfold hasV; omega), hRR]
    have hV1 : RR1.1 = true := by rw [hRR]
    have hb1 : 0 ≤ RR1.2 ∧ RR1.2 ≤ 8192 := by rw [hRR]; exact ⟨by show 0 ≤ left - 1; omega, by show left - 1 ≤ 8192; omega⟩
    rw [show left - 1 = RR1.2 by rw [hRR]] at hs
    refine wp_region_lit (go hs (pM rfl <| pV rfl (fun a hs => y_not hs rfl) <| pM rfl <| pS rfl <| pS rfl <| pS rfl <| pS rfl <| pS rfl <| pT rfl rfl <| pM rfl <| pG rfl (fun a hs => y_move hs rfl) <| pG rfl (fun a hs => y_not hs rfl) <| pG rfl (fun a hs => y_move hs rfl) <| pS rfl <| pS rfl <| pS rfl <| pS rfl <| pG rfl (fun a hs => y_pickT hs rfl rfl rfl) <| pT rfl rfl <| pM rfl <| pG rfl (fun a hs => y_move hs rfl) <| pG rfl (fun a hs => y_faddr (k' := 16) 16 hs (by kernel_rfl) rfl rfl) <| pG rfl (fun a hs => y_load hs Tryd.underlying23 rfl rfl (fun w hw => (hw.to 1 rfl).cellV rfl)) <| ?_)); clear hs a; intro a hs
    obtain ⟨RR2, hRR2⟩ : ∃ RR2 : Bool × Int, RR2 = (true, RR1.2) := ⟨_, rfl⟩
    have hS : shI x RR1.2 = RR2 := by unfold shI; rw [if_neg (by omega), hRR2]
    have hS1 : RR2.1 = true := by rw [hRR2]
    have hb2 : 0 ≤ RR2.2 ∧ RR2.2 ≤ 8192 := by rw [hRR2]; exact hb1
    rw [show RR1.2 = RR2.2 by rw [hRR2]] at hs
    refine a_effG hs rfl (e_callX Tryd.func77 rfl rfl hs rfl rfl (walk_exprs g A16 c16 x.f5 RR2.2 _ w0 _ hA16 hsm.2.2.2 hb2 hs.mem) (fun e w1 ⟨he, hm⟩ => ⟨_, he, _, hm, ?_⟩)); clear hs a; intro a hs
    refine go hs (pT rfl rfl <| pA rfl <| ?_); clear hs a; intro a hs
    refine wpList_nil (then_normal (wp_ret ?_))
    have hX : itemF x left = xlist stE x.f5 RR2.2 := by unfold itemF; rw [if_neg (by omega), if_pos hH, hV, if_pos hV1, hS, if_pos hS1]
    refine fin_ret hs (.tmp (hs.slots _ _ rfl) .nil) ⟨?_, ?_⟩
    · rw [hX]; first | rfl | simp [tell]
    rw [hX]; exact (hs.mem.to 1 rfl).drop
  refine wp_region_lit (go hs (pM rfl <| pM rfl <| pS rfl <| pS rfl <| pS rfl <| pS rfl <| pF rfl rfl <| pM rfl <| pG rfl (fun a hs => y_move hs rfl) <| pG rfl (fun a hs => y_not hs rfl) <| pG rfl (fun a hs => y_move hs rfl) <| pG rfl (fun a hs => y_faddr (k' := 1) 1 hs (by kernel_rfl) rfl rfl) <| pG rfl (fun a hs => y_load hs Tryd.underlying9 rfl rfl (fun w hw => (hw.to 1 rfl).cellV rfl)) <| pG rfl (fun a hs => y_sneE hs rfl rfl) <| pG rfl (fun a hs => y_pickT hs rfl rfl rfl) <| pF rfl rfl <| pM rfl <| ?_)); clear hs a; intro a hs
  rcases hs.know (d := 56) rfl with ⟨h56, hs1⟩ | ⟨h56, hs1⟩ <;> replace hs := hs1 <;> clear hs1
  · replace h56 := of_decide_eq_true h56
    refine go hs (pS rfl <| pS rfl <| pS rfl <| pS rfl <| pS rfl <| pS rfl <| pS rfl <| pS rfl <| pT rfl rfl <| pA rfl <| ?_); clear hs a; intro a hs
    refine wpList_nil (then_normal ?_)
    refine wp_cond_true (hs.ev rfl) ?_
    refine wp_seq (wp_region_lit ?_)
    refine go hs (pA rfl <| ?_); clear hs a; intro a hs
    refine wpList_nil (then_normal (wp_ret (in_ret (then_ret ?_))))
    have hH : ¬ headI x := by
      rintro ⟨nm, v, sh, li, h1, n1, n2, n3, l1, l2, v1, s1⟩
      rw [hsp] at h1
      simp only [Option.some.injEq, Prod.mk.injEq] at h1
      obtain ⟨rfl, rfl, rfl, rfl⟩ := h1
      first | omega | (have := n2 rfl; omega) | (have := n3 (by omega); omega) | (have := l1 rfl; omega) | (have := l2 rfl; omega) | (rw [n1 rfl] at h47; cases h47; done) | (rw [v1 rfl] at h94; cases h94; done) | (rw [s1 rfl] at h85; cases h85; done)
    have hX : itemF x left = (false, left - 1) := by unfold itemF; rw [if_neg (by omega), if_neg hH]
    refine fin_ret hs (.tmp (hs.slots _ _ rfl) .nil) ⟨?_, ?_⟩
    · rw [hX]; first | rfl | simp [tell]
    rw [hX]; exact (hs.mem.to 1 rfl).drop
  replace h56 := of_decide_eq_false h56
  refine go hs (pG rfl (fun a hs => y_faddr (k' := 0) 0 hs (by kernel_rfl) rfl rfl) <| pG rfl (fun a hs => y_load hs Tryd.underlying37 rfl rfl (fun w hw => (hw.to 1 rfl).cellV rfl)) <| pG rfl (fun a hs => y_cmp hs rfl rfl rfl) <| pG rfl (fun a hs => y_move hs rfl) <| ?_); clear hs a; intro a hs
  rcases hs.know (d := 60) rfl with ⟨h60, hs1⟩ | ⟨h60, hs1⟩ <;> replace hs := hs1 <;> clear hs1
  · replace h60 := bne_iff_ne.1 h60
    refine go hs (pG rfl (fun a hs => y_faddr (k' := 15) 15 hs (by kernel_rfl) rfl rfl) <| pG rfl (fun a hs => y_load hs Tryd.underlying43 rfl rfl (fun w hw => (hw.to 1 rfl).cellV rfl)) <| pG rfl (fun a hs => y_cmp hs rfl rfl rfl) <| pG rfl (fun a hs => y_pickT hs rfl rfl rfl) <| pF rfl rfl <| pA rfl <| ?_); clear hs a; intro a hs
    refine wpList_nil (then_normal ?_)
    refine wp_cond_split (hs.ev rfl) (fun h39 => ?_) (fun h39 => ?_)
    · replace h39 := bne_iff_ne.1 h39
      refine wp_seq (wp_region_lit ?_)
      refine go hs (pA rfl <| ?_); clear hs a; intro a hs
      refine wpList_nil (then_normal (wp_ret (in_ret (then_ret ?_))))
      have hH : ¬ headI x := by
        rintro ⟨nm, v, sh, li, h1, n1, n2, n3, l1, l2, v1, s1⟩
        rw [hsp] at h1
        simp only [Option.some.injEq, Prod.mk.injEq] at h1
        obtain ⟨rfl, rfl, rfl, rfl⟩ := h1
        first | omega | (have := n2 rfl; omega) | (have := n3 (by omega); omega) | (have := l1 rfl; omega) | (have := l2 rfl; omega) | (rw [n1 rfl] at h47; cases h47; done) | (rw [v1 rfl] at h94; cases h94; done) | (rw [s1 rfl] at h85; cases h85; done)
      have hX : itemF x left = (false, left - 1) := by unfold itemF; rw [if_neg (by omega), if_neg hH]
      refine fin_ret hs (.tmp (hs.slots _ _ rfl) .nil) ⟨?_, ?_⟩
      · rw [hX]; first | rfl | simp [tell]
      rw [hX]; exact (hs.mem.to 1 rfl).drop
    replace h39 := bne_eq_false_iff_eq.1 h39
    refine wp_seq (wp_region_lit ?_)
    refine go hs (pM rfl <| pM rfl <| pS rfl <| pS rfl <| pS rfl <| pS rfl <| pS rfl <| pF rfl rfl <| pM rfl <| pG rfl (fun a hs => y_move hs rfl) <| pG rfl (fun a hs => y_not hs rfl) <| pG rfl (fun a hs => y_move hs rfl) <| pG rfl (fun a hs => y_faddr (k' := 16) 16 hs (by kernel_rfl) rfl rfl) <| pG rfl (fun a hs => y_load hs Tryd.underlying23 rfl rfl (fun w hw => (hw.to 1 rfl).cellV rfl)) <| pG rfl (fun a hs => y_lenL hs Tryd.underlying23 rfl) <| pG rfl (fun a hs => y_cmp hs rfl rfl rfl) <| pG rfl (fun a hs => y_pickT hs rfl rfl rfl) <| pF rfl rfl <| pA rfl <| ?_); clear hs a; intro a hs
    refine wpList_nil (then_normal ?_)
    refine wp_cond_split (hs.ev rfl) (fun h66 => ?_) (fun h66 => ?_)
    · replace h66 := of_decide_eq_true h66
      refine wp_seq (wp_region_lit ?_)
      refine go hs (pA rfl <| ?_); clear hs a; intro a hs
      refine wpList_nil (then_normal (wp_ret (in_ret (then_ret ?_))))
      have hH : ¬ headI x := by
        rintro ⟨nm, v, sh, li, h1, n1, n2, n3, l1, l2, v1, s1⟩
        rw [hsp] at h1
        simp only [Option.some.injEq, Prod.mk.injEq] at h1
        obtain ⟨rfl, rfl, rfl, rfl⟩ := h1
        first | omega | (have := n2 rfl; omega) | (have := n3 (by omega); omega) | (have := l1 rfl; omega) | (have := l2 rfl; omega) | (rw [n1 rfl] at h47; cases h47; done) | (rw [v1 rfl] at h94; cases h94; done) | (rw [s1 rfl] at h85; cases h85; done)
      have hX : itemF x left = (false, left - 1) := by unfold itemF; rw [if_neg (by omega), if_neg hH]
      refine fin_ret hs (.tmp (hs.slots _ _ rfl) .nil) ⟨?_, ?_⟩
      · rw [hX]; first | rfl | simp [tell]
      rw [hX]; exact (hs.mem.to 1 rfl).drop
    replace h66 := of_decide_eq_false h66
    refine wp_seq (wp_region_lit ?_)
    refine go hs (pM rfl <| pV rfl (fun a hs => y_not hs rfl) <| pM rfl <| pG rfl (fun a hs => y_faddr (k' := 2) 2 hs (by kernel_rfl) rfl rfl) <| pG rfl (fun a hs => y_loadAgg (vs := [.int .u8 x.f2.f0, .int .i64 x.f2.f1, .string x.f2.f2, .slice A5 x.f2.f3.length c5, .int .i64 x.f2.f4, .int .i64 x.f2.f5]) hs Tryd.underlying24 rfl (by kernel_rfl) rfl (fun w hw k v hk => ((hw.to 1 rfl).cell).trans (sub_at 6 rfl hk))) <| ?_); clear hs a; intro a hs
    refine a_effG hs rfl (e_callB Tryd.func82 rfl rfl hs rfl rfl (tree_noExpr x.f2 A5 c5 _) ?_); clear hs a; intro a w hs
    refine go hs (pG rfl (fun a hs => y_not hs rfl) <| pT rfl rfl <| pM rfl <| ?_); clear hs a; intro a hs
    rcases hs.know (d := 94) rfl with ⟨h94, hs1⟩ | ⟨h94, hs1⟩ <;> replace hs := hs1 <;> clear hs1
    · replace h94 := (not_t h94)
      refine go hs (pS rfl <| pS rfl <| pS rfl <| pS rfl <| pS rfl <| pS rfl <| pS rfl <| pS rfl <| pT rfl rfl <| pA rfl <| ?_); clear hs a; intro a hs
      refine wpList_nil (then_normal ?_)
      refine wp_cond_true (hs.ev rfl) ?_
      refine wp_seq (wp_region_lit ?_)
      refine go hs (pA rfl <| ?_); clear hs a; intro a hs
      refine wpList_nil (then_normal (wp_ret (in_ret (then_ret ?_))))
      have hH : ¬ headI x := by
        rintro ⟨nm, v, sh, li, h1, n1, n2, n3, l1, l2, v1, s1⟩
        rw [hsp] at h1
        simp only [Option.some.injEq, Prod.mk.injEq] at h1
        obtain ⟨rfl, rfl, rfl, rfl⟩ := h1
        first | omega | (have := n2 rfl; omega) | (have := n3 (by omega); omega) | (have := l1 rfl; omega) | (have := l2 rfl; omega) | (rw [n1 rfl] at h47; cases h47; done) | (rw [v1 rfl] at h94; cases h94; done) | (rw [s1 rfl] at h85; cases h85; done)
      have hX : itemF x left = (false, left - 1) := by unfold itemF; rw [if_neg (by omega), if_neg hH]
      refine fin_ret hs (.tmp (hs.slots _ _ rfl) .nil) ⟨?_, ?_⟩
      · rw [hX]; first | rfl | simp [tell]
      rw [hX]; exact (hs.mem.to 1 rfl).drop
    replace h94 := (not_f h94)
    refine go hs (pG rfl (fun a hs => y_move hs rfl) <| pG rfl (fun a hs => y_not hs rfl) <| pG rfl (fun a hs => y_move hs rfl) <| pG rfl (fun a hs => y_faddr (k' := 8) 8 hs (by kernel_rfl) rfl rfl) <| pG rfl (fun a hs => y_loadAgg (vs := [.int .u8 x.f3.f0, .string x.f3.f1, .slice A10 x.f3.f2.length c10, .slice A11 x.f3.f3.length c11, .slice A12 x.f3.f4.length c12, .int .i64 x.f3.f5, .int .i64 x.f3.f6]) hs Tryd.underlying41 rfl (by kernel_rfl) rfl (fun w hw k v hk => ((hw.to 1 rfl).cell).trans (sub_at 7 rfl hk))) <| ?_); clear hs a; intro a hs
    refine a_effG hs rfl (e_callB Tryd.func83 rfl rfl hs rfl rfl (tree_noShape x.f3 A10 A11 A12 c10 c11 c12 _) ?_); clear hs a; intro a w hs
    refine go hs (pG rfl (fun a hs => y_not hs rfl) <| pG rfl (fun a hs => y_pickT hs rfl rfl rfl) <| pF rfl rfl <| pA rfl <| ?_); clear hs a; intro a hs
    refine wpList_nil (then_normal ?_)
    refine wp_cond_split (hs.ev rfl) (fun h85 => ?_) (fun h85 => ?_)
    · replace h85 := (not_t h85)
      refine wp_seq (wp_region_lit ?_)
      refine go hs (pA rfl <| ?_); clear hs a; intro a hs
      refine wpList_nil (then_normal (wp_ret (in_ret (then_ret ?_))))
      have hH : ¬ headI x := by
        rintro ⟨nm, v, sh, li, h1, n1, n2, n3, l1, l2, v1, s1⟩
        rw [hsp] at h1
        simp only [Option.some.injEq, Prod.mk.injEq] at h1
        obtain ⟨rfl, rfl, rfl, rfl⟩ := h1
        first | omega | (have := n2 rfl; omega) | (have := n3 (by omega); omega) | (have := l1 rfl; omega) | (have := l2 rfl; omega) | (rw [n1 rfl] at h47; cases h47; done) | (rw [v1 rfl] at h94; cases h94; done) | (rw [s1 rfl] at h85; cases h85; done)
      have hX : itemF x left = (false, left - 1) := by unfold itemF; rw [if_neg (by omega), if_neg hH]
      refine fin_ret hs (.tmp (hs.slots _ _ rfl) .nil) ⟨?_, ?_⟩
      · rw [hX]; first | rfl | simp [tell]
      rw [hX]; exact (hs.mem.to 1 rfl).drop
    replace h85 := (not_f h85)
    refine wp_skip (in_normal (then_normal (wp_seq ?_)))
    have hH : headI x := ⟨_, _, _, _, hsp, (fun h => by cases h), (fun _ => by omega), (fun h5 => by omega), (fun h => by cases h), (fun _ => by omega), (fun _ => h94), (fun _ => h85)⟩
    obtain ⟨RR1, hRR⟩ : ∃ RR1 : Bool × Int, RR1 = (true, left - 1) := ⟨_, rfl⟩
    have hV : valI x (left - 1) = RR1 := by unfold valI; rw [if_neg (show ¬ hasV x by unfold hasV; omega), hRR]
    have hV1 : RR1.1 = true := by rw [hRR]
    have hb1 : 0 ≤ RR1.2 ∧ RR1.2 ≤ 8192 := by rw [hRR]; exact ⟨by show 0 ≤ left - 1; omega, by show left - 1 ≤ 8192; omega⟩
    rw [show left - 1 = RR1.2 by rw [hRR]] at hs
    refine wp_region_lit (go hs (pM rfl <| pV rfl (fun a hs => y_not hs rfl) <| pM rfl <| pS rfl <| pS rfl <| pS rfl <| pS rfl <| pS rfl <| pT rfl rfl <| pM rfl <| pG rfl (fun a hs => y_move hs rfl) <| pG rfl (fun a hs => y_not hs rfl) <| pG rfl (fun a hs => y_move hs rfl) <| pS rfl <| pS rfl <| pS rfl <| pS rfl <| pG rfl (fun a hs => y_pickT hs rfl rfl rfl) <| pT rfl rfl <| pM rfl <| pG rfl (fun a hs => y_move hs rfl) <| pG rfl (fun a hs => y_faddr (k' := 16) 16 hs (by kernel_rfl) rfl rfl) <| pG rfl (fun a hs => y_load hs Tryd.underlying23 rfl rfl (fun w hw => (hw.to 1 rfl).cellV rfl)) <| ?_)); clear hs a; intro a hs
    obtain ⟨RR2, hRR2⟩ : ∃ RR2 : Bool × Int, RR2 = (true, RR1.2) := ⟨_, rfl⟩
    have hS : shI x RR1.2 = RR2 := by unfold shI; rw [if_neg (by omega), hRR2]
    have hS1 : RR2.1 = true := by rw [hRR2]
    have hb2 : 0 ≤ RR2.2 ∧ RR2.2 ≤ 8192 := by rw [hRR2]; exact hb1
    rw [show RR1.2 = RR2.2 by rw [hRR2]] at hs
    refine a_effG hs rfl (e_callX Tryd.func77 rfl rfl hs rfl rfl (walk_exprs g A16 c16 x.f5 RR2.2 _ w0 _ hA16 hsm.2.2.2 hb2 hs.mem) (fun e w1 ⟨he, hm⟩ => ⟨_, he, _, hm, ?_⟩)); clear hs a; intro a hs
    refine go hs (pT rfl rfl <| pA rfl <| ?_); clear hs a; intro a hs
    refine wpList_nil (then_normal (wp_ret ?_))
    have hX : itemF x left = xlist stE x.f5 RR2.2 := by unfold itemF; rw [if_neg (by omega), if_pos hH, hV, if_pos hV1, hS, if_pos hS1]
    refine fin_ret hs (.tmp (hs.slots _ _ rfl) .nil) ⟨?_, ?_⟩
    · rw [hX]; first | rfl | simp [tell]
    rw [hX]; exact (hs.mem.to 1 rfl).drop
  replace h60 := bne_eq_false_iff_eq.1 h60
  refine go hs (pS rfl <| pS rfl <| pS rfl <| pG rfl (fun a hs => y_pickF hs rfl rfl rfl) <| pF rfl rfl <| pA rfl <| ?_); clear hs a; intro a hs
  refine wpList_nil (then_normal ?_)
  refine wp_cond_false (hs.ev rfl) ?_
  refine wp_seq (wp_region_lit ?_)
  refine go hs (pM rfl <| pM rfl <| pS rfl <| pS rfl <| pS rfl <| pS rfl <| pS rfl <| pF rfl rfl <| pM rfl <| pG rfl (fun a hs => y_move hs rfl) <| pG rfl (fun a hs => y_not hs rfl) <| pG rfl (fun a hs => y_move hs rfl) <| pG rfl (fun a hs => y_faddr (k' := 16) 16 hs (by kernel_rfl) rfl rfl) <| pG rfl (fun a hs => y_load hs Tryd.underlying23 rfl rfl (fun w hw => (hw.to 1 rfl).cellV rfl)) <| pG rfl (fun a hs => y_lenL hs Tryd.underlying23 rfl) <| pG rfl (fun a hs => y_cmp hs rfl rfl rfl) <| pG rfl (fun a hs => y_pickT hs rfl rfl rfl) <| pF rfl rfl <| pA rfl <| ?_); clear hs a; intro a hs
  refine wpList_nil (then_normal ?_)
  refine wp_cond_split (hs.ev rfl) (fun h66 => ?_) (fun h66 => ?_)
  · replace h66 := of_decide_eq_true h66
    refine wp_seq (wp_region_lit ?_)
    refine go hs (pA rfl <| ?_); clear hs a; intro a hs
    refine wpList_nil (then_normal (wp_ret (in_ret (then_ret ?_))))
    have hH : ¬ headI x := by
      rintro ⟨nm, v, sh, li, h1, n1, n2, n3, l1, l2, v1, s1⟩
      rw [hsp] at h1
      simp only [Option.some.injEq, Prod.mk.injEq] at h1
      obtain ⟨rfl, rfl, rfl, rfl⟩ := h1
      first | omega | (have := n2 rfl; omega) | (have := n3 (by omega); omega) | (have := l1 rfl; omega) | (have := l2 rfl; omega) | (rw [n1 rfl] at h47; cases h47; done) | (rw [v1 rfl] at h94; cases h94; done) | (rw [s1 rfl] at h85; cases h85; done)
    have hX : itemF x left = (false, left - 1) := by unfold itemF; rw [if_neg (by omega), if_neg hH]
    refine fin_ret hs (.tmp (hs.slots _ _ rfl) .nil) ⟨?_, ?_⟩
    · rw [hX]; first | rfl | simp [tell]
    rw [hX]; exact (hs.mem.to 1 rfl).drop
  replace h66 := of_decide_eq_false h66
  refine wp_seq (wp_region_lit ?_)
  refine go hs (pM rfl <| pV rfl (fun a hs => y_not hs rfl) <| pM rfl <| pG rfl (fun a hs => y_faddr (k' := 2) 2 hs (by kernel_rfl) rfl rfl) <| pG rfl (fun a hs => y_loadAgg (vs := [.int .u8 x.f2.f0, .int .i64 x.f2.f1, .string x.f2.f2, .slice A5 x.f2.f3.length c5, .int .i64 x.f2.f4, .int .i64 x.f2.f5]) hs Tryd.underlying24 rfl (by kernel_rfl) rfl (fun w hw k v hk => ((hw.to 1 rfl).cell).trans (sub_at 6 rfl hk))) <| ?_); clear hs a; intro a hs
  refine a_effG hs rfl (e_callB Tryd.func82 rfl rfl hs rfl rfl (tree_noExpr x.f2 A5 c5 _) ?_); clear hs a; intro a w hs
  refine go hs (pG rfl (fun a hs => y_not hs rfl) <| pT rfl rfl <| pM rfl <| ?_); clear hs a; intro a hs
  rcases hs.know (d := 94) rfl with ⟨h94, hs1⟩ | ⟨h94, hs1⟩ <;> replace hs := hs1 <;> clear hs1
  · replace h94 := (not_t h94)
    refine go hs (pS rfl <| pS rfl <| pS rfl <| pS rfl <| pS rfl <| pS rfl <| pS rfl <| pS rfl <| pT rfl rfl <| pA rfl <| ?_); clear hs a; intro a hs
    refine wpList_nil (then_normal ?_)
    refine wp_cond_true (hs.ev rfl) ?_
    refine wp_seq (wp_region_lit ?_)
    refine go hs (pA rfl <| ?_); clear hs a; intro a hs
    refine wpList_nil (then_normal (wp_ret (in_ret (then_ret ?_))))
    have hH : ¬ headI x := by
      rintro ⟨nm, v, sh, li, h1, n1, n2, n3, l1, l2, v1, s1⟩
      rw [hsp] at h1
      simp only [Option.some.injEq, Prod.mk.injEq] at h1
      obtain ⟨rfl, rfl, rfl, rfl⟩ := h1
      first | omega | (have := n2 rfl; omega) | (have := n3 (by omega); omega) | (have := l1 rfl; omega) | (have := l2 rfl; omega) | (rw [n1 rfl] at h47; cases h47; done) | (rw [v1 rfl] at h94; cases h94; done) | (rw [s1 rfl] at h85; cases h85; done)
    have hX : itemF x left = (false, left - 1) := by unfold itemF; rw [if_neg (by omega), if_neg hH]
    refine fin_ret hs (.tmp (hs.slots _ _ rfl) .nil) ⟨?_, ?_⟩
    · rw [hX]; first | rfl | simp [tell]
    rw [hX]; exact (hs.mem.to 1 rfl).drop
  replace h94 := (not_f h94)
  refine go hs (pG rfl (fun a hs => y_move hs rfl) <| pG rfl (fun a hs => y_not hs rfl) <| pG rfl (fun a hs => y_move hs rfl) <| pG rfl (fun a hs => y_faddr (k' := 8) 8 hs (by kernel_rfl) rfl rfl) <| pG rfl (fun a hs => y_loadAgg (vs := [.int .u8 x.f3.f0, .string x.f3.f1, .slice A10 x.f3.f2.length c10, .slice A11 x.f3.f3.length c11, .slice A12 x.f3.f4.length c12, .int .i64 x.f3.f5, .int .i64 x.f3.f6]) hs Tryd.underlying41 rfl (by kernel_rfl) rfl (fun w hw k v hk => ((hw.to 1 rfl).cell).trans (sub_at 7 rfl hk))) <| ?_); clear hs a; intro a hs
  refine a_effG hs rfl (e_callB Tryd.func83 rfl rfl hs rfl rfl (tree_noShape x.f3 A10 A11 A12 c10 c11 c12 _) ?_); clear hs a; intro a w hs
  refine go hs (pG rfl (fun a hs => y_not hs rfl) <| pG rfl (fun a hs => y_pickT hs rfl rfl rfl) <| pF rfl rfl <| pA rfl <| ?_); clear hs a; intro a hs
  refine wpList_nil (then_normal ?_)
  refine wp_cond_split (hs.ev rfl) (fun h85 => ?_) (fun h85 => ?_)
  · replace h85 := (not_t h85)
    refine wp_seq (wp_region_lit ?_)
    refine go hs (pA rfl <| ?_); clear hs a; intro a hs
    refine wpList_nil (then_normal (wp_ret (in_ret (then_ret ?_))))
    have hH : ¬ headI x := by
      rintro ⟨nm, v, sh, li, h1, n1, n2, n3, l1, l2, v1, s1⟩
      rw [hsp] at h1
      simp only [Option.some.injEq, Prod.mk.injEq] at h1
      obtain ⟨rfl, rfl, rfl, rfl⟩ := h1
      first | omega | (have := n2 rfl; omega) | (have := n3 (by omega); omega) | (have := l1 rfl; omega) | (have := l2 rfl; omega) | (rw [n1 rfl] at h47; cases h47; done) | (rw [v1 rfl] at h94; cases h94; done) | (rw [s1 rfl] at h85; cases h85; done)
    have hX : itemF x left = (false, left - 1) := by unfold itemF; rw [if_neg (by omega), if_neg hH]
    refine fin_ret hs (.tmp (hs.slots _ _ rfl) .nil) ⟨?_, ?_⟩
    · rw [hX]; first | rfl | simp [tell]
    rw [hX]; exact (hs.mem.to 1 rfl).drop
  replace h85 := (not_f h85)
  refine wp_skip (in_normal (then_normal (wp_seq ?_)))
  have hH : headI x := ⟨_, _, _, _, hsp, (fun h => by cases h), (fun _ => by omega), (fun h5 => by omega), (fun h => by cases h), (fun _ => by omega), (fun _ => h94), (fun _ => h85)⟩
  obtain ⟨RR1, hRR⟩ : ∃ RR1 : Bool × Int, RR1 = (true, left - 1) := ⟨_, rfl⟩
  have hV : valI x (left - 1) = RR1 := by unfold valI; rw [if_neg (show ¬ hasV x by unfold hasV; omega), hRR]
  have hV1 : RR1.1 = true := by rw [hRR]
  have hb1 : 0 ≤ RR1.2 ∧ RR1.2 ≤ 8192 := by rw [hRR]; exact ⟨by show 0 ≤ left - 1; omega, by show left - 1 ≤ 8192; omega⟩
  rw [show left - 1 = RR1.2 by rw [hRR]] at hs
  refine wp_region_lit (go hs (pM rfl <| pV rfl (fun a hs => y_not hs rfl) <| pM rfl <| pS rfl <| pS rfl <| pS rfl <| pS rfl <| pS rfl <| pT rfl rfl <| pM rfl <| pG rfl (fun a hs => y_move hs rfl) <| pG rfl (fun a hs => y_not hs rfl) <| pG rfl (fun a hs => y_move hs rfl) <| pS rfl <| pS rfl <| pS rfl <| pS rfl <| pG rfl (fun a hs => y_pickT hs rfl rfl rfl) <| pT rfl rfl <| pM rfl <| pG rfl (fun a hs => y_move hs rfl) <| pG rfl (fun a hs => y_faddr (k' := 16) 16 hs (by kernel_rfl) rfl rfl) <| pG rfl (fun a hs => y_load hs Tryd.underlying23 rfl rfl (fun w hw => (hw.to 1 rfl).cellV rfl)) <| ?_)); clear hs a; intro a hs
  obtain ⟨RR2, hRR2⟩ : ∃ RR2 : Bool × Int, RR2 = (true, RR1.2) := ⟨_, rfl⟩
  have hS : shI x RR1.2 = RR2 := by unfold shI; rw [if_neg (by omega), hRR2]
  have hS1 : RR2.1 = true := by rw [hRR2]
  have hb2 : 0 ≤ RR2.2 ∧ RR2.2 ≤ 8192 := by rw [hRR2]; exact hb1
  rw [show RR1.2 = RR2.2 by rw [hRR2]] at hs
  refine a_effG hs rfl (e_callX Tryd.func77 rfl rfl hs rfl rfl (walk_exprs g A16 c16 x.f5 RR2.2 _ w0 _ hA16 hsm.2.2.2 hb2 hs.mem) (fun e w1 ⟨he, hm⟩ => ⟨_, he, _, hm, ?_⟩)); clear hs a; intro a hs
  refine go hs (pT rfl rfl <| pA rfl <| ?_); clear hs a; intro a hs
  refine wpList_nil (then_normal (wp_ret ?_))
  have hX : itemF x left = xlist stE x.f5 RR2.2 := by unfold itemF; rw [if_neg (by omega), if_pos hH, hV, if_pos hV1, hS, if_pos hS1]
  refine fin_ret hs (.tmp (hs.slots _ _ rfl) .nil) ⟨?_, ?_⟩
  · rw [hX]; first | rfl | simp [tell]
  rw [hX]; exact (hs.mem.to 1 rfl).drop
set_option maxRecDepth 100000 in
theorem item_one (g gc : Nat) (x : XI) (A5 A10 A11 A12 A16 : Option Addr) (c5 c10 c11 c12 c16 : Nat) (lf : Int) (bs : List Res) (w0 w : World) (hA5 : Kd.C k25 w0 A5 x.f2.f3.length x.f2.f3) (hA10 : Kd.C k25 w0 A10 x.f3.f2.length x.f3.f2) (hA11 : Kd.C k42 w0 A11 x.f3.f3.length x.f3.f3) (hA12 : Kd.C (Kd.slice 25 k25) w0 A12 x.f3.f4.length x.f3.f4) (hA16 : Kd.C k25 w0 A16 x.f5.length x.f5) (hsm : smallI x) (hlf : 0 ≤ lf ∧ lf ≤ 8192) (h : H w0 (pt g #[.int .i64 (lf)] 102 :: pt gc #[.pointer (some ⟨g, 0, none⟩)] 72 :: bs) w) :
    Calls Tryd.prog 48 #[.agg #[.int .u8 x.f0, .string x.f1, .int .u8 x.f2.f0, .int .i64 x.f2.f1, .string x.f2.f2, .slice A5 x.f2.f3.length c5, .int .i64 x.f2.f4, .int .i64 x.f2.f5, .int .u8 x.f3.f0, .string x.f3.f1, .slice A10 x.f3.f2.length c10, .slice A11 x.f3.f3.length c11, .slice A12 x.f3.f4.length c12, .int .i64 x.f3.f5, .int .i64 x.f3.f6, .int .u8 x.f4, .slice A16 x.f5.length c16, .int .i64 x.f6, .int .i64 x.f7], .pointer (some ⟨gc, 0, none⟩)] w fun e w' => e = .returned (.bool (!(itemF x lf).1)) ∧ H w0 (pt g #[.int .i64 ((itemF x lf).2)] 102 :: pt gc #[.pointer (some ⟨g, 0, none⟩)] 72 :: bs) w' := by
  refine calls_enter (N := 8) (n := 6) (args := [.agg #[.int .u8 x.f0, .string x.f1, .int .u8 x.f2.f0, .int .i64 x.f2.f1, .string x.f2.f2, .slice A5 x.f2.f3.length c5, .int .i64 x.f2.f4, .int .i64 x.f2.f5, .int .u8 x.f3.f0, .string x.f3.f1, .slice A10 x.f3.f2.length c10, .slice A11 x.f3.f3.length c11, .slice A12 x.f3.f4.length c12, .int .i64 x.f3.f5, .int .i64 x.f3.f6, .int .u8 x.f4, .slice A16 x.f5.length c16, .int .i64 x.f6, .int .i64 x.f7], .pointer (some ⟨gc, 0, none⟩)]) Tryd.func48 rfl rfl rfl (h) (fun a hs => ?_)
  refine wp_seq (wp_region_lit ?_)
  refine a_eff rfl (e_box (cs := #[_, _, _, _, _, _, _, _, _, _, _, _, _, _, _, _, _, _, _]) hs rfl rfl rfl ?_); clear hs a; intro gy a w hs
  refine go hs (pA rfl <| ?_); clear hs a; intro a hs
  refine wpList_nil (then_normal (wp_seq ?_))
  refine wp_region_lit (go hs (pV rfl (fun a hs => y_load hs Tryd.underlying72 rfl rfl (fun w hw => (hw.to 2 rfl).cellV rfl)) <| pV rfl (fun a hs => y_loadPt 0 rfl hs Tryd.underlying45 rfl (by kernel_rfl) rfl) <| ?_)); clear hs a; intro a hs
  refine a_eff rfl (e_callX Tryd.func49 rfl rfl hs rfl rfl (walk_item g x A5 A10 A11 A12 A16 c5 c10 c11 c12 c16 lf _ w0 _ hA5 hA10 hA11 hA12 hA16 hsm hlf (hs.mem.to 1 rfl)) (fun e w1 ⟨he, hm⟩ => ⟨_, he, _, hm, ?_⟩)); clear hs a; intro a hs
  refine go hs (pV rfl (fun a hs => y_not hs rfl) <| pA rfl <| ?_); clear hs a; intro a hs
  refine wpList_nil (then_normal (wp_ret ?_))
  refine fin_ret hs (.tmp (hs.slots _ _ rfl) .nil) ⟨rfl, (((hs.mem.to 1 rfl).drop.to 1 rfl).to 1 rfl)⟩
noncomputable def mayI (l : List XI) : Bool := decide (l.length ≤ 64) && (xlist itemF l 8192).1
set_option maxRecDepth 100000 in
theorem tree_May (A : Option Addr) (c : Nat) (l : List XI) (v0 : World) (hA : Kd.C k45 v0 A l.length l) (hsm : ∀ p ∈ l, smallI p) :
    Calls Tryd.prog 23 #[.slice A l.length c] v0 fun e w' => e = .returned (.bool (mayI l)) ∧ Below v0.heap.size v0 w' := by
  refine calls_enter (N := 14) (n := 13) (args := [.slice A l.length c]) Tryd.func23 rfl rfl rfl (H.init v0) (fun a hs => ?_)
  refine wp_seq (wp_region_lit ?_)
  refine go hs (pA rfl <| ?_); clear hs a; intro a hs
  refine wpList_nil (then_normal (wp_seq ?_))
  refine wp_region_lit ?_
  refine a_eff rfl (e_callX Tryd.func43 rfl rfl hs rfl rfl (tree_all _) (fun e w1 ⟨ga, he, hm⟩ => ⟨_, he, _, hs.mem.more hm, ?_⟩)); clear hs a; intro a hs
  refine a_eff rfl (e_alloc (z := .pointer none) (cs := #[.pointer none]) hs rfl (by kernel_rfl) rfl ?_); clear hs a; intro gc a w hs
  refine a_eff rfl (e_store (cl := [_]) 0 rfl hs rfl rfl (by kernel_rfl) rfl rfl rfl ?_); clear hs a; intro a w hs
  refine wpList_nil (then_normal (wp_seq ?_))
  refine wp_region_lit (go hs (pM rfl <| pV rfl (fun a hs => y_lenL hs Tryd.underlying32 rfl) <| pV rfl (fun a hs => y_cmp hs rfl rfl rfl) <| pM rfl <| ?_)); clear hs a; intro a hs
  rcases hs.know (d := 8) rfl with ⟨h8, hs1⟩ | ⟨h8, hs1⟩ <;> replace hs := hs1 <;> clear hs1
  · replace h8 := of_decide_eq_true h8
    refine go hs (pG rfl (fun a hs => y_move hs rfl) <| pG rfl (fun a hs => y_func hs rfl rfl) <| ?_); clear hs a; intro a hs
    refine a_effG hs rfl (e_callX Tryd.func47 rfl rfl hs rfl rfl (contains_I ga 48 _ [.pointer (some ⟨gc, 0, none⟩)] itemF A c l 8192 [pt gc #[.pointer (some ⟨ga, 0, none⟩)] 72] v0 _ Tryd.func48 rfl rfl hA (fun p hp cs lf w1 hK hlen hlf h => by obtain ⟨A5, c5, A10, c10, A11, c11, A12, c12, A16, c16, rfl, l5, g5, l10, g10, l11, g11, l12, g12, l16, g16⟩ := k45_open hK; exact item_one ga gc p A5 A10 A11 A12 A16 c5 c10 c11 c12 c16 lf [] v0 w1 g5 g10 g11 g12 g16 (hsm p hp) hlf h) (fun p hp lf h => itemF_falls p lf h) (by omega) (hs.mem.to 1 rfl)) (fun e w1 ⟨he, hm⟩ => ⟨_, he, _, hm, ?_⟩)); clear hs a; intro a hs
    refine go hs (pG rfl (fun a hs => y_not hs rfl) <| pT rfl rfl <| pA rfl <| ?_); clear hs a; intro a hs
    refine wpList_nil (then_normal (wp_ret ?_))
    refine fin_ret hs (.tmp (hs.slots _ _ rfl) .nil) ⟨?_, hs.mem.base⟩
    first | (rw [show mayI l = false from by unfold mayI; rw [decide_eq_false (by omega)]; rfl]; rfl) | (rw [show mayI l = (xlist itemF l 8192).1 from by unfold mayI; rw [decide_eq_true (by omega)]; rfl]; simp [tell])
  replace h8 := of_decide_eq_false h8
  refine go hs (pS rfl <| pS rfl <| pS rfl <| pS rfl <| pF rfl rfl <| pA rfl <| ?_); clear hs a; intro a hs
  refine wpList_nil (then_normal (wp_ret ?_))
  refine fin_ret hs (.tmp (hs.slots _ _ rfl) .nil) ⟨?_, hs.mem.base⟩
  first | (rw [show mayI l = false from by unfold mayI; rw [decide_eq_false (by omega)]; rfl]; rfl) | (rw [show mayI l = (xlist itemF l 8192).1 from by unfold mayI; rw [decide_eq_true (by omega)]; rfl]; simp [tell])
end Go.Proofs.YtibaidddhmdafaaDoor.E
end
section
namespace Go.Proofs.YtibaidddhmdafaaDoor.E
open Go Go.RowKit Go.Proofs.YtibaidddhmdafaaDoorW.PrintWords Go.Proofs.YtibaidddhmdafaaDoorW.PrintLast Go.Proofs.YtibaidddhmdafaaDoorW.PrintMore Go.Proofs.YtibaidddhmdafaaDoor.PA
set_option linter.unusedVariables false
set_option linter.unusedSimpArgs false
def inX : Nat → XE → Prop
  | 0, _ => False
  | n + 1, x => x.f3.length ≤ 64 ∧ ∀ p ∈ x.f3, inX n p
theorem in_of : ∀ (n : Nat) (x : XE), shapeX n x → inX n x
  | 0, _, h => h.elim
  | n + 1, x, h => ⟨by have := exprParts_le h.1; omega, fun p hp => in_of n p (h.2 p hp)⟩
theorem stE_in {x : XE} {l : Int} (h : (stE x l).1 = true) : inX 16 x := in_of 16 x (shape_of 16 x l (by have := of_decide_eq_true h; omega))
theorem noExpr_in {x : XE} (h : noExprB x = true) : inX 16 x := by
  have h0 := of_decide_eq_true h
  refine ⟨by omega, fun p hp => ?_⟩
  rw [List.eq_nil_of_length_eq_zero h0.2.2.2.1] at hp
  exact absurd hp (by simp)
def inS : Nat → XS → Prop
  | 0, _ => False
  | n + 1, s => s.f2.length ≤ 64 ∧ (∀ p ∈ s.f2, inX 16 p) ∧ s.f3.length ≤ 64 ∧ (∀ p ∈ s.f3, inS n p) ∧ s.f4.length ≤ 64 ∧ ∀ r ∈ s.f4, r.length ≤ 64 ∧ ∀ p ∈ r, inX 16 p
theorem nilB {α : Type} {l : List α} (h : l.length = 0) {P : α → Prop} : ∀ p ∈ l, P p := fun p hp => by
  rw [List.eq_nil_of_length_eq_zero h] at hp
  exact absurd hp (by simp)
theorem noShape_in {s : XS} (h : noShapeB s = true) : inS 16 s := by
  have h0 := of_decide_eq_true h
  exact ⟨by omega, nilB h0.2.2.1, by omega, nilB h0.2.2.2.1, by omega, nilB h0.2.2.2.2.1⟩
theorem xlist_all {α : Type} {st : α → Int → Bool × Int} : ∀ (l : List α) (lf : Int), (xlist st l lf).1 = true → ∀ p ∈ l, ∃ lf', (st p lf').1 = true
  | [], _, _, _, hp => absurd hp (by simp)
  | q :: r, lf, h, p, hp => by
    rw [xlist] at h
    split at h
    · rename_i h1
      rcases List.mem_cons.1 hp with rfl | hp
      · exact ⟨lf, h1⟩
      · exact xlist_all r _ h p hp
    · cases h
theorem rowsS_in {s : XS} {l : Int} (h : (rowsS s l).1 = true) (hr : s.f0 ≠ 8 → s.f4.length = 0) : s.f4.length ≤ 64 ∧ ∀ r ∈ s.f4, r.length ≤ 64 ∧ ∀ p ∈ r, inX 16 p := by
  by_cases h8 : s.f0 = 8
  · unfold rowsS at h
    rw [if_pos h8] at h
    unfold rowsF at h
    split at h
    · rename_i h1
      refine ⟨h1.2, fun r hr => ?_⟩
      obtain ⟨lf, h2⟩ := xlist_all _ _ h r hr
      unfold stR at h2
      split at h2
      · rename_i h3
        exact ⟨h3.2, fun p hp => by obtain ⟨lf', h4⟩ := xlist_all _ _ h2 p hp; exact stE_in h4⟩
      · cases h2
    · cases h
  · exact ⟨by have := hr h8; omega, nilB (hr h8)⟩
theorem shape_in : ∀ (n : Nat) (s : XS) (l : Int), (xshape n s l).1 = true → inS n s
  | 0, _, _, h => by cases h
  | n + 1, s, l, h => by
    rw [xshape] at h
    split at h
    · cases h
    · split at h
      · rename_i hH
        split at h
        · rename_i h1
          split at h
          · rename_i h2
            obtain ⟨nm, a, p, r, e1, e2, e3, e4, e5, e6⟩ := hH
            have hk : a ≤ 3 ∧ p ≤ 2 ∧ (s.f0 ≠ 8 → r = false) := by
              rcases parts_cases e1 with ⟨rfl, rfl, rfl, rfl, hk⟩ | ⟨rfl, rfl, rfl, rfl, hk⟩ | ⟨rfl, rfl, rfl, rfl, hk⟩ | ⟨rfl, rfl, rfl, rfl, hk⟩ | ⟨rfl, rfl, rfl, rfl, hk⟩
              all_goals first | exact ⟨by omega, by omega, fun _ => rfl⟩ | exact ⟨by omega, by omega, fun h8 => absurd hk h8⟩
            obtain ⟨r1, r2⟩ := rowsS_in h1 (fun h8 => e6 (hk.2.2 h8))
            exact ⟨by omega, fun p hp => by obtain ⟨l', h3⟩ := xlist_all _ _ h2 p hp; exact stE_in h3, by omega, fun p hp => by obtain ⟨l', h3⟩ := xlist_all _ _ h p hp; exact shape_in n p l' h3, r1, r2⟩
          · rename_i h2; exact absurd h h2
        · rename_i h1; exact absurd h h1
      · cases h
def inI (x : XI) : Prop := inX 16 x.f2 ∧ inS 16 x.f3 ∧ x.f5.length ≤ 64 ∧ ∀ p ∈ x.f5, inX 16 p
theorem item_in {x : XI} {l : Int} (h : (itemF x l).1 = true) : inI x := by
  unfold itemF at h
  split at h
  · cases h
  · split at h
    · rename_i hH
      split at h
      · rename_i h1
        split at h
        · rename_i h2
          obtain ⟨nm, v, sh, li, e1, e2, e3, e4, e5, e6, e7, e8⟩ := hH
          have hc := items_cases e1
          refine ⟨?_, ?_, ?_, fun p hp => by obtain ⟨l', h3⟩ := xlist_all _ _ h p hp; exact stE_in h3⟩
          · by_cases hv : hasV x
            · unfold valI at h1; rw [if_pos hv] at h1; exact stE_in h1
            · refine noExpr_in (e7 ?_)
              unfold hasV at hv
              rcases hc with ⟨rfl, rfl, rfl, rfl, hk⟩ | ⟨rfl, rfl, rfl, rfl, hk⟩ | ⟨rfl, rfl, rfl, rfl, hk⟩ | ⟨rfl, rfl, rfl, rfl, hk⟩ | ⟨rfl, rfl, rfl, rfl, hk⟩ | ⟨rfl, rfl, rfl, rfl, hk⟩ <;> first | rfl | (exfalso; omega)
          · by_cases hs : x.f0 = 2
            · unfold shI at h2; rw [if_pos hs] at h2; exact shape_in _ _ _ h2
            · refine noShape_in (e8 ?_)
              rcases hc with ⟨rfl, rfl, rfl, rfl, hk⟩ | ⟨rfl, rfl, rfl, rfl, hk⟩ | ⟨rfl, rfl, rfl, rfl, hk⟩ | ⟨rfl, rfl, rfl, rfl, hk⟩ | ⟨rfl, rfl, rfl, rfl, hk⟩ | ⟨rfl, rfl, rfl, rfl, hk⟩ <;> first | rfl | (exfalso; omega)
          · cases li with
            | true => exact (e5 rfl).2
            | false => have := e6 rfl; omega
        · rename_i h2; exact absurd h h2
      · rename_i h1; exact absurd h h1
    · cases h
theorem may_in {l : List XI} (h : mayI l = true) : ∀ x ∈ l, inI x := fun x hx => by
  unfold mayI at h
  rw [Bool.and_eq_true] at h
  obtain ⟨l', h1⟩ := xlist_all _ _ h.2 x hx
  exact item_in h1
theorem may_len {l : List XI} (h : mayI l = true) : l.length ≤ 64 := by
  unfold mayI at h
  rw [Bool.and_eq_true] at h
  exact of_decide_eq_true h.1
end Go.Proofs.YtibaidddhmdafaaDoor.E
end
section
namespace Go.Proofs.YtibaidddhmdafaaDoor.E
open Go Go.RowKit Go.Proofs.YtibaidddhmdafaaDoorW.PrintWords Go.Proofs.YtibaidddhmdafaaDoorW.PrintLast Go.Proofs.YtibaidddhmdafaaDoorW.PrintMore Go.Proofs.YtibaidddhmdafaaDoor.PA
set_option linter.unusedVariables false
set_option linter.unusedSimpArgs false
/-- Without places. -/
def bareX : Nat → XE → XE
  | 0, x => ⟨x.f0, x.f1, x.f2, [], 0, 0⟩
  | n + 1, x => ⟨x.f0, x.f1, x.f2, x.f3.map (bareX n), 0, 0⟩
def bareS : Nat → XS → XS
  | 0, s => ⟨s.f0, s.f1, [], [], [], 0, 0⟩
  | n + 1, s => ⟨s.f0, s.f1, s.f2.map (bareX 16), s.f3.map (bareS n), s.f4.map (List.map (bareX 16)), 0, 0⟩
def bareI (x : XI) : XI := ⟨x.f0, x.f1, bareX 16 x.f2, bareS 16 x.f3, x.f4, x.f5.map (bareX 16), 0, 0⟩
def StripOk (n : Nat) : Prop := ∀ (x : XE) (A : Option Addr) (c : Nat) (v0 : World), Kd.C k25 v0 A x.f3.length x.f3 → inX n x → Calls Tryd.prog 33 #[.agg #[.int .u8 x.f0, .int .i64 x.f1, .string x.f2, .slice A x.f3.length c, .int .i64 x.f4, .int .i64 x.f5]] v0 fun e w' => ∃ A' c', e = .returned (.agg ([.int .u8 x.f0, .int .i64 x.f1, .string x.f2, .slice A' (bareX n x).f3.length c', .int .i64 0, .int .i64 0]).toArray) ∧ Below v0.heap.size v0 w' ∧ Kd.M k25 w' v0.heap.size (fun _ => True) (bareX n x) ([.int .u8 x.f0, .int .i64 x.f1, .string x.f2, .slice A' (bareX n x).f3.length c', .int .i64 0, .int .i64 0])
def StripsOk (n : Nat) : Prop := ∀ (l : List XE) (A : Option Addr) (c : Nat) (v0 : World), Kd.C k25 v0 A l.length l → l.length ≤ 64 → (∀ p ∈ l, inX n p) → Calls Tryd.prog 35 #[.slice A l.length c] v0 fun e w' => ∃ A' c', e = .returned (.slice A' (l.map (bareX n)).length c') ∧ Below v0.heap.size v0 w' ∧ Kd.R k25 25 w' v0.heap.size (fun _ => True) (.slice A' (l.map (bareX n)).length c') (l.map (bareX n))
set_option maxRecDepth 100000 in
theorem strips_of (n : Nat) (hE : StripOk n) (l : List XE) (A : Option Addr) (c : Nat) (v0 : World) (hA : Kd.C k25 v0 A l.length l) (h64 : l.length ≤ 64) (hl : ∀ p ∈ l, inX n p) :
    Calls Tryd.prog 35 #[.slice A l.length c] v0 fun e w' => ∃ A' c', e = .returned (.slice A' (l.map (bareX n)).length c') ∧ Below v0.heap.size v0 w' ∧ Kd.R k25 25 w' v0.heap.size (fun _ => True) (.slice A' (l.map (bareX n)).length c') (l.map (bareX n)) := by
  refine calls_enter (N := 19) (n := 18) (args := [.slice A l.length c]) Tryd.func35 rfl rfl rfl (H.init v0) (fun a hs => ?_)
  refine wp_seq (wp_region_lit ?_)
  refine go hs (pA rfl <| ?_); clear hs a; intro a hs
  refine wpList_nil (then_normal (wp_seq ?_))
  refine wp_region_lit (go hs (pA rfl <| ?_)); clear hs a; intro a hs
  refine wpList_nil (then_normal (wp_seq ?_))
  refine wp_seq (wp_region_lit ?_)
  refine go hs (pM rfl <| pV rfl (fun a hs => y_lenL hs Tryd.underlying23 rfl) <| pM rfl <| ?_); clear hs a; intro a hs
  refine wpList_nil (then_normal (wp_block ?_))
  refine wp_loopN (fun mm a w1 => ∃ (i : Nat) (A' : Option Addr) (c' : Nat) (SS : Nat → Prop) (cs : List Value), (i + mm = l.length) ∧ St 19 v0 [(3, .slice A' i c'), (6, .slice A l.length c), (7, .int .i64 (l.length : Int)), (8, .int .i64 ((i : Nat) : Int))] [row 25 6 (.slice A' i c') i cs, inn v0.heap.size k25 SS ((l.take i).map (bareX n)) cs] a w1) (l.length) ⟨0, none, 0, fun _ => False, [], by omega, ?_⟩ (fun mm a w1 hJ => ?_)
  · exact (hs.mem_to (hs.mem.bare.emptyRow 25 6 v0.heap.size k25)).cut _ ⟨rfl, rfl, rfl, rfl, trivial⟩
  clear hs
  obtain ⟨i, A', c', SS, cs, hi, hs⟩ := hJ
  refine wp_seq (wp_region_lit ?_)
  refine go hs (pV rfl (fun a hs => y_cmp hs rfl rfl rfl) <| ?_); clear hs a; intro a hs
  refine wpList_nil (then_normal (wp_seq ?_))
  refine wp_cond_split (hs.ev rfl) (fun h9 => ?_) (fun h9 => ?_)
  · replace h9 := of_decide_eq_true h9
    obtain ⟨y, hy⟩ : ∃ p, l[i]? = some p := ⟨_, List.getElem?_eq_getElem (by omega)⟩
    obtain ⟨g1, o1, rfl, hcell1⟩ := C_atG (show 0 < 6 by decide) hA (by omega)
    obtain ⟨cs1, hK1, hc1⟩ := hcell1 i y hy
    obtain ⟨A1, c1, rfl, e1, C1⟩ := k25_open hK1
    have htk : (l.take (i + 1)).map (bareX n) = (l.take i).map (bareX n) ++ [bareX n y] := by rw [List.take_add_one, hy, List.map_append]; rfl
    refine wp_skip (then_normal (wp_seq ?_))
    refine wp_block (wp_seq ?_)
    refine wp_region_lit (go hs (pV rfl (fun a hs => y_idxB (size := 6) (off := o1 + i * 6) hs Tryd.underlying23 (by kernel_rfl) rfl rfl (by omega) (by omega) (by simp)) <| pV rfl (fun a hs => y_loadAgg (vs := [.int .u8 y.f0, .int .i64 y.f1, .string y.f2, .slice A1 y.f3.length c1, .int .i64 y.f4, .int .i64 y.f5]) hs Tryd.underlying24 rfl (by kernel_rfl) rfl (fun w hw k v hk => hc1 w hw.base k v hk)) <| ?_)); clear hs a; intro a hs
    refine a_eff rfl (e_alloc (z := .agg #[.int .u8 0, .int .i64 0, .string ⟨#[]⟩, .slice none 0 0, .int .i64 0, .int .i64 0]) (cs := #[.int .u8 0, .int .i64 0, .string ⟨#[]⟩, .slice none 0 0, .int .i64 0, .int .i64 0]) hs rfl (by kernel_rfl) rfl ?_); clear hs a; intro gx a w hs
    refine a_eff rfl (e_store (cl := [_, _, _, _, _, _]) 0 rfl hs rfl rfl (by kernel_rfl) rfl rfl rfl ?_); clear hs a; intro a w hs
    refine wpList_nil (then_normal (wp_region_lit ?_))
    refine go hs (pM rfl <| pV rfl (fun a hs => y_loadPt 0 rfl hs Tryd.underlying25 rfl (by kernel_rfl) rfl) <| ?_); clear hs a; intro a hs
    refine a_eff rfl (e_callX Tryd.func33 rfl rfl hs rfl rfl (hE y A1 c1 _ (Kd.C_below C1 hs.mem.base) (hl y (List.mem_of_getElem? hy))) (fun e w1 ⟨A3, c3, he, hb1, hm1⟩ => ⟨_, he, _, hs.mem.addElm hb1 hm1, ?_⟩)); clear hs a; intro a hs
    refine a_eff rfl (e_bslice (z := .agg #[.int .u8 0, .int .i64 0, .string ⟨#[]⟩, .slice none 0 0, .int .i64 0, .int .i64 0]) (size := 6) (zc := #[.int .u8 0, .int .i64 0, .string ⟨#[]⟩, .slice none 0 0, .int .i64 0, .int .i64 0]) (cl := [_, _, _, _, _, _]) hs rfl Tryd.underlying23 (by kernel_rfl) rfl rfl rfl (by kernel_rfl) (by rfl) rfl ?_); clear hs a; intro gl a w hs
    refine a_eff rfl (e_append (z := .agg #[.int .u8 0, .int .i64 0, .string ⟨#[]⟩, .slice none 0 0, .int .i64 0, .int .i64 0]) (size := 6) (bytes := 72) 3 rfl 0 rfl hs rfl Tryd.underlying23 (by kernel_rfl) rfl rfl rfl rfl (news := [.int .u8 y.f0, .int .i64 y.f1, .string y.f2, .slice A3 (bareX n y).f3.length c3, .int .i64 0, .int .i64 0]) rfl rfl rfl (by unfold maxLen; omega) (by omega) ?_); clear hs a; intro A2 c2 a w hs
    refine go hs (pA rfl <| ?_); clear hs a; intro a hs
    refine wpList_nil (in_normal (then_normal (wp_region_lit ?_)))
    refine go hs (pV rfl (fun a hs => y_add hs rfl rfl (by omega)) <| pM rfl <| ?_); clear hs a; intro a hs
    refine wpList_nil (then_normal ?_)
    have hrn := ((((hs.mem.to 1 rfl).drop.to 2 rfl).drop.to 2 rfl).to 2 rfl)
    replace hrn := (H.snoc hrn rfl).to 1 rfl
    rw [← htk] at hrn
    obtain ⟨SS2, cs2, hrn⟩ : ∃ SS2 cs2, H v0 [row 25 6 (.slice A2 (i + 1) c2) (i + 1) cs2, inn v0.heap.size k25 SS2 ((l.take (i + 1)).map (bareX n)) cs2] _ := ⟨_, _, hrn⟩
    refine ⟨mm - 1, by omega, i + 1, A2, c2, SS2, cs2, by omega, ?_⟩
    exact (hs.mem_to (hrn)).cut _ ⟨rfl, rfl, rfl, rfl, trivial⟩
  replace h9 := of_decide_eq_false h9
  refine wp_exit (then_exit (then_exit (in_here (then_normal (wp_seq ?_)))))
  refine wp_region_lit (go hs (pM rfl <| pA rfl <| ?_)); clear hs a; intro a hs
  refine wpList_nil (then_normal (wp_ret ?_))
  obtain rfl : i = l.length := by omega
  have hlen : l.length = (l.map (bareX n)).length := (List.length_map _).symm
  rw [List.take_length] at hs
  have hm := H.rowTr (d := k25) ((hs.mem.to 1 rfl).to 1 rfl) hlen
  refine fin_ret hs (.tmp (hs.slots _ _ rfl) .nil) ⟨A', c', ?_, hs.mem.base, ?_⟩
  · rw [← hlen]; rfl
  rw [← hlen]; exact hm.trR
set_option maxRecDepth 100000 in
theorem strip_step (n : Nat) (hn : n ≤ 1000) (ih : ∀ q, q + 1 = n → StripOk q) (x : XE) (A : Option Addr) (c : Nat) (v0 : World) (hA : Kd.C k25 v0 A x.f3.length x.f3) (hx : inX n x) :
    Calls Tryd.prog 33 #[.agg #[.int .u8 x.f0, .int .i64 x.f1, .string x.f2, .slice A x.f3.length c, .int .i64 x.f4, .int .i64 x.f5]] v0 fun e w' => ∃ A' c', e = .returned (.agg ([.int .u8 x.f0, .int .i64 x.f1, .string x.f2, .slice A' (bareX n x).f3.length c', .int .i64 0, .int .i64 0]).toArray) ∧ Below v0.heap.size v0 w' ∧ Kd.M k25 w' v0.heap.size (fun _ => True) (bareX n x) ([.int .u8 x.f0, .int .i64 x.f1, .string x.f2, .slice A' (bareX n x).f3.length c', .int .i64 0, .int .i64 0]) := by
  refine calls_enter (N := 13) (n := 12) (args := [.agg #[.int .u8 x.f0, .int .i64 x.f1, .string x.f2, .slice A x.f3.length c, .int .i64 x.f4, .int .i64 x.f5]]) Tryd.func33 rfl rfl rfl (H.init v0) (fun a hs => ?_)
  obtain ⟨q, rfl⟩ : ∃ q, n = q + 1 := by cases n with | zero => exact hx.elim | succ q => exact ⟨q, rfl⟩
  refine wp_seq (wp_region_lit ?_)
  refine a_eff rfl (e_box (cs := #[_, _, _, _, _, _]) hs rfl rfl rfl ?_); clear hs a; intro gx a w hs
  refine a_eff rfl (e_alloc (z := .agg #[.int .u8 0, .int .i64 0, .string ⟨#[]⟩, .slice none 0 0, .int .i64 0, .int .i64 0]) (cs := #[.int .u8 0, .int .i64 0, .string ⟨#[]⟩, .slice none 0 0, .int .i64 0, .int .i64 0]) hs rfl (by kernel_rfl) rfl ?_); clear hs a; intro gr a w hs
  refine wpList_nil (then_normal (wp_seq ?_))
  refine b_enter [1] (by kernel_rfl) hs #[false, false, false, false, false, false, false, false, false, false, false] (by rfl) 11 (by rfl) ?_; clear hs; intro w hs
  refine b_take 0 rfl #[true, false, false, false, false, false, false, false, false, false, false] rfl (by kernel_rfl) hs (((hs.mem.to 1 rfl).first 1)) rfl rfl rfl (fun _ _ _ h => h) (y_faddr (k' := 0) 0 hs (by kernel_rfl) rfl rfl) ?_; clear hs a; intro a hs
  refine b_take 1 rfl #[true, true, false, false, false, false, false, false, false, false, false] rfl (by kernel_rfl) hs (((hs.mem.to 1 rfl).first 1)) rfl rfl rfl (fun _ _ _ h => h) (y_load hs Tryd.underlying22 rfl rfl (fun w hw => (hw.to 0 rfl).cellV rfl)) ?_; clear hs a; intro a hs
  refine b_take 2 rfl #[true, true, true, false, false, false, false, false, false, false, false] rfl (by kernel_rfl) hs (((hs.mem.to 1 rfl).first 1)) rfl rfl rfl (fun _ _ _ h => h) (y_faddr (k' := 1) 1 hs (by kernel_rfl) rfl rfl) ?_; clear hs a; intro a hs
  refine b_take 3 rfl #[true, true, true, true, false, false, false, false, false, false, false] rfl (by kernel_rfl) hs (((hs.mem.to 1 rfl).first 1)) rfl rfl rfl (fun _ _ _ h => h) (y_load hs Tryd.underlying3 rfl rfl (fun w hw => (hw.to 0 rfl).cellV rfl)) ?_; clear hs a; intro a hs
  refine b_take 4 rfl #[true, true, true, true, true, false, false, false, false, false, false] rfl (by kernel_rfl) hs (((hs.mem.to 1 rfl).first 1)) rfl rfl rfl (fun _ _ _ h => h) (y_faddr (k' := 2) 2 hs (by kernel_rfl) rfl rfl) ?_; clear hs a; intro a hs
  refine b_take 5 rfl #[true, true, true, true, true, true, false, false, false, false, false] rfl (by kernel_rfl) hs (((hs.mem.to 1 rfl).first 1)) rfl rfl rfl (fun _ _ _ h => h) (y_load hs Tryd.underlying9 rfl rfl (fun w hw => (hw.to 0 rfl).cellV rfl)) ?_; clear hs a; intro a hs
  refine b_take 6 rfl #[true, true, true, true, true, true, true, false, false, false, false] rfl (by kernel_rfl) hs (((hs.mem.to 1 rfl).first 1)) rfl rfl rfl (fun _ _ _ h => h) (y_faddr (k' := 3) 3 hs (by kernel_rfl) rfl rfl) ?_; clear hs a; intro a hs
  refine b_take 7 rfl #[true, true, true, true, true, true, true, true, false, false, false] rfl (by kernel_rfl) hs (((hs.mem.to 1 rfl).first 1)) rfl rfl rfl (fun _ _ _ h => h) (y_load hs Tryd.underlying23 rfl rfl (fun w hw => (hw.to 0 rfl).cellV rfl)) ?_; clear hs a; intro a hs
  refine b_eff 8 (by kernel_rfl) rfl #[true, true, true, true, true, true, true, true, true, false, false] rfl hs rfl (e_callX Tryd.func35 rfl rfl hs rfl rfl (strips_of q (ih q rfl) x.f3 A c _ (Kd.C_below hA hs.mem.base) hx.1 hx.2) (fun e w1 ⟨A3, c3, he, hb1, hm1⟩ => ⟨_, he, _, hs.mem.addTr hb1 hm1, ?_⟩)); clear hs a; intro a hs
  refine ⟨((hs.mem.to 2 rfl).first 1), ?_⟩
  refine b_take 9 rfl #[true, true, true, true, true, true, true, true, true, true, false] rfl (by kernel_rfl) hs (((hs.mem.to 2 rfl).first 1)) rfl rfl rfl (fun _ _ _ h => h) (y_struct (zc := #[.int .u8 0, .int .i64 0, .string ⟨#[]⟩, .slice none 0 0, .int .i64 0, .int .i64 0]) (pl := [(0, 1), (1, 1), (2, 1), (3, 1), (4, 1), (5, 1)]) (cl := [_, _, _, _, .int .i64 0, .int .i64 0]) hs (by kernel_rfl) rfl (by rfl) rfl) ?_; clear hs a; intro a hs
  refine b_eff 10 (by kernel_rfl) rfl #[true, true, true, true, true, true, true, true, true, true, true] rfl hs rfl (e_store (cl := [_, _, _, _, _, _]) 1 rfl hs rfl rfl (by kernel_rfl) rfl rfl rfl ?_); clear hs a; intro a w hs
  refine ⟨((hs.mem.to 2 rfl).first 1), ?_⟩
  refine b_done (by kernel_rfl) (then_normal ?_)
  refine wp_ret ?_
  have hm := ((hs.mem.to 0 rfl).drop.to 1 rfl).drop
  refine fin_ret hs (.cell (hs.slots _ _ rfl) (hs.mem.to 0 rfl).cells Tryd.underlying24 rfl (by kernel_rfl) .nil) ⟨A3, c3, rfl, hs.mem.base, k25_mkM _ _ _ (bareX (q + 1) x) hm.trR⟩
theorem strip_ok : ∀ n : Nat, n ≤ 1000 → StripOk n := fun n => by
  induction n using Nat.strongRecOn with
  | _ n ih => exact fun hn x A c v0 hA hx => strip_step n hn (fun q hq => ih q (by omega) (by omega)) x A c v0 hA hx
theorem strips_ok (n : Nat) (hn : n ≤ 1000) : StripsOk n := fun l A c v0 hA h64 hl => strips_of n (strip_ok n hn) l A c v0 hA h64 hl
def StripSOk (n : Nat) : Prop := ∀ (x : XS) (A2 A3 A4 : Option Addr) (c2 c3 c4 : Nat) (v0 : World), Kd.C k25 v0 A2 x.f2.length x.f2 → Kd.C k42 v0 A3 x.f3.length x.f3 → Kd.C (Kd.slice 25 k25) v0 A4 x.f4.length x.f4 → inS n x → Calls Tryd.prog 34 #[.agg #[.int .u8 x.f0, .string x.f1, .slice A2 x.f2.length c2, .slice A3 x.f3.length c3, .slice A4 x.f4.length c4, .int .i64 x.f5, .int .i64 x.f6]] v0 fun e w' => ∃ B2 d2 B3 d3 B4 d4, e = .returned (.agg ([.int .u8 x.f0, .string x.f1, .slice B2 (bareS n x).f2.length d2, .slice B3 (bareS n x).f3.length d3, .slice B4 (bareS n x).f4.length d4, .int .i64 0, .int .i64 0]).toArray) ∧ Below v0.heap.size v0 w' ∧ Kd.M k42 w' v0.heap.size (fun _ => True) (bareS n x) ([.int .u8 x.f0, .string x.f1, .slice B2 (bareS n x).f2.length d2, .slice B3 (bareS n x).f3.length d3, .slice B4 (bareS n x).f4.length d4, .int .i64 0, .int .i64 0])
set_option maxRecDepth 100000 in
theorem stripS_step (n : Nat) (hn : n ≤ 1000) (ih : ∀ q, q + 1 = n → StripSOk q) (x : XS) (A2 A3 A4 : Option Addr) (c2 c3 c4 : Nat) (v0 : World) (hA2 : Kd.C k25 v0 A2 x.f2.length x.f2) (hA3 : Kd.C k42 v0 A3 x.f3.length x.f3) (hA4 : Kd.C (Kd.slice 25 k25) v0 A4 x.f4.length x.f4) (hx : inS n x) :
    Calls Tryd.prog 34 #[.agg #[.int .u8 x.f0, .string x.f1, .slice A2 x.f2.length c2, .slice A3 x.f3.length c3, .slice A4 x.f4.length c4, .int .i64 x.f5, .int .i64 x.f6]] v0 fun e w' => ∃ B2 d2 B3 d3 B4 d4, e = .returned (.agg ([.int .u8 x.f0, .string x.f1, .slice B2 (bareS n x).f2.length d2, .slice B3 (bareS n x).f3.length d3, .slice B4 (bareS n x).f4.length d4, .int .i64 0, .int .i64 0]).toArray) ∧ Below v0.heap.size v0 w' ∧ Kd.M k42 w' v0.heap.size (fun _ => True) (bareS n x) ([.int .u8 x.f0, .string x.f1, .slice B2 (bareS n x).f2.length d2, .slice B3 (bareS n x).f3.length d3, .slice B4 (bareS n x).f4.length d4, .int .i64 0, .int .i64 0]) := by
  refine calls_enter (N := 47) (n := 46) (args := [.agg #[.int .u8 x.f0, .string x.f1, .slice A2 x.f2.length c2, .slice A3 x.f3.length c3, .slice A4 x.f4.length c4, .int .i64 x.f5, .int .i64 x.f6]]) Tryd.func34 rfl rfl rfl (H.init v0) (fun a hs => ?_)
  obtain ⟨q, rfl⟩ : ∃ q, n = q + 1 := by cases n with | zero => exact hx.elim | succ q => exact ⟨q, rfl⟩
  have hcl3 := C_len hA3
  have hcl4 := C_len hA4
  have h64 := hx.2.2.1
  have h65 := hx.2.2.2.2.1
  refine wp_seq (wp_region_lit ?_)
  refine a_eff rfl (e_box (cs := #[_, _, _, _, _, _, _]) hs rfl rfl rfl ?_); clear hs a; intro gx a w hs
  refine a_eff rfl (e_alloc (z := .agg #[.int .u8 0, .string ⟨#[]⟩, .slice none 0 0, .slice none 0 0, .slice none 0 0, .int .i64 0, .int .i64 0]) (cs := #[.int .u8 0, .string ⟨#[]⟩, .slice none 0 0, .slice none 0 0, .slice none 0 0, .int .i64 0, .int .i64 0]) hs rfl (by kernel_rfl) rfl ?_); clear hs a; intro gr a w hs
  refine wpList_nil (then_normal (wp_seq ?_))
  refine b_enter [1] (by kernel_rfl) hs #[false, false, false, false, false, false, false, false, false, false] (by rfl) 10 (by rfl) ?_; clear hs; intro w hs
  refine b_take 0 rfl #[true, false, false, false, false, false, false, false, false, false] rfl (by kernel_rfl) hs (((hs.mem.to 1 rfl).first 1)) rfl rfl rfl (fun _ _ _ h => h) (y_faddr (k' := 0) 0 hs (by kernel_rfl) rfl rfl) ?_; clear hs a; intro a hs
  refine b_take 1 rfl #[true, true, false, false, false, false, false, false, false, false] rfl (by kernel_rfl) hs (((hs.mem.to 1 rfl).first 1)) rfl rfl rfl (fun _ _ _ h => h) (y_load hs Tryd.underlying38 rfl rfl (fun w hw => (hw.to 0 rfl).cellV rfl)) ?_; clear hs a; intro a hs
  refine b_take 2 rfl #[true, true, true, false, false, false, false, false, false, false] rfl (by kernel_rfl) hs (((hs.mem.to 1 rfl).first 1)) rfl rfl rfl (fun _ _ _ h => h) (y_faddr (k' := 1) 1 hs (by kernel_rfl) rfl rfl) ?_; clear hs a; intro a hs
  refine b_take 3 rfl #[true, true, true, true, false, false, false, false, false, false] rfl (by kernel_rfl) hs (((hs.mem.to 1 rfl).first 1)) rfl rfl rfl (fun _ _ _ h => h) (y_load hs Tryd.underlying9 rfl rfl (fun w hw => (hw.to 0 rfl).cellV rfl)) ?_; clear hs a; intro a hs
  refine b_take 4 rfl #[true, true, true, true, true, false, false, false, false, false] rfl (by kernel_rfl) hs (((hs.mem.to 1 rfl).first 1)) rfl rfl rfl (fun _ _ _ h => h) (y_faddr (k' := 2) 2 hs (by kernel_rfl) rfl rfl) ?_; clear hs a; intro a hs
  refine b_take 5 rfl #[true, true, true, true, true, true, false, false, false, false] rfl (by kernel_rfl) hs (((hs.mem.to 1 rfl).first 1)) rfl rfl rfl (fun _ _ _ h => h) (y_load hs Tryd.underlying23 rfl rfl (fun w hw => (hw.to 0 rfl).cellV rfl)) ?_; clear hs a; intro a hs
  refine b_eff2 6 8 (by kernel_rfl) rfl rfl #[true, true, true, true, true, true, true, false, false, false] #[true, true, true, true, true, true, false, false, true, false] rfl rfl hs rfl rfl (e_callX Tryd.func35 rfl rfl hs rfl rfl (strips_ok 16 (by decide) x.f2 A2 c2 _ (Kd.C_below hA2 hs.mem.base) hx.1 hx.2.1) (fun e w1 ⟨P2, p2, he, hb1, hm1⟩ => let ⟨S2, hm2⟩ := hs.mem.addTr' hb1 hm1; ⟨_, he, _, hm2, ?_⟩)) (e_alloc (z := .agg #[.int .u8 0, .string ⟨#[]⟩, .slice none 0 0, .slice none 0 0, .slice none 0 0, .int .i64 0, .int .i64 0]) (cs := #[.int .u8 0, .string ⟨#[]⟩, .slice none 0 0, .slice none 0 0, .slice none 0 0, .int .i64 0, .int .i64 0]) hs rfl (by kernel_rfl) rfl ?_)
  · clear hs a; intro a hs
    refine ⟨((hs.mem.to 2 rfl).first 1), ?_⟩
    refine b_take 7 rfl #[true, true, true, true, true, true, true, true, false, false] rfl (by kernel_rfl) hs (((hs.mem.to 2 rfl).first 1)) rfl rfl rfl (fun _ _ _ h => h) (y_struct (zc := #[.int .u8 0, .string ⟨#[]⟩, .slice none 0 0, .slice none 0 0, .slice none 0 0, .int .i64 0, .int .i64 0]) (pl := [(0, 1), (1, 1), (2, 1), (3, 1), (4, 1), (5, 1), (6, 1)]) (cl := [_, _, _, .slice none 0 0, .slice none 0 0, .int .i64 0, .int .i64 0]) hs (by kernel_rfl) rfl (by rfl) rfl) ?_; clear hs a; intro a hs
    refine b_eff 8 (by kernel_rfl) rfl #[true, true, true, true, true, true, true, true, true, false] rfl hs rfl (e_alloc (z := .agg #[.int .u8 0, .string ⟨#[]⟩, .slice none 0 0, .slice none 0 0, .slice none 0 0, .int .i64 0, .int .i64 0]) (cs := #[.int .u8 0, .string ⟨#[]⟩, .slice none 0 0, .slice none 0 0, .slice none 0 0, .int .i64 0, .int .i64 0]) hs rfl (by kernel_rfl) rfl ?_); clear hs a; intro gt a w hs
    refine ⟨((hs.mem.to 3 rfl).first 1), ?_⟩
    refine b_eff 9 (by kernel_rfl) rfl #[true, true, true, true, true, true, true, true, true, true] rfl hs rfl (e_store (cl := [_, _, _, _, _, _, _]) 0 rfl hs rfl rfl (by kernel_rfl) rfl rfl rfl ?_); clear hs a; intro a w hs
    refine ⟨((hs.mem.to 3 rfl).first 1), ?_⟩
    refine b_done (by kernel_rfl) (then_normal ?_)
    refine wp_seq (wp_seq ?_)
    refine wp_region_lit (go hs (pV rfl (fun a hs => y_faddr (k' := 3) 3 hs (by kernel_rfl) rfl rfl) <| pV rfl (fun a hs => y_load hs Tryd.underlying39 rfl rfl (fun w hw => (hw.to 3 rfl).cellV rfl)) <| pV rfl (fun a hs => y_lenL hs Tryd.underlying39 rfl) <| pM rfl <| ?_)); clear hs a; intro a hs
    refine wpList_nil (then_normal (wp_block ?_))
    refine wp_loopN (fun mm a w1 => ∃ (i : Nat) (A' : Option Addr) (c' : Nat) (SS : Nat → Prop) (cs : List Value) (S2 : Nat → Prop), (i + mm = x.f3.length) ∧ St 47 v0 [(1, .pointer (some ⟨gx, 0, none⟩)), (2, .pointer (some ⟨gr, 0, none⟩)), (3, .pointer (some ⟨gt, 0, none⟩)), (17, .slice A3 x.f3.length c3), (18, .int .i64 (x.f3.length : Int)), (19, .int .i64 ((i : Nat) : Int))] [row 42 7 (.slice A' i c') i cs, inn v0.heap.size k42 SS ((x.f3.take i).map (bareS q)) cs, pt gt #[.int .u8 x.f0, .string x.f1, .slice P2 (x.f2.map (bareX 16)).length p2, .slice A' i c', .slice none 0 0, .int .i64 0, .int .i64 0] 42, tr v0.heap.size k25 25 S2 (.slice P2 (x.f2.map (bareX 16)).length p2) (x.f2.map (bareX 16)), pt gr #[.int .u8 0, .string ⟨#[]⟩, .slice none 0 0, .slice none 0 0, .slice none 0 0, .int .i64 0, .int .i64 0] 42, pt gx #[.int .u8 x.f0, .string x.f1, .slice A2 x.f2.length c2, .slice A3 x.f3.length c3, .slice A4 x.f4.length c4, .int .i64 x.f5, .int .i64 x.f6] 42] a w1) (x.f3.length) ⟨0, none, 0, fun _ => False, [], S2, by omega, ?_⟩ (fun mm a w1 hJ => ?_)
    · exact (hs.mem_to (((((hs.mem.to 3 rfl).to 3 rfl).to 3 rfl).to 3 rfl).emptyRow 42 7 v0.heap.size k42)).cut _ ⟨rfl, rfl, rfl, rfl, rfl, rfl, trivial⟩
    clear hs
    obtain ⟨i, A', c', SS, cs, S2, hi, hs⟩ := hJ
    refine wp_seq (wp_region_lit ?_)
    refine go hs (pV rfl (fun a hs => y_cmp hs rfl rfl rfl) <| ?_); clear hs a; intro a hs
    refine wpList_nil (then_normal (wp_seq ?_))
    refine wp_cond_split (hs.ev rfl) (fun h20 => ?_) (fun h20 => ?_)
    · replace h20 := of_decide_eq_true h20
      obtain ⟨y, hy⟩ : ∃ p, x.f3[i]? = some p := ⟨_, List.getElem?_eq_getElem (by omega)⟩
      obtain ⟨g1, o1, rfl, hcell1⟩ := C_atG (show 0 < 7 by decide) hA3 (by omega)
      obtain ⟨cs1, hK1, hc1⟩ := hcell1 i y hy
      obtain ⟨Q2, q2, Q3, q3, Q4, q4, rfl, i2, G2, i3, G3, i4, G4⟩ := k42_open hK1
      have htk : (x.f3.take (i + 1)).map (bareS q) = (x.f3.take i).map (bareS q) ++ [bareS q y] := by rw [List.take_add_one, hy, List.map_append]; rfl
      refine wp_skip (then_normal (wp_seq ?_))
      refine wp_block (wp_seq ?_)
      refine wp_region_lit (go hs (pV rfl (fun a hs => y_idxB (size := 7) (off := o1 + i * 7) hs Tryd.underlying39 (by kernel_rfl) rfl rfl (by omega) (by omega) (by simp)) <| pV rfl (fun a hs => y_loadAgg (vs := [.int .u8 y.f0, .string y.f1, .slice Q2 y.f2.length q2, .slice Q3 y.f3.length q3, .slice Q4 y.f4.length q4, .int .i64 y.f5, .int .i64 y.f6]) hs Tryd.underlying41 rfl (by kernel_rfl) rfl (fun w hw k v hk => hc1 w hw.base k v hk)) <| ?_)); clear hs a; intro a hs
      refine a_eff rfl (e_alloc (z := .agg #[.int .u8 0, .string ⟨#[]⟩, .slice none 0 0, .slice none 0 0, .slice none 0 0, .int .i64 0, .int .i64 0]) (cs := #[.int .u8 0, .string ⟨#[]⟩, .slice none 0 0, .slice none 0 0, .slice none 0 0, .int .i64 0, .int .i64 0]) hs rfl (by kernel_rfl) rfl ?_); clear hs a; intro gy a w hs
      refine a_eff rfl (e_store (cl := [_, _, _, _, _, _, _]) 0 rfl hs rfl rfl (by kernel_rfl) rfl rfl rfl ?_); clear hs a; intro a w hs
      refine wpList_nil (then_normal ?_)
      refine b_enter [0, 6] (by kernel_rfl) hs #[false, false, false, false, false, false, false, false] (by rfl) 8 (by rfl) ?_; clear hs; intro w hs
      refine b_take 0 rfl #[true, false, false, false, false, false, false, false] rfl (by kernel_rfl) hs ((((hs.mem.to 6 rfl).to 1 rfl).first 2)) rfl rfl rfl (fun _ _ _ h => h) (y_faddr (k' := 3) 3 hs (by kernel_rfl) rfl rfl) ?_; clear hs a; intro a hs
      refine b_take 2 rfl #[true, false, true, false, false, false, false, false] rfl (by kernel_rfl) hs ((((hs.mem.to 6 rfl).to 1 rfl).first 2)) rfl rfl rfl (fun _ _ _ h => h) (y_loadPt 0 rfl hs Tryd.underlying42 rfl (by kernel_rfl) rfl) ?_; clear hs a; intro a hs
      refine b_eff2 1 3 (by kernel_rfl) rfl rfl #[true, true, true, false, false, false, false, false] #[true, false, true, true, false, false, false, false] rfl rfl hs rfl rfl (e_yield hs rfl rfl (y_load hs Tryd.underlying39 rfl rfl (fun w hw => (hw.to 3 rfl).cellV rfl)) ?_) (e_callX Tryd.func34 rfl rfl hs rfl rfl (ih q rfl y Q2 Q3 Q4 q2 q3 q4 _ (Kd.C_below G2 hs.mem.base) (Kd.C_below G3 hs.mem.base) (Kd.C_below G4 hs.mem.base) (hx.2.2.2.1 y (List.mem_of_getElem? hy))) (fun e w1 ⟨B2, d2, B3, d3, B4, d4, he, hb1, hm1⟩ => ⟨_, he, _, hs.mem.addElm hb1 hm1, ?_⟩))
      · clear hs a; intro a hs
        refine ⟨(((hs.mem.to 6 rfl).to 1 rfl).first 2), ?_⟩
        refine b_eff 3 (by kernel_rfl) rfl #[true, true, true, true, false, false, false, false] rfl hs rfl (e_callX Tryd.func34 rfl rfl hs rfl rfl (ih q rfl y Q2 Q3 Q4 q2 q3 q4 _ (Kd.C_below G2 hs.mem.base) (Kd.C_below G3 hs.mem.base) (Kd.C_below G4 hs.mem.base) (hx.2.2.2.1 y (List.mem_of_getElem? hy))) (fun e w1 ⟨B2, d2, B3, d3, B4, d4, he, hb1, hm1⟩ => ⟨_, he, _, hs.mem.addElm hb1 hm1, ?_⟩)); clear hs a; intro a hs
        refine ⟨(((hs.mem.to 7 rfl).to 2 rfl).first 2), ?_⟩
        refine b_eff 4 (by kernel_rfl) rfl #[true, true, true, true, true, false, false, false] rfl hs rfl (e_bslice (z := .agg #[.int .u8 0, .string ⟨#[]⟩, .slice none 0 0, .slice none 0 0, .slice none 0 0, .int .i64 0, .int .i64 0]) (size := 7) (zc := #[.int .u8 0, .string ⟨#[]⟩, .slice none 0 0, .slice none 0 0, .slice none 0 0, .int .i64 0, .int .i64 0]) (cl := [_, _, _, _, _, _, _]) hs rfl Tryd.underlying39 (by kernel_rfl) rfl rfl rfl (by kernel_rfl) (by rfl) rfl ?_); clear hs a; intro gl a w hs
        refine ⟨(((hs.mem.to 8 rfl).to 3 rfl).first 2), ?_⟩
        refine b_eff 5 (by kernel_rfl) rfl #[true, true, true, true, true, true, false, false] rfl hs rfl (e_append (z := .agg #[.int .u8 0, .string ⟨#[]⟩, .slice none 0 0, .slice none 0 0, .slice none 0 0, .int .i64 0, .int .i64 0]) (size := 7) (bytes := 112) 3 rfl 0 rfl hs rfl Tryd.underlying39 (by kernel_rfl) rfl rfl rfl rfl (news := [.int .u8 y.f0, .string y.f1, .slice B2 (bareS q y).f2.length d2, .slice B3 (bareS q y).f3.length d3, .slice B4 (bareS q y).f4.length d4, .int .i64 0, .int .i64 0]) rfl rfl rfl (by unfold maxLen; omega) (by omega) ?_); clear hs a; intro AA cc a w hs
        refine ⟨(((hs.mem.to 8 rfl).to 4 rfl).first 2), ?_⟩
        refine b_take 6 rfl #[true, true, true, true, true, true, true, false] rfl (by kernel_rfl) hs ((((hs.mem.to 8 rfl).to 4 rfl).first 2)) rfl rfl rfl (fun _ _ _ h => h) (y_faddr (k' := 3) 3 hs (by kernel_rfl) rfl rfl) ?_; clear hs a; intro a hs
        refine b_eff 7 (by kernel_rfl) rfl #[true, true, true, true, true, true, true, true] rfl hs rfl (e_store (cl := [_, _, _, _, _, _, _]) 5 rfl hs rfl rfl (by kernel_rfl) rfl rfl rfl ?_); clear hs a; intro a w hs
        refine ⟨(((hs.mem.to 8 rfl).to 5 rfl).first 2), ?_⟩
        refine b_done (by kernel_rfl) (in_normal (then_normal ?_))
        refine wp_region_lit (go hs (pV rfl (fun a hs => y_add hs rfl rfl (by omega)) <| pM rfl <| ?_)); clear hs a; intro a hs
        refine wpList_nil (then_normal ?_)
        have hrn := (((((((((hs.mem.to 2 rfl).drop.to 3 rfl).drop.to 6 rfl).to 6 rfl).to 6 rfl).to 3 rfl).to 4 rfl).to 6 rfl).to 6 rfl)
        replace hrn := (H.snoc hrn rfl).to 1 rfl
        rw [← htk] at hrn
        obtain ⟨SS2, cs2, hrn⟩ : ∃ SS2 cs2, H v0 [row 42 7 (.slice AA (i + 1) cc) (i + 1) cs2, inn v0.heap.size k42 SS2 ((x.f3.take (i + 1)).map (bareS q)) cs2, pt gt #[.int .u8 x.f0, .string x.f1, .slice P2 (x.f2.map (bareX 16)).length p2, .slice AA (i + 1) cc, .slice none 0 0, .int .i64 0, .int .i64 0] 42, tr v0.heap.size k25 25 S2 (.slice P2 (x.f2.map (bareX 16)).length p2) (x.f2.map (bareX 16)), _, _] _ := ⟨_, _, hrn⟩
        refine ⟨mm - 1, by omega, i + 1, AA, cc, SS2, cs2, S2, by omega, ?_⟩
        exact (hs.mem_to hrn).cut _ ⟨rfl, rfl, rfl, rfl, rfl, rfl, trivial⟩
      clear hs a; intro a hs
      refine ⟨(((hs.mem.to 7 rfl).to 2 rfl).first 2), ?_⟩
      refine b_eff2 1 4 (by kernel_rfl) rfl rfl #[true, true, true, true, false, false, false, false] #[true, false, true, true, true, false, false, false] rfl rfl hs rfl rfl (e_yield hs rfl rfl (y_load hs Tryd.underlying39 rfl rfl (fun w hw => (hw.to 4 rfl).cellV rfl)) ?_) (e_bslice (z := .agg #[.int .u8 0, .string ⟨#[]⟩, .slice none 0 0, .slice none 0 0, .slice none 0 0, .int .i64 0, .int .i64 0]) (size := 7) (zc := #[.int .u8 0, .string ⟨#[]⟩, .slice none 0 0, .slice none 0 0, .slice none 0 0, .int .i64 0, .int .i64 0]) (cl := [_, _, _, _, _, _, _]) hs rfl Tryd.underlying39 (by kernel_rfl) rfl rfl rfl (by kernel_rfl) (by rfl) rfl ?_)
      · clear hs a; intro a hs
        refine ⟨(((hs.mem.to 7 rfl).to 2 rfl).first 2), ?_⟩
        refine b_eff 4 (by kernel_rfl) rfl #[true, true, true, true, true, false, false, false] rfl hs rfl (e_bslice (z := .agg #[.int .u8 0, .string ⟨#[]⟩, .slice none 0 0, .slice none 0 0, .slice none 0 0, .int .i64 0, .int .i64 0]) (size := 7) (zc := #[.int .u8 0, .string ⟨#[]⟩, .slice none 0 0, .slice none 0 0, .slice none 0 0, .int .i64 0, .int .i64 0]) (cl := [_, _, _, _, _, _, _]) hs rfl Tryd.underlying39 (by kernel_rfl) rfl rfl rfl (by kernel_rfl) (by rfl) rfl ?_); clear hs a; intro gl a w hs
        refine ⟨(((hs.mem.to 8 rfl).to 3 rfl).first 2), ?_⟩
        refine b_eff 5 (by kernel_rfl) rfl #[true, true, true, true, true, true, false, false] rfl hs rfl (e_append (z := .agg #[.int .u8 0, .string ⟨#[]⟩, .slice none 0 0, .slice none 0 0, .slice none 0 0, .int .i64 0, .int .i64 0]) (size := 7) (bytes := 112) 3 rfl 0 rfl hs rfl Tryd.underlying39 (by kernel_rfl) rfl rfl rfl rfl (news := [.int .u8 y.f0, .string y.f1, .slice B2 (bareS q y).f2.length d2, .slice B3 (bareS q y).f3.length d3, .slice B4 (bareS q y).f4.length d4, .int .i64 0, .int .i64 0]) rfl rfl rfl (by unfold maxLen; omega) (by omega) ?_); clear hs a; intro AA cc a w hs
        refine ⟨(((hs.mem.to 8 rfl).to 4 rfl).first 2), ?_⟩
        refine b_take 6 rfl #[true, true, true, true, true, true, true, false] rfl (by kernel_rfl) hs ((((hs.mem.to 8 rfl).to 4 rfl).first 2)) rfl rfl rfl (fun _ _ _ h => h) (y_faddr (k' := 3) 3 hs (by kernel_rfl) rfl rfl) ?_; clear hs a; intro a hs
        refine b_eff 7 (by kernel_rfl) rfl #[true, true, true, true, true, true, true, true] rfl hs rfl (e_store (cl := [_, _, _, _, _, _, _]) 5 rfl hs rfl rfl (by kernel_rfl) rfl rfl rfl ?_); clear hs a; intro a w hs
        refine ⟨(((hs.mem.to 8 rfl).to 5 rfl).first 2), ?_⟩
        refine b_done (by kernel_rfl) (in_normal (then_normal ?_))
        refine wp_region_lit (go hs (pV rfl (fun a hs => y_add hs rfl rfl (by omega)) <| pM rfl <| ?_)); clear hs a; intro a hs
        refine wpList_nil (then_normal ?_)
        have hrn := (((((((((hs.mem.to 2 rfl).drop.to 3 rfl).drop.to 6 rfl).to 6 rfl).to 6 rfl).to 3 rfl).to 4 rfl).to 6 rfl).to 6 rfl)
        replace hrn := (H.snoc hrn rfl).to 1 rfl
        rw [← htk] at hrn
        obtain ⟨SS2, cs2, hrn⟩ : ∃ SS2 cs2, H v0 [row 42 7 (.slice AA (i + 1) cc) (i + 1) cs2, inn v0.heap.size k42 SS2 ((x.f3.take (i + 1)).map (bareS q)) cs2, pt gt #[.int .u8 x.f0, .string x.f1, .slice P2 (x.f2.map (bareX 16)).length p2, .slice AA (i + 1) cc, .slice none 0 0, .int .i64 0, .int .i64 0] 42, tr v0.heap.size k25 25 S2 (.slice P2 (x.f2.map (bareX 16)).length p2) (x.f2.map (bareX 16)), _, _] _ := ⟨_, _, hrn⟩
        refine ⟨mm - 1, by omega, i + 1, AA, cc, SS2, cs2, S2, by omega, ?_⟩
        exact (hs.mem_to hrn).cut _ ⟨rfl, rfl, rfl, rfl, rfl, rfl, trivial⟩
      clear hs a; intro gl a w hs
      refine ⟨(((hs.mem.to 8 rfl).to 3 rfl).first 2), ?_⟩
      refine b_eff 1 (by kernel_rfl) rfl #[true, true, true, true, true, false, false, false] rfl hs rfl (e_yield hs rfl rfl (y_load hs Tryd.underlying39 rfl rfl (fun w hw => (hw.to 5 rfl).cellV rfl)) ?_); clear hs a; intro a hs
      refine ⟨(((hs.mem.to 8 rfl).to 3 rfl).first 2), ?_⟩
      refine b_eff 5 (by kernel_rfl) rfl #[true, true, true, true, true, true, false, false] rfl hs rfl (e_append (z := .agg #[.int .u8 0, .string ⟨#[]⟩, .slice none 0 0, .slice none 0 0, .slice none 0 0, .int .i64 0, .int .i64 0]) (size := 7) (bytes := 112) 3 rfl 0 rfl hs rfl Tryd.underlying39 (by kernel_rfl) rfl rfl rfl rfl (news := [.int .u8 y.f0, .string y.f1, .slice B2 (bareS q y).f2.length d2, .slice B3 (bareS q y).f3.length d3, .slice B4 (bareS q y).f4.length d4, .int .i64 0, .int .i64 0]) rfl rfl rfl (by unfold maxLen; omega) (by omega) ?_); clear hs a; intro AA cc a w hs
      refine ⟨(((hs.mem.to 8 rfl).to 4 rfl).first 2), ?_⟩
      refine b_take 6 rfl #[true, true, true, true, true, true, true, false] rfl (by kernel_rfl) hs ((((hs.mem.to 8 rfl).to 4 rfl).first 2)) rfl rfl rfl (fun _ _ _ h => h) (y_faddr (k' := 3) 3 hs (by kernel_rfl) rfl rfl) ?_; clear hs a; intro a hs
      refine b_eff 7 (by kernel_rfl) rfl #[true, true, true, true, true, true, true, true] rfl hs rfl (e_store (cl := [_, _, _, _, _, _, _]) 5 rfl hs rfl rfl (by kernel_rfl) rfl rfl rfl ?_); clear hs a; intro a w hs
      refine ⟨(((hs.mem.to 8 rfl).to 5 rfl).first 2), ?_⟩
      refine b_done (by kernel_rfl) (in_normal (then_normal ?_))
      refine wp_region_lit (go hs (pV rfl (fun a hs => y_add hs rfl rfl (by omega)) <| pM rfl <| ?_)); clear hs a; intro a hs
      refine wpList_nil (then_normal ?_)
      have hrn := (((((((((hs.mem.to 2 rfl).drop.to 3 rfl).drop.to 6 rfl).to 6 rfl).to 6 rfl).to 3 rfl).to 4 rfl).to 6 rfl).to 6 rfl)
      replace hrn := (H.snoc hrn rfl).to 1 rfl
      rw [← htk] at hrn
      obtain ⟨SS2, cs2, hrn⟩ : ∃ SS2 cs2, H v0 [row 42 7 (.slice AA (i + 1) cc) (i + 1) cs2, inn v0.heap.size k42 SS2 ((x.f3.take (i + 1)).map (bareS q)) cs2, pt gt #[.int .u8 x.f0, .string x.f1, .slice P2 (x.f2.map (bareX 16)).length p2, .slice AA (i + 1) cc, .slice none 0 0, .int .i64 0, .int .i64 0] 42, tr v0.heap.size k25 25 S2 (.slice P2 (x.f2.map (bareX 16)).length p2) (x.f2.map (bareX 16)), _, _] _ := ⟨_, _, hrn⟩
      refine ⟨mm - 1, by omega, i + 1, AA, cc, SS2, cs2, S2, by omega, ?_⟩
      exact (hs.mem_to hrn).cut _ ⟨rfl, rfl, rfl, rfl, rfl, rfl, trivial⟩
    replace h20 := of_decide_eq_false h20
    obtain rfl : i = x.f3.length := by omega
    rw [List.take_length] at hs
    obtain ⟨S3, hm3⟩ := H.rowTr' (d := k42) ((hs.mem.to 1 rfl).to 1 rfl) (List.length_map _).symm
    replace hs := hs.mem_to hm3
    refine wp_exit (then_exit (then_exit (in_here (then_normal (wp_seq ?_)))))
    refine wp_seq (wp_region_lit ?_)
    refine go hs (pV rfl (fun a hs => y_faddr (k' := 4) 4 hs (by kernel_rfl) rfl rfl) <| pV rfl (fun a hs => y_load hs Tryd.underlying40 rfl rfl (fun w hw => (hw.to 4 rfl).cellV rfl)) <| pV rfl (fun a hs => y_lenL hs Tryd.underlying40 rfl) <| pM rfl <| ?_); clear hs a; intro a hs
    refine wpList_nil (then_normal (wp_block ?_))
    refine wp_loopN (fun mm a w1 => ∃ (i : Nat) (A' : Option Addr) (c' : Nat) (SS : Nat → Prop) (cs : List Value) (S2 S3 : Nat → Prop) (P3 : Option Addr) (p3 : Nat), (i + mm = x.f4.length) ∧ St 47 v0 [(2, .pointer (some ⟨gr, 0, none⟩)), (3, .pointer (some ⟨gt, 0, none⟩)), (32, .slice A4 x.f4.length c4), (33, .int .i64 (x.f4.length : Int)), (34, .int .i64 ((i : Nat) : Int))] [row 23 1 (.slice A' i c') i cs, inn v0.heap.size (Kd.slice 25 k25) SS ((x.f4.take i).map (List.map (bareX 16))) cs, pt gt #[.int .u8 x.f0, .string x.f1, .slice P2 (x.f2.map (bareX 16)).length p2, .slice P3 x.f3.length p3, .slice A' i c', .int .i64 0, .int .i64 0] 42, tr v0.heap.size k42 42 S3 (.slice P3 x.f3.length p3) (x.f3.map (bareS q)), tr v0.heap.size k25 25 S2 (.slice P2 (x.f2.map (bareX 16)).length p2) (x.f2.map (bareX 16)), pt gr #[.int .u8 0, .string ⟨#[]⟩, .slice none 0 0, .slice none 0 0, .slice none 0 0, .int .i64 0, .int .i64 0] 42, pt gx #[.int .u8 x.f0, .string x.f1, .slice A2 x.f2.length c2, .slice A3 x.f3.length c3, .slice A4 x.f4.length c4, .int .i64 x.f5, .int .i64 x.f6] 42] a w1) (x.f4.length) ⟨0, none, 0, fun _ => False, [], S2, S3, A', c', by omega, ?_⟩ (fun mm a w1 hJ => ?_)
    · exact (hs.mem_to ((((((hs.mem.to 4 rfl).to 4 rfl).to 4 rfl).to 3 rfl).to 4 rfl).emptyRow 23 1 v0.heap.size (Kd.slice 25 k25))).cut _ ⟨rfl, rfl, rfl, rfl, rfl, trivial⟩
    clear hs
    obtain ⟨i, A', c', SS, cs, S2, S3, P3, p3, hi, hs⟩ := hJ
    refine wp_seq (wp_region_lit ?_)
    refine go hs (pV rfl (fun a hs => y_cmp hs rfl rfl rfl) <| ?_); clear hs a; intro a hs
    refine wpList_nil (then_normal (wp_seq ?_))
    refine wp_cond_split (hs.ev rfl) (fun h35 => ?_) (fun h35 => ?_)
    · replace h35 := of_decide_eq_true h35
      obtain ⟨r, hr⟩ : ∃ p, x.f4[i]? = some p := ⟨_, List.getElem?_eq_getElem (by omega)⟩
      obtain ⟨g1, o1, rfl, hcell1⟩ := C_atG (show 0 < 1 by decide) hA4 (by omega)
      obtain ⟨cs1, hK1, hc1⟩ := hcell1 i r hr
      obtain ⟨R0, r0, rfl, e1, C1⟩ := hK1
      have htk : (x.f4.take (i + 1)).map (List.map (bareX 16)) = (x.f4.take i).map (List.map (bareX 16)) ++ [r.map (bareX 16)] := by rw [List.take_add_one, hr, List.map_append]; rfl
      refine wp_skip (then_normal (wp_seq ?_))
      refine wp_block (wp_seq ?_)
      refine wp_region_lit (go hs (pV rfl (fun a hs => y_idxB (size := 1) (off := o1 + i * 1) hs Tryd.underlying40 (by kernel_rfl) rfl rfl (by omega) (by omega) (by simp)) <| pV rfl (fun a hs => y_load (v := .slice R0 r.length r0) hs Tryd.underlying23 rfl rfl (fun w hw => hc1 w hw.base 0 _ rfl)) <| pA rfl <| ?_)); clear hs a; intro a hs
      refine wpList_nil (then_normal ?_)
      refine b_enter [] (by kernel_rfl) hs #[false, false, false, false, false, false, false, false] (by rfl) 8 (by rfl) ?_; clear hs; intro w hs
      refine b_take 0 rfl #[true, false, false, false, false, false, false, false] rfl (by kernel_rfl) hs ((hs.mem.first 0)) rfl rfl rfl (fun _ _ _ h => h) (y_faddr (k' := 4) 4 hs (by kernel_rfl) rfl rfl) ?_; clear hs a; intro a hs
      refine b_take 2 rfl #[true, false, true, false, false, false, false, false] rfl (by kernel_rfl) hs ((hs.mem.first 0)) rfl rfl rfl (fun _ _ _ h => h) (y_move hs rfl) ?_; clear hs a; intro a hs
      refine b_eff2 1 3 (by kernel_rfl) rfl rfl #[true, true, true, false, false, false, false, false] #[true, false, true, true, false, false, false, false] rfl rfl hs rfl rfl (e_yield hs rfl rfl (y_load hs Tryd.underlying40 rfl rfl (fun w hw => (hw.to 2 rfl).cellV rfl)) ?_) (e_callX Tryd.func35 rfl rfl hs rfl rfl (strips_ok 16 (by decide) r R0 r0 _ (Kd.C_below C1 hs.mem.base) (hx.2.2.2.2.2 r (List.mem_of_getElem? hr)).1 (hx.2.2.2.2.2 r (List.mem_of_getElem? hr)).2) (fun e w1 ⟨P5, p5, he, hb1, hm1⟩ => let ⟨S5, hm2⟩ := hs.mem.addTr' hb1 hm1; ⟨_, he, _, hm2, ?_⟩))
      · clear hs a; intro a hs
        refine ⟨(hs.mem.first 0), ?_⟩
        refine b_eff 3 (by kernel_rfl) rfl #[true, true, true, true, false, false, false, false] rfl hs rfl (e_callX Tryd.func35 rfl rfl hs rfl rfl (strips_ok 16 (by decide) r R0 r0 _ (Kd.C_below C1 hs.mem.base) (hx.2.2.2.2.2 r (List.mem_of_getElem? hr)).1 (hx.2.2.2.2.2 r (List.mem_of_getElem? hr)).2) (fun e w1 ⟨P5, p5, he, hb1, hm1⟩ => let ⟨S5, hm2⟩ := hs.mem.addTr' hb1 hm1; ⟨_, he, _, hm2, ?_⟩)); clear hs a; intro a hs
        refine ⟨(hs.mem.first 0), ?_⟩
        refine b_eff 4 (by kernel_rfl) rfl #[true, true, true, true, true, false, false, false] rfl hs rfl (e_bslice (z := .slice none 0 0) (size := 1) (zc := #[.slice none 0 0]) (cl := [_]) hs rfl Tryd.underlying40 (by kernel_rfl) rfl rfl rfl (by kernel_rfl) (by rfl) rfl ?_); clear hs a; intro gl a w hs
        refine ⟨(hs.mem.first 0), ?_⟩
        refine b_eff 5 (by kernel_rfl) rfl #[true, true, true, true, true, true, false, false] rfl hs rfl (e_append (z := .slice none 0 0) (size := 1) (bytes := 24) 2 rfl 0 rfl hs rfl Tryd.underlying40 (by kernel_rfl) rfl rfl rfl rfl (news := [.slice P5 (r.map (bareX 16)).length p5]) rfl rfl rfl (by unfold maxLen; omega) (by omega) ?_); clear hs a; intro AA cc a w hs
        refine ⟨(hs.mem.first 0), ?_⟩
        refine b_take 6 rfl #[true, true, true, true, true, true, true, false] rfl (by kernel_rfl) hs ((hs.mem.first 0)) rfl rfl rfl (fun _ _ _ h => h) (y_faddr (k' := 4) 4 hs (by kernel_rfl) rfl rfl) ?_; clear hs a; intro a hs
        refine b_eff 7 (by kernel_rfl) rfl #[true, true, true, true, true, true, true, true] rfl hs rfl (e_store (cl := [_, _, _, _, _, _, _]) 4 rfl hs rfl rfl (by kernel_rfl) rfl rfl rfl ?_); clear hs a; intro a w hs
        refine ⟨(hs.mem.first 0), ?_⟩
        refine b_done (by kernel_rfl) (in_normal (then_normal ?_))
        refine wp_region_lit (go hs (pV rfl (fun a hs => y_add hs rfl rfl (by omega)) <| pM rfl <| ?_)); clear hs a; intro a hs
        refine wpList_nil (then_normal ?_)
        have hrn := ((((((((((hs.mem.to 2 rfl).drop.to 7 rfl).to 7 rfl).to 7 rfl).to 7 rfl).to 4 rfl).to 5 rfl).to 7 rfl).to 7 rfl)).trElm
        replace hrn := (H.snoc hrn rfl).to 1 rfl
        rw [← htk] at hrn
        obtain ⟨SS2, cs2, hrn⟩ : ∃ SS2 cs2, H v0 [row 23 1 (.slice AA (i + 1) cc) (i + 1) cs2, inn v0.heap.size (Kd.slice 25 k25) SS2 ((x.f4.take (i + 1)).map (List.map (bareX 16))) cs2, pt gt #[.int .u8 x.f0, .string x.f1, .slice P2 (x.f2.map (bareX 16)).length p2, .slice P3 x.f3.length p3, .slice AA (i + 1) cc, .int .i64 0, .int .i64 0] 42, tr v0.heap.size k42 42 S3 (.slice P3 x.f3.length p3) (x.f3.map (bareS q)), tr v0.heap.size k25 25 S2 (.slice P2 (x.f2.map (bareX 16)).length p2) (x.f2.map (bareX 16)), _, _] _ := ⟨_, _, hrn⟩
        refine ⟨mm - 1, by omega, i + 1, AA, cc, SS2, cs2, S2, S3, P3, p3, by omega, ?_⟩
        exact (hs.mem_to hrn).cut _ ⟨rfl, rfl, rfl, rfl, rfl, trivial⟩
      clear hs a; intro a hs
      refine ⟨(hs.mem.first 0), ?_⟩
      refine b_eff2 1 4 (by kernel_rfl) rfl rfl #[true, true, true, true, false, false, false, false] #[true, false, true, true, true, false, false, false] rfl rfl hs rfl rfl (e_yield hs rfl rfl (y_load hs Tryd.underlying40 rfl rfl (fun w hw => (hw.to 3 rfl).cellV rfl)) ?_) (e_bslice (z := .slice none 0 0) (size := 1) (zc := #[.slice none 0 0]) (cl := [_]) hs rfl Tryd.underlying40 (by kernel_rfl) rfl rfl rfl (by kernel_rfl) (by rfl) rfl ?_)
      · clear hs a; intro a hs
        refine ⟨(hs.mem.first 0), ?_⟩
        refine b_eff 4 (by kernel_rfl) rfl #[true, true, true, true, true, false, false, false] rfl hs rfl (e_bslice (z := .slice none 0 0) (size := 1) (zc := #[.slice none 0 0]) (cl := [_]) hs rfl Tryd.underlying40 (by kernel_rfl) rfl rfl rfl (by kernel_rfl) (by rfl) rfl ?_); clear hs a; intro gl a w hs
        refine ⟨(hs.mem.first 0), ?_⟩
        refine b_eff 5 (by kernel_rfl) rfl #[true, true, true, true, true, true, false, false] rfl hs rfl (e_append (z := .slice none 0 0) (size := 1) (bytes := 24) 2 rfl 0 rfl hs rfl Tryd.underlying40 (by kernel_rfl) rfl rfl rfl rfl (news := [.slice P5 (r.map (bareX 16)).length p5]) rfl rfl rfl (by unfold maxLen; omega) (by omega) ?_); clear hs a; intro AA cc a w hs
        refine ⟨(hs.mem.first 0), ?_⟩
        refine b_take 6 rfl #[true, true, true, true, true, true, true, false] rfl (by kernel_rfl) hs ((hs.mem.first 0)) rfl rfl rfl (fun _ _ _ h => h) (y_faddr (k' := 4) 4 hs (by kernel_rfl) rfl rfl) ?_; clear hs a; intro a hs
        refine b_eff 7 (by kernel_rfl) rfl #[true, true, true, true, true, true, true, true] rfl hs rfl (e_store (cl := [_, _, _, _, _, _, _]) 4 rfl hs rfl rfl (by kernel_rfl) rfl rfl rfl ?_); clear hs a; intro a w hs
        refine ⟨(hs.mem.first 0), ?_⟩
        refine b_done (by kernel_rfl) (in_normal (then_normal ?_))
        refine wp_region_lit (go hs (pV rfl (fun a hs => y_add hs rfl rfl (by omega)) <| pM rfl <| ?_)); clear hs a; intro a hs
        refine wpList_nil (then_normal ?_)
        have hrn := ((((((((((hs.mem.to 2 rfl).drop.to 7 rfl).to 7 rfl).to 7 rfl).to 7 rfl).to 4 rfl).to 5 rfl).to 7 rfl).to 7 rfl)).trElm
        replace hrn := (H.snoc hrn rfl).to 1 rfl
        rw [← htk] at hrn
        obtain ⟨SS2, cs2, hrn⟩ : ∃ SS2 cs2, H v0 [row 23 1 (.slice AA (i + 1) cc) (i + 1) cs2, inn v0.heap.size (Kd.slice 25 k25) SS2 ((x.f4.take (i + 1)).map (List.map (bareX 16))) cs2, pt gt #[.int .u8 x.f0, .string x.f1, .slice P2 (x.f2.map (bareX 16)).length p2, .slice P3 x.f3.length p3, .slice AA (i + 1) cc, .int .i64 0, .int .i64 0] 42, tr v0.heap.size k42 42 S3 (.slice P3 x.f3.length p3) (x.f3.map (bareS q)), tr v0.heap.size k25 25 S2 (.slice P2 (x.f2.map (bareX 16)).length p2) (x.f2.map (bareX 16)), _, _] _ := ⟨_, _, hrn⟩
        refine ⟨mm - 1, by omega, i + 1, AA, cc, SS2, cs2, S2, S3, P3, p3, by omega, ?_⟩
        exact (hs.mem_to hrn).cut _ ⟨rfl, rfl, rfl, rfl, rfl, trivial⟩
      clear hs a; intro gl a w hs
      refine ⟨(hs.mem.first 0), ?_⟩
      refine b_eff 1 (by kernel_rfl) rfl #[true, true, true, true, true, false, false, false] rfl hs rfl (e_yield hs rfl rfl (y_load hs Tryd.underlying40 rfl rfl (fun w hw => (hw.to 4 rfl).cellV rfl)) ?_); clear hs a; intro a hs
      refine ⟨(hs.mem.first 0), ?_⟩
      refine b_eff 5 (by kernel_rfl) rfl #[true, true, true, true, true, true, false, false] rfl hs rfl (e_append (z := .slice none 0 0) (size := 1) (bytes := 24) 2 rfl 0 rfl hs rfl Tryd.underlying40 (by kernel_rfl) rfl rfl rfl rfl (news := [.slice P5 (r.map (bareX 16)).length p5]) rfl rfl rfl (by unfold maxLen; omega) (by omega) ?_); clear hs a; intro AA cc a w hs
      refine ⟨(hs.mem.first 0), ?_⟩
      refine b_take 6 rfl #[true, true, true, true, true, true, true, false] rfl (by kernel_rfl) hs ((hs.mem.first 0)) rfl rfl rfl (fun _ _ _ h => h) (y_faddr (k' := 4) 4 hs (by kernel_rfl) rfl rfl) ?_; clear hs a; intro a hs
      refine b_eff 7 (by kernel_rfl) rfl #[true, true, true, true, true, true, true, true] rfl hs rfl (e_store (cl := [_, _, _, _, _, _, _]) 4 rfl hs rfl rfl (by kernel_rfl) rfl rfl rfl ?_); clear hs a; intro a w hs
      refine ⟨(hs.mem.first 0), ?_⟩
      refine b_done (by kernel_rfl) (in_normal (then_normal ?_))
      refine wp_region_lit (go hs (pV rfl (fun a hs => y_add hs rfl rfl (by omega)) <| pM rfl <| ?_)); clear hs a; intro a hs
      refine wpList_nil (then_normal ?_)
      have hrn := ((((((((((hs.mem.to 2 rfl).drop.to 7 rfl).to 7 rfl).to 7 rfl).to 7 rfl).to 4 rfl).to 5 rfl).to 7 rfl).to 7 rfl)).trElm
      replace hrn := (H.snoc hrn rfl).to 1 rfl
      rw [← htk] at hrn
      obtain ⟨SS2, cs2, hrn⟩ : ∃ SS2 cs2, H v0 [row 23 1 (.slice AA (i + 1) cc) (i + 1) cs2, inn v0.heap.size (Kd.slice 25 k25) SS2 ((x.f4.take (i + 1)).map (List.map (bareX 16))) cs2, pt gt #[.int .u8 x.f0, .string x.f1, .slice P2 (x.f2.map (bareX 16)).length p2, .slice P3 x.f3.length p3, .slice AA (i + 1) cc, .int .i64 0, .int .i64 0] 42, tr v0.heap.size k42 42 S3 (.slice P3 x.f3.length p3) (x.f3.map (bareS q)), tr v0.heap.size k25 25 S2 (.slice P2 (x.f2.map (bareX 16)).length p2) (x.f2.map (bareX 16)), _, _] _ := ⟨_, _, hrn⟩
      refine ⟨mm - 1, by omega, i + 1, AA, cc, SS2, cs2, S2, S3, P3, p3, by omega, ?_⟩
      exact (hs.mem_to hrn).cut _ ⟨rfl, rfl, rfl, rfl, rfl, trivial⟩
    replace h35 := of_decide_eq_false h35
    obtain rfl : i = x.f4.length := by omega
    rw [List.take_length] at hs
    replace hs := hs.mem_to (H.rowTr (d := Kd.slice 25 k25) ((hs.mem.to 1 rfl).to 1 rfl) (List.length_map _).symm)
    refine wp_exit (then_exit (then_exit (in_here (then_normal (wp_seq ?_)))))
    refine wp_region_lit (go hs (pV rfl (fun a hs => y_loadPt 1 rfl hs Tryd.underlying42 rfl (by kernel_rfl) rfl) <| ?_)); clear hs a; intro a hs
    refine a_eff rfl (e_store (cl := [_, _, _, _, _, _, _]) 4 rfl hs rfl rfl (by kernel_rfl) rfl rfl rfl ?_); clear hs a; intro a w hs
    refine wpList_nil (then_normal (wp_ret ?_))
    have e3 : (bareS (q + 1) x).f3.length = x.f3.length := List.length_map _
    have e4 : (bareS (q + 1) x).f4.length = x.f4.length := List.length_map _
    have m2 := ((((((hs.mem.to 0 rfl).drop.to 0 rfl).drop.to 0 rfl).drop.to 0 rfl).drop.to 1 rfl).drop).trR
    have m3 := ((((((hs.mem.to 0 rfl).drop.to 0 rfl).drop.to 0 rfl).drop.to 1 rfl).drop.to 1 rfl).drop).trR
    have m4 := ((((((hs.mem.to 0 rfl).drop.to 1 rfl).drop.to 1 rfl).drop.to 1 rfl).drop.to 1 rfl).drop).trR
    refine fin_ret hs (.cell (hs.slots _ _ rfl) (hs.mem.to 0 rfl).cells Tryd.underlying41 rfl (by kernel_rfl) .nil) ⟨P2, p2, P3, p3, A', c', ?_, hs.mem.base, ?_⟩
    · rw [e3, e4]; rfl
    rw [e3, e4]; exact k42_mkM _ _ _ (bareS (q + 1) x) m2 m3 m4
  clear hs a; intro gt a w hs
  refine ⟨((hs.mem.to 2 rfl).first 1), ?_⟩
  refine b_eff 6 (by kernel_rfl) rfl #[true, true, true, true, true, true, true, false, true, false] rfl hs rfl (e_callX Tryd.func35 rfl rfl hs rfl rfl (strips_ok 16 (by decide) x.f2 A2 c2 _ (Kd.C_below hA2 hs.mem.base) hx.1 hx.2.1) (fun e w1 ⟨P2, p2, he, hb1, hm1⟩ => let ⟨S2, hm2⟩ := hs.mem.addTr' hb1 hm1; ⟨_, he, _, hm2, ?_⟩)); clear hs a; intro a hs
  refine ⟨((hs.mem.to 3 rfl).first 1), ?_⟩
  refine b_take 7 rfl #[true, true, true, true, true, true, true, true, true, false] rfl (by kernel_rfl) hs (((hs.mem.to 3 rfl).first 1)) rfl rfl rfl (fun _ _ _ h => h) (y_struct (zc := #[.int .u8 0, .string ⟨#[]⟩, .slice none 0 0, .slice none 0 0, .slice none 0 0, .int .i64 0, .int .i64 0]) (pl := [(0, 1), (1, 1), (2, 1), (3, 1), (4, 1), (5, 1), (6, 1)]) (cl := [_, _, _, .slice none 0 0, .slice none 0 0, .int .i64 0, .int .i64 0]) hs (by kernel_rfl) rfl (by rfl) rfl) ?_; clear hs a; intro a hs
  refine b_eff 9 (by kernel_rfl) rfl #[true, true, true, true, true, true, true, true, true, true] rfl hs rfl (e_store (cl := [_, _, _, _, _, _, _]) 1 rfl hs rfl rfl (by kernel_rfl) rfl rfl rfl ?_); clear hs a; intro a w hs
  refine ⟨((hs.mem.to 3 rfl).first 1), ?_⟩
  refine b_done (by kernel_rfl) (then_normal ?_)
  refine wp_seq (wp_seq ?_)
  refine wp_region_lit (go hs (pV rfl (fun a hs => y_faddr (k' := 3) 3 hs (by kernel_rfl) rfl rfl) <| pV rfl (fun a hs => y_load hs Tryd.underlying39 rfl rfl (fun w hw => (hw.to 3 rfl).cellV rfl)) <| pV rfl (fun a hs => y_lenL hs Tryd.underlying39 rfl) <| pM rfl <| ?_)); clear hs a; intro a hs
  refine wpList_nil (then_normal (wp_block ?_))
  refine wp_loopN (fun mm a w1 => ∃ (i : Nat) (A' : Option Addr) (c' : Nat) (SS : Nat → Prop) (cs : List Value) (S2 : Nat → Prop), (i + mm = x.f3.length) ∧ St 47 v0 [(1, .pointer (some ⟨gx, 0, none⟩)), (2, .pointer (some ⟨gr, 0, none⟩)), (3, .pointer (some ⟨gt, 0, none⟩)), (17, .slice A3 x.f3.length c3), (18, .int .i64 (x.f3.length : Int)), (19, .int .i64 ((i : Nat) : Int))] [row 42 7 (.slice A' i c') i cs, inn v0.heap.size k42 SS ((x.f3.take i).map (bareS q)) cs, pt gt #[.int .u8 x.f0, .string x.f1, .slice P2 (x.f2.map (bareX 16)).length p2, .slice A' i c', .slice none 0 0, .int .i64 0, .int .i64 0] 42, tr v0.heap.size k25 25 S2 (.slice P2 (x.f2.map (bareX 16)).length p2) (x.f2.map (bareX 16)), pt gr #[.int .u8 0, .string ⟨#[]⟩, .slice none 0 0, .slice none 0 0, .slice none 0 0, .int .i64 0, .int .i64 0] 42, pt gx #[.int .u8 x.f0, .string x.f1, .slice A2 x.f2.length c2, .slice A3 x.f3.length c3, .slice A4 x.f4.length c4, .int .i64 x.f5, .int .i64 x.f6] 42] a w1) (x.f3.length) ⟨0, none, 0, fun _ => False, [], S2, by omega, ?_⟩ (fun mm a w1 hJ => ?_)
  · exact (hs.mem_to (((((hs.mem.to 3 rfl).to 3 rfl).to 3 rfl).to 3 rfl).emptyRow 42 7 v0.heap.size k42)).cut _ ⟨rfl, rfl, rfl, rfl, rfl, rfl, trivial⟩
  clear hs
  obtain ⟨i, A', c', SS, cs, S2, hi, hs⟩ := hJ
  refine wp_seq (wp_region_lit ?_)
  refine go hs (pV rfl (fun a hs => y_cmp hs rfl rfl rfl) <| ?_); clear hs a; intro a hs
  refine wpList_nil (then_normal (wp_seq ?_))
  refine wp_cond_split (hs.ev rfl) (fun h20 => ?_) (fun h20 => ?_)
  · replace h20 := of_decide_eq_true h20
    obtain ⟨y, hy⟩ : ∃ p, x.f3[i]? = some p := ⟨_, List.getElem?_eq_getElem (by omega)⟩
    obtain ⟨g1, o1, rfl, hcell1⟩ := C_atG (show 0 < 7 by decide) hA3 (by omega)
    obtain ⟨cs1, hK1, hc1⟩ := hcell1 i y hy
    obtain ⟨Q2, q2, Q3, q3, Q4, q4, rfl, i2, G2, i3, G3, i4, G4⟩ := k42_open hK1
    have htk : (x.f3.take (i + 1)).map (bareS q) = (x.f3.take i).map (bareS q) ++ [bareS q y] := by rw [List.take_add_one, hy, List.map_append]; rfl
    refine wp_skip (then_normal (wp_seq ?_))
    refine wp_block (wp_seq ?_)
    refine wp_region_lit (go hs (pV rfl (fun a hs => y_idxB (size := 7) (off := o1 + i * 7) hs Tryd.underlying39 (by kernel_rfl) rfl rfl (by omega) (by omega) (by simp)) <| pV rfl (fun a hs => y_loadAgg (vs := [.int .u8 y.f0, .string y.f1, .slice Q2 y.f2.length q2, .slice Q3 y.f3.length q3, .slice Q4 y.f4.length q4, .int .i64 y.f5, .int .i64 y.f6]) hs Tryd.underlying41 rfl (by kernel_rfl) rfl (fun w hw k v hk => hc1 w hw.base k v hk)) <| ?_)); clear hs a; intro a hs
    refine a_eff rfl (e_alloc (z := .agg #[.int .u8 0, .string ⟨#[]⟩, .slice none 0 0, .slice none 0 0, .slice none 0 0, .int .i64 0, .int .i64 0]) (cs := #[.int .u8 0, .string ⟨#[]⟩, .slice none 0 0, .slice none 0 0, .slice none 0 0, .int .i64 0, .int .i64 0]) hs rfl (by kernel_rfl) rfl ?_); clear hs a; intro gy a w hs
    refine a_eff rfl (e_store (cl := [_, _, _, _, _, _, _]) 0 rfl hs rfl rfl (by kernel_rfl) rfl rfl rfl ?_); clear hs a; intro a w hs
    refine wpList_nil (then_normal ?_)
    refine b_enter [0, 6] (by kernel_rfl) hs #[false, false, false, false, false, false, false, false] (by rfl) 8 (by rfl) ?_; clear hs; intro w hs
    refine b_take 0 rfl #[true, false, false, false, false, false, false, false] rfl (by kernel_rfl) hs ((((hs.mem.to 6 rfl).to 1 rfl).first 2)) rfl rfl rfl (fun _ _ _ h => h) (y_faddr (k' := 3) 3 hs (by kernel_rfl) rfl rfl) ?_; clear hs a; intro a hs
    refine b_take 2 rfl #[true, false, true, false, false, false, false, false] rfl (by kernel_rfl) hs ((((hs.mem.to 6 rfl).to 1 rfl).first 2)) rfl rfl rfl (fun _ _ _ h => h) (y_loadPt 0 rfl hs Tryd.underlying42 rfl (by kernel_rfl) rfl) ?_; clear hs a; intro a hs
    refine b_eff2 1 3 (by kernel_rfl) rfl rfl #[true, true, true, false, false, false, false, false] #[true, false, true, true, false, false, false, false] rfl rfl hs rfl rfl (e_yield hs rfl rfl (y_load hs Tryd.underlying39 rfl rfl (fun w hw => (hw.to 3 rfl).cellV rfl)) ?_) (e_callX Tryd.func34 rfl rfl hs rfl rfl (ih q rfl y Q2 Q3 Q4 q2 q3 q4 _ (Kd.C_below G2 hs.mem.base) (Kd.C_below G3 hs.mem.base) (Kd.C_below G4 hs.mem.base) (hx.2.2.2.1 y (List.mem_of_getElem? hy))) (fun e w1 ⟨B2, d2, B3, d3, B4, d4, he, hb1, hm1⟩ => ⟨_, he, _, hs.mem.addElm hb1 hm1, ?_⟩))
    · clear hs a; intro a hs
      refine ⟨(((hs.mem.to 6 rfl).to 1 rfl).first 2), ?_⟩
      refine b_eff 3 (by kernel_rfl) rfl #[true, true, true, true, false, false, false, false] rfl hs rfl (e_callX Tryd.func34 rfl rfl hs rfl rfl (ih q rfl y Q2 Q3 Q4 q2 q3 q4 _ (Kd.C_below G2 hs.mem.base) (Kd.C_below G3 hs.mem.base) (Kd.C_below G4 hs.mem.base) (hx.2.2.2.1 y (List.mem_of_getElem? hy))) (fun e w1 ⟨B2, d2, B3, d3, B4, d4, he, hb1, hm1⟩ => ⟨_, he, _, hs.mem.addElm hb1 hm1, ?_⟩)); clear hs a; intro a hs
      refine ⟨(((hs.mem.to 7 rfl).to 2 rfl).first 2), ?_⟩
      refine b_eff 4 (by kernel_rfl) rfl #[true, true, true, true, true, false, false, false] rfl hs rfl (e_bslice (z := .agg #[.int .u8 0, .string ⟨#[]⟩, .slice none 0 0, .slice none 0 0, .slice none 0 0, .int .i64 0, .int .i64 0]) (size := 7) (zc := #[.int .u8 0, .string ⟨#[]⟩, .slice none 0 0, .slice none 0 0, .slice none 0 0, .int .i64 0, .int .i64 0]) (cl := [_, _, _, _, _, _, _]) hs rfl Tryd.underlying39 (by kernel_rfl) rfl rfl rfl (by kernel_rfl) (by rfl) rfl ?_); clear hs a; intro gl a w hs
      refine ⟨(((hs.mem.to 8 rfl).to 3 rfl).first 2), ?_⟩
      refine b_eff 5 (by kernel_rfl) rfl #[true, true, true, true, true, true, false, false] rfl hs rfl (e_append (z := .agg #[.int .u8 0, .string ⟨#[]⟩, .slice none 0 0, .slice none 0 0, .slice none 0 0, .int .i64 0, .int .i64 0]) (size := 7) (bytes := 112) 3 rfl 0 rfl hs rfl Tryd.underlying39 (by kernel_rfl) rfl rfl rfl rfl (news := [.int .u8 y.f0, .string y.f1, .slice B2 (bareS q y).f2.length d2, .slice B3 (bareS q y).f3.length d3, .slice B4 (bareS q y).f4.length d4, .int .i64 0, .int .i64 0]) rfl rfl rfl (by unfold maxLen; omega) (by omega) ?_); clear hs a; intro AA cc a w hs
      refine ⟨(((hs.mem.to 8 rfl).to 4 rfl).first 2), ?_⟩
      refine b_take 6 rfl #[true, true, true, true, true, true, true, false] rfl (by kernel_rfl) hs ((((hs.mem.to 8 rfl).to 4 rfl).first 2)) rfl rfl rfl (fun _ _ _ h => h) (y_faddr (k' := 3) 3 hs (by kernel_rfl) rfl rfl) ?_; clear hs a; intro a hs
      refine b_eff 7 (by kernel_rfl) rfl #[true, true, true, true, true, true, true, true] rfl hs rfl (e_store (cl := [_, _, _, _, _, _, _]) 5 rfl hs rfl rfl (by kernel_rfl) rfl rfl rfl ?_); clear hs a; intro a w hs
      refine ⟨(((hs.mem.to 8 rfl).to 5 rfl).first 2), ?_⟩
      refine b_done (by kernel_rfl) (in_normal (then_normal ?_))
      refine wp_region_lit (go hs (pV rfl (fun a hs => y_add hs rfl rfl (by omega)) <| pM rfl <| ?_)); clear hs a; intro a hs
      refine wpList_nil (then_normal ?_)
      have hrn := (((((((((hs.mem.to 2 rfl).drop.to 3 rfl).drop.to 6 rfl).to 6 rfl).to 6 rfl).to 3 rfl).to 4 rfl).to 6 rfl).to 6 rfl)
      replace hrn := (H.snoc hrn rfl).to 1 rfl
      rw [← htk] at hrn
      obtain ⟨SS2, cs2, hrn⟩ : ∃ SS2 cs2, H v0 [row 42 7 (.slice AA (i + 1) cc) (i + 1) cs2, inn v0.heap.size k42 SS2 ((x.f3.take (i + 1)).map (bareS q)) cs2, pt gt #[.int .u8 x.f0, .string x.f1, .slice P2 (x.f2.map (bareX 16)).length p2, .slice AA (i + 1) cc, .slice none 0 0, .int .i64 0, .int .i64 0] 42, tr v0.heap.size k25 25 S2 (.slice P2 (x.f2.map (bareX 16)).length p2) (x.f2.map (bareX 16)), _, _] _ := ⟨_, _, hrn⟩
      refine ⟨mm - 1, by omega, i + 1, AA, cc, SS2, cs2, S2, by omega, ?_⟩
      exact (hs.mem_to hrn).cut _ ⟨rfl, rfl, rfl, rfl, rfl, rfl, trivial⟩
    clear hs a; intro a hs
    refine ⟨(((hs.mem.to 7 rfl).to 2 rfl).first 2), ?_⟩
    refine b_eff2 1 4 (by kernel_rfl) rfl rfl #[true, true, true, true, false, false, false, false] #[true, false, true, true, true, false, false, false] rfl rfl hs rfl rfl (e_yield hs rfl rfl (y_load hs Tryd.underlying39 rfl rfl (fun w hw => (hw.to 4 rfl).cellV rfl)) ?_) (e_bslice (z := .agg #[.int .u8 0, .string ⟨#[]⟩, .slice none 0 0, .slice none 0 0, .slice none 0 0, .int .i64 0, .int .i64 0]) (size := 7) (zc := #[.int .u8 0, .string ⟨#[]⟩, .slice none 0 0, .slice none 0 0, .slice none 0 0, .int .i64 0, .int .i64 0]) (cl := [_, _, _, _, _, _, _]) hs rfl Tryd.underlying39 (by kernel_rfl) rfl rfl rfl (by kernel_rfl) (by rfl) rfl ?_)
    · clear hs a; intro a hs
      refine ⟨(((hs.mem.to 7 rfl).to 2 rfl).first 2), ?_⟩
      refine b_eff 4 (by kernel_rfl) rfl #[true, true, true, true, true, false, false, false] rfl hs rfl (e_bslice (z := .agg #[.int .u8 0, .string ⟨#[]⟩, .slice none 0 0, .slice none 0 0, .slice none 0 0, .int .i64 0, .int .i64 0]) (size := 7) (zc := #[.int .u8 0, .string ⟨#[]⟩, .slice none 0 0, .slice none 0 0, .slice none 0 0, .int .i64 0, .int .i64 0]) (cl := [_, _, _, _, _, _, _]) hs rfl Tryd.underlying39 (by kernel_rfl) rfl rfl rfl (by kernel_rfl) (by rfl) rfl ?_); clear hs a; intro gl a w hs
      refine ⟨(((hs.mem.to 8 rfl).to 3 rfl).first 2), ?_⟩
      refine b_eff 5 (by kernel_rfl) rfl #[true, true, true, true, true, true, false, false] rfl hs rfl (e_append (z := .agg #[.int .u8 0, .string ⟨#[]⟩, .slice none 0 0, .slice none 0 0, .slice none 0 0, .int .i64 0, .int .i64 0]) (size := 7) (bytes := 112) 3 rfl 0 rfl hs rfl Tryd.underlying39 (by kernel_rfl) rfl rfl rfl rfl (news := [.int .u8 y.f0, .string y.f1, .slice B2 (bareS q y).f2.length d2, .slice B3 (bareS q y).f3.length d3, .slice B4 (bareS q y).f4.length d4, .int .i64 0, .int .i64 0]) rfl rfl rfl (by unfold maxLen; omega) (by omega) ?_); clear hs a; intro AA cc a w hs
      refine ⟨(((hs.mem.to 8 rfl).to 4 rfl).first 2), ?_⟩
      refine b_take 6 rfl #[true, true, true, true, true, true, true, false] rfl (by kernel_rfl) hs ((((hs.mem.to 8 rfl).to 4 rfl).first 2)) rfl rfl rfl (fun _ _ _ h => h) (y_faddr (k' := 3) 3 hs (by kernel_rfl) rfl rfl) ?_; clear hs a; intro a hs
      refine b_eff 7 (by kernel_rfl) rfl #[true, true, true, true, true, true, true, true] rfl hs rfl (e_store (cl := [_, _, _, _, _, _, _]) 5 rfl hs rfl rfl (by kernel_rfl) rfl rfl rfl ?_); clear hs a; intro a w hs
      refine ⟨(((hs.mem.to 8 rfl).to 5 rfl).first 2), ?_⟩
      refine b_done (by kernel_rfl) (in_normal (then_normal ?_))
      refine wp_region_lit (go hs (pV rfl (fun a hs => y_add hs rfl rfl (by omega)) <| pM rfl <| ?_)); clear hs a; intro a hs
      refine wpList_nil (then_normal ?_)
      have hrn := (((((((((hs.mem.to 2 rfl).drop.to 3 rfl).drop.to 6 rfl).to 6 rfl).to 6 rfl).to 3 rfl).to 4 rfl).to 6 rfl).to 6 rfl)
      replace hrn := (H.snoc hrn rfl).to 1 rfl
      rw [← htk] at hrn
      obtain ⟨SS2, cs2, hrn⟩ : ∃ SS2 cs2, H v0 [row 42 7 (.slice AA (i + 1) cc) (i + 1) cs2, inn v0.heap.size k42 SS2 ((x.f3.take (i + 1)).map (bareS q)) cs2, pt gt #[.int .u8 x.f0, .string x.f1, .slice P2 (x.f2.map (bareX 16)).length p2, .slice AA (i + 1) cc, .slice none 0 0, .int .i64 0, .int .i64 0] 42, tr v0.heap.size k25 25 S2 (.slice P2 (x.f2.map (bareX 16)).length p2) (x.f2.map (bareX 16)), _, _] _ := ⟨_, _, hrn⟩
      refine ⟨mm - 1, by omega, i + 1, AA, cc, SS2, cs2, S2, by omega, ?_⟩
      exact (hs.mem_to hrn).cut _ ⟨rfl, rfl, rfl, rfl, rfl, rfl, trivial⟩
    clear hs a; intro gl a w hs
    refine ⟨(((hs.mem.to 8 rfl).to 3 rfl).first 2), ?_⟩
    refine b_eff 1 (by kernel_rfl) rfl #[true, true, true, true, true, false, false, false] rfl hs rfl (e_yield hs rfl rfl (y_load hs Tryd.underlying39 rfl rfl (fun w hw => (hw.to 5 rfl).cellV rfl)) ?_); clear hs a; intro a hs
    refine ⟨(((hs.mem.to 8 rfl).to 3 rfl).first 2), ?_⟩
    refine b_eff 5 (by kernel_rfl) rfl #[true, true, true, true, true, true, false, false] rfl hs rfl (e_append (z := .agg #[.int .u8 0, .string ⟨#[]⟩, .slice none 0 0, .slice none 0 0, .slice none 0 0, .int .i64 0, .int .i64 0]) (size := 7) (bytes := 112) 3 rfl 0 rfl hs rfl Tryd.underlying39 (by kernel_rfl) rfl rfl rfl rfl (news := [.int .u8 y.f0, .string y.f1, .slice B2 (bareS q y).f2.length d2, .slice B3 (bareS q y).f3.length d3, .slice B4 (bareS q y).f4.length d4, .int .i64 0, .int .i64 0]) rfl rfl rfl (by unfold maxLen; omega) (by omega) ?_); clear hs a; intro AA cc a w hs
    refine ⟨(((hs.mem.to 8 rfl).to 4 rfl).first 2), ?_⟩
    refine b_take 6 rfl #[true, true, true, true, true, true, true, false] rfl (by kernel_rfl) hs ((((hs.mem.to 8 rfl).to 4 rfl).first 2)) rfl rfl rfl (fun _ _ _ h => h) (y_faddr (k' := 3) 3 hs (by kernel_rfl) rfl rfl) ?_; clear hs a; intro a hs
    refine b_eff 7 (by kernel_rfl) rfl #[true, true, true, true, true, true, true, true] rfl hs rfl (e_store (cl := [_, _, _, _, _, _, _]) 5 rfl hs rfl rfl (by kernel_rfl) rfl rfl rfl ?_); clear hs a; intro a w hs
    refine ⟨(((hs.mem.to 8 rfl).to 5 rfl).first 2), ?_⟩
    refine b_done (by kernel_rfl) (in_normal (then_normal ?_))
    refine wp_region_lit (go hs (pV rfl (fun a hs => y_add hs rfl rfl (by omega)) <| pM rfl <| ?_)); clear hs a; intro a hs
    refine wpList_nil (then_normal ?_)
    have hrn := (((((((((hs.mem.to 2 rfl).drop.to 3 rfl).drop.to 6 rfl).to 6 rfl).to 6 rfl).to 3 rfl).to 4 rfl).to 6 rfl).to 6 rfl)
    replace hrn := (H.snoc hrn rfl).to 1 rfl
    rw [← htk] at hrn
    obtain ⟨SS2, cs2, hrn⟩ : ∃ SS2 cs2, H v0 [row 42 7 (.slice AA (i + 1) cc) (i + 1) cs2, inn v0.heap.size k42 SS2 ((x.f3.take (i + 1)).map (bareS q)) cs2, pt gt #[.int .u8 x.f0, .string x.f1, .slice P2 (x.f2.map (bareX 16)).length p2, .slice AA (i + 1) cc, .slice none 0 0, .int .i64 0, .int .i64 0] 42, tr v0.heap.size k25 25 S2 (.slice P2 (x.f2.map (bareX 16)).length p2) (x.f2.map (bareX 16)), _, _] _ := ⟨_, _, hrn⟩
    refine ⟨mm - 1, by omega, i + 1, AA, cc, SS2, cs2, S2, by omega, ?_⟩
    exact (hs.mem_to hrn).cut _ ⟨rfl, rfl, rfl, rfl, rfl, rfl, trivial⟩
  replace h20 := of_decide_eq_false h20
  obtain rfl : i = x.f3.length := by omega
  rw [List.take_length] at hs
  obtain ⟨S3, hm3⟩ := H.rowTr' (d := k42) ((hs.mem.to 1 rfl).to 1 rfl) (List.length_map _).symm
  replace hs := hs.mem_to hm3
  refine wp_exit (then_exit (then_exit (in_here (then_normal (wp_seq ?_)))))
  refine wp_seq (wp_region_lit ?_)
  refine go hs (pV rfl (fun a hs => y_faddr (k' := 4) 4 hs (by kernel_rfl) rfl rfl) <| pV rfl (fun a hs => y_load hs Tryd.underlying40 rfl rfl (fun w hw => (hw.to 4 rfl).cellV rfl)) <| pV rfl (fun a hs => y_lenL hs Tryd.underlying40 rfl) <| pM rfl <| ?_); clear hs a; intro a hs
  refine wpList_nil (then_normal (wp_block ?_))
  refine wp_loopN (fun mm a w1 => ∃ (i : Nat) (A' : Option Addr) (c' : Nat) (SS : Nat → Prop) (cs : List Value) (S2 S3 : Nat → Prop) (P3 : Option Addr) (p3 : Nat), (i + mm = x.f4.length) ∧ St 47 v0 [(2, .pointer (some ⟨gr, 0, none⟩)), (3, .pointer (some ⟨gt, 0, none⟩)), (32, .slice A4 x.f4.length c4), (33, .int .i64 (x.f4.length : Int)), (34, .int .i64 ((i : Nat) : Int))] [row 23 1 (.slice A' i c') i cs, inn v0.heap.size (Kd.slice 25 k25) SS ((x.f4.take i).map (List.map (bareX 16))) cs, pt gt #[.int .u8 x.f0, .string x.f1, .slice P2 (x.f2.map (bareX 16)).length p2, .slice P3 x.f3.length p3, .slice A' i c', .int .i64 0, .int .i64 0] 42, tr v0.heap.size k42 42 S3 (.slice P3 x.f3.length p3) (x.f3.map (bareS q)), tr v0.heap.size k25 25 S2 (.slice P2 (x.f2.map (bareX 16)).length p2) (x.f2.map (bareX 16)), pt gr #[.int .u8 0, .string ⟨#[]⟩, .slice none 0 0, .slice none 0 0, .slice none 0 0, .int .i64 0, .int .i64 0] 42, pt gx #[.int .u8 x.f0, .string x.f1, .slice A2 x.f2.length c2, .slice A3 x.f3.length c3, .slice A4 x.f4.length c4, .int .i64 x.f5, .int .i64 x.f6] 42] a w1) (x.f4.length) ⟨0, none, 0, fun _ => False, [], S2, S3, A', c', by omega, ?_⟩ (fun mm a w1 hJ => ?_)
  · exact (hs.mem_to ((((((hs.mem.to 4 rfl).to 4 rfl).to 4 rfl).to 3 rfl).to 4 rfl).emptyRow 23 1 v0.heap.size (Kd.slice 25 k25))).cut _ ⟨rfl, rfl, rfl, rfl, rfl, trivial⟩
  clear hs
  obtain ⟨i, A', c', SS, cs, S2, S3, P3, p3, hi, hs⟩ := hJ
  refine wp_seq (wp_region_lit ?_)
  refine go hs (pV rfl (fun a hs => y_cmp hs rfl rfl rfl) <| ?_); clear hs a; intro a hs
  refine wpList_nil (then_normal (wp_seq ?_))
  refine wp_cond_split (hs.ev rfl) (fun h35 => ?_) (fun h35 => ?_)
  · replace h35 := of_decide_eq_true h35
    obtain ⟨r, hr⟩ : ∃ p, x.f4[i]? = some p := ⟨_, List.getElem?_eq_getElem (by omega)⟩
    obtain ⟨g1, o1, rfl, hcell1⟩ := C_atG (show 0 < 1 by decide) hA4 (by omega)
    obtain ⟨cs1, hK1, hc1⟩ := hcell1 i r hr
    obtain ⟨R0, r0, rfl, e1, C1⟩ := hK1
    have htk : (x.f4.take (i + 1)).map (List.map (bareX 16)) = (x.f4.take i).map (List.map (bareX 16)) ++ [r.map (bareX 16)] := by rw [List.take_add_one, hr, List.map_append]; rfl
    refine wp_skip (then_normal (wp_seq ?_))
    refine wp_block (wp_seq ?_)
    refine wp_region_lit (go hs (pV rfl (fun a hs => y_idxB (size := 1) (off := o1 + i * 1) hs Tryd.underlying40 (by kernel_rfl) rfl rfl (by omega) (by omega) (by simp)) <| pV rfl (fun a hs => y_load (v := .slice R0 r.length r0) hs Tryd.underlying23 rfl rfl (fun w hw => hc1 w hw.base 0 _ rfl)) <| pA rfl <| ?_)); clear hs a; intro a hs
    refine wpList_nil (then_normal ?_)
    refine b_enter [] (by kernel_rfl) hs #[false, false, false, false, false, false, false, false] (by rfl) 8 (by rfl) ?_; clear hs; intro w hs
    refine b_take 0 rfl #[true, false, false, false, false, false, false, false] rfl (by kernel_rfl) hs ((hs.mem.first 0)) rfl rfl rfl (fun _ _ _ h => h) (y_faddr (k' := 4) 4 hs (by kernel_rfl) rfl rfl) ?_; clear hs a; intro a hs
    refine b_take 2 rfl #[true, false, true, false, false, false, false, false] rfl (by kernel_rfl) hs ((hs.mem.first 0)) rfl rfl rfl (fun _ _ _ h => h) (y_move hs rfl) ?_; clear hs a; intro a hs
    refine b_eff2 1 3 (by kernel_rfl) rfl rfl #[true, true, true, false, false, false, false, false] #[true, false, true, true, false, false, false, false] rfl rfl hs rfl rfl (e_yield hs rfl rfl (y_load hs Tryd.underlying40 rfl rfl (fun w hw => (hw.to 2 rfl).cellV rfl)) ?_) (e_callX Tryd.func35 rfl rfl hs rfl rfl (strips_ok 16 (by decide) r R0 r0 _ (Kd.C_below C1 hs.mem.base) (hx.2.2.2.2.2 r (List.mem_of_getElem? hr)).1 (hx.2.2.2.2.2 r (List.mem_of_getElem? hr)).2) (fun e w1 ⟨P5, p5, he, hb1, hm1⟩ => let ⟨S5, hm2⟩ := hs.mem.addTr' hb1 hm1; ⟨_, he, _, hm2, ?_⟩))
    · clear hs a; intro a hs
      refine ⟨(hs.mem.first 0), ?_⟩
      refine b_eff 3 (by kernel_rfl) rfl #[true, true, true, true, false, false, false, false] rfl hs rfl (e_callX Tryd.func35 rfl rfl hs rfl rfl (strips_ok 16 (by decide) r R0 r0 _ (Kd.C_below C1 hs.mem.base) (hx.2.2.2.2.2 r (List.mem_of_getElem? hr)).1 (hx.2.2.2.2.2 r (List.mem_of_getElem? hr)).2) (fun e w1 ⟨P5, p5, he, hb1, hm1⟩ => let ⟨S5, hm2⟩ := hs.mem.addTr' hb1 hm1; ⟨_, he, _, hm2, ?_⟩)); clear hs a; intro a hs
      refine ⟨(hs.mem.first 0), ?_⟩
      refine b_eff 4 (by kernel_rfl) rfl #[true, true, true, true, true, false, false, false] rfl hs rfl (e_bslice (z := .slice none 0 0) (size := 1) (zc := #[.slice none 0 0]) (cl := [_]) hs rfl Tryd.underlying40 (by kernel_rfl) rfl rfl rfl (by kernel_rfl) (by rfl) rfl ?_); clear hs a; intro gl a w hs
      refine ⟨(hs.mem.first 0), ?_⟩
      refine b_eff 5 (by kernel_rfl) rfl #[true, true, true, true, true, true, false, false] rfl hs rfl (e_append (z := .slice none 0 0) (size := 1) (bytes := 24) 2 rfl 0 rfl hs rfl Tryd.underlying40 (by kernel_rfl) rfl rfl rfl rfl (news := [.slice P5 (r.map (bareX 16)).length p5]) rfl rfl rfl (by unfold maxLen; omega) (by omega) ?_); clear hs a; intro AA cc a w hs
      refine ⟨(hs.mem.first 0), ?_⟩
      refine b_take 6 rfl #[true, true, true, true, true, true, true, false] rfl (by kernel_rfl) hs ((hs.mem.first 0)) rfl rfl rfl (fun _ _ _ h => h) (y_faddr (k' := 4) 4 hs (by kernel_rfl) rfl rfl) ?_; clear hs a; intro a hs
      refine b_eff 7 (by kernel_rfl) rfl #[true, true, true, true, true, true, true, true] rfl hs rfl (e_store (cl := [_, _, _, _, _, _, _]) 4 rfl hs rfl rfl (by kernel_rfl) rfl rfl rfl ?_); clear hs a; intro a w hs
      refine ⟨(hs.mem.first 0), ?_⟩
      refine b_done (by kernel_rfl) (in_normal (then_normal ?_))
      refine wp_region_lit (go hs (pV rfl (fun a hs => y_add hs rfl rfl (by omega)) <| pM rfl <| ?_)); clear hs a; intro a hs
      refine wpList_nil (then_normal ?_)
      have hrn := ((((((((((hs.mem.to 2 rfl).drop.to 7 rfl).to 7 rfl).to 7 rfl).to 7 rfl).to 4 rfl).to 5 rfl).to 7 rfl).to 7 rfl)).trElm
      replace hrn := (H.snoc hrn rfl).to 1 rfl
      rw [← htk] at hrn
      obtain ⟨SS2, cs2, hrn⟩ : ∃ SS2 cs2, H v0 [row 23 1 (.slice AA (i + 1) cc) (i + 1) cs2, inn v0.heap.size (Kd.slice 25 k25) SS2 ((x.f4.take (i + 1)).map (List.map (bareX 16))) cs2, pt gt #[.int .u8 x.f0, .string x.f1, .slice P2 (x.f2.map (bareX 16)).length p2, .slice P3 x.f3.length p3, .slice AA (i + 1) cc, .int .i64 0, .int .i64 0] 42, tr v0.heap.size k42 42 S3 (.slice P3 x.f3.length p3) (x.f3.map (bareS q)), tr v0.heap.size k25 25 S2 (.slice P2 (x.f2.map (bareX 16)).length p2) (x.f2.map (bareX 16)), _, _] _ := ⟨_, _, hrn⟩
      refine ⟨mm - 1, by omega, i + 1, AA, cc, SS2, cs2, S2, S3, P3, p3, by omega, ?_⟩
      exact (hs.mem_to hrn).cut _ ⟨rfl, rfl, rfl, rfl, rfl, trivial⟩
    clear hs a; intro a hs
    refine ⟨(hs.mem.first 0), ?_⟩
    refine b_eff2 1 4 (by kernel_rfl) rfl rfl #[true, true, true, true, false, false, false, false] #[true, false, true, true, true, false, false, false] rfl rfl hs rfl rfl (e_yield hs rfl rfl (y_load hs Tryd.underlying40 rfl rfl (fun w hw => (hw.to 3 rfl).cellV rfl)) ?_) (e_bslice (z := .slice none 0 0) (size := 1) (zc := #[.slice none 0 0]) (cl := [_]) hs rfl Tryd.underlying40 (by kernel_rfl) rfl rfl rfl (by kernel_rfl) (by rfl) rfl ?_)
    · clear hs a; intro a hs
      refine ⟨(hs.mem.first 0), ?_⟩
      refine b_eff 4 (by kernel_rfl) rfl #[true, true, true, true, true, false, false, false] rfl hs rfl (e_bslice (z := .slice none 0 0) (size := 1) (zc := #[.slice none 0 0]) (cl := [_]) hs rfl Tryd.underlying40 (by kernel_rfl) rfl rfl rfl (by kernel_rfl) (by rfl) rfl ?_); clear hs a; intro gl a w hs
      refine ⟨(hs.mem.first 0), ?_⟩
      refine b_eff 5 (by kernel_rfl) rfl #[true, true, true, true, true, true, false, false] rfl hs rfl (e_append (z := .slice none 0 0) (size := 1) (bytes := 24) 2 rfl 0 rfl hs rfl Tryd.underlying40 (by kernel_rfl) rfl rfl rfl rfl (news := [.slice P5 (r.map (bareX 16)).length p5]) rfl rfl rfl (by unfold maxLen; omega) (by omega) ?_); clear hs a; intro AA cc a w hs
      refine ⟨(hs.mem.first 0), ?_⟩
      refine b_take 6 rfl #[true, true, true, true, true, true, true, false] rfl (by kernel_rfl) hs ((hs.mem.first 0)) rfl rfl rfl (fun _ _ _ h => h) (y_faddr (k' := 4) 4 hs (by kernel_rfl) rfl rfl) ?_; clear hs a; intro a hs
      refine b_eff 7 (by kernel_rfl) rfl #[true, true, true, true, true, true, true, true] rfl hs rfl (e_store (cl := [_, _, _, _, _, _, _]) 4 rfl hs rfl rfl (by kernel_rfl) rfl rfl rfl ?_); clear hs a; intro a w hs
      refine ⟨(hs.mem.first 0), ?_⟩
      refine b_done (by kernel_rfl) (in_normal (then_normal ?_))
      refine wp_region_lit (go hs (pV rfl (fun a hs => y_add hs rfl rfl (by omega)) <| pM rfl <| ?_)); clear hs a; intro a hs
      refine wpList_nil (then_normal ?_)
      have hrn := ((((((((((hs.mem.to 2 rfl).drop.to 7 rfl).to 7 rfl).to 7 rfl).to 7 rfl).to 4 rfl).to 5 rfl).to 7 rfl).to 7 rfl)).trElm
      replace hrn := (H.snoc hrn rfl).to 1 rfl
      rw [← htk] at hrn
      obtain ⟨SS2, cs2, hrn⟩ : ∃ SS2 cs2, H v0 [row 23 1 (.slice AA (i + 1) cc) (i + 1) cs2, inn v0.heap.size (Kd.slice 25 k25) SS2 ((x.f4.take (i + 1)).map (List.map (bareX 16))) cs2, pt gt #[.int .u8 x.f0, .string x.f1, .slice P2 (x.f2.map (bareX 16)).length p2, .slice P3 x.f3.length p3, .slice AA (i + 1) cc, .int .i64 0, .int .i64 0] 42, tr v0.heap.size k42 42 S3 (.slice P3 x.f3.length p3) (x.f3.map (bareS q)), tr v0.heap.size k25 25 S2 (.slice P2 (x.f2.map (bareX 16)).length p2) (x.f2.map (bareX 16)), _, _] _ := ⟨_, _, hrn⟩
      refine ⟨mm - 1, by omega, i + 1, AA, cc, SS2, cs2, S2, S3, P3, p3, by omega, ?_⟩
      exact (hs.mem_to hrn).cut _ ⟨rfl, rfl, rfl, rfl, rfl, trivial⟩
    clear hs a; intro gl a w hs
    refine ⟨(hs.mem.first 0), ?_⟩
    refine b_eff 1 (by kernel_rfl) rfl #[true, true, true, true, true, false, false, false] rfl hs rfl (e_yield hs rfl rfl (y_load hs Tryd.underlying40 rfl rfl (fun w hw => (hw.to 4 rfl).cellV rfl)) ?_); clear hs a; intro a hs
    refine ⟨(hs.mem.first 0), ?_⟩
    refine b_eff 5 (by kernel_rfl) rfl #[true, true, true, true, true, true, false, false] rfl hs rfl (e_append (z := .slice none 0 0) (size := 1) (bytes := 24) 2 rfl 0 rfl hs rfl Tryd.underlying40 (by kernel_rfl) rfl rfl rfl rfl (news := [.slice P5 (r.map (bareX 16)).length p5]) rfl rfl rfl (by unfold maxLen; omega) (by omega) ?_); clear hs a; intro AA cc a w hs
    refine ⟨(hs.mem.first 0), ?_⟩
    refine b_take 6 rfl #[true, true, true, true, true, true, true, false] rfl (by kernel_rfl) hs ((hs.mem.first 0)) rfl rfl rfl (fun _ _ _ h => h) (y_faddr (k' := 4) 4 hs (by kernel_rfl) rfl rfl) ?_; clear hs a; intro a hs
    refine b_eff 7 (by kernel_rfl) rfl #[true, true, true, true, true, true, true, true] rfl hs rfl (e_store (cl := [_, _, _, _, _, _, _]) 4 rfl hs rfl rfl (by kernel_rfl) rfl rfl rfl ?_); clear hs a; intro a w hs
    refine ⟨(hs.mem.first 0), ?_⟩
    refine b_done (by kernel_rfl) (in_normal (then_normal ?_))
    refine wp_region_lit (go hs (pV rfl (fun a hs => y_add hs rfl rfl (by omega)) <| pM rfl <| ?_)); clear hs a; intro a hs
    refine wpList_nil (then_normal ?_)
    have hrn := ((((((((((hs.mem.to 2 rfl).drop.to 7 rfl).to 7 rfl).to 7 rfl).to 7 rfl).to 4 rfl).to 5 rfl).to 7 rfl).to 7 rfl)).trElm
    replace hrn := (H.snoc hrn rfl).to 1 rfl
    rw [← htk] at hrn
    obtain ⟨SS2, cs2, hrn⟩ : ∃ SS2 cs2, H v0 [row 23 1 (.slice AA (i + 1) cc) (i + 1) cs2, inn v0.heap.size (Kd.slice 25 k25) SS2 ((x.f4.take (i + 1)).map (List.map (bareX 16))) cs2, pt gt #[.int .u8 x.f0, .string x.f1, .slice P2 (x.f2.map (bareX 16)).length p2, .slice P3 x.f3.length p3, .slice AA (i + 1) cc, .int .i64 0, .int .i64 0] 42, tr v0.heap.size k42 42 S3 (.slice P3 x.f3.length p3) (x.f3.map (bareS q)), tr v0.heap.size k25 25 S2 (.slice P2 (x.f2.map (bareX 16)).length p2) (x.f2.map (bareX 16)), _, _] _ := ⟨_, _, hrn⟩
    refine ⟨mm - 1, by omega, i + 1, AA, cc, SS2, cs2, S2, S3, P3, p3, by omega, ?_⟩
    exact (hs.mem_to hrn).cut _ ⟨rfl, rfl, rfl, rfl, rfl, trivial⟩
  replace h35 := of_decide_eq_false h35
  obtain rfl : i = x.f4.length := by omega
  rw [List.take_length] at hs
  replace hs := hs.mem_to (H.rowTr (d := Kd.slice 25 k25) ((hs.mem.to 1 rfl).to 1 rfl) (List.length_map _).symm)
  refine wp_exit (then_exit (then_exit (in_here (then_normal (wp_seq ?_)))))
  refine wp_region_lit (go hs (pV rfl (fun a hs => y_loadPt 1 rfl hs Tryd.underlying42 rfl (by kernel_rfl) rfl) <| ?_)); clear hs a; intro a hs
  refine a_eff rfl (e_store (cl := [_, _, _, _, _, _, _]) 4 rfl hs rfl rfl (by kernel_rfl) rfl rfl rfl ?_); clear hs a; intro a w hs
  refine wpList_nil (then_normal (wp_ret ?_))
  have e3 : (bareS (q + 1) x).f3.length = x.f3.length := List.length_map _
  have e4 : (bareS (q + 1) x).f4.length = x.f4.length := List.length_map _
  have m2 := ((((((hs.mem.to 0 rfl).drop.to 0 rfl).drop.to 0 rfl).drop.to 0 rfl).drop.to 1 rfl).drop).trR
  have m3 := ((((((hs.mem.to 0 rfl).drop.to 0 rfl).drop.to 0 rfl).drop.to 1 rfl).drop.to 1 rfl).drop).trR
  have m4 := ((((((hs.mem.to 0 rfl).drop.to 1 rfl).drop.to 1 rfl).drop.to 1 rfl).drop.to 1 rfl).drop).trR
  refine fin_ret hs (.cell (hs.slots _ _ rfl) (hs.mem.to 0 rfl).cells Tryd.underlying41 rfl (by kernel_rfl) .nil) ⟨P2, p2, P3, p3, A', c', ?_, hs.mem.base, ?_⟩
  · rw [e3, e4]; rfl
  rw [e3, e4]; exact k42_mkM _ _ _ (bareS (q + 1) x) m2 m3 m4
theorem stripS_ok : ∀ n : Nat, n ≤ 1000 → StripSOk n := fun n => by
  induction n using Nat.strongRecOn with
  | _ n ih => exact fun hn x A2 A3 A4 c2 c3 c4 v0 hA2 hA3 hA4 hx => stripS_step n hn (fun q hq => ih q (by omega) (by omega)) x A2 A3 A4 c2 c3 c4 v0 hA2 hA3 hA4 hx
theorem item_made {w0 w : World} {bs : List Res} {b : Nat} {S1 S2 S3 : Nat → Prop} (y : XI) (A3 B2 B3 B4 A6 : Option Addr) (c3 d2 d3 d4 c6 : Nat) (h : H w0 (elm b k25 S1 (bareX 16 y.f2) ([.int .u8 y.f2.f0, .int .i64 y.f2.f1, .string y.f2.f2, .slice A3 (bareX 16 y.f2).f3.length c3, .int .i64 0, .int .i64 0]) :: elm b k42 S2 (bareS 16 y.f3) ([.int .u8 y.f3.f0, .string y.f3.f1, .slice B2 (bareS 16 y.f3).f2.length d2, .slice B3 (bareS 16 y.f3).f3.length d3, .slice B4 (bareS 16 y.f3).f4.length d4, .int .i64 0, .int .i64 0]) :: tr b k25 25 S3 (.slice A6 (y.f5.map (bareX 16)).length c6) (y.f5.map (bareX 16)) :: bs) w) :
    ∃ S4, H w0 (elm b k45 S4 (bareI y) ([.int .u8 y.f0, .string y.f1, .int .u8 y.f2.f0, .int .i64 y.f2.f1, .string y.f2.f2, .slice A3 (bareX 16 y.f2).f3.length c3, .int .i64 0, .int .i64 0, .int .u8 y.f3.f0, .string y.f3.f1, .slice B2 (bareS 16 y.f3).f2.length d2, .slice B3 (bareS 16 y.f3).f3.length d3, .slice B4 (bareS 16 y.f3).f4.length d4, .int .i64 0, .int .i64 0, .int .u8 y.f4, .slice A6 (y.f5.map (bareX 16)).length c6, .int .i64 0, .int .i64 0]) :: bs) w := by
  have h1 := (h.to 1 rfl).to 2 rfl
  have h2 := H.resBoth h1
  have h3 := h2.to 1 rfl
  refine ⟨_, h3.merge (t := elm b k45 (fun k => S1 k ∨ (S3 k ∨ S2 k)) (bareI y) ([.int .u8 y.f0, .string y.f1, .int .u8 y.f2.f0, .int .i64 y.f2.f1, .string y.f2.f2, .slice A3 (bareX 16 y.f2).f3.length c3, .int .i64 0, .int .i64 0, .int .u8 y.f3.f0, .string y.f3.f1, .slice B2 (bareS 16 y.f3).f2.length d2, .slice B3 (bareS 16 y.f3).f3.length d3, .slice B4 (bareS 16 y.f3).f4.length d4, .int .i64 0, .int .i64 0, .int .u8 y.f4, .slice A6 (y.f5.map (bareX 16)).length c6, .int .i64 0, .int .i64 0])) (fun a c => ?_) (fun g hg => hg)⟩
  obtain ⟨c1, c2⟩ := c
  have e1 : k25.M w b (fun k => S1 k ∨ (S3 k ∨ S2 k)) (bareX 16 y.f2) ([.int .u8 y.f2.f0, .int .i64 y.f2.f1, .string y.f2.f2, .slice A3 (bareX 16 y.f2).f3.length c3, .int .i64 0, .int .i64 0]) := k25.M_mono (fun _ hk => .inl hk) a
  have e2 : k42.M w b (fun k => S1 k ∨ (S3 k ∨ S2 k)) (bareS 16 y.f3) ([.int .u8 y.f3.f0, .string y.f3.f1, .slice B2 (bareS 16 y.f3).f2.length d2, .slice B3 (bareS 16 y.f3).f3.length d3, .slice B4 (bareS 16 y.f3).f4.length d4, .int .i64 0, .int .i64 0]) := k42.M_mono (fun _ hk => .inr (.inr hk)) c2
  have e3 : Kd.R k25 25 w b (fun k => S1 k ∨ (S3 k ∨ S2 k)) (.slice A6 (y.f5.map (bareX 16)).length c6) (y.f5.map (bareX 16)) := Kd.R_mono c1 (fun _ hk => .inr (.inl hk))
  obtain ⟨v3, q1, g3⟩ := k25_openM e1
  obtain ⟨v4, v5, v6, q2, g4, g5, g6⟩ := k42_openM e2
  have r1 := Option.some.inj (congrArg (fun l : List Value => l[3]?) q1)
  have r2 := Option.some.inj (congrArg (fun l : List Value => l[2]?) q2)
  have r3 := Option.some.inj (congrArg (fun l : List Value => l[3]?) q2)
  have r4 := Option.some.inj (congrArg (fun l : List Value => l[4]?) q2)
  subst r1 r2 r3 r4
  exact k45_mkM w b _ (bareI y) g3 g4 g5 g6 e3
set_option maxHeartbeats 1000000 in
set_option maxRecDepth 100000 in
theorem tree_Strip (A : Option Addr) (c : Nat) (l : List XI) (v0 : World) (hA : Kd.C k45 v0 A l.length l) (hsm : ∀ p ∈ l, smallI p) :
    Calls Tryd.prog 14 #[.slice A l.length c] v0 fun e w' => Below v0.heap.size v0 w' ∧ (mayI l = false → e = .returned (.tuple #[.slice none 0 0, .int .i64 2])) ∧ (mayI l = true → ∃ A' c', e = .returned (.tuple #[.slice A' (l.map bareI).length c', .int .i64 0]) ∧ Kd.R k45 45 w' v0.heap.size (fun _ => True) (.slice A' (l.map bareI).length c') (l.map bareI)) := by
  refine calls_enter (N := 37) (n := 36) (args := [.slice A l.length c]) Tryd.func14 rfl rfl rfl (H.init v0) (fun a hs => ?_)
  have hcl := C_len hA
  refine wp_seq (wp_region_lit ?_)
  refine go hs (pA rfl <| pA rfl <| ?_); clear hs a; intro a hs
  refine wpList_nil (then_normal (wp_seq ?_))
  refine wp_seq (wp_region_lit ?_)
  refine go hs (pM rfl <| ?_); clear hs a; intro a hs
  refine a_eff rfl (e_callB Tryd.func23 rfl rfl hs rfl rfl (tree_May A c l _ (Kd.C_below hA hs.mem.base) hsm) ?_); clear hs a; intro a w hs
  refine go hs (pV rfl (fun a hs => y_not hs rfl) <| ?_); clear hs a; intro a hs
  refine wpList_nil (then_normal ?_)
  refine wp_cond_split (hs.ev rfl) (fun h9 => ?_) (fun h9 => ?_)
  · replace h9 := (not_t h9)
    replace h9 : mayI l = false := by simpa using h9
    refine wp_seq (wp_region_lit ?_)
    refine go hs (pA rfl <| pA rfl <| ?_); clear hs a; intro a hs
    refine wpList_nil (then_normal (wp_ret (then_ret ?_)))
    refine fin_ret hs (.tmp (hs.slots _ _ rfl) (.tmp (hs.slots _ _ rfl) .nil)) ⟨hs.mem.base, fun _ => rfl, fun h => absurd h (by rw [h9]; exact Bool.false_ne_true)⟩
  replace h9 := (not_f h9)
  replace h9 : mayI l = true := by simpa using h9
  have hin := may_in h9
  have h64 := may_len h9
  refine wp_skip (then_normal (wp_seq ?_))
  refine wp_region_lit (go hs (pA rfl <| ?_)); clear hs a; intro a hs
  refine wpList_nil (then_normal (wp_seq ?_))
  refine wp_seq (wp_region_lit ?_)
  refine go hs (pM rfl <| pV rfl (fun a hs => y_lenL hs Tryd.underlying32 rfl) <| pM rfl <| ?_); clear hs a; intro a hs
  refine wpList_nil (then_normal (wp_block ?_))
  refine wp_loopN (fun mm a w1 => ∃ (i : Nat) (A' : Option Addr) (c' : Nat) (SS : Nat → Prop) (cs : List Value), (i + mm = l.length) ∧ St 37 v0 [(4, .slice A' i c'), (10, .slice A l.length c), (11, .int .i64 (l.length : Int)), (12, .int .i64 ((i : Nat) : Int))] [row 45 19 (.slice A' i c') i cs, inn v0.heap.size k45 SS ((l.take i).map bareI) cs] a w1) (l.length) ⟨0, none, 0, fun _ => False, [], by omega, ?_⟩ (fun mm a w1 hJ => ?_)
  · exact (hs.mem_to (hs.mem.bare.emptyRow 45 19 v0.heap.size k45)).cut _ ⟨rfl, rfl, rfl, rfl, trivial⟩
  clear hs
  obtain ⟨i, A', c', SS, cs, hi, hs⟩ := hJ
  refine wp_seq (wp_region_lit ?_)
  refine go hs (pV rfl (fun a hs => y_cmp hs rfl rfl rfl) <| ?_); clear hs a; intro a hs
  refine wpList_nil (then_normal (wp_seq ?_))
  refine wp_cond_split (hs.ev rfl) (fun h13 => ?_) (fun h13 => ?_)
  · replace h13 := of_decide_eq_true h13
    obtain ⟨y, hy⟩ : ∃ p, l[i]? = some p := ⟨_, List.getElem?_eq_getElem (by omega)⟩
    have hyI := hin y (List.mem_of_getElem? hy)
    obtain ⟨g1, o1, rfl, hcell1⟩ := C_atG (show 0 < 19 by decide) hA (by omega)
    obtain ⟨cs1, hK1, hc1⟩ := hcell1 i y hy
    obtain ⟨A5, c5, A10, c10, A11, c11, A12, c12, A16, c16, rfl, al5, ag5, al10, ag10, al11, ag11, al12, ag12, al16, ag16⟩ := k45_open hK1
    have htk : (l.take (i + 1)).map bareI = (l.take i).map bareI ++ [bareI y] := by rw [List.take_add_one, hy, List.map_append]; rfl
    refine wp_skip (then_normal (wp_seq ?_))
    refine wp_block (wp_seq ?_)
    refine wp_region_lit (go hs (pV rfl (fun a hs => y_idxB (size := 19) (off := o1 + i * 19) hs Tryd.underlying32 (by kernel_rfl) rfl rfl (by omega) (by omega) (by simp)) <| pV rfl (fun a hs => y_loadAgg (vs := [.int .u8 y.f0, .string y.f1, .int .u8 y.f2.f0, .int .i64 y.f2.f1, .string y.f2.f2, .slice A5 y.f2.f3.length c5, .int .i64 y.f2.f4, .int .i64 y.f2.f5, .int .u8 y.f3.f0, .string y.f3.f1, .slice A10 y.f3.f2.length c10, .slice A11 y.f3.f3.length c11, .slice A12 y.f3.f4.length c12, .int .i64 y.f3.f5, .int .i64 y.f3.f6, .int .u8 y.f4, .slice A16 y.f5.length c16, .int .i64 y.f6, .int .i64 y.f7]) hs Tryd.underlying44 rfl (by kernel_rfl) rfl (fun w hw k v hk => hc1 w hw.base k v hk)) <| ?_)); clear hs a; intro a hs
    refine a_eff rfl (e_alloc (z := .agg #[.int .u8 0, .string ⟨#[]⟩, .int .u8 0, .int .i64 0, .string ⟨#[]⟩, .slice none 0 0, .int .i64 0, .int .i64 0, .int .u8 0, .string ⟨#[]⟩, .slice none 0 0, .slice none 0 0, .slice none 0 0, .int .i64 0, .int .i64 0, .int .u8 0, .slice none 0 0, .int .i64 0, .int .i64 0]) (cs := #[.int .u8 0, .string ⟨#[]⟩, .int .u8 0, .int .i64 0, .string ⟨#[]⟩, .slice none 0 0, .int .i64 0, .int .i64 0, .int .u8 0, .string ⟨#[]⟩, .slice none 0 0, .slice none 0 0, .slice none 0 0, .int .i64 0, .int .i64 0, .int .u8 0, .slice none 0 0, .int .i64 0, .int .i64 0]) hs rfl (by kernel_rfl) rfl ?_); clear hs a; intro gx a w hs
    refine a_eff rfl (e_store (cl := [_, _, _, _, _, _, _, _, _, _, _, _, _, _, _, _, _, _, _]) 0 rfl hs rfl rfl (by kernel_rfl) rfl rfl rfl ?_); clear hs a; intro a w hs
    refine wpList_nil (then_normal ?_)
    refine b_enter [0] (by kernel_rfl) hs #[false, false, false, false, false, false, false, false, false, false, false, false, false, false, false, false, false, false, false, false] (by rfl) 20 (by rfl) ?_; clear hs; intro w hs
    refine b_take 0 rfl #[true, false, false, false, false, false, false, false, false, false, false, false, false, false, false, false, false, false, false, false] rfl (by kernel_rfl) hs ((hs.mem.first 1)) rfl rfl rfl (fun _ _ _ h => h) (y_move hs rfl) ?_; clear hs a; intro a hs
    refine b_take 1 rfl #[true, true, false, false, false, false, false, false, false, false, false, false, false, false, false, false, false, false, false, false] rfl (by kernel_rfl) hs ((hs.mem.first 1)) rfl rfl rfl (fun _ _ _ h => h) (y_faddr (k' := 0) 0 hs (by kernel_rfl) rfl rfl) ?_; clear hs a; intro a hs
    refine b_take 2 rfl #[true, true, true, false, false, false, false, false, false, false, false, false, false, false, false, false, false, false, false, false] rfl (by kernel_rfl) hs ((hs.mem.first 1)) rfl rfl rfl (fun _ _ _ h => h) (y_load hs Tryd.underlying37 rfl rfl (fun w hw => (hw.to 0 rfl).cellV rfl)) ?_; clear hs a; intro a hs
    refine b_take 3 rfl #[true, true, true, true, false, false, false, false, false, false, false, false, false, false, false, false, false, false, false, false] rfl (by kernel_rfl) hs ((hs.mem.first 1)) rfl rfl rfl (fun _ _ _ h => h) (y_faddr (k' := 1) 1 hs (by kernel_rfl) rfl rfl) ?_; clear hs a; intro a hs
    refine b_take 4 rfl #[true, true, true, true, true, false, false, false, false, false, false, false, false, false, false, false, false, false, false, false] rfl (by kernel_rfl) hs ((hs.mem.first 1)) rfl rfl rfl (fun _ _ _ h => h) (y_load hs Tryd.underlying9 rfl rfl (fun w hw => (hw.to 0 rfl).cellV rfl)) ?_; clear hs a; intro a hs
    refine b_take 5 rfl #[true, true, true, true, true, true, false, false, false, false, false, false, false, false, false, false, false, false, false, false] rfl (by kernel_rfl) hs ((hs.mem.first 1)) rfl rfl rfl (fun _ _ _ h => h) (y_faddr (k' := 2) 2 hs (by kernel_rfl) rfl rfl) ?_; clear hs a; intro a hs
    refine b_take 6 rfl #[true, true, true, true, true, true, true, false, false, false, false, false, false, false, false, false, false, false, false, false] rfl (by kernel_rfl) hs ((hs.mem.first 1)) rfl rfl rfl (fun _ _ _ h => h) (y_loadAgg (vs := [.int .u8 y.f2.f0, .int .i64 y.f2.f1, .string y.f2.f2, .slice A5 y.f2.f3.length c5, .int .i64 y.f2.f4, .int .i64 y.f2.f5]) hs Tryd.underlying24 rfl (by kernel_rfl) rfl (fun w hw k v hk => ((hw.to 0 rfl).cell).trans (sub_at 6 rfl hk))) ?_; clear hs a; intro a hs
    refine b_take 8 rfl #[true, true, true, true, true, true, true, false, true, false, false, false, false, false, false, false, false, false, false, false] rfl (by kernel_rfl) hs ((hs.mem.first 1)) rfl rfl rfl (fun _ _ _ h => h) (y_faddr (k' := 8) 8 hs (by kernel_rfl) rfl rfl) ?_; clear hs a; intro a hs
    refine b_take 9 rfl #[true, true, true, true, true, true, true, false, true, true, false, false, false, false, false, false, false, false, false, false] rfl (by kernel_rfl) hs ((hs.mem.first 1)) rfl rfl rfl (fun _ _ _ h => h) (y_loadAgg (vs := [.int .u8 y.f3.f0, .string y.f3.f1, .slice A10 y.f3.f2.length c10, .slice A11 y.f3.f3.length c11, .slice A12 y.f3.f4.length c12, .int .i64 y.f3.f5, .int .i64 y.f3.f6]) hs Tryd.underlying41 rfl (by kernel_rfl) rfl (fun w hw k v hk => ((hw.to 0 rfl).cell).trans (sub_at 7 rfl hk))) ?_; clear hs a; intro a hs
    refine b_take 11 rfl #[true, true, true, true, true, true, true, false, true, true, false, true, false, false, false, false, false, false, false, false] rfl (by kernel_rfl) hs ((hs.mem.first 1)) rfl rfl rfl (fun _ _ _ h => h) (y_faddr (k' := 15) 15 hs (by kernel_rfl) rfl rfl) ?_; clear hs a; intro a hs
    refine b_take 12 rfl #[true, true, true, true, true, true, true, false, true, true, false, true, true, false, false, false, false, false, false, false] rfl (by kernel_rfl) hs ((hs.mem.first 1)) rfl rfl rfl (fun _ _ _ h => h) (y_load hs Tryd.underlying43 rfl rfl (fun w hw => (hw.to 0 rfl).cellV rfl)) ?_; clear hs a; intro a hs
    refine b_take 13 rfl #[true, true, true, true, true, true, true, false, true, true, false, true, true, true, false, false, false, false, false, false] rfl (by kernel_rfl) hs ((hs.mem.first 1)) rfl rfl rfl (fun _ _ _ h => h) (y_faddr (k' := 16) 16 hs (by kernel_rfl) rfl rfl) ?_; clear hs a; intro a hs
    refine b_take 14 rfl #[true, true, true, true, true, true, true, false, true, true, false, true, true, true, true, false, false, false, false, false] rfl (by kernel_rfl) hs ((hs.mem.first 1)) rfl rfl rfl (fun _ _ _ h => h) (y_load hs Tryd.underlying23 rfl rfl (fun w hw => (hw.to 0 rfl).cellV rfl)) ?_; clear hs a; intro a hs
    refine b_eff 7 (by kernel_rfl) rfl #[true, true, true, true, true, true, true, true, true, true, false, true, true, true, true, false, false, false, false, false] rfl hs rfl (e_callX Tryd.func33 rfl rfl hs rfl rfl (strip_ok 16 (by decide) y.f2 A5 c5 _ (Kd.C_below ag5 hs.mem.base) hyI.1) (fun e w1 ⟨A3, c3, he, hb1, hm1⟩ => ⟨_, he, _, hs.mem.addElm hb1 hm1, ?_⟩)); clear hs a; intro a hs
    refine ⟨((hs.mem.to 1 rfl).first 1), ?_⟩
    refine b_eff 10 (by kernel_rfl) rfl #[true, true, true, true, true, true, true, true, true, true, true, true, true, true, true, false, false, false, false, false] rfl hs rfl (e_callX Tryd.func34 rfl rfl hs rfl rfl (stripS_ok 16 (by decide) y.f3 A10 A11 A12 c10 c11 c12 _ (Kd.C_below ag10 hs.mem.base) (Kd.C_below ag11 hs.mem.base) (Kd.C_below ag12 hs.mem.base) hyI.2.1) (fun e w1 ⟨B2, d2, B3, d3, B4, d4, he, hb1, hm1⟩ => ⟨_, he, _, hs.mem.addElm hb1 hm1, ?_⟩)); clear hs a; intro a hs
    refine ⟨((hs.mem.to 2 rfl).first 1), ?_⟩
    refine b_eff 15 (by kernel_rfl) rfl #[true, true, true, true, true, true, true, true, true, true, true, true, true, true, true, true, false, false, false, false] rfl hs rfl (e_callX Tryd.func35 rfl rfl hs rfl rfl (strips_ok 16 (by decide) y.f5 A16 c16 _ (Kd.C_below ag16 hs.mem.base) hyI.2.2.1 hyI.2.2.2) (fun e w1 ⟨A6, c6, he, hb1, hm1⟩ => ⟨_, he, _, hs.mem.addTr hb1 hm1, ?_⟩)); clear hs a; intro a hs
    refine ⟨((hs.mem.to 3 rfl).first 1), ?_⟩
    refine b_take 16 rfl #[true, true, true, true, true, true, true, true, true, true, true, true, true, true, true, true, true, false, false, false] rfl (by kernel_rfl) hs (((hs.mem.to 3 rfl).first 1)) rfl rfl rfl (fun _ _ _ h => h) (y_struct (zc := #[.int .u8 0, .string ⟨#[]⟩, .int .u8 0, .int .i64 0, .string ⟨#[]⟩, .slice none 0 0, .int .i64 0, .int .i64 0, .int .u8 0, .string ⟨#[]⟩, .slice none 0 0, .slice none 0 0, .slice none 0 0, .int .i64 0, .int .i64 0, .int .u8 0, .slice none 0 0, .int .i64 0, .int .i64 0]) (pl := [(0, 1), (1, 1), (2, 6), (8, 7), (15, 1), (16, 1), (17, 1), (18, 1)]) (cl := [_, _, _, _, _, _, _, _, _, _, _, _, _, _, _, _, _, .int .i64 0, .int .i64 0]) hs (by kernel_rfl) rfl (by rfl) rfl) ?_; clear hs a; intro a hs
    refine b_eff 17 (by kernel_rfl) rfl #[true, true, true, true, true, true, true, true, true, true, true, true, true, true, true, true, true, true, false, false] rfl hs rfl (e_bslice (z := .agg #[.int .u8 0, .string ⟨#[]⟩, .int .u8 0, .int .i64 0, .string ⟨#[]⟩, .slice none 0 0, .int .i64 0, .int .i64 0, .int .u8 0, .string ⟨#[]⟩, .slice none 0 0, .slice none 0 0, .slice none 0 0, .int .i64 0, .int .i64 0, .int .u8 0, .slice none 0 0, .int .i64 0, .int .i64 0]) (size := 19) (zc := #[.int .u8 0, .string ⟨#[]⟩, .int .u8 0, .int .i64 0, .string ⟨#[]⟩, .slice none 0 0, .int .i64 0, .int .i64 0, .int .u8 0, .string ⟨#[]⟩, .slice none 0 0, .slice none 0 0, .slice none 0 0, .int .i64 0, .int .i64 0, .int .u8 0, .slice none 0 0, .int .i64 0, .int .i64 0]) (cl := [_, _, _, _, _, _, _, _, _, _, _, _, _, _, _, _, _, _, _]) hs rfl Tryd.underlying32 (by kernel_rfl) rfl rfl rfl (by kernel_rfl) (by rfl) rfl ?_); clear hs a; intro gl a w hs
    refine ⟨((hs.mem.to 4 rfl).first 1), ?_⟩
    refine b_eff 18 (by kernel_rfl) rfl #[true, true, true, true, true, true, true, true, true, true, true, true, true, true, true, true, true, true, true, false] rfl hs rfl (e_append (z := .agg #[.int .u8 0, .string ⟨#[]⟩, .int .u8 0, .int .i64 0, .string ⟨#[]⟩, .slice none 0 0, .int .i64 0, .int .i64 0, .int .u8 0, .string ⟨#[]⟩, .slice none 0 0, .slice none 0 0, .slice none 0 0, .int .i64 0, .int .i64 0, .int .u8 0, .slice none 0 0, .int .i64 0, .int .i64 0]) (size := 19) (bytes := 256) 5 rfl 0 rfl hs rfl Tryd.underlying32 (by kernel_rfl) rfl rfl rfl rfl (news := [.int .u8 y.f0, .string y.f1, .int .u8 y.f2.f0, .int .i64 y.f2.f1, .string y.f2.f2, .slice A3 (bareX 16 y.f2).f3.length c3, .int .i64 0, .int .i64 0, .int .u8 y.f3.f0, .string y.f3.f1, .slice B2 (bareS 16 y.f3).f2.length d2, .slice B3 (bareS 16 y.f3).f3.length d3, .slice B4 (bareS 16 y.f3).f4.length d4, .int .i64 0, .int .i64 0, .int .u8 y.f4, .slice A6 (y.f5.map (bareX 16)).length c6, .int .i64 0, .int .i64 0]) rfl rfl rfl (by unfold maxLen; omega) (by omega) ?_); clear hs a; intro AA cc a w hs
    refine ⟨((hs.mem.to 5 rfl).first 1), ?_⟩
    refine b_take 19 rfl #[true, true, true, true, true, true, true, true, true, true, true, true, true, true, true, true, true, true, true, true] rfl (by kernel_rfl) hs (((hs.mem.to 5 rfl).first 1)) rfl rfl rfl (fun _ _ _ h => h) (y_assign hs rfl) ?_; clear hs a; intro a hs
    refine b_done (by kernel_rfl) (in_normal (then_normal ?_))
    refine wp_region_lit (go hs (pV rfl (fun a hs => y_add hs rfl rfl (by omega)) <| pM rfl <| ?_)); clear hs a; intro a hs
    refine wpList_nil (then_normal ?_)
    obtain ⟨S4, hrn⟩ := item_made y A3 B2 B3 B4 A6 c3 d2 d3 d4 c6 ((((((hs.mem.to 1 rfl).drop.to 4 rfl).drop.to 4 rfl).to 2 rfl).to 3 rfl).to 4 rfl)
    replace hrn := (H.snoc hrn rfl).to 1 rfl
    rw [← htk] at hrn
    obtain ⟨SS2, cs2, hrn⟩ : ∃ SS2 cs2, H v0 [row 45 19 (.slice AA (i + 1) cc) (i + 1) cs2, inn v0.heap.size k45 SS2 ((l.take (i + 1)).map bareI) cs2] _ := ⟨_, _, hrn⟩
    refine ⟨mm - 1, by omega, i + 1, AA, cc, SS2, cs2, by omega, ?_⟩
    exact (hs.mem_to (hrn)).cut _ ⟨rfl, rfl, rfl, rfl, trivial⟩
  replace h13 := of_decide_eq_false h13
  refine wp_exit (then_exit (then_exit (in_here (then_normal (wp_seq ?_)))))
  refine wp_region_lit (go hs (pM rfl <| pA rfl <| pA rfl <| ?_)); clear hs a; intro a hs
  refine wpList_nil (then_normal (wp_ret ?_))
  obtain rfl : i = l.length := by omega
  have hlen : l.length = (l.map bareI).length := (List.length_map _).symm
  rw [List.take_length] at hs
  have hm := H.rowTr (d := k45) ((hs.mem.to 1 rfl).to 1 rfl) hlen
  refine fin_ret hs (.tmp (hs.slots _ _ rfl) (.tmp (hs.slots _ _ rfl) .nil)) ⟨hs.mem.base, fun h => absurd h (by rw [h9]; exact fun h => by cases h), fun _ => ⟨A', c', ?_, ?_⟩⟩
  · rw [← hlen]; rfl
  rw [← hlen]; exact hm.trR
end Go.Proofs.YtibaidddhmdafaaDoor.E
end
section
namespace Go.Proofs.YtibaidddhmdafaaDoor.E
open Go Go.RowKit Go.Proofs.YtibaidddhmdafaaDoorW.PrintWords Go.Proofs.YtibaidddhmdafaaDoorW.PrintLast Go.Proofs.YtibaidddhmdafaaDoorW.PrintMore Go.Proofs.YtibaidddhmdafaaDoor.PA
set_option linter.unusedVariables false
set_option linter.unusedSimpArgs false
abbrev ET : Nat := 25
abbrev IT : Nat := 45
abbrev LT : Nat := 23
/-- A list of expressions whose header stands in cell q. -/
def hdr (D : Nat → Prop) (w : World) (cur : Array Value) (q : Nat) : Prop := ∃ B nb cb, cur[q]? = some (.slice B nb cb) ∧ okS D ET 6 w (.slice B nb cb) nb
/-- A list of such lists; R tells its cells. -/
def rowsOk (D : Nat → Prop) (w : World) (R : Nat → Array Value) (cur : Array Value) (q : Nat) : Prop := ∃ B nb cb, nb ≤ 9223372036854775807 ∧ cur[q]? = some (.slice B nb cb) ∧ (nb = 0 ∨ ∃ g, B = some ⟨g, 0, none⟩ ∧ D g ∧ w.heap[g]? = some (.cells (R g) LT (0, 0)) ∧ ∀ k, k < nb → hdr D w (R g) k)
def ZP (D : Nat → Prop) (R : Nat → Array Value) (cur : Array Value) (n : Nat) (w : World) : Prop := ∀ j, j < n → hdr D w cur (j * 19 + 5) ∧ hdr D w cur (j * 19 + 10) ∧ hdr D w cur (j * 19 + 16) ∧ rowsOk D w R cur (j * 19 + 12)
theorem hdr_keep {D : Nat → Prop} {w w' : World} {cur : Array Value} {q : Nat} (h : ∀ g, D g → w'.heap[g]? = w.heap[g]?) : hdr D w cur q → hdr D w' cur q := fun ⟨B, nb, cb, h1, h2⟩ => ⟨B, nb, cb, h1, okS_keep h h2⟩
theorem hdr_same {D : Nat → Prop} {w w' : World} {cur : Array Value} {q g0 : Nat} (h : sameBut D ET g0 w w') : hdr D w cur q → hdr D w' cur q := fun ⟨B, nb, cb, h1, h2⟩ => ⟨B, nb, cb, h1, okS_same h h2⟩
theorem rows_keep {D : Nat → Prop} {w w' : World} {R : Nat → Array Value} {cur : Array Value} {q : Nat} (h : ∀ g, D g → w'.heap[g]? = w.heap[g]?) : rowsOk D w R cur q → rowsOk D w' R cur q := fun ⟨B, nb, cb, hb, h1, h2⟩ => ⟨B, nb, cb, hb, h1, h2.imp_right fun ⟨g, a, b, c, d⟩ => ⟨g, a, b, (h g b).trans c, fun k hk => hdr_keep h (d k hk)⟩⟩
theorem rows_same {D : Nat → Prop} {w w' : World} {R : Nat → Array Value} {cur : Array Value} {q g0 : Nat} (h : sameBut D ET g0 w w') : rowsOk D w R cur q → rowsOk D w' R cur q := fun ⟨B, nb, cb, hb, h1, h2⟩ => ⟨B, nb, cb, hb, h1, h2.imp_right fun ⟨g, a, b, c, d⟩ => ⟨g, a, b, (h.1 g b (fun e => by
  obtain ⟨_, cs, cs', k1, _⟩ := h
  rw [e, k1] at c
  injection c with c
  injection c with _ c
  exact absurd c (by decide))).trans c, fun k hk => hdr_same h (d k hk)⟩⟩
theorem ZP_keep (D : Nat → Prop) (R : Nat → Array Value) (cur : Array Value) (n : Nat) (w w' : World) (h : ∀ g, D g → w'.heap[g]? = w.heap[g]?) (hz : ZP D R cur n w) : ZP D R cur n w' := fun j hj =>
  ⟨hdr_keep h (hz j hj).1, hdr_keep h (hz j hj).2.1, hdr_keep h (hz j hj).2.2.1, rows_keep h (hz j hj).2.2.2⟩
theorem ZP_same (D : Nat → Prop) (R : Nat → Array Value) (cur : Array Value) (n : Nat) (g0 : Nat) (w w' : World) (_ : D g0) (h : sameBut D ET g0 w w') (hz : ZP D R cur n w) : ZP D R cur n w' := fun j hj =>
  ⟨hdr_same h (hz j hj).1, hdr_same h (hz j hj).2.1, hdr_same h (hz j hj).2.2.1, rows_same h (hz j hj).2.2.2⟩
abbrev zone (D : Nat → Prop) (R : Nat → Array Value) (cur : Array Value) (n : Nat) : Res := reg D (ZP D R cur n) (ZP_keep D R cur n)
/-- A list made, as a header. -/
theorem R_okS {α : Type} {d : Kd α} {e b gI : Nat} {ok : Nat → Prop} {w : World} {cI : Array Value} {v : Value} {l : List α} (he : e ≠ IT) (hI : w.heap[gI]? = some (.cells cI IT (0, 0))) (h : Kd.R d e w b ok v l) : okS (fun g => b ≤ g ∧ g < w.heap.size ∧ g ≠ gI) e d.sz w v l.length := by
  obtain ⟨_, inner, ho, _⟩ := h
  rcases ho.2 with ⟨h1, h2⟩ | ⟨g, cap, cur, h1, h2, h3, h4, h5, h6, _⟩
  · exact .inl ⟨h1, h2⟩
  · refine .inr ⟨g, cap, cur, h1, ⟨h2, (Array.getElem?_eq_some_iff.1 h3).1, fun e2 => ?_⟩, h3, h4, h5, h6⟩
    rw [e2, hI] at h3
    injection h3 with h3
    injection h3 with _ h3
    exact he h3.symm
theorem okS_hdr {D : Nat → Prop} {w : World} {v : Value} {n : Nat} {cur : Array Value} {q : Nat} (hc : cur[q]? = some v) (h : okS D ET 6 w v n) : hdr D w cur q := by
  rcases h with ⟨rfl, rfl⟩ | ⟨g, cap, cu, rfl, h2⟩
  · exact ⟨_, _, _, hc, .inl ⟨rfl, rfl⟩⟩
  · exact ⟨_, _, _, hc, .inr ⟨g, cap, cu, rfl, h2⟩⟩
def cellsAt (w : World) (g : Nat) : Array Value := match w.heap[g]? with
  | some (.cells c _ _) => c
  | _ => #[]
theorem cellsAt_eq {w : World} {g : Nat} {c : Array Value} {t : TypeId} {p : Nat × Nat} (h : w.heap[g]? = some (.cells c t p)) : cellsAt w g = c := by unfold cellsAt; rw [h]
theorem take_get {cur : Array Value} {inner : List Value} {n j q : Nat} {v : Value} {cs : List Value} (h : cur.toList.take n = inner) (hc : (inner.drop (j * 19)).take 19 = cs) (hv : cs[q]? = some v) : cur[j * 19 + q]? = some v := by
  subst hc h
  rw [List.getElem?_take] at hv
  split at hv
  · rw [List.getElem?_drop, List.getElem?_take] at hv
    split at hv
    · rw [← Array.getElem?_toList]; exact hv
    · cases hv
  · cases hv
theorem made_zone {w : World} {b : Nat} {ok : Nat → Prop} {A : Option Addr} {c : Nat} {xs : List XI} (h0 : 0 < xs.length) (h : Kd.R k45 IT w b ok (.slice A xs.length c) xs) :
    ∃ gI cur, A = some ⟨gI, 0, none⟩ ∧ b ≤ gI ∧ gI < w.heap.size ∧ w.heap[gI]? = some (.cells cur IT (0, 0)) ∧ xs.length * 19 ≤ cur.size ∧ ZP (fun g => b ≤ g ∧ g < w.heap.size ∧ g ≠ gI) (cellsAt w) cur xs.length w := by
  obtain ⟨_, inner, ho, hr⟩ := h
  rcases ho.2 with ⟨_, h2⟩ | ⟨gI, cap, cur, h1, h2, hI, h4, h5, h6, h7⟩
  · omega
  · injection h1 with e1 _ e3
    subst e1 e3
    have hsz : xs.length * 19 ≤ cur.size := by rw [h6]; exact Nat.mul_le_mul_right _ h4
    refine ⟨gI, cur, rfl, h2, (Array.getElem?_eq_some_iff.1 hI).1, hI, hsz, fun j hj => ?_⟩
    have hM := hr.2 j _ (List.getElem?_eq_getElem hj)
    obtain ⟨v5, v10, v11, v12, v16, hcs, g5, g10, g11, g12, g16⟩ := k45_openM hM
    have o5 := R_okS (by decide) hI g5
    have o10 := R_okS (by decide) hI g10
    have o16 := R_okS (by decide) hI g16
    refine ⟨okS_hdr (take_get h7 hcs rfl) o5, okS_hdr (take_get h7 hcs rfl) o10, okS_hdr (take_get h7 hcs rfl) o16, ?_⟩
    have hv12 : cur[j * 19 + 12]? = some v12 := take_get h7 hcs rfl
    have o12 := R_okS (d := Kd.slice ET k25) (by decide) hI g12
    obtain ⟨_, in12, ho12, hr12⟩ := g12
    rcases ho12.2 with ⟨rfl, h9⟩ | ⟨g, cap2, cur2, rfl, a1, a2, a3, a4, a5, a6⟩
    · exact ⟨_, _, _, by omega, hv12, .inl rfl⟩
    · refine ⟨_, _, _, by unfold maxLen at a4; omega, hv12, .inr ⟨g, rfl, ?_, by rw [cellsAt_eq a2]; exact a2, fun k hk => ?_⟩⟩
      · rcases o12 with ⟨o12, _⟩ | ⟨g', _, _, o12, o13, _⟩
        · cases o12
        · injection o12 with o12
          obtain rfl : g = g' := by simpa using o12
          exact o13
      · rw [cellsAt_eq a2]
        obtain ⟨v, hv, hR⟩ := hr12.2 k _ (List.getElem?_eq_getElem hk)
        refine okS_hdr ?_ (R_okS (by decide) hI hR)
        have hv2 : ((in12.drop (k * 1)).take 1)[0]? = some v := by
          have : ((in12.drop (k * (Kd.slice ET k25).sz)).take (Kd.slice ET k25).sz)[0]? = some v := by rw [hv]; rfl
          exact this
        rw [List.getElem?_take, if_pos (by decide), List.getElem?_drop, Nat.mul_one, Nat.add_zero, ← a6, List.getElem?_take] at hv2
        split at hv2
        · rw [← Array.getElem?_toList]; exact hv2
        · cases hv2
end Go.Proofs.YtibaidddhmdafaaDoor.E
end
section
namespace Go.Proofs.YtibaidddhmdafaaDoor.E
open Go Go.RowKit Go.Proofs.YtibaidddhmdafaaDoorW.PrintWords Go.Proofs.YtibaidddhmdafaaDoorW.PrintLast Go.Proofs.YtibaidddhmdafaaDoorW.PrintMore Go.Proofs.YtibaidddhmdafaaDoor.PA
set_option linter.unusedVariables false
set_option linter.unusedSimpArgs false
/-- Things' tokens with a sign between each two (b: a sign ahead of the first too). -/
def btw {α : Type} (s : ByteArray) (f : α → List XT) : Bool → List α → List XT
  | _, [] => []
  | b, p :: r => (if b = true then [sayT s] else []) ++ (f p ++ btw s f true r)
theorem btw_snoc {α : Type} {s : ByteArray} {f : α → List XT} : ∀ (l : List α) (b : Bool) (p : α), btw s f b (l ++ [p]) = btw s f b l ++ ((if (b || !l.isEmpty) = true then [sayT s] else []) ++ f p)
  | [], b, p => by simp [btw]
  | q :: r, b, p => by
    rw [List.cons_append, btw, btw, btw_snoc r true p]
    simp [List.append_assoc]
theorem btw_take {α : Type} {s : ByteArray} {f : α → List XT} {l : List α} {i : Nat} {p : α} (h : l[i]? = some p) : btw s f false (l.take (i + 1)) = btw s f false (l.take i) ++ ((if 0 < i then [sayT s] else []) ++ f p) := by
  rw [List.take_add_one, h]
  show btw s f false (l.take i ++ [p]) = _
  rw [btw_snoc]
  have hl := (List.getElem?_eq_some_iff.1 h).1
  have e : (false || !(l.take i).isEmpty) = decide (0 < i) := by
    cases i with
    | zero => rfl
    | succ n =>
      cases l with
      | nil => exact absurd hl (by simp)
      | cons a r => rfl
  rw [e]
  by_cases hi : 0 < i
  · rw [if_pos hi, if_pos (decide_eq_true hi)]
  · rw [if_neg hi, if_neg (by rw [decide_eq_false hi]; exact Bool.false_ne_true)]
theorem btw_app_len {α : Type} {s : ByteArray} {f : α → List XT} : ∀ (l m : List α) (b : Bool), (btw s f b l).length ≤ (btw s f b (l ++ m)).length
  | [], m, b => Nat.zero_le _
  | q :: r, m, b => by
    rw [List.cons_append, btw, btw]
    simp only [List.length_append]
    have := btw_app_len (s := s) (f := f) r m true
    omega
theorem btw_take_len {α : Type} {s : ByteArray} {f : α → List XT} (l : List α) (i : Nat) : (btw s f false (l.take i)).length ≤ (btw s f false l).length := by
  have h := btw_app_len (s := s) (f := f) (l.take i) (l.drop i) false
  rw [List.take_append_drop] at h; exact h
def exT (l : List XE) : List XT := btw ⟨#[44]⟩ (toksX 16) false l
def wordS (k : Int) : ByteArray := if k = 2 then ⟨#[114, 101, 101, 100]⟩ else if k = 3 then ⟨#[99, 114, 111, 115, 115]⟩ else if k = 4 then ⟨#[108, 111, 99, 97, 108]⟩ else if k = 5 then ⟨#[112, 121, 114, 97, 109, 105, 100]⟩ else if k = 6 then ⟨#[112, 114, 111, 100, 117, 99, 116]⟩ else if k = 7 then ⟨#[106, 111, 105, 110]⟩ else if k = 8 then ⟨#[109, 97, 116, 114, 105, 120]⟩ else ⟨#[]⟩
theorem wordS_size (k : Int) : (wordS k).size ≤ 7 := by
  unfold wordS
  repeat' split
  all_goals decide
def toksS : Nat → XS → List XT
  | 0, _ => []
  | n + 1, s => if s.f0 = 1 then [sayT s.f1] else if s.f0 = 8 then sayT (wordS 8) :: sayT ⟨#[91]⟩ :: (btw ⟨#[59]⟩ exT false s.f4 ++ [sayT ⟨#[93]⟩])
    else sayT (wordS s.f0) :: sayT ⟨#[40]⟩ :: (exT s.f2 ++ (btw ⟨#[44]⟩ (toksS n) false s.f3 ++ [sayT ⟨#[41]⟩]))
def placeT (x : XI) : List XT := sayT ⟨#[112, 108, 97, 99, 101]⟩ :: (if x.f4 = 1 then [sayT ⟨#[114, 111, 119]⟩] else if x.f4 = 2 then [sayT ⟨#[115, 112, 114, 101, 97, 100]⟩] else if x.f4 = 3 then sayT ⟨#[115, 112, 105, 114, 97, 108]⟩ :: toksX 16 x.f2
  else if x.f4 = 4 then sayT ⟨#[108, 105, 115, 116]⟩ :: sayT ⟨#[91]⟩ :: (exT x.f5 ++ [sayT ⟨#[93]⟩]) else [])
def headT (x : XI) : List XT := if x.f0 = 1 then sayT ⟨#[99, 111, 110, 115, 116]⟩ :: sayT x.f1 :: sayT ⟨#[61]⟩ :: toksX 16 x.f2 else if x.f0 = 2 then sayT ⟨#[99, 111, 100, 101]⟩ :: sayT x.f1 :: sayT ⟨#[61]⟩ :: toksS 16 x.f3
  else if x.f0 = 3 then [sayT ⟨#[117, 115, 101]⟩, sayT x.f1] else if x.f0 = 4 then sayT ⟨#[100, 111, 109, 97, 105, 110, 115]⟩ :: toksX 16 x.f2 else if x.f0 = 6 then sayT ⟨#[116, 111, 108, 101, 114, 97, 116, 101]⟩ :: toksX 16 x.f2 else placeT x
def toksI (x : XI) : List XT := headT x ++ [sayT ⟨#[59]⟩]
def goodS : Nat → XS → Prop
  | 0, _ => False
  | n + 1, s => 1 ≤ s.f0 ∧ s.f0 ≤ 8 ∧ (s.f0 = 1 → nameOk s.f1 = true) ∧ (∀ p ∈ s.f2, shapeX 16 p) ∧ (∀ p ∈ s.f3, goodS n p) ∧ (∀ r ∈ s.f4, ∀ p ∈ r, shapeX 16 p) ∧ s.f2.length ≤ 64 ∧ s.f3.length ≤ 64 ∧ s.f4.length ≤ 64 ∧ ∀ r ∈ s.f4, r.length ≤ 64
def goodI (x : XI) : Prop := 1 ≤ x.f0 ∧ x.f0 ≤ 6 ∧ ((x.f0 = 1 ∨ x.f0 = 2 ∨ x.f0 = 3) → nameOk x.f1 = true) ∧ (hasV x → shapeX 16 x.f2) ∧ (x.f0 = 2 → goodS 16 x.f3) ∧ (x.f0 = 5 → 1 ≤ x.f4 ∧ x.f4 ≤ 4) ∧ x.f5.length ≤ 64 ∧ ∀ p ∈ x.f5, shapeX 16 p
theorem stE_good {x : XE} {l : Int} (h : (stE x l).1 = true) : shapeX 16 x := shape_of 16 x l (by have := of_decide_eq_true h; omega)
theorem shape_good : ∀ (n : Nat) (s : XS) (l : Int), (xshape n s l).1 = true → goodS n s
  | 0, _, _, h => by cases h
  | n + 1, s, l, h => by
    have hin := shape_in (n + 1) s l h
    rw [xshape] at h
    split at h
    · cases h
    · split at h
      · rename_i hH
        split at h
        · rename_i h1
          split at h
          · rename_i h2
            obtain ⟨nm, a, p, r, e1, e2, e3, e4, e5, e6⟩ := hH
            have hk := parts_cases e1
            refine ⟨by omega, by omega, fun h1 => ?_, fun p hp => by obtain ⟨l', h3⟩ := xlist_all _ _ h2 p hp; exact stE_good h3, fun p hp => by obtain ⟨l', h3⟩ := xlist_all _ _ h p hp; exact shape_good n p l' h3, fun r' hr' => ?_, hin.1, hin.2.2.1, hin.2.2.2.2.1, fun r' hr' => (hin.2.2.2.2.2 r' hr').1⟩
            · rw [e2]; rcases hk with hk | hk | hk | hk | hk <;> first | exact hk.1 | omega
            · by_cases h8 : s.f0 = 8
              · unfold rowsS at h1
                rw [if_pos h8] at h1
                unfold rowsF at h1
                split at h1
                · obtain ⟨lf, h4⟩ := xlist_all _ _ h1 r' hr'
                  unfold stR at h4
                  split at h4
                  · exact fun p hp => by obtain ⟨lf', h5⟩ := xlist_all _ _ h4 p hp; exact stE_good h5
                  · cases h4
                · cases h1
              · have h9 : s.f4.length = 0 := e6 (by rcases hk with hk | hk | hk | hk | hk <;> first | exact hk.2.2.2.1 | exact absurd hk.2.2.2.2 h8)
                rw [List.eq_nil_of_length_eq_zero h9] at hr'
                exact absurd hr' (by simp)
          · rename_i h2; exact absurd h h2
        · rename_i h1; exact absurd h h1
      · cases h
theorem item_good {x : XI} {l : Int} (h : (itemF x l).1 = true) : goodI x := by
  have hin := item_in h
  unfold itemF at h
  split at h
  · cases h
  · split at h
    · rename_i hH
      split at h
      · rename_i h1
        split at h
        · rename_i h2
          obtain ⟨nm, v, sh, li, e1, e2, e3, e4, e5, e6, e7, e8⟩ := hH
          have hc := items_cases e1
          refine ⟨by omega, by omega, fun h3 => ?_, fun hv => ?_, fun hs => ?_, fun h5 => ?_, hin.2.2.1, fun p hp => by obtain ⟨l', h3⟩ := xlist_all _ _ h p hp; exact stE_good h3⟩
          · refine e2 ?_
            rcases hc with hk | hk | hk | hk | hk | hk <;> first | exact hk.1 | omega
          · unfold valI at h1; rw [if_pos hv] at h1; exact stE_good h1
          · unfold shI at h2; rw [if_pos hs] at h2; exact shape_good _ _ _ h2
          · omega
        · rename_i h2; exact absurd h h2
      · rename_i h1; exact absurd h h1
    · cases h
theorem may_good {l : List XI} (h : mayI l = true) : ∀ x ∈ l, goodI x := fun x hx => by
  unfold mayI at h
  rw [Bool.and_eq_true] at h
  obtain ⟨l', h1⟩ := xlist_all _ _ h.2 x hx
  exact item_good h1
end Go.Proofs.YtibaidddhmdafaaDoor.E
end
section
namespace Go.Proofs.YtibaidddhmdafaaDoor.E
open Go Go.RowKit Go.Proofs.YtibaidddhmdafaaDoorW.PrintWords Go.Proofs.YtibaidddhmdafaaDoorW.PrintLast Go.Proofs.YtibaidddhmdafaaDoorW.PrintMore Go.Proofs.YtibaidddhmdafaaDoor.PA
set_option linter.unusedVariables false
set_option linter.unusedSimpArgs false
theorem up {α : Type} {f : Nat → Option α} (hm : ∀ k, LeO (f k) (f (k + 1))) {k m : Nat} (h : k ≤ m) {r : α} (e : f k = some r) : f m = some r := by
  induction m with
  | zero => obtain rfl : k = 0 := by omega
            exact e
  | succ m ih =>
    by_cases c : k = m + 1
    · subst c; exact e
    · exact hm m r (ih (by omega))
theorem w64 {n : Int} (h : -9223372036854775808 ≤ n) (h1 : n < 9223372036854775808) : wrap64 n = n := by unfold wrap64; omega
theorem word_at_drop (i : Nat) (h : i < 17) : wordList.drop i = rdOf ByteArray.empty wordList (i : Int) :: wordList.drop (i + 1) := by
  have h1 : i < wordList.length := by rw [wordList_length]; exact h
  rw [List.drop_eq_getElem_cons h1]
  unfold rdOf
  rw [Int.toNat_natCast, List.getD_eq_getElem?_getD, List.getElem?_eq_getElem h1]; rfl
theorem refWord_l (a : ByteArray) : ∀ (m i k : Nat), i + m = 17 → recoupref09_Word.l0 (k + m + 1) a wordList (i : Int) = some (wordIn (wordList.drop i) a)
  | 0, i, k, h => by
    simp only [recoupref09_Word.l0]
    rw [wordList_length, if_neg (by omega), List.drop_eq_nil_of_le (by rw [wordList_length]; omega)]
    rfl
  | m + 1, i, k, h => by
    have ih := refWord_l a m (i + 1) k (by omega)
    show recoupref09_Word.l0 ((k + m + 1) + 1) a wordList (i : Int) = _
    generalize k + m + 1 = K at ih ⊢
    simp only [recoupref09_Word.l0]
    rw [wordList_length, if_pos (by omega), if_pos (by omega), word_at_drop i (by omega)]
    unfold wordIn
    rw [List.any_cons]
    by_cases e : (rdOf ByteArray.empty wordList (i : Int)).toList = a.toList
    · rw [if_pos e, decide_eq_true e.symm]; rfl
    · rw [if_neg e, decide_eq_false (fun h => e h.symm), Bool.false_or, w64 (by omega) (by omega)]
      exact ih
theorem refWord (a : ByteArray) : recoupref09_Word.f 18 a = some (wordIn wordList a) := by
  have h := refWord_l a 17 0 0 (by omega)
  exact h
theorem refLetter (c : Int) : recoupref09_letter.f c = some (isLetter c) := by
  unfold recoupref09_letter.f isLetter
  by_cases h : c ≥ 97
  · rw [if_pos h]; exact congrArg some (decide_eq_decide.2 (by omega))
  · rw [if_neg h]; exact congrArg some (decide_eq_false (by omega)).symm
theorem refDigit (c : Int) : recoupref09_digit.f c = some (isDigit c) := by
  unfold recoupref09_digit.f isDigit
  by_cases h : c ≥ 48
  · rw [if_pos h]; exact congrArg some (decide_eq_decide.2 (by omega))
  · rw [if_neg h]; exact congrArg some (decide_eq_false (by omega)).symm
def allLD (s : ByteArray) : Nat → Nat → Bool
  | 0, _ => true
  | m + 1, i => (isLetter (bt s i) || isDigit (bt s i)) && allLD s m (i + 1)
theorem allLD_name (s : ByteArray) : ∀ (m i : Nat), 1 ≤ i → nameFrom s m i = allLD s m i
  | 0, _, _ => rfl
  | m + 1, i, h => by
    have e : decide (i ≠ 0) = true := decide_eq_true (by omega)
    show ((isLetter (bt s i) || (isDigit (bt s i) && decide (i ≠ 0))) && nameFrom s m (i + 1)) = _
    rw [e, Bool.and_true, allLD_name s m (i + 1) (by omega)]; rfl
theorem refName_l (s : ByteArray) (hs : s.size ≤ 9223372036854775807) : ∀ (m i k : Nat), i + m = s.size → recoupref09_Name.l0 (k + m + 1) s (i : Int) = some (allLD s m i)
  | 0, i, k, h => by
    simp only [recoupref09_Name.l0]
    rw [if_neg (by omega)]; rfl
  | m + 1, i, k, h => by
    have ih := refName_l s hs m (i + 1) k (by omega)
    show recoupref09_Name.l0 ((k + m + 1) + 1) s (i : Int) = some ((isLetter (bt s i) || isDigit (bt s i)) && allLD s m (i + 1))
    generalize k + m + 1 = K at ih ⊢
    simp only [recoupref09_Name.l0]
    have ew : wrap64 ((i : Int) + 1) = ((i + 1 : Nat) : Int) := by rw [w64 (by omega) (by omega)]; omega
    rw [if_pos (by omega), if_pos (by omega), refLetter, refDigit, ew, ih]
    cases isLetter (bt s i) <;> cases isDigit (bt s i) <;> simp
theorem refName (s : ByteArray) (hs : s.size ≤ 9223372036854775807) : recoupref09_Name.f (s.size + 20) s = some (nameOk s) := by
  unfold recoupref09_Name.f nameOk nameText
  by_cases c1 : (s.size : Int) < 1
  · rw [if_pos c1]
    have c1' : ¬ 1 ≤ s.size := by omega
    rw [decide_eq_false c1', Bool.false_and, Bool.and_false, Bool.false_and]
    simp only [recoupref09_Name.j0, if_true]
  · rw [if_neg c1]
    by_cases c2 : (s.size : Int) > 16
    · rw [if_pos c2]
      have c2' : ¬ s.size ≤ 16 := by omega
      rw [decide_eq_false c2', Bool.and_false, Bool.and_false, Bool.false_and]
      simp only [recoupref09_Name.j0, if_true]
    · rw [if_neg c2, if_pos (by omega), refLetter]
      have c1' : 1 ≤ s.size := by omega
      have c2' : s.size ≤ 16 := by omega
      obtain ⟨m, hm⟩ : ∃ m, s.size = m + 1 := ⟨s.size - 1, by omega⟩
      have hw := up (f := fun k => recoupref09_Word.f k s) (recoupref09_Word.mono s) (show 18 ≤ s.size + 20 by omega) (refWord s)
      have hl := refName_l s hs s.size 0 18 (by omega)
      rw [decide_eq_true c1', decide_eq_true c2', Bool.and_true, Bool.and_true]
      simp only [Option.bind_some]
      have hn : nameFrom s s.size 0 = (isLetter (bt s 0) && allLD s m 1) := by
        rw [hm]
        show ((isLetter (bt s (0 : Nat)) || (isDigit (bt s (0 : Nat)) && decide (0 ≠ 0))) && nameFrom s m 1) = _
        rw [allLD_name s m 1 (by omega)]
        simp
      rw [hn]
      cases h0 : isLetter (bt s 0)
      · simp only [recoupref09_Name.j0, Bool.false_eq_true, if_false, if_true, Bool.false_and]
      · have ha : allLD s s.size 0 = allLD s m 1 := by
          rw [hm]
          show ((isLetter (bt s (0 : Nat)) || isDigit (bt s (0 : Nat))) && allLD s m 1) = _
          have h0' : isLetter (bt s ((0 : Nat) : Int)) = true := h0
          rw [h0']; simp
        have hw' : recoupref09_Word.f (s.size + 20) s = some (wordIn wordList s) := hw
        rw [if_pos rfl, hw', Option.bind_some, Bool.true_and]
        have hl' : recoupref09_Name.l0 (s.size + 19) s 0 = some (allLD s s.size 0) := by
          have : 18 + s.size + 1 = s.size + 19 := by omega
          rw [this] at hl; exact hl
        cases wordIn wordList s
        · show recoupref09_Name.j0 ((s.size + 19) + 1) s false = _
          simp only [recoupref09_Name.j0, Bool.false_eq_true, if_false]
          rw [hl', ha]; simp
        · simp [recoupref09_Name.j0]
/-- What the reference's expr answers: the nodes that are left, or -1. -/
def refE (n : Nat) (x : XE) (left : Int) : Int := if (xexpr n x left).1 = 0 then -1 else (xexpr n x left).2
theorem refE_bounds (n : Nat) (x : XE) (left : Int) (h : 0 ≤ left) : -1 ≤ refE n x left ∧ refE n x left ≤ left := by
  obtain ⟨a, b, c⟩ := xexpr_left n x left h
  unfold refE
  split
  · omega
  · exact ⟨by have := c (by assumption); omega, b⟩
end Go.Proofs.YtibaidddhmdafaaDoor.E
end
