/- What YtibaidddhmdafaaDoorRTreeMays's proof reaches of its texts, part 18. Conditions: as each says. -/
import Derived.ArgAppend
import Derived.Below
import Derived.BigCall
import Derived.BigQuiet
import Derived.Deep.AppendLies
import Derived.Deep.CutBlock
import Derived.Deep.DeepCutAuto
import Derived.Deep.Draws
import Derived.Deep.LoopGhost
import Derived.Deep.OwnRows
import Derived.Deep.QuietTactic
import Derived.Deep.RegionHeld3
import Derived.Deep.WholeRow
import Derived.KernelRfl
import Derived.Laws.AppendOwn
import Derived.Laws.BitsLemmas
import Derived.Laws.BytesArg
import Derived.Laws.CopyRow
import Derived.Laws.Externs
import Derived.Laws.IdiomCopy
import Derived.Laws.MakeOwn
import Derived.Laws.OwnMore
import Derived.Laws.Rows
import Derived.Laws.Slices
import Derived.Laws.StructEq
import Derived.Laws.Tables
import Derived.Lib.AppendStr
import Derived.Lib.Builder
import Derived.Lib.Bytealg
import Derived.Lib.ConvBytes
import Derived.Lib.ItoaLen
import Derived.Lib.ItoaMem
import Derived.Lib.LaidTab
import Derived.Lib.Strings
import Derived.Lib.Walk
import Derived.Maps.AppendAt
import Derived.OrdersHeld
import Derived.OwnWalk
import Derived.RowKit
import Derived.RowKit3
import Derived.ScopeJumps
import Derived.Shelf.LaysM
import Derived.Shelf.Strconv.Itoa3
import Derived.Shelf.Strings.Builder1
import Derived.Sort.Grow
import Derived.Tactics
import Derived.Test.YtibaidddhmdafaaDoorProg
import Derived.WalkKit
import Derived.WideLaws
import Derived.Test.YtibaidddhmdafaaDoorZTreeMays17
section
namespace Go.Proofs.YtibaidddhmdafaaDoor.E
open Go Go.RowKit Go.Proofs.YtibaidddhmdafaaDoorW.PrintWords Go.Proofs.YtibaidddhmdafaaDoorW.PrintLast Go.Proofs.YtibaidddhmdafaaDoorW.PrintMore Go.Proofs.YtibaidddhmdafaaDoor.PA
set_option linter.unusedVariables false
set_option linter.unusedSimpArgs false
theorem refE_bad {q : Nat} {x : XE} {left : Int} (hN : ¬ exprParts x = some x.f3.length) (h : 0 ≤ left - 1) : refE (q + 1) x left = -1 := by
  unfold refE
  rw [if_pos]
  rw [xexpr, if_neg (by omega)]
  cases hE : exprParts x with
  | none => rfl
  | some p' =>
    show (if _ then _ else _ : Nat × Int).1 = 0
    rw [if_neg (fun h => hN (by rw [hE, h]))]
theorem refE_next {q : Nat} {y : XE} {r : List XE} {lf : Int} {X : Nat × Int} (h : ∃ d, xexprs (xexpr q) (y :: r) d lf = X) : 0 ≤ refE q y lf → ∃ d, xexprs (xexpr q) r d (refE q y lf) = X := by
  intro h0
  obtain ⟨d, hd⟩ := h
  rw [xexprs] at hd
  unfold refE at h0 ⊢
  split at h0
  · omega
  · rename_i h1
    rw [if_neg h1] at hd
    rw [if_neg h1]
    exact ⟨_, hd⟩
theorem refE_stop {q : Nat} {y : XE} {r : List XE} {lf : Int} {X : Nat × Int} (h : ∃ d, xexprs (xexpr q) (y :: r) d lf = X) (hl : 0 ≤ lf) : refE q y lf < 0 → X.1 = 0 ∧ refE q y lf = -1 := by
  intro h0
  obtain ⟨d, hd⟩ := h
  rw [xexprs] at hd
  unfold refE at h0 ⊢
  split at h0
  · rename_i h1
    rw [if_pos h1] at hd
    rw [if_pos h1, ← hd]
    exact ⟨rfl, rfl⟩
  · rename_i h1
    have := (xexpr_left q y lf hl).2.2 h1
    omega
def RefOk (n : Nat) : Prop := ∀ (x : XE) (A : Option Addr) (C : Nat) (left : Int) (v0 : World), Kd.C k25 v0 A x.f3.length x.f3 → smallX n x → 0 ≤ left ∧ left ≤ 8192 →
    Calls Tryd.prog 42 #[.agg #[.int .u8 x.f0, .int .i64 x.f1, .string x.f2, .slice A x.f3.length C, .int .i64 x.f4, .int .i64 x.f5], .int .i64 left, .int .i64 ((n : Nat) : Int)] v0 fun e w' => e = .returned (.int .i64 (refE n x left)) ∧ Below v0.heap.size v0 w'
set_option maxRecDepth 100000 in
theorem ref_expr_step (n : Nat) (hn : n ≤ 1000) (ih : ∀ q, q + 1 = n → RefOk q) (x : XE) (A : Option Addr) (C : Nat) (left : Int) (v0 : World) (hA : Kd.C k25 v0 A x.f3.length x.f3) (hsm : smallX n x) (hl : 0 ≤ left ∧ left ≤ 8192) :
    Calls Tryd.prog 42 #[.agg #[.int .u8 x.f0, .int .i64 x.f1, .string x.f2, .slice A x.f3.length C, .int .i64 x.f4, .int .i64 x.f5], .int .i64 left, .int .i64 ((n : Nat) : Int)] v0 fun e w' => e = .returned (.int .i64 (refE n x left)) ∧ Below v0.heap.size v0 w' := by
  refine calls_enter (N := 93) (n := 90) (args := [.agg #[.int .u8 x.f0, .int .i64 x.f1, .string x.f2, .slice A x.f3.length C, .int .i64 x.f4, .int .i64 x.f5], .int .i64 left, .int .i64 ((n : Nat) : Int)]) Tryd.func42 rfl rfl rfl (H.init v0) (fun a hs => ?_)
  have hcl := C_len hA
  refine wp_seq ?_
  refine wp_region_lit ?_
  refine a_eff rfl (e_box (cs := #[_, _, _, _, _, _]) hs rfl rfl rfl ?_); clear hs a; intro gx a w hs
  refine a_val hs rfl rfl rfl (y_assign hs rfl) ?_; clear hs a; intro a hs
  refine wpList_nil (then_normal ?_)
  refine wp_seq ?_
  refine wp_region_lit ?_
  refine a_val hs rfl rfl rfl (y_move hs rfl) ?_; clear hs a; intro a hs
  refine a_val hs rfl rfl rfl (y_sub hs rfl rfl (by omega)) ?_; clear hs a; intro a hs
  refine a_val hs rfl rfl rfl (y_assign hs rfl) ?_; clear hs a; intro a hs
  refine wpList_nil (then_normal ?_)
  refine wp_seq ?_
  refine wp_seq ?_
  refine wp_region_lit ?_
  refine a_val hs rfl rfl rfl (y_move hs rfl) ?_; clear hs a; intro a hs
  refine a_val hs rfl rfl rfl (y_cmp hs rfl rfl rfl) ?_; clear hs a; intro a hs
  refine a_val hs rfl rfl rfl (y_move hs rfl) ?_; clear hs a; intro a hs
  rcases hs.know (d := 13) rfl with ⟨h13, hs1⟩ | ⟨h13, hs1⟩ <;> replace hs := hs1 <;> clear hs1
  · replace h13 := of_decide_eq_true h13
    refine a_skip hs rfl rfl rfl ?_; clear hs a; intro a hs
    refine a_skip hs rfl rfl rfl ?_; clear hs a; intro a hs
    refine a_val hs rfl rfl rfl (y_pickT hs rfl rfl rfl) ?_; clear hs a; intro a hs
    refine wpList_nil (then_normal ?_)
    refine wp_cond_true (hs.ev rfl) ?_
    refine wp_seq ?_
    refine wp_region_lit ?_
    refine a_val hs rfl rfl rfl (y_assign hs rfl) ?_; clear hs a; intro a hs
    refine wpList_nil (then_normal ?_)
    refine wp_ret (then_ret ?_)
    have hX : refE n x left = -1 := by
      unfold refE
      rw [if_pos]
      cases n with
      | zero => rfl
      | succ q => rw [xexpr, if_pos (by omega)]
    refine fin_ret hs (.tmp (hs.slots _ _ rfl) .nil) ⟨?_, hs.mem.base⟩
    rw [hX]; rfl
  · replace h13 := of_decide_eq_false h13
    refine a_valG hs rfl rfl rfl (y_move hs rfl) ?_; clear hs a; intro a hs
    refine a_valG hs rfl rfl rfl (y_cmp hs rfl rfl rfl) ?_; clear hs a; intro a hs
    refine a_val hs rfl rfl rfl (y_pickF hs rfl rfl rfl) ?_; clear hs a; intro a hs
    refine wpList_nil (then_normal ?_)
    refine wp_cond_split (hs.ev rfl) (fun h16 => ?_) (fun h16 => ?_)
    · replace h16 := eq_of_beq h16
      refine wp_seq ?_
      refine wp_region_lit ?_
      refine a_val hs rfl rfl rfl (y_assign hs rfl) ?_; clear hs a; intro a hs
      refine wpList_nil (then_normal ?_)
      refine wp_ret (then_ret ?_)
      have hX : refE n x left = -1 := by
        unfold refE
        rw [if_pos]
        cases n with
        | zero => rfl
        | succ q => rw [xexpr, if_pos (by omega)]
      refine fin_ret hs (.tmp (hs.slots _ _ rfl) .nil) ⟨?_, hs.mem.base⟩
      rw [hX]; rfl
    · replace h16 := ne_of_beq_false h16
      obtain ⟨q, rfl⟩ : ∃ q, n = q + 1 := ⟨n - 1, by omega⟩
      refine wp_skip (then_normal ?_)
      refine wp_seq ?_
      refine wp_region_lit ?_
      refine a_val hs rfl rfl rfl (y_assign hs rfl) ?_; clear hs a; intro a hs
      refine wpList_nil (then_normal ?_)
      refine wp_seq_cut (fun a w1 => ∃ (p : Nat), (p = 0 ∧ exprParts x = some 0 ∨ p = 1 ∧ x.f0 = 3 ∨ p = 2 ∧ 4 ≤ x.f0 ∧ x.f0 ≤ 8) ∧ St 93 v0 [(1, .int .i64 (left - 1)), (2, .int .i64 ((q + 1 : Nat) : Int)), (3, .pointer (some ⟨gx, 0, none⟩)), (7, .int .i64 ((p : Nat) : Int))] [pt gx #[.int .u8 x.f0, .int .i64 x.f1, .string x.f2, .slice A x.f3.length C, .int .i64 x.f4, .int .i64 x.f5] 25] a w1) ?_ (fun a w1 hJ => ?_)
      · refine wp_seq ?_
        refine wp_region_lit ?_
        refine a_val hs rfl rfl rfl (y_faddr (k' := 0) 0 hs (by kernel_rfl) rfl rfl) ?_; clear hs a; intro a hs
        refine a_val hs rfl rfl rfl (y_load hs Tryd.underlying22 rfl rfl (fun w hw => (hw.to 0 rfl).cellV rfl)) ?_; clear hs a; intro a hs
        refine wpList_nil (then_normal ?_)
        refine wp_block ?_
        refine wp_seq ?_
        refine wp_region_lit ?_
        refine a_val hs rfl rfl rfl (y_cmp hs rfl rfl rfl) ?_; clear hs a; intro a hs
        refine a_val hs rfl rfl rfl (y_assign hs rfl) ?_; clear hs a; intro a hs
        refine wpList_nil (then_normal ?_)
        refine wp_cond_split (hs.ev rfl) (fun h19 => ?_) (fun h19 => ?_)
        · replace h19 := eq_of_beq h19
          refine wp_seq ?_
          refine wp_region_lit ?_
          refine a_val hs rfl rfl rfl (y_faddr (k' := 1) 1 hs (by kernel_rfl) rfl rfl) ?_; clear hs a; intro a hs
          refine a_val hs rfl rfl rfl (y_load hs Tryd.underlying3 rfl rfl (fun w hw => (hw.to 0 rfl).cellV rfl)) ?_; clear hs a; intro a hs
          refine a_val hs rfl rfl rfl (y_cmp hs rfl rfl rfl) ?_; clear hs a; intro a hs
          refine a_val hs rfl rfl rfl (y_move hs rfl) ?_; clear hs a; intro a hs
          rcases hs.know (d := 24) rfl with ⟨h24, hs1⟩ | ⟨h24, hs1⟩ <;> replace hs := hs1 <;> clear hs1
          · replace h24 := of_decide_eq_true h24
            refine a_skip hs rfl rfl rfl ?_; clear hs a; intro a hs
            refine a_skip hs rfl rfl rfl ?_; clear hs a; intro a hs
            refine a_skip hs rfl rfl rfl ?_; clear hs a; intro a hs
            refine a_val hs rfl rfl rfl (y_pickT hs rfl rfl rfl) ?_; clear hs a; intro a hs
            refine a_val hs rfl rfl rfl (y_move hs rfl) ?_; clear hs a; intro a hs
            refine a_skip hs rfl rfl rfl ?_; clear hs a; intro a hs
            refine a_skip hs rfl rfl rfl ?_; clear hs a; intro a hs
            refine a_skip hs rfl rfl rfl ?_; clear hs a; intro a hs
            refine a_val hs rfl rfl rfl (y_pickT hs rfl rfl rfl) ?_; clear hs a; intro a hs
            refine wpList_nil (then_normal ?_)
            refine wp_cond_true (hs.ev rfl) ?_
            refine wp_seq ?_
            refine wp_region_lit ?_
            refine a_val hs rfl rfl rfl (y_assign hs rfl) ?_; clear hs a; intro a hs
            refine wpList_nil (then_normal ?_)
            refine wp_ret (in_ret (then_ret ?_))
            have hE : exprParts x = none := by
              clear hs
              unfold exprParts
              repeat' split
              all_goals first | rfl | (exfalso; omega) | (rename_i hc; exfalso; omega) | (rename_i hc; exact absurd hc.2 (by assumption)) | (rename_i hc; rw [hc.2] at h44; cases h44)
            have hX : refE (q + 1) x left = -1 := refE_bad (by rw [hE]; exact fun h => by cases h) (by omega)
            refine fin_ret hs (.tmp (hs.slots _ _ rfl) .nil) ⟨?_, hs.mem.base⟩
            rw [hX]; rfl
          · replace h24 := of_decide_eq_false h24
            refine a_valG hs rfl rfl rfl (y_faddr (k' := 1) 1 hs (by kernel_rfl) rfl rfl) ?_; clear hs a; intro a hs
            refine a_valG hs rfl rfl rfl (y_load hs Tryd.underlying3 rfl rfl (fun w hw => (hw.to 0 rfl).cellV rfl)) ?_; clear hs a; intro a hs
            refine a_valG hs rfl rfl rfl (y_cmp hs rfl rfl rfl) ?_; clear hs a; intro a hs
            refine a_val hs rfl rfl rfl (y_pickF hs rfl rfl rfl) ?_; clear hs a; intro a hs
            refine a_val hs rfl rfl rfl (y_move hs rfl) ?_; clear hs a; intro a hs
            rcases hs.know (d := 29) rfl with ⟨h29, hs1⟩ | ⟨h29, hs1⟩ <;> replace hs := hs1 <;> clear hs1
            · replace h29 := of_decide_eq_true h29
              refine a_skip hs rfl rfl rfl ?_; clear hs a; intro a hs
              refine a_skip hs rfl rfl rfl ?_; clear hs a; intro a hs
              refine a_skip hs rfl rfl rfl ?_; clear hs a; intro a hs
              refine a_val hs rfl rfl rfl (y_pickT hs rfl rfl rfl) ?_; clear hs a; intro a hs
              refine wpList_nil (then_normal ?_)
              refine wp_cond_true (hs.ev rfl) ?_
              refine wp_seq ?_
              refine wp_region_lit ?_
              refine a_val hs rfl rfl rfl (y_assign hs rfl) ?_; clear hs a; intro a hs
              refine wpList_nil (then_normal ?_)
              refine wp_ret (in_ret (then_ret ?_))
              have hE : exprParts x = none := by
                clear hs
                unfold exprParts
                repeat' split
                all_goals first | rfl | (exfalso; omega) | (rename_i hc; exfalso; omega) | (rename_i hc; exact absurd hc.2 (by assumption)) | (rename_i hc; rw [hc.2] at h44; cases h44)
              have hX : refE (q + 1) x left = -1 := refE_bad (by rw [hE]; exact fun h => by cases h) (by omega)
              refine fin_ret hs (.tmp (hs.slots _ _ rfl) .nil) ⟨?_, hs.mem.base⟩
              rw [hX]; rfl
            · replace h29 := of_decide_eq_false h29
              refine a_valG hs rfl rfl rfl (y_faddr (k' := 2) 2 hs (by kernel_rfl) rfl rfl) ?_; clear hs a; intro a hs
              refine a_valG hs rfl rfl rfl (y_load hs Tryd.underlying9 rfl rfl (fun w hw => (hw.to 0 rfl).cellV rfl)) ?_; clear hs a; intro a hs
              refine a_valG hs rfl rfl rfl (y_sneE hs rfl rfl) ?_; clear hs a; intro a hs
              refine a_val hs rfl rfl rfl (y_pickF hs rfl rfl rfl) ?_; clear hs a; intro a hs
              refine wpList_nil (then_normal ?_)
              refine wp_cond_split (hs.ev rfl) (fun h33 => ?_) (fun h33 => ?_)
              · replace h33 := of_decide_eq_true h33
                refine wp_seq ?_
                refine wp_region_lit ?_
                refine a_val hs rfl rfl rfl (y_assign hs rfl) ?_; clear hs a; intro a hs
                refine wpList_nil (then_normal ?_)
                refine wp_ret (in_ret (then_ret ?_))
                have hE : exprParts x = none := by
                  clear hs
                  unfold exprParts
                  repeat' split
                  all_goals first | rfl | (exfalso; omega) | (rename_i hc; exfalso; omega) | (rename_i hc; exact absurd hc.2 (by assumption)) | (rename_i hc; rw [hc.2] at h44; cases h44)
                have hX : refE (q + 1) x left = -1 := refE_bad (by rw [hE]; exact fun h => by cases h) (by omega)
                refine fin_ret hs (.tmp (hs.slots _ _ rfl) .nil) ⟨?_, hs.mem.base⟩
                rw [hX]; rfl
              · replace h33 := of_decide_eq_false h33
                refine wp_skip (in_normal (then_normal ?_))
                refine ⟨0, .inl ⟨rfl, (by clear hs; unfold exprParts; (repeat' split) <;> first | rfl | (exfalso; omega) | (rename_i hc; exfalso; omega) | (rename_i hc; exact absurd ⟨by omega, by assumption⟩ hc))⟩, ?_⟩
                exact (hs.mem_to hs.mem).cut _ ⟨rfl, rfl, rfl, rfl, trivial⟩
        · replace h19 := ne_of_beq_false h19
          refine wp_seq ?_
          refine wp_region_lit ?_
          refine a_val hs rfl rfl rfl (y_cmp hs rfl rfl rfl) ?_; clear hs a; intro a hs
          refine a_val hs rfl rfl rfl (y_assign hs rfl) ?_; clear hs a; intro a hs
          refine wpList_nil (then_normal ?_)
          refine wp_cond_split (hs.ev rfl) (fun h34 => ?_) (fun h34 => ?_)
          · replace h34 := eq_of_beq h34
            refine wp_seq ?_
            refine wp_region_lit ?_
            refine a_val hs rfl rfl rfl (y_faddr (k' := 1) 1 hs (by kernel_rfl) rfl rfl) ?_; clear hs a; intro a hs
            refine a_val hs rfl rfl rfl (y_load hs Tryd.underlying3 rfl rfl (fun w hw => (hw.to 0 rfl).cellV rfl)) ?_; clear hs a; intro a hs
            refine a_val hs rfl rfl rfl (y_cmp hs rfl rfl rfl) ?_; clear hs a; intro a hs
            refine a_val hs rfl rfl rfl (y_move hs rfl) ?_; clear hs a; intro a hs
            rcases hs.know (d := 39) rfl with ⟨h39, hs1⟩ | ⟨h39, hs1⟩ <;> replace hs := hs1 <;> clear hs1
            · replace h39 := bne_iff_ne.1 h39
              refine a_skip hs rfl rfl rfl ?_; clear hs a; intro a hs
              refine a_skip hs rfl rfl rfl ?_; clear hs a; intro a hs
              refine a_skip hs rfl rfl rfl ?_; clear hs a; intro a hs
              refine a_skip hs rfl rfl rfl ?_; clear hs a; intro a hs
              refine a_val hs rfl rfl rfl (y_pickT hs rfl rfl rfl) ?_; clear hs a; intro a hs
              refine wpList_nil (then_normal ?_)
              refine wp_cond_true (hs.ev rfl) ?_
              refine wp_seq ?_
              refine wp_region_lit ?_
              refine a_val hs rfl rfl rfl (y_assign hs rfl) ?_; clear hs a; intro a hs
              refine wpList_nil (then_normal ?_)
              refine wp_ret (in_ret (then_ret ?_))
              have hE : exprParts x = none := by
                clear hs
                unfold exprParts
                repeat' split
                all_goals first | rfl | (exfalso; omega) | (rename_i hc; exfalso; omega) | (rename_i hc; exact absurd hc.2 (by assumption)) | (rename_i hc; rw [hc.2] at h44; cases h44)
              have hX : refE (q + 1) x left = -1 := refE_bad (by rw [hE]; exact fun h => by cases h) (by omega)
              refine fin_ret hs (.tmp (hs.slots _ _ rfl) .nil) ⟨?_, hs.mem.base⟩
              rw [hX]; rfl
            · replace h39 := bne_eq_false_iff_eq.1 h39
              refine a_valG hs rfl rfl rfl (y_faddr (k' := 2) 2 hs (by kernel_rfl) rfl rfl) ?_; clear hs a; intro a hs
              refine a_valG hs rfl rfl rfl (y_load hs Tryd.underlying9 rfl rfl (fun w hw => (hw.to 0 rfl).cellV rfl)) ?_; clear hs a; intro a hs
              refine a_effG hs rfl (e_callB Tryd.func70 rfl rfl hs rfl rfl (recoupref09_Name.calls _ x.f2 (nameOk x.f2) _ (refName x.f2 hsm.1)) ?_); clear hs a; intro a w hs
              refine a_valG hs rfl rfl rfl (y_not hs rfl) ?_; clear hs a; intro a hs
              refine a_val hs rfl rfl rfl (y_pickF hs rfl rfl rfl) ?_; clear hs a; intro a hs
              refine wpList_nil (then_normal ?_)
              refine wp_cond_split (hs.ev rfl) (fun h44 => ?_) (fun h44 => ?_)
              · replace h44 := (not_t h44)
                refine wp_seq ?_
                refine wp_region_lit ?_
                refine a_val hs rfl rfl rfl (y_assign hs rfl) ?_; clear hs a; intro a hs
                refine wpList_nil (then_normal ?_)
                refine wp_ret (in_ret (then_ret ?_))
                have hE : exprParts x = none := by
                  clear hs
                  unfold exprParts
                  repeat' split
                  all_goals first | rfl | (exfalso; omega) | (rename_i hc; exfalso; omega) | (rename_i hc; exact absurd hc.2 (by assumption)) | (rename_i hc; rw [hc.2] at h44; cases h44)
                have hX : refE (q + 1) x left = -1 := refE_bad (by rw [hE]; exact fun h => by cases h) (by omega)
                refine fin_ret hs (.tmp (hs.slots _ _ rfl) .nil) ⟨?_, hs.mem.base⟩
                rw [hX]; rfl
              · replace h44 := (not_f h44)
                refine wp_skip (in_normal (then_normal ?_))
                refine ⟨0, .inl ⟨rfl, (by clear hs; unfold exprParts; (repeat' split) <;> first | rfl | (exfalso; omega) | (rename_i hc; exfalso; omega) | (rename_i hc; exact absurd ⟨by omega, by assumption⟩ hc))⟩, ?_⟩
                exact (hs.mem_to hs.mem).cut _ ⟨rfl, rfl, rfl, rfl, trivial⟩
          · replace h34 := ne_of_beq_false h34
            refine wp_seq ?_
            refine wp_region_lit ?_
            refine a_val hs rfl rfl rfl (y_cmp hs rfl rfl rfl) ?_; clear hs a; intro a hs
            refine a_val hs rfl rfl rfl (y_assign hs rfl) ?_; clear hs a; intro a hs
            refine wpList_nil (then_normal ?_)
            refine wp_cond_split (hs.ev rfl) (fun h45 => ?_) (fun h45 => ?_)
            · replace h45 := eq_of_beq h45
              refine wp_region_lit ?_
              refine a_val hs rfl rfl rfl (y_assign hs rfl) ?_; clear hs a; intro a hs
              refine wpList_nil (in_normal (then_normal ?_))
              refine ⟨1, .inr (.inl ⟨rfl, by omega⟩), ?_⟩
              exact (hs.mem_to hs.mem).cut _ ⟨rfl, rfl, rfl, rfl, trivial⟩
            · replace h45 := ne_of_beq_false h45
              refine wp_seq ?_
              refine wp_seq ?_
              refine wp_region_lit ?_
              refine a_val hs rfl rfl rfl (y_cmp hs rfl rfl rfl) ?_; clear hs a; intro a hs
              refine a_val hs rfl rfl rfl (y_assign hs rfl) ?_; clear hs a; intro a hs
              refine wpList_nil (then_normal ?_)
              refine wp_cond_split (hs.ev rfl) (fun h47 => ?_) (fun h47 => ?_)
              · replace h47 := eq_of_beq h47
                replace hs := hs.say 47 rfl (congrArg Value.bool (beq_iff_eq.2 h47))
                refine wp_skip (then_normal ?_)
                refine wp_cond_true (hs.ev rfl) ?_
                refine wp_region_lit ?_
                refine a_val hs rfl rfl rfl (y_assign hs rfl) ?_; clear hs a; intro a hs
                refine wpList_nil (in_normal (then_normal ?_))
                refine ⟨2, .inr (.inr ⟨rfl, by omega, by omega⟩), ?_⟩
                exact (hs.mem_to hs.mem).cut _ ⟨rfl, rfl, rfl, rfl, trivial⟩
              · replace h47 := ne_of_beq_false h47
                replace hs := hs.say 47 rfl (congrArg Value.bool (beq_eq_false_iff_ne.2 h47))
                refine wp_seq ?_
                refine wp_region_lit ?_
                refine a_val hs rfl rfl rfl (y_cmp hs rfl rfl rfl) ?_; clear hs a; intro a hs
                refine a_val hs rfl rfl rfl (y_assign hs rfl) ?_; clear hs a; intro a hs
                refine wpList_nil (then_normal ?_)
                refine wp_cond_split (hs.ev rfl) (fun h47 => ?_) (fun h47 => ?_)
                · replace h47 := eq_of_beq h47
                  replace hs := hs.say 47 rfl (congrArg Value.bool (beq_iff_eq.2 h47))
                  refine wp_skip (then_normal ?_)
                  refine wp_cond_true (hs.ev rfl) ?_
                  refine wp_region_lit ?_
                  refine a_val hs rfl rfl rfl (y_assign hs rfl) ?_; clear hs a; intro a hs
                  refine wpList_nil (in_normal (then_normal ?_))
                  refine ⟨2, .inr (.inr ⟨rfl, by omega, by omega⟩), ?_⟩
                  exact (hs.mem_to hs.mem).cut _ ⟨rfl, rfl, rfl, rfl, trivial⟩
                · replace h47 := ne_of_beq_false h47
                  replace hs := hs.say 47 rfl (congrArg Value.bool (beq_eq_false_iff_ne.2 h47))
                  refine wp_seq ?_
                  refine wp_region_lit ?_
                  refine a_val hs rfl rfl rfl (y_cmp hs rfl rfl rfl) ?_; clear hs a; intro a hs
                  refine a_val hs rfl rfl rfl (y_assign hs rfl) ?_; clear hs a; intro a hs
                  refine wpList_nil (then_normal ?_)
                  refine wp_cond_split (hs.ev rfl) (fun h47 => ?_) (fun h47 => ?_)
                  · replace h47 := eq_of_beq h47
                    replace hs := hs.say 47 rfl (congrArg Value.bool (beq_iff_eq.2 h47))
                    refine wp_skip (then_normal ?_)
                    refine wp_cond_true (hs.ev rfl) ?_
                    refine wp_region_lit ?_
                    refine a_val hs rfl rfl rfl (y_assign hs rfl) ?_; clear hs a; intro a hs
                    refine wpList_nil (in_normal (then_normal ?_))
                    refine ⟨2, .inr (.inr ⟨rfl, by omega, by omega⟩), ?_⟩
                    exact (hs.mem_to hs.mem).cut _ ⟨rfl, rfl, rfl, rfl, trivial⟩
                  · replace h47 := ne_of_beq_false h47
                    replace hs := hs.say 47 rfl (congrArg Value.bool (beq_eq_false_iff_ne.2 h47))
                    refine wp_seq ?_
                    refine wp_region_lit ?_
                    refine a_val hs rfl rfl rfl (y_cmp hs rfl rfl rfl) ?_; clear hs a; intro a hs
                    refine a_val hs rfl rfl rfl (y_assign hs rfl) ?_; clear hs a; intro a hs
                    refine wpList_nil (then_normal ?_)
                    refine wp_cond_split (hs.ev rfl) (fun h47 => ?_) (fun h47 => ?_)
                    · replace h47 := eq_of_beq h47
                      replace hs := hs.say 47 rfl (congrArg Value.bool (beq_iff_eq.2 h47))
                      refine wp_skip (then_normal ?_)
                      refine wp_cond_true (hs.ev rfl) ?_
                      refine wp_region_lit ?_
                      refine a_val hs rfl rfl rfl (y_assign hs rfl) ?_; clear hs a; intro a hs
                      refine wpList_nil (in_normal (then_normal ?_))
                      refine ⟨2, .inr (.inr ⟨rfl, by omega, by omega⟩), ?_⟩
                      exact (hs.mem_to hs.mem).cut _ ⟨rfl, rfl, rfl, rfl, trivial⟩
                    · replace h47 := ne_of_beq_false h47
                      replace hs := hs.say 47 rfl (congrArg Value.bool (beq_eq_false_iff_ne.2 h47))
                      refine wp_region_lit ?_
                      refine a_val hs rfl rfl rfl (y_cmp hs rfl rfl rfl) ?_; clear hs a; intro a hs
                      refine a_val hs rfl rfl rfl (y_assign hs rfl) ?_; clear hs a; intro a hs
                      refine wpList_nil (then_normal ?_)
                      refine wp_cond_split (hs.ev rfl) (fun h47 => ?_) (fun h47 => ?_)
                      · replace h47 := eq_of_beq h47
                        replace hs := hs.say 47 rfl (congrArg Value.bool (beq_iff_eq.2 h47))
                        refine wp_region_lit ?_
                        refine a_val hs rfl rfl rfl (y_assign hs rfl) ?_; clear hs a; intro a hs
                        refine wpList_nil (in_normal (then_normal ?_))
                        refine ⟨2, .inr (.inr ⟨rfl, by omega, by omega⟩), ?_⟩
                        exact (hs.mem_to hs.mem).cut _ ⟨rfl, rfl, rfl, rfl, trivial⟩
                      · replace h47 := ne_of_beq_false h47
                        replace hs := hs.say 47 rfl (congrArg Value.bool (beq_eq_false_iff_ne.2 h47))
                        refine wp_seq ?_
                        refine wp_region_lit ?_
                        refine a_val hs rfl rfl rfl (y_assign hs rfl) ?_; clear hs a; intro a hs
                        refine wpList_nil (then_normal ?_)
                        refine wp_ret (in_ret (then_ret ?_))
                        have hE : exprParts x = none := by
                          clear hs
                          unfold exprParts
                          repeat' split
                          all_goals first | rfl | (exfalso; omega) | (rename_i hc; exfalso; omega) | (rename_i hc; exact absurd hc.2 (by assumption)) | (rename_i hc; rw [hc.2] at h44; cases h44)
                        have hX : refE (q + 1) x left = -1 := refE_bad (by rw [hE]; exact fun h => by cases h) (by omega)
                        refine fin_ret hs (.tmp (hs.slots _ _ rfl) .nil) ⟨?_, hs.mem.base⟩
                        rw [hX]; rfl
      · clear hs
        obtain ⟨p, hp, hs⟩ := hJ
        refine wp_seq ?_
        refine wp_seq ?_
        refine wp_region_lit ?_
        refine a_val hs rfl rfl rfl (y_faddr (k' := 3) 3 hs (by kernel_rfl) rfl rfl) ?_; clear hs a; intro a hs
        refine a_val hs rfl rfl rfl (y_load hs Tryd.underlying23 rfl rfl (fun w hw => (hw.to 0 rfl).cellV rfl)) ?_; clear hs a; intro a hs
        refine a_val hs rfl rfl rfl (y_lenL hs Tryd.underlying23 rfl) ?_; clear hs a; intro a hs
        refine a_val hs rfl rfl rfl (y_move hs rfl) ?_; clear hs a; intro a hs
        refine a_val hs rfl rfl rfl (y_cmp hs rfl rfl rfl) ?_; clear hs a; intro a hs
        refine a_val hs rfl rfl rfl (y_move hs rfl) ?_; clear hs a; intro a hs
        rcases hs.know (d := 58) rfl with ⟨h58, hs1⟩ | ⟨h58, hs1⟩ <;> replace hs := hs1 <;> clear hs1
        · replace h58 := bne_iff_ne.1 h58
          refine a_skip hs rfl rfl rfl ?_; clear hs a; intro a hs
          refine a_skip hs rfl rfl rfl ?_; clear hs a; intro a hs
          refine a_skip hs rfl rfl rfl ?_; clear hs a; intro a hs
          refine a_skip hs rfl rfl rfl ?_; clear hs a; intro a hs
          refine a_skip hs rfl rfl rfl ?_; clear hs a; intro a hs
          refine a_skip hs rfl rfl rfl ?_; clear hs a; intro a hs
          refine a_skip hs rfl rfl rfl ?_; clear hs a; intro a hs
          refine a_skip hs rfl rfl rfl ?_; clear hs a; intro a hs
          refine a_skip hs rfl rfl rfl ?_; clear hs a; intro a hs
          refine a_skip hs rfl rfl rfl ?_; clear hs a; intro a hs
          refine a_skip hs rfl rfl rfl ?_; clear hs a; intro a hs
          refine a_skip hs rfl rfl rfl ?_; clear hs a; intro a hs
          refine a_val hs rfl rfl rfl (y_pickT hs rfl rfl rfl) ?_; clear hs a; intro a hs
          refine wpList_nil (then_normal ?_)
          refine wp_cond_true (hs.ev rfl) ?_
          refine wp_seq ?_
          refine wp_region_lit ?_
          refine a_val hs rfl rfl rfl (y_assign hs rfl) ?_; clear hs a; intro a hs
          refine wpList_nil (then_normal ?_)
          refine wp_ret (then_ret ?_)
          have hN : ¬ exprParts x = some x.f3.length := by
            clear hs
            intro h
            rcases hp with ⟨rfl, hp⟩ | ⟨rfl, hp⟩ | ⟨rfl, hp, hp'⟩
            · rw [hp] at h; have h' := Option.some.inj h; omega
            · unfold exprParts at h; rw [if_neg (by omega), if_neg (by omega), if_pos hp] at h; split at h
              · have h' := Option.some.inj h; omega
              · cases h
            · unfold exprParts at h; rw [if_neg (by omega), if_neg (by omega), if_neg (by omega), if_pos ⟨hp, hp'⟩] at h; split at h
              · have h' := Option.some.inj h; omega
              · cases h
          have hX : refE (q + 1) x left = -1 := refE_bad hN (by omega)
          refine fin_ret hs (.tmp (hs.slots _ _ rfl) .nil) ⟨?_, hs.mem.base⟩
          rw [hX]; rfl
        · replace h58 := bne_eq_false_iff_eq.1 h58
          refine a_valG hs rfl rfl rfl (y_move hs rfl) ?_; clear hs a; intro a hs
          refine a_valG hs rfl rfl rfl (y_cmp hs rfl rfl rfl) ?_; clear hs a; intro a hs
          refine a_valG hs rfl rfl rfl (y_move hs rfl) ?_; clear hs a; intro a hs
          rcases hs.know (d := 61) rfl with ⟨h61, hs1⟩ | ⟨h61, hs1⟩ <;> replace hs := hs1 <;> clear hs1
          · replace h61 := of_decide_eq_true h61
            refine a_valG hs rfl rfl rfl (y_faddr (k' := 1) 1 hs (by kernel_rfl) rfl rfl) ?_; clear hs a; intro a hs
            refine a_valG hs rfl rfl rfl (y_load hs Tryd.underlying3 rfl rfl (fun w hw => (hw.to 0 rfl).cellV rfl)) ?_; clear hs a; intro a hs
            refine a_valG hs rfl rfl rfl (y_cmp hs rfl rfl rfl) ?_; clear hs a; intro a hs
            refine a_valG hs rfl rfl rfl (y_move hs rfl) ?_; clear hs a; intro a hs
            rcases hs.know (d := 65) rfl with ⟨h65, hs1⟩ | ⟨h65, hs1⟩ <;> replace hs := hs1 <;> clear hs1
            · replace h65 := bne_iff_ne.1 h65
              refine a_skip hs rfl rfl rfl ?_; clear hs a; intro a hs
              refine a_skip hs rfl rfl rfl ?_; clear hs a; intro a hs
              refine a_skip hs rfl rfl rfl ?_; clear hs a; intro a hs
              refine a_valG hs rfl rfl rfl (y_pickT hs rfl rfl rfl) ?_; clear hs a; intro a hs
              refine a_valG hs rfl rfl rfl (y_pickT hs rfl rfl rfl) ?_; clear hs a; intro a hs
              refine a_val hs rfl rfl rfl (y_pickF hs rfl rfl rfl) ?_; clear hs a; intro a hs
              refine wpList_nil (then_normal ?_)
              refine wp_cond_true (hs.ev rfl) ?_
              refine wp_seq ?_
              refine wp_region_lit ?_
              refine a_val hs rfl rfl rfl (y_assign hs rfl) ?_; clear hs a; intro a hs
              refine wpList_nil (then_normal ?_)
              refine wp_ret (then_ret ?_)
              have hN : ¬ exprParts x = some x.f3.length := by
                clear hs
                intro h
                rcases hp with ⟨rfl, hp⟩ | ⟨rfl, hp⟩ | ⟨rfl, hp, hp'⟩
                · rw [hp] at h; have h' := Option.some.inj h; omega
                · unfold exprParts at h; rw [if_neg (by omega), if_neg (by omega), if_pos hp] at h; split at h
                  · have h' := Option.some.inj h; omega
                  · cases h
                · unfold exprParts at h; rw [if_neg (by omega), if_neg (by omega), if_neg (by omega), if_pos ⟨hp, hp'⟩] at h; split at h
                  · have h' := Option.some.inj h; omega
                  · cases h
              have hX : refE (q + 1) x left = -1 := refE_bad hN (by omega)
              refine fin_ret hs (.tmp (hs.slots _ _ rfl) .nil) ⟨?_, hs.mem.base⟩
              rw [hX]; rfl
            · replace h65 := bne_eq_false_iff_eq.1 h65
              refine a_valG hs rfl rfl rfl (y_faddr (k' := 2) 2 hs (by kernel_rfl) rfl rfl) ?_; clear hs a; intro a hs
              refine a_valG hs rfl rfl rfl (y_load hs Tryd.underlying9 rfl rfl (fun w hw => (hw.to 0 rfl).cellV rfl)) ?_; clear hs a; intro a hs
              refine a_valG hs rfl rfl rfl (y_sneE hs rfl rfl) ?_; clear hs a; intro a hs
              refine a_valG hs rfl rfl rfl (y_pickF hs rfl rfl rfl) ?_; clear hs a; intro a hs
              refine a_valG hs rfl rfl rfl (y_pickT hs rfl rfl rfl) ?_; clear hs a; intro a hs
              refine a_val hs rfl rfl rfl (y_pickF hs rfl rfl rfl) ?_; clear hs a; intro a hs
              refine wpList_nil (then_normal ?_)
              refine wp_cond_split (hs.ev rfl) (fun h71 => ?_) (fun h71 => ?_)
              · replace h71 := of_decide_eq_true h71
                refine wp_seq ?_
                refine wp_region_lit ?_
                refine a_val hs rfl rfl rfl (y_assign hs rfl) ?_; clear hs a; intro a hs
                refine wpList_nil (then_normal ?_)
                refine wp_ret (then_ret ?_)
                have hN : ¬ exprParts x = some x.f3.length := by
                  clear hs
                  intro h
                  rcases hp with ⟨rfl, hp⟩ | ⟨rfl, hp⟩ | ⟨rfl, hp, hp'⟩
                  · rw [hp] at h; have h' := Option.some.inj h; omega
                  · unfold exprParts at h; rw [if_neg (by omega), if_neg (by omega), if_pos hp] at h; split at h
                    · have h' := Option.some.inj h; omega
                    · cases h
                  · unfold exprParts at h; rw [if_neg (by omega), if_neg (by omega), if_neg (by omega), if_pos ⟨hp, hp'⟩] at h; split at h
                    · have h' := Option.some.inj h; omega
                    · cases h
                have hX : refE (q + 1) x left = -1 := refE_bad hN (by omega)
                refine fin_ret hs (.tmp (hs.slots _ _ rfl) .nil) ⟨?_, hs.mem.base⟩
                rw [hX]; rfl
              · replace h71 := of_decide_eq_false h71
                refine wp_skip (then_normal ?_)
                refine wp_seq ?_
                refine wp_seq ?_
                refine wp_region_lit ?_
                refine a_val hs rfl rfl rfl (y_assign hs rfl) ?_; clear hs a; intro a hs
                refine wpList_nil (then_normal ?_)
                refine wp_block ?_
                have hL : x.f3.length = p ∧ (0 < p → x.f1 = 0 ∧ x.f2.size = 0) := by constructor <;> omega
                refine wp_loopN (fun m a w1 => ∃ (i : Nat) (lf : Int), (i + m = x.f3.length) ∧ (-1 ≤ lf ∧ lf ≤ 8192) ∧ (0 ≤ lf → ∃ d, xexprs (xexpr q) (x.f3.drop i) d lf = xexprs (xexpr q) x.f3 0 (left - 1)) ∧ (lf < 0 → (xexprs (xexpr q) x.f3 0 (left - 1)).1 = 0 ∧ lf = -1) ∧ St 93 v0 [(1, .int .i64 lf), (2, .int .i64 ((q + 1 : Nat) : Int)), (3, .pointer (some ⟨gx, 0, none⟩)), (8, .int .i64 ((i : Nat) : Int))] [pt gx #[.int .u8 x.f0, .int .i64 x.f1, .string x.f2, .slice A x.f3.length C, .int .i64 x.f4, .int .i64 x.f5] 25] a w1) (x.f3.length) ⟨0, left - 1, by omega, by omega, fun _ => ⟨0, rfl⟩, fun h => by omega, ?_⟩ (fun m a w1 hJ => ?_)
                · exact (hs.mem_to hs.mem).cut _ ⟨rfl, rfl, rfl, rfl, trivial⟩
                · clear hs
                  obtain ⟨i, lf, hi, hlf, hinv, hneg, hs⟩ := hJ
                  refine wp_seq ?_
                  refine wp_seq ?_
                  refine wp_region_lit ?_
                  refine a_val hs rfl rfl rfl (y_move hs rfl) ?_; clear hs a; intro a hs
                  refine a_val hs rfl rfl rfl (y_faddr (k' := 3) 3 hs (by kernel_rfl) rfl rfl) ?_; clear hs a; intro a hs
                  refine a_val hs rfl rfl rfl (y_load hs Tryd.underlying23 rfl rfl (fun w hw => (hw.to 0 rfl).cellV rfl)) ?_; clear hs a; intro a hs
                  refine a_val hs rfl rfl rfl (y_lenL hs Tryd.underlying23 rfl) ?_; clear hs a; intro a hs
                  refine a_val hs rfl rfl rfl (y_cmp hs rfl rfl rfl) ?_; clear hs a; intro a hs
                  refine a_val hs rfl rfl rfl (y_move hs rfl) ?_; clear hs a; intro a hs
                  rcases hs.know (d := 77) rfl with ⟨h77, hs1⟩ | ⟨h77, hs1⟩ <;> replace hs := hs1 <;> clear hs1
                  · replace h77 := of_decide_eq_true h77
                    refine a_valG hs rfl rfl rfl (y_move hs rfl) ?_; clear hs a; intro a hs
                    refine a_valG hs rfl rfl rfl (y_cmp hs rfl rfl rfl) ?_; clear hs a; intro a hs
                    refine a_val hs rfl rfl rfl (y_pickT hs rfl rfl rfl) ?_; clear hs a; intro a hs
                    refine wpList_nil (then_normal ?_)
                    refine wp_cond_split (hs.ev rfl) (fun h80 => ?_) (fun h80 => ?_)
                    · replace h80 := of_decide_eq_true h80
                      obtain ⟨y, hy⟩ : ∃ y, x.f3[i]? = some y := ⟨_, List.getElem?_eq_getElem (by omega)⟩
                      obtain ⟨g0, o, rfl, hcell⟩ := C_atG (show 0 < 6 by decide) hA (by omega)
                      obtain ⟨cs, hK, hc⟩ := hcell i y hy
                      obtain ⟨A0, c0, rfl, hlc, hC⟩ := k25_open hK
                      have hdrop : x.f3.drop i = y :: x.f3.drop (i + 1) := by
                        rw [List.drop_eq_getElem_cons (by omega)]
                        rw [List.getElem?_eq_getElem (by omega)] at hy
                        injection hy with hy
                        rw [hy]
                      rw [hdrop] at hinv
                      refine wp_skip (then_normal ?_)
                      refine wp_seq ?_
                      refine wp_block ?_
                      refine wp_region_lit ?_
                      refine a_val hs rfl rfl rfl (y_faddr (k' := 3) 3 hs (by kernel_rfl) rfl rfl) ?_; clear hs a; intro a hs
                      refine a_val hs rfl rfl rfl (y_load hs Tryd.underlying23 rfl rfl (fun w hw => (hw.to 0 rfl).cellV rfl)) ?_; clear hs a; intro a hs
                      refine a_val hs rfl rfl rfl (y_move hs rfl) ?_; clear hs a; intro a hs
                      refine a_val hs rfl rfl rfl (y_idxB (size := 6) (off := o + i * 6) hs Tryd.underlying23 (by kernel_rfl) rfl rfl (by omega) (by omega) (by simp)) ?_; clear hs a; intro a hs
                      refine a_val hs rfl rfl rfl (y_loadAgg (vs := [.int .u8 y.f0, .int .i64 y.f1, .string y.f2, .slice A0 y.f3.length c0, .int .i64 y.f4, .int .i64 y.f5]) hs Tryd.underlying25 rfl (by kernel_rfl) rfl (fun w hw k v hk => hc w hw.base k v hk)) ?_; clear hs a; intro a hs
                      refine a_val hs rfl rfl rfl (y_move hs rfl) ?_; clear hs a; intro a hs
                      refine a_val hs rfl rfl rfl (y_move hs rfl) ?_; clear hs a; intro a hs
                      refine a_val hs rfl rfl rfl (y_sub hs rfl rfl (by omega)) ?_; clear hs a; intro a hs
                      replace hs := hs.say 90 rfl (congrArg (Value.int IntKind.i64) (show (((q + 1 : Nat) : Int) - 1) = ((q : Nat) : Int) by omega))
                      have hrb := refE_bounds q y lf (by omega)
                      refine a_eff rfl (e_callB Tryd.func42 rfl rfl hs rfl rfl (ih q rfl y A0 c0 lf _ (Kd.C_below hC hs.mem.base) (hsm.2 y (List.mem_of_getElem? hy)) (by omega)) ?_); clear hs a; intro a w hs
                      refine a_val hs rfl rfl rfl (y_assign hs rfl) ?_; clear hs a; intro a hs
                      refine wpList_nil (in_normal (then_normal ?_))
                      refine wp_region_lit ?_
                      refine a_val hs rfl rfl rfl (y_move hs rfl) ?_; clear hs a; intro a hs
                      refine a_val hs rfl rfl rfl (y_add hs rfl rfl (by omega)) ?_; clear hs a; intro a hs
                      refine a_val hs rfl rfl rfl (y_assign hs rfl) ?_; clear hs a; intro a hs
                      refine wpList_nil (then_normal ?_)
                      refine ⟨m - 1, by omega, i + 1, refE q y lf, by omega, by omega, refE_next (hinv (by omega)), refE_stop (hinv (by omega)) (by omega), ?_⟩
                      exact (hs.mem_to hs.mem).cut _ ⟨rfl, rfl, rfl, rfl, trivial⟩
                    · replace h80 := of_decide_eq_false h80
                      refine wp_exit (then_exit (then_exit (in_here (then_normal ?_))))
                      refine wp_seq ?_
                      refine wp_region_lit ?_
                      refine a_val hs rfl rfl rfl (y_move hs rfl) ?_; clear hs a; intro a hs
                      refine a_val hs rfl rfl rfl (y_assign hs rfl) ?_; clear hs a; intro a hs
                      refine wpList_nil (then_normal ?_)
                      refine wp_ret ?_
                      have hE : exprParts x = some x.f3.length := by
                        clear hs hinv hneg
                        rcases hp with ⟨rfl, hp⟩ | ⟨rfl, hp⟩ | ⟨rfl, hp, hp'⟩
                        · rw [hp, hL.1]
                        · unfold exprParts; rw [if_neg (by omega), if_neg (by omega), if_pos hp, if_pos (hL.2 (by decide)), hL.1]
                        · unfold exprParts; rw [if_neg (by omega), if_neg (by omega), if_neg (by omega), if_pos ⟨hp, hp'⟩, if_pos (hL.2 (by decide)), hL.1]
                      have hX : refE (q + 1) x left = lf := by
                        have h1 : xexpr (q + 1) x left = xexprs (xexpr q) x.f3 0 (left - 1) := by rw [xexpr, if_neg (by omega), hE]; show (if _ then _ else _) = _; rw [if_pos rfl]
                        unfold refE
                        rw [h1]
                        by_cases h0 : 0 ≤ lf
                        · obtain ⟨d, hd⟩ := hinv h0
                          rw [List.drop_eq_nil_of_le (by omega), xexprs] at hd
                          rw [← hd, if_neg (by show ¬ d + 1 = 0; omega)]
                        · rw [if_pos (hneg (by omega)).1, (hneg (by omega)).2]
                      refine fin_ret hs (.tmp (hs.slots _ _ rfl) .nil) ⟨?_, hs.mem.base⟩
                      rw [hX]; rfl
                  · replace h77 := of_decide_eq_false h77
                    refine a_skip hs rfl rfl rfl ?_; clear hs a; intro a hs
                    refine a_skip hs rfl rfl rfl ?_; clear hs a; intro a hs
                    refine a_val hs rfl rfl rfl (y_pickF hs rfl rfl rfl) ?_; clear hs a; intro a hs
                    refine wpList_nil (then_normal ?_)
                    refine wp_cond_false (hs.ev rfl) ?_
                    refine wp_exit (then_exit (then_exit (in_here (then_normal ?_))))
                    refine wp_seq ?_
                    refine wp_region_lit ?_
                    refine a_val hs rfl rfl rfl (y_move hs rfl) ?_; clear hs a; intro a hs
                    refine a_val hs rfl rfl rfl (y_assign hs rfl) ?_; clear hs a; intro a hs
                    refine wpList_nil (then_normal ?_)
                    refine wp_ret ?_
                    have hE : exprParts x = some x.f3.length := by
                      clear hs hinv hneg
                      rcases hp with ⟨rfl, hp⟩ | ⟨rfl, hp⟩ | ⟨rfl, hp, hp'⟩
                      · rw [hp, hL.1]
                      · unfold exprParts; rw [if_neg (by omega), if_neg (by omega), if_pos hp, if_pos (hL.2 (by decide)), hL.1]
                      · unfold exprParts; rw [if_neg (by omega), if_neg (by omega), if_neg (by omega), if_pos ⟨hp, hp'⟩, if_pos (hL.2 (by decide)), hL.1]
                    have hX : refE (q + 1) x left = lf := by
                      have h1 : xexpr (q + 1) x left = xexprs (xexpr q) x.f3 0 (left - 1) := by rw [xexpr, if_neg (by omega), hE]; show (if _ then _ else _) = _; rw [if_pos rfl]
                      unfold refE
                      rw [h1]
                      by_cases h0 : 0 ≤ lf
                      · obtain ⟨d, hd⟩ := hinv h0
                        rw [List.drop_eq_nil_of_le (by omega), xexprs] at hd
                        rw [← hd, if_neg (by show ¬ d + 1 = 0; omega)]
                      · rw [if_pos (hneg (by omega)).1, (hneg (by omega)).2]
                    refine fin_ret hs (.tmp (hs.slots _ _ rfl) .nil) ⟨?_, hs.mem.base⟩
                    rw [hX]; rfl
          · replace h61 := of_decide_eq_false h61
            refine a_skip hs rfl rfl rfl ?_; clear hs a; intro a hs
            refine a_skip hs rfl rfl rfl ?_; clear hs a; intro a hs
            refine a_skip hs rfl rfl rfl ?_; clear hs a; intro a hs
            refine a_skip hs rfl rfl rfl ?_; clear hs a; intro a hs
            refine a_skip hs rfl rfl rfl ?_; clear hs a; intro a hs
            refine a_skip hs rfl rfl rfl ?_; clear hs a; intro a hs
            refine a_skip hs rfl rfl rfl ?_; clear hs a; intro a hs
            refine a_skip hs rfl rfl rfl ?_; clear hs a; intro a hs
            refine a_valG hs rfl rfl rfl (y_pickF hs rfl rfl rfl) ?_; clear hs a; intro a hs
            refine a_val hs rfl rfl rfl (y_pickF hs rfl rfl rfl) ?_; clear hs a; intro a hs
            refine wpList_nil (then_normal ?_)
            refine wp_cond_false (hs.ev rfl) ?_
            refine wp_skip (then_normal ?_)
            refine wp_seq ?_
            refine wp_seq ?_
            refine wp_region_lit ?_
            refine a_val hs rfl rfl rfl (y_assign hs rfl) ?_; clear hs a; intro a hs
            refine wpList_nil (then_normal ?_)
            refine wp_block ?_
            have hL : x.f3.length = p ∧ (0 < p → x.f1 = 0 ∧ x.f2.size = 0) := by constructor <;> omega
            refine wp_loopN (fun m a w1 => ∃ (i : Nat) (lf : Int), (i + m = x.f3.length) ∧ (-1 ≤ lf ∧ lf ≤ 8192) ∧ (0 ≤ lf → ∃ d, xexprs (xexpr q) (x.f3.drop i) d lf = xexprs (xexpr q) x.f3 0 (left - 1)) ∧ (lf < 0 → (xexprs (xexpr q) x.f3 0 (left - 1)).1 = 0 ∧ lf = -1) ∧ St 93 v0 [(1, .int .i64 lf), (2, .int .i64 ((q + 1 : Nat) : Int)), (3, .pointer (some ⟨gx, 0, none⟩)), (8, .int .i64 ((i : Nat) : Int))] [pt gx #[.int .u8 x.f0, .int .i64 x.f1, .string x.f2, .slice A x.f3.length C, .int .i64 x.f4, .int .i64 x.f5] 25] a w1) (x.f3.length) ⟨0, left - 1, by omega, by omega, fun _ => ⟨0, rfl⟩, fun h => by omega, ?_⟩ (fun m a w1 hJ => ?_)
            · exact (hs.mem_to hs.mem).cut _ ⟨rfl, rfl, rfl, rfl, trivial⟩
            · clear hs
              obtain ⟨i, lf, hi, hlf, hinv, hneg, hs⟩ := hJ
              refine wp_seq ?_
              refine wp_seq ?_
              refine wp_region_lit ?_
              refine a_val hs rfl rfl rfl (y_move hs rfl) ?_; clear hs a; intro a hs
              refine a_val hs rfl rfl rfl (y_faddr (k' := 3) 3 hs (by kernel_rfl) rfl rfl) ?_; clear hs a; intro a hs
              refine a_val hs rfl rfl rfl (y_load hs Tryd.underlying23 rfl rfl (fun w hw => (hw.to 0 rfl).cellV rfl)) ?_; clear hs a; intro a hs
              refine a_val hs rfl rfl rfl (y_lenL hs Tryd.underlying23 rfl) ?_; clear hs a; intro a hs
              refine a_val hs rfl rfl rfl (y_cmp hs rfl rfl rfl) ?_; clear hs a; intro a hs
              refine a_val hs rfl rfl rfl (y_move hs rfl) ?_; clear hs a; intro a hs
              rcases hs.know (d := 77) rfl with ⟨h77, hs1⟩ | ⟨h77, hs1⟩ <;> replace hs := hs1 <;> clear hs1
              · replace h77 := of_decide_eq_true h77
                refine a_valG hs rfl rfl rfl (y_move hs rfl) ?_; clear hs a; intro a hs
                refine a_valG hs rfl rfl rfl (y_cmp hs rfl rfl rfl) ?_; clear hs a; intro a hs
                refine a_val hs rfl rfl rfl (y_pickT hs rfl rfl rfl) ?_; clear hs a; intro a hs
                refine wpList_nil (then_normal ?_)
                refine wp_cond_split (hs.ev rfl) (fun h80 => ?_) (fun h80 => ?_)
                · replace h80 := of_decide_eq_true h80
                  obtain ⟨y, hy⟩ : ∃ y, x.f3[i]? = some y := ⟨_, List.getElem?_eq_getElem (by omega)⟩
                  obtain ⟨g0, o, rfl, hcell⟩ := C_atG (show 0 < 6 by decide) hA (by omega)
                  obtain ⟨cs, hK, hc⟩ := hcell i y hy
                  obtain ⟨A0, c0, rfl, hlc, hC⟩ := k25_open hK
                  have hdrop : x.f3.drop i = y :: x.f3.drop (i + 1) := by
                    rw [List.drop_eq_getElem_cons (by omega)]
                    rw [List.getElem?_eq_getElem (by omega)] at hy
                    injection hy with hy
                    rw [hy]
                  rw [hdrop] at hinv
                  refine wp_skip (then_normal ?_)
                  refine wp_seq ?_
                  refine wp_block ?_
                  refine wp_region_lit ?_
                  refine a_val hs rfl rfl rfl (y_faddr (k' := 3) 3 hs (by kernel_rfl) rfl rfl) ?_; clear hs a; intro a hs
                  refine a_val hs rfl rfl rfl (y_load hs Tryd.underlying23 rfl rfl (fun w hw => (hw.to 0 rfl).cellV rfl)) ?_; clear hs a; intro a hs
                  refine a_val hs rfl rfl rfl (y_move hs rfl) ?_; clear hs a; intro a hs
                  refine a_val hs rfl rfl rfl (y_idxB (size := 6) (off := o + i * 6) hs Tryd.underlying23 (by kernel_rfl) rfl rfl (by omega) (by omega) (by simp)) ?_; clear hs a; intro a hs
                  refine a_val hs rfl rfl rfl (y_loadAgg (vs := [.int .u8 y.f0, .int .i64 y.f1, .string y.f2, .slice A0 y.f3.length c0, .int .i64 y.f4, .int .i64 y.f5]) hs Tryd.underlying25 rfl (by kernel_rfl) rfl (fun w hw k v hk => hc w hw.base k v hk)) ?_; clear hs a; intro a hs
                  refine a_val hs rfl rfl rfl (y_move hs rfl) ?_; clear hs a; intro a hs
                  refine a_val hs rfl rfl rfl (y_move hs rfl) ?_; clear hs a; intro a hs
                  refine a_val hs rfl rfl rfl (y_sub hs rfl rfl (by omega)) ?_; clear hs a; intro a hs
                  replace hs := hs.say 90 rfl (congrArg (Value.int IntKind.i64) (show (((q + 1 : Nat) : Int) - 1) = ((q : Nat) : Int) by omega))
                  have hrb := refE_bounds q y lf (by omega)
                  refine a_eff rfl (e_callB Tryd.func42 rfl rfl hs rfl rfl (ih q rfl y A0 c0 lf _ (Kd.C_below hC hs.mem.base) (hsm.2 y (List.mem_of_getElem? hy)) (by omega)) ?_); clear hs a; intro a w hs
                  refine a_val hs rfl rfl rfl (y_assign hs rfl) ?_; clear hs a; intro a hs
                  refine wpList_nil (in_normal (then_normal ?_))
                  refine wp_region_lit ?_
                  refine a_val hs rfl rfl rfl (y_move hs rfl) ?_; clear hs a; intro a hs
                  refine a_val hs rfl rfl rfl (y_add hs rfl rfl (by omega)) ?_; clear hs a; intro a hs
                  refine a_val hs rfl rfl rfl (y_assign hs rfl) ?_; clear hs a; intro a hs
                  refine wpList_nil (then_normal ?_)
                  refine ⟨m - 1, by omega, i + 1, refE q y lf, by omega, by omega, refE_next (hinv (by omega)), refE_stop (hinv (by omega)) (by omega), ?_⟩
                  exact (hs.mem_to hs.mem).cut _ ⟨rfl, rfl, rfl, rfl, trivial⟩
                · replace h80 := of_decide_eq_false h80
                  refine wp_exit (then_exit (then_exit (in_here (then_normal ?_))))
                  refine wp_seq ?_
                  refine wp_region_lit ?_
                  refine a_val hs rfl rfl rfl (y_move hs rfl) ?_; clear hs a; intro a hs
                  refine a_val hs rfl rfl rfl (y_assign hs rfl) ?_; clear hs a; intro a hs
                  refine wpList_nil (then_normal ?_)
                  refine wp_ret ?_
                  have hE : exprParts x = some x.f3.length := by
                    clear hs hinv hneg
                    rcases hp with ⟨rfl, hp⟩ | ⟨rfl, hp⟩ | ⟨rfl, hp, hp'⟩
                    · rw [hp, hL.1]
                    · unfold exprParts; rw [if_neg (by omega), if_neg (by omega), if_pos hp, if_pos (hL.2 (by decide)), hL.1]
                    · unfold exprParts; rw [if_neg (by omega), if_neg (by omega), if_neg (by omega), if_pos ⟨hp, hp'⟩, if_pos (hL.2 (by decide)), hL.1]
                  have hX : refE (q + 1) x left = lf := by
                    have h1 : xexpr (q + 1) x left = xexprs (xexpr q) x.f3 0 (left - 1) := by rw [xexpr, if_neg (by omega), hE]; show (if _ then _ else _) = _; rw [if_pos rfl]
                    unfold refE
                    rw [h1]
                    by_cases h0 : 0 ≤ lf
                    · obtain ⟨d, hd⟩ := hinv h0
                      rw [List.drop_eq_nil_of_le (by omega), xexprs] at hd
                      rw [← hd, if_neg (by show ¬ d + 1 = 0; omega)]
                    · rw [if_pos (hneg (by omega)).1, (hneg (by omega)).2]
                  refine fin_ret hs (.tmp (hs.slots _ _ rfl) .nil) ⟨?_, hs.mem.base⟩
                  rw [hX]; rfl
              · replace h77 := of_decide_eq_false h77
                refine a_skip hs rfl rfl rfl ?_; clear hs a; intro a hs
                refine a_skip hs rfl rfl rfl ?_; clear hs a; intro a hs
                refine a_val hs rfl rfl rfl (y_pickF hs rfl rfl rfl) ?_; clear hs a; intro a hs
                refine wpList_nil (then_normal ?_)
                refine wp_cond_false (hs.ev rfl) ?_
                refine wp_exit (then_exit (then_exit (in_here (then_normal ?_))))
                refine wp_seq ?_
                refine wp_region_lit ?_
                refine a_val hs rfl rfl rfl (y_move hs rfl) ?_; clear hs a; intro a hs
                refine a_val hs rfl rfl rfl (y_assign hs rfl) ?_; clear hs a; intro a hs
                refine wpList_nil (then_normal ?_)
                refine wp_ret ?_
                have hE : exprParts x = some x.f3.length := by
                  clear hs hinv hneg
                  rcases hp with ⟨rfl, hp⟩ | ⟨rfl, hp⟩ | ⟨rfl, hp, hp'⟩
                  · rw [hp, hL.1]
                  · unfold exprParts; rw [if_neg (by omega), if_neg (by omega), if_pos hp, if_pos (hL.2 (by decide)), hL.1]
                  · unfold exprParts; rw [if_neg (by omega), if_neg (by omega), if_neg (by omega), if_pos ⟨hp, hp'⟩, if_pos (hL.2 (by decide)), hL.1]
                have hX : refE (q + 1) x left = lf := by
                  have h1 : xexpr (q + 1) x left = xexprs (xexpr q) x.f3 0 (left - 1) := by rw [xexpr, if_neg (by omega), hE]; show (if _ then _ else _) = _; rw [if_pos rfl]
                  unfold refE
                  rw [h1]
                  by_cases h0 : 0 ≤ lf
                  · obtain ⟨d, hd⟩ := hinv h0
                    rw [List.drop_eq_nil_of_le (by omega), xexprs] at hd
                    rw [← hd, if_neg (by show ¬ d + 1 = 0; omega)]
                  · rw [if_pos (hneg (by omega)).1, (hneg (by omega)).2]
                refine fin_ret hs (.tmp (hs.slots _ _ rfl) .nil) ⟨?_, hs.mem.base⟩
                rw [hX]; rfl
theorem ref_expr : ∀ n : Nat, n ≤ 1000 → RefOk n := fun n => by
  induction n using Nat.strongRecOn with
  | _ n ih => exact fun hn x A C left v0 hA hsm hl => ref_expr_step n hn (fun q hq => ih q (by omega) (by omega)) x A C left v0 hA hsm hl
/-- What the reference's exprs answers. -/
def refL (l : List XE) (left : Int) : Int := if (xlist stE l left).1 = true then (xlist stE l left).2 else -1
theorem refL_next {l r : List XE} {y : XE} {left lf : Int} (hst : 0 ≤ lf → xlist stE l left = (if (stE y lf).1 = true then xlist stE r (stE y lf).2 else (false, (stE y lf).2))) (h0 : 0 ≤ lf) : 0 ≤ refE 16 y lf → xlist stE r (refE 16 y lf) = xlist stE l left := by
  intro h
  unfold refE at h ⊢
  split at h
  · omega
  · rename_i h1
    rw [if_neg h1, hst h0, if_pos (show (stE y lf).1 = true from decide_eq_true (by omega))]; rfl
theorem refL_stop {l r : List XE} {y : XE} {left lf : Int} (hst : 0 ≤ lf → xlist stE l left = (if (stE y lf).1 = true then xlist stE r (stE y lf).2 else (false, (stE y lf).2))) (h0 : 0 ≤ lf) : refE 16 y lf < 0 → refL l left = -1 := by
  intro h
  unfold refE at h
  split at h
  · rename_i h1
    unfold refL
    rw [hst h0, if_neg (show ¬ (stE y lf).1 = true from fun h2 => by have := of_decide_eq_true h2; omega)]; rfl
  · rename_i h1
    have := (xexpr_left 16 y lf h0).2.2 h1
    omega
set_option maxRecDepth 100000 in
theorem ref_exprs (A : Option Addr) (c : Nat) (l : List XE) (left : Int) (v0 : World) (hex : RefOk 16) (hA : Kd.C k25 v0 A l.length l) (hsm : ∀ p ∈ l, smallX 16 p) (hl : 0 ≤ left ∧ left ≤ 8192) :
    Calls Tryd.prog 73 #[.slice A l.length c, .int .i64 left] v0 fun e w' => e = .returned (.int .i64 (refL l left)) ∧ Below v0.heap.size v0 w' := by
  refine calls_enter (N := 23) (n := 21) (args := [.slice A l.length c, .int .i64 left]) Tryd.func73 rfl rfl rfl (H.init v0) (fun a hs => ?_)
  have hcl := C_len hA
  refine wp_seq ?_
  refine wp_region_lit ?_
  refine a_val hs rfl rfl rfl (y_assign hs rfl) ?_; clear hs a; intro a hs
  refine wpList_nil (then_normal ?_)
  refine wp_seq ?_
  refine wp_seq ?_
  refine wp_region_lit ?_
  refine a_val hs rfl rfl rfl (y_assign hs rfl) ?_; clear hs a; intro a hs
  refine wpList_nil (then_normal ?_)
  refine wp_block ?_
  refine wp_loopN (fun m a w1 => ∃ (i : Nat) (lf : Int), (i + m = l.length) ∧ (-1 ≤ lf ∧ lf ≤ 8192) ∧ (0 ≤ lf → xlist stE (l.drop i) lf = xlist stE l left) ∧ (lf < 0 → refL l left = -1) ∧ St 23 v0 [(0, .slice A l.length c), (1, .int .i64 lf), (5, .int .i64 ((i : Nat) : Int))] [] a w1) (l.length) ⟨0, left, by omega, by omega, fun _ => rfl, fun h => by omega, ?_⟩ (fun m a w1 hJ => ?_)
  · exact (hs.mem_to hs.mem).cut _ ⟨rfl, rfl, rfl, trivial⟩
  · clear hs
    obtain ⟨i, lf, hi, hlf, hinv, hneg, hs⟩ := hJ
    refine wp_seq ?_
    refine wp_seq ?_
    refine wp_region_lit ?_
    refine a_val hs rfl rfl rfl (y_move hs rfl) ?_; clear hs a; intro a hs
    refine a_val hs rfl rfl rfl (y_move hs rfl) ?_; clear hs a; intro a hs
    refine a_val hs rfl rfl rfl (y_lenL hs Tryd.underlying23 rfl) ?_; clear hs a; intro a hs
    refine a_val hs rfl rfl rfl (y_cmp hs rfl rfl rfl) ?_; clear hs a; intro a hs
    refine a_val hs rfl rfl rfl (y_move hs rfl) ?_; clear hs a; intro a hs
    rcases hs.know (d := 10) rfl with ⟨h10, hs1⟩ | ⟨h10, hs1⟩ <;> replace hs := hs1 <;> clear hs1
    · replace h10 := of_decide_eq_true h10
      refine a_valG hs rfl rfl rfl (y_move hs rfl) ?_; clear hs a; intro a hs
      refine a_valG hs rfl rfl rfl (y_cmp hs rfl rfl rfl) ?_; clear hs a; intro a hs
      refine a_val hs rfl rfl rfl (y_pickT hs rfl rfl rfl) ?_; clear hs a; intro a hs
      refine wpList_nil (then_normal ?_)
      refine wp_cond_split (hs.ev rfl) (fun h13 => ?_) (fun h13 => ?_)
      · replace h13 := of_decide_eq_true h13
        obtain ⟨y, hy⟩ : ∃ y, l[i]? = some y := ⟨_, List.getElem?_eq_getElem (by omega)⟩
        obtain ⟨g0, o, rfl, hcell⟩ := C_atG (show 0 < 6 by decide) hA (by omega)
        obtain ⟨cs, hK, hc⟩ := hcell i y hy
        obtain ⟨A0, c0, rfl, hlc, hC⟩ := k25_open hK
        have hdrop : l.drop i = y :: l.drop (i + 1) := by
          rw [List.drop_eq_getElem_cons (by omega)]
          rw [List.getElem?_eq_getElem (by omega)] at hy
          injection hy with hy
          rw [hy]
        refine wp_skip (then_normal ?_)
        refine wp_seq ?_
        refine wp_block ?_
        refine wp_region_lit ?_
        refine a_val hs rfl rfl rfl (y_move hs rfl) ?_; clear hs a; intro a hs
        refine a_val hs rfl rfl rfl (y_move hs rfl) ?_; clear hs a; intro a hs
        refine a_val hs rfl rfl rfl (y_idxB (size := 6) (off := o + i * 6) hs Tryd.underlying23 (by kernel_rfl) rfl rfl (by omega) (by omega) (by simp)) ?_; clear hs a; intro a hs
        refine a_val hs rfl rfl rfl (y_loadAgg (vs := [.int .u8 y.f0, .int .i64 y.f1, .string y.f2, .slice A0 y.f3.length c0, .int .i64 y.f4, .int .i64 y.f5]) hs Tryd.underlying25 rfl (by kernel_rfl) rfl (fun w hw k v hk => hc w hw.base k v hk)) ?_; clear hs a; intro a hs
        refine a_val hs rfl rfl rfl (y_move hs rfl) ?_; clear hs a; intro a hs
        have hrb := refE_bounds 16 y lf (by omega)
        have hfl := xexpr_left 16 y lf (by omega)
        refine a_eff rfl (e_callB Tryd.func42 rfl rfl hs rfl rfl (hex y A0 c0 lf _ (Kd.C_below hC hs.mem.base) (hsm y (List.mem_of_getElem? hy)) (by omega)) ?_); clear hs a; intro a w hs
        refine a_val hs rfl rfl rfl (y_assign hs rfl) ?_; clear hs a; intro a hs
        refine wpList_nil (in_normal (then_normal ?_))
        refine wp_region_lit ?_
        refine a_val hs rfl rfl rfl (y_move hs rfl) ?_; clear hs a; intro a hs
        refine a_val hs rfl rfl rfl (y_add hs rfl rfl (by omega)) ?_; clear hs a; intro a hs
        refine a_val hs rfl rfl rfl (y_assign hs rfl) ?_; clear hs a; intro a hs
        refine wpList_nil (then_normal ?_)
        have hst : 0 ≤ lf → xlist stE l left = (if (stE y lf).1 = true then xlist stE (l.drop (i + 1)) (stE y lf).2 else (false, (stE y lf).2)) := fun h0 => by rw [← hinv h0, hdrop, xlist]
        refine ⟨m - 1, by omega, i + 1, refE 16 y lf, by omega, by omega, refL_next hst (by omega), refL_stop hst (by omega), ?_⟩
        exact (hs.mem_to hs.mem).cut _ ⟨rfl, rfl, rfl, trivial⟩
      · replace h13 := of_decide_eq_false h13
        have hX : refL l left = lf := by
          by_cases h0 : 0 ≤ lf
          · have h1 := (hinv h0).symm
            rw [List.drop_eq_nil_of_le (by omega), xlist] at h1
            unfold refL; rw [h1]; rfl
          · rw [hneg (by omega)]; omega
        refine wp_exit (then_exit (then_exit (in_here (then_normal ?_))))
        refine wp_seq ?_
        refine wp_region_lit ?_
        refine a_val hs rfl rfl rfl (y_move hs rfl) ?_; clear hs a; intro a hs
        refine a_val hs rfl rfl rfl (y_assign hs rfl) ?_; clear hs a; intro a hs
        refine wpList_nil (then_normal ?_)
        refine wp_ret ?_
        refine fin_ret hs (.tmp (hs.slots _ _ rfl) .nil) ⟨?_, hs.mem.base⟩
        rw [hX]; rfl
    · replace h10 := of_decide_eq_false h10
      have hX : refL l left = lf := by
        by_cases h0 : 0 ≤ lf
        · have h1 := (hinv h0).symm
          rw [List.drop_eq_nil_of_le (by omega), xlist] at h1
          unfold refL; rw [h1]; rfl
        · rw [hneg (by omega)]; omega
      refine a_skip hs rfl rfl rfl ?_; clear hs a; intro a hs
      refine a_skip hs rfl rfl rfl ?_; clear hs a; intro a hs
      refine a_val hs rfl rfl rfl (y_pickF hs rfl rfl rfl) ?_; clear hs a; intro a hs
      refine wpList_nil (then_normal ?_)
      refine wp_cond_false (hs.ev rfl) ?_
      refine wp_exit (then_exit (then_exit (in_here (then_normal ?_))))
      refine wp_seq ?_
      refine wp_region_lit ?_
      refine a_val hs rfl rfl rfl (y_move hs rfl) ?_; clear hs a; intro a hs
      refine a_val hs rfl rfl rfl (y_assign hs rfl) ?_; clear hs a; intro a hs
      refine wpList_nil (then_normal ?_)
      refine wp_ret ?_
      refine fin_ret hs (.tmp (hs.slots _ _ rfl) .nil) ⟨?_, hs.mem.base⟩
      rw [hX]; rfl
end Go.Proofs.YtibaidddhmdafaaDoor.E
end
section
namespace Go.Proofs.YtibaidddhmdafaaDoor.E
open Go Go.RowKit Go.Proofs.YtibaidddhmdafaaDoorW.PrintWords Go.Proofs.YtibaidddhmdafaaDoorW.PrintLast Go.Proofs.YtibaidddhmdafaaDoorW.PrintMore Go.Proofs.YtibaidddhmdafaaDoor.PA
set_option linter.unusedVariables false
set_option linter.unusedSimpArgs false
set_option maxRecDepth 100000 in
theorem ref_NoExpr (x : XE) (A : Option Addr) (C : Nat) (v0 : World) :
    Calls Tryd.prog 71 #[.agg #[.int .u8 x.f0, .int .i64 x.f1, .string x.f2, .slice A x.f3.length C, .int .i64 x.f4, .int .i64 x.f5]] v0 fun e w' => e = .returned (.bool (noExprB x)) ∧ Below v0.heap.size v0 w' := by
  refine calls_enter (N := 32) (n := 31) (args := [.agg #[.int .u8 x.f0, .int .i64 x.f1, .string x.f2, .slice A x.f3.length C, .int .i64 x.f4, .int .i64 x.f5]]) Tryd.func71 rfl rfl rfl (H.init v0) (fun a hs => ?_)
  refine wp_seq ?_
  refine wp_region_lit ?_
  refine a_eff rfl (e_box (cs := #[_, _, _, _, _, _]) hs rfl rfl rfl ?_); clear hs a; intro gx a w hs
  refine a_val hs rfl rfl rfl (y_assign hs rfl) ?_; clear hs a; intro a hs
  refine wpList_nil (then_normal ?_)
  refine wp_seq ?_
  refine wp_region_lit ?_
  refine a_val hs rfl rfl rfl (y_faddr (k' := 0) 0 hs (by kernel_rfl) rfl rfl) ?_; clear hs a; intro a hs
  refine a_val hs rfl rfl rfl (y_load hs Tryd.underlying22 rfl rfl (fun w hw => (hw.to 0 rfl).cellV rfl)) ?_; clear hs a; intro a hs
  refine a_val hs rfl rfl rfl (y_cmp hs rfl rfl rfl) ?_; clear hs a; intro a hs
  refine a_val hs rfl rfl rfl (y_move hs rfl) ?_; clear hs a; intro a hs
  rcases hs.know (d := 6) rfl with ⟨h6, hs1⟩ | ⟨h6, hs1⟩ <;> replace hs := hs1 <;> clear hs1
  · replace h6 := eq_of_beq h6
    refine a_valG hs rfl rfl rfl (y_faddr (k' := 1) 1 hs (by kernel_rfl) rfl rfl) ?_; clear hs a; intro a hs
    refine a_valG hs rfl rfl rfl (y_load hs Tryd.underlying3 rfl rfl (fun w hw => (hw.to 0 rfl).cellV rfl)) ?_; clear hs a; intro a hs
    refine a_valG hs rfl rfl rfl (y_cmp hs rfl rfl rfl) ?_; clear hs a; intro a hs
    refine a_val hs rfl rfl rfl (y_pickT hs rfl rfl rfl) ?_; clear hs a; intro a hs
    refine a_val hs rfl rfl rfl (y_move hs rfl) ?_; clear hs a; intro a hs
    rcases hs.know (d := 11) rfl with ⟨h11, hs1⟩ | ⟨h11, hs1⟩ <;> replace hs := hs1 <;> clear hs1
    · replace h11 := eq_of_beq h11
      refine a_valG hs rfl rfl rfl (y_faddr (k' := 2) 2 hs (by kernel_rfl) rfl rfl) ?_; clear hs a; intro a hs
      refine a_valG hs rfl rfl rfl (y_load hs Tryd.underlying9 rfl rfl (fun w hw => (hw.to 0 rfl).cellV rfl)) ?_; clear hs a; intro a hs
      refine a_valG hs rfl rfl rfl (y_seqE hs rfl rfl) ?_; clear hs a; intro a hs
      refine a_val hs rfl rfl rfl (y_pickT hs rfl rfl rfl) ?_; clear hs a; intro a hs
      refine a_val hs rfl rfl rfl (y_move hs rfl) ?_; clear hs a; intro a hs
      rcases hs.know (d := 16) rfl with ⟨h16, hs1⟩ | ⟨h16, hs1⟩ <;> replace hs := hs1 <;> clear hs1
      · replace h16 := of_decide_eq_true h16
        refine a_valG hs rfl rfl rfl (y_faddr (k' := 3) 3 hs (by kernel_rfl) rfl rfl) ?_; clear hs a; intro a hs
        refine a_valG hs rfl rfl rfl (y_load hs Tryd.underlying23 rfl rfl (fun w hw => (hw.to 0 rfl).cellV rfl)) ?_; clear hs a; intro a hs
        refine a_valG hs rfl rfl rfl (y_lenL hs Tryd.underlying23 rfl) ?_; clear hs a; intro a hs
        refine a_valG hs rfl rfl rfl (y_cmp hs rfl rfl rfl) ?_; clear hs a; intro a hs
        refine a_val hs rfl rfl rfl (y_pickT hs rfl rfl rfl) ?_; clear hs a; intro a hs
        refine a_val hs rfl rfl rfl (y_move hs rfl) ?_; clear hs a; intro a hs
        rcases hs.know (d := 22) rfl with ⟨h22, hs1⟩ | ⟨h22, hs1⟩ <;> replace hs := hs1 <;> clear hs1
        · replace h22 := eq_of_beq h22
          refine a_valG hs rfl rfl rfl (y_faddr (k' := 4) 4 hs (by kernel_rfl) rfl rfl) ?_; clear hs a; intro a hs
          refine a_valG hs rfl rfl rfl (y_load hs Tryd.underlying3 rfl rfl (fun w hw => (hw.to 0 rfl).cellV rfl)) ?_; clear hs a; intro a hs
          refine a_valG hs rfl rfl rfl (y_cmp hs rfl rfl rfl) ?_; clear hs a; intro a hs
          refine a_val hs rfl rfl rfl (y_pickT hs rfl rfl rfl) ?_; clear hs a; intro a hs
          refine a_val hs rfl rfl rfl (y_move hs rfl) ?_; clear hs a; intro a hs
          rcases hs.know (d := 27) rfl with ⟨h27, hs1⟩ | ⟨h27, hs1⟩ <;> replace hs := hs1 <;> clear hs1
          · replace h27 := eq_of_beq h27
            refine a_valG hs rfl rfl rfl (y_faddr (k' := 5) 5 hs (by kernel_rfl) rfl rfl) ?_; clear hs a; intro a hs
            refine a_valG hs rfl rfl rfl (y_load hs Tryd.underlying3 rfl rfl (fun w hw => (hw.to 0 rfl).cellV rfl)) ?_; clear hs a; intro a hs
            refine a_valG hs rfl rfl rfl (y_cmp hs rfl rfl rfl) ?_; clear hs a; intro a hs
            refine a_val hs rfl rfl rfl (y_pickT hs rfl rfl rfl) ?_; clear hs a; intro a hs
            refine a_val hs rfl rfl rfl (y_assign hs rfl) ?_; clear hs a; intro a hs
            refine wpList_nil (then_normal ?_)
            refine wp_ret ?_
            refine fin_ret hs (.tmp (hs.slots _ _ rfl) .nil) ⟨?_, hs.mem.base⟩
            first | (rw [show noExprB x = false from decide_eq_false (by omega)]; rfl) | (rw [show noExprB x = (x.f5 == 0) from by unfold noExprB; rw [Bool.eq_iff_iff]; simp only [decide_eq_true_eq, beq_iff_eq]; omega]; rfl)
          · replace h27 := ne_of_beq_false h27
            refine a_skip hs rfl rfl rfl ?_; clear hs a; intro a hs
            refine a_skip hs rfl rfl rfl ?_; clear hs a; intro a hs
            refine a_skip hs rfl rfl rfl ?_; clear hs a; intro a hs
            refine a_val hs rfl rfl rfl (y_pickF hs rfl rfl rfl) ?_; clear hs a; intro a hs
            refine a_val hs rfl rfl rfl (y_assign hs rfl) ?_; clear hs a; intro a hs
            refine wpList_nil (then_normal ?_)
            refine wp_ret ?_
            refine fin_ret hs (.tmp (hs.slots _ _ rfl) .nil) ⟨?_, hs.mem.base⟩
            first | (rw [show noExprB x = false from decide_eq_false (by omega)]; rfl) | (rw [show noExprB x = (x.f5 == 0) from by unfold noExprB; rw [Bool.eq_iff_iff]; simp only [decide_eq_true_eq, beq_iff_eq]; omega]; rfl)
        · replace h22 := ne_of_beq_false h22
          refine a_skip hs rfl rfl rfl ?_; clear hs a; intro a hs
          refine a_skip hs rfl rfl rfl ?_; clear hs a; intro a hs
          refine a_skip hs rfl rfl rfl ?_; clear hs a; intro a hs
          refine a_val hs rfl rfl rfl (y_pickF hs rfl rfl rfl) ?_; clear hs a; intro a hs
          refine a_val hs rfl rfl rfl (y_move hs rfl) ?_; clear hs a; intro a hs
          refine a_skip hs rfl rfl rfl ?_; clear hs a; intro a hs
          refine a_skip hs rfl rfl rfl ?_; clear hs a; intro a hs
          refine a_skip hs rfl rfl rfl ?_; clear hs a; intro a hs
          refine a_val hs rfl rfl rfl (y_pickF hs rfl rfl rfl) ?_; clear hs a; intro a hs
          refine a_val hs rfl rfl rfl (y_assign hs rfl) ?_; clear hs a; intro a hs
          refine wpList_nil (then_normal ?_)
          refine wp_ret ?_
          refine fin_ret hs (.tmp (hs.slots _ _ rfl) .nil) ⟨?_, hs.mem.base⟩
          first | (rw [show noExprB x = false from decide_eq_false (by omega)]; rfl) | (rw [show noExprB x = (x.f5 == 0) from by unfold noExprB; rw [Bool.eq_iff_iff]; simp only [decide_eq_true_eq, beq_iff_eq]; omega]; rfl)
      · replace h16 := of_decide_eq_false h16
        refine a_skip hs rfl rfl rfl ?_; clear hs a; intro a hs
        refine a_skip hs rfl rfl rfl ?_; clear hs a; intro a hs
        refine a_skip hs rfl rfl rfl ?_; clear hs a; intro a hs
        refine a_skip hs rfl rfl rfl ?_; clear hs a; intro a hs
        refine a_val hs rfl rfl rfl (y_pickF hs rfl rfl rfl) ?_; clear hs a; intro a hs
        refine a_val hs rfl rfl rfl (y_move hs rfl) ?_; clear hs a; intro a hs
        refine a_skip hs rfl rfl rfl ?_; clear hs a; intro a hs
        refine a_skip hs rfl rfl rfl ?_; clear hs a; intro a hs
        refine a_skip hs rfl rfl rfl ?_; clear hs a; intro a hs
        refine a_val hs rfl rfl rfl (y_pickF hs rfl rfl rfl) ?_; clear hs a; intro a hs
        refine a_val hs rfl rfl rfl (y_move hs rfl) ?_; clear hs a; intro a hs
        refine a_skip hs rfl rfl rfl ?_; clear hs a; intro a hs
        refine a_skip hs rfl rfl rfl ?_; clear hs a; intro a hs
        refine a_skip hs rfl rfl rfl ?_; clear hs a; intro a hs
        refine a_val hs rfl rfl rfl (y_pickF hs rfl rfl rfl) ?_; clear hs a; intro a hs
        refine a_val hs rfl rfl rfl (y_assign hs rfl) ?_; clear hs a; intro a hs
        refine wpList_nil (then_normal ?_)
        refine wp_ret ?_
        refine fin_ret hs (.tmp (hs.slots _ _ rfl) .nil) ⟨?_, hs.mem.base⟩
        first | (rw [show noExprB x = false from decide_eq_false (by omega)]; rfl) | (rw [show noExprB x = (x.f5 == 0) from by unfold noExprB; rw [Bool.eq_iff_iff]; simp only [decide_eq_true_eq, beq_iff_eq]; omega]; rfl)
    · replace h11 := ne_of_beq_false h11
      refine a_skip hs rfl rfl rfl ?_; clear hs a; intro a hs
      refine a_skip hs rfl rfl rfl ?_; clear hs a; intro a hs
      refine a_skip hs rfl rfl rfl ?_; clear hs a; intro a hs
      refine a_val hs rfl rfl rfl (y_pickF hs rfl rfl rfl) ?_; clear hs a; intro a hs
      refine a_val hs rfl rfl rfl (y_move hs rfl) ?_; clear hs a; intro a hs
      refine a_skip hs rfl rfl rfl ?_; clear hs a; intro a hs
      refine a_skip hs rfl rfl rfl ?_; clear hs a; intro a hs
      refine a_skip hs rfl rfl rfl ?_; clear hs a; intro a hs
      refine a_skip hs rfl rfl rfl ?_; clear hs a; intro a hs
      refine a_val hs rfl rfl rfl (y_pickF hs rfl rfl rfl) ?_; clear hs a; intro a hs
      refine a_val hs rfl rfl rfl (y_move hs rfl) ?_; clear hs a; intro a hs
      refine a_skip hs rfl rfl rfl ?_; clear hs a; intro a hs
      refine a_skip hs rfl rfl rfl ?_; clear hs a; intro a hs
      refine a_skip hs rfl rfl rfl ?_; clear hs a; intro a hs
      refine a_val hs rfl rfl rfl (y_pickF hs rfl rfl rfl) ?_; clear hs a; intro a hs
      refine a_val hs rfl rfl rfl (y_move hs rfl) ?_; clear hs a; intro a hs
      refine a_skip hs rfl rfl rfl ?_; clear hs a; intro a hs
      refine a_skip hs rfl rfl rfl ?_; clear hs a; intro a hs
      refine a_skip hs rfl rfl rfl ?_; clear hs a; intro a hs
      refine a_val hs rfl rfl rfl (y_pickF hs rfl rfl rfl) ?_; clear hs a; intro a hs
      refine a_val hs rfl rfl rfl (y_assign hs rfl) ?_; clear hs a; intro a hs
      refine wpList_nil (then_normal ?_)
      refine wp_ret ?_
      refine fin_ret hs (.tmp (hs.slots _ _ rfl) .nil) ⟨?_, hs.mem.base⟩
      first | (rw [show noExprB x = false from decide_eq_false (by omega)]; rfl) | (rw [show noExprB x = (x.f5 == 0) from by unfold noExprB; rw [Bool.eq_iff_iff]; simp only [decide_eq_true_eq, beq_iff_eq]; omega]; rfl)
  · replace h6 := ne_of_beq_false h6
    refine a_skip hs rfl rfl rfl ?_; clear hs a; intro a hs
    refine a_skip hs rfl rfl rfl ?_; clear hs a; intro a hs
    refine a_skip hs rfl rfl rfl ?_; clear hs a; intro a hs
    refine a_val hs rfl rfl rfl (y_pickF hs rfl rfl rfl) ?_; clear hs a; intro a hs
    refine a_val hs rfl rfl rfl (y_move hs rfl) ?_; clear hs a; intro a hs
    refine a_skip hs rfl rfl rfl ?_; clear hs a; intro a hs
    refine a_skip hs rfl rfl rfl ?_; clear hs a; intro a hs
    refine a_skip hs rfl rfl rfl ?_; clear hs a; intro a hs
    refine a_val hs rfl rfl rfl (y_pickF hs rfl rfl rfl) ?_; clear hs a; intro a hs
    refine a_val hs rfl rfl rfl (y_move hs rfl) ?_; clear hs a; intro a hs
    refine a_skip hs rfl rfl rfl ?_; clear hs a; intro a hs
    refine a_skip hs rfl rfl rfl ?_; clear hs a; intro a hs
    refine a_skip hs rfl rfl rfl ?_; clear hs a; intro a hs
    refine a_skip hs rfl rfl rfl ?_; clear hs a; intro a hs
    refine a_val hs rfl rfl rfl (y_pickF hs rfl rfl rfl) ?_; clear hs a; intro a hs
    refine a_val hs rfl rfl rfl (y_move hs rfl) ?_; clear hs a; intro a hs
    refine a_skip hs rfl rfl rfl ?_; clear hs a; intro a hs
    refine a_skip hs rfl rfl rfl ?_; clear hs a; intro a hs
    refine a_skip hs rfl rfl rfl ?_; clear hs a; intro a hs
    refine a_val hs rfl rfl rfl (y_pickF hs rfl rfl rfl) ?_; clear hs a; intro a hs
    refine a_val hs rfl rfl rfl (y_move hs rfl) ?_; clear hs a; intro a hs
    refine a_skip hs rfl rfl rfl ?_; clear hs a; intro a hs
    refine a_skip hs rfl rfl rfl ?_; clear hs a; intro a hs
    refine a_skip hs rfl rfl rfl ?_; clear hs a; intro a hs
    refine a_val hs rfl rfl rfl (y_pickF hs rfl rfl rfl) ?_; clear hs a; intro a hs
    refine a_val hs rfl rfl rfl (y_assign hs rfl) ?_; clear hs a; intro a hs
    refine wpList_nil (then_normal ?_)
    refine wp_ret ?_
    refine fin_ret hs (.tmp (hs.slots _ _ rfl) .nil) ⟨?_, hs.mem.base⟩
    first | (rw [show noExprB x = false from decide_eq_false (by omega)]; rfl) | (rw [show noExprB x = (x.f5 == 0) from by unfold noExprB; rw [Bool.eq_iff_iff]; simp only [decide_eq_true_eq, beq_iff_eq]; omega]; rfl)
set_option maxRecDepth 100000 in
theorem ref_noShape (s : XS) (A2 A3 A4 : Option Addr) (c2 c3 c4 : Nat) (v0 : World) :
    Calls Tryd.prog 72 #[.agg #[.int .u8 s.f0, .string s.f1, .slice A2 s.f2.length c2, .slice A3 s.f3.length c3, .slice A4 s.f4.length c4, .int .i64 s.f5, .int .i64 s.f6]] v0 fun e w' => e = .returned (.bool (noShapeB s)) ∧ Below v0.heap.size v0 w' := by
  refine calls_enter (N := 39) (n := 38) (args := [.agg #[.int .u8 s.f0, .string s.f1, .slice A2 s.f2.length c2, .slice A3 s.f3.length c3, .slice A4 s.f4.length c4, .int .i64 s.f5, .int .i64 s.f6]]) Tryd.func72 rfl rfl rfl (H.init v0) (fun a hs => ?_)
  refine wp_seq ?_
  refine wp_region_lit ?_
  refine a_eff rfl (e_box (cs := #[_, _, _, _, _, _, _]) hs rfl rfl rfl ?_); clear hs a; intro gx a w hs
  refine a_val hs rfl rfl rfl (y_assign hs rfl) ?_; clear hs a; intro a hs
  refine wpList_nil (then_normal ?_)
  refine wp_seq ?_
  refine wp_region_lit ?_
  refine a_val hs rfl rfl rfl (y_faddr (k' := 5) 5 hs (by kernel_rfl) rfl rfl) ?_; clear hs a; intro a hs
  refine a_val hs rfl rfl rfl (y_load hs Tryd.underlying3 rfl rfl (fun w hw => (hw.to 0 rfl).cellV rfl)) ?_; clear hs a; intro a hs
  refine a_val hs rfl rfl rfl (y_cmp hs rfl rfl rfl) ?_; clear hs a; intro a hs
  refine a_val hs rfl rfl rfl (y_move hs rfl) ?_; clear hs a; intro a hs
  rcases hs.know (d := 6) rfl with ⟨h6, hs1⟩ | ⟨h6, hs1⟩ <;> replace hs := hs1 <;> clear hs1
  · replace h6 := eq_of_beq h6
    refine a_valG hs rfl rfl rfl (y_faddr (k' := 6) 6 hs (by kernel_rfl) rfl rfl) ?_; clear hs a; intro a hs
    refine a_valG hs rfl rfl rfl (y_load hs Tryd.underlying3 rfl rfl (fun w hw => (hw.to 0 rfl).cellV rfl)) ?_; clear hs a; intro a hs
    refine a_valG hs rfl rfl rfl (y_cmp hs rfl rfl rfl) ?_; clear hs a; intro a hs
    refine a_val hs rfl rfl rfl (y_pickT hs rfl rfl rfl) ?_; clear hs a; intro a hs
    refine a_val hs rfl rfl rfl (y_move hs rfl) ?_; clear hs a; intro a hs
    rcases hs.know (d := 11) rfl with ⟨h11, hs1⟩ | ⟨h11, hs1⟩ <;> replace hs := hs1 <;> clear hs1
    · replace h11 := eq_of_beq h11
      refine a_valG hs rfl rfl rfl (y_faddr (k' := 0) 0 hs (by kernel_rfl) rfl rfl) ?_; clear hs a; intro a hs
      refine a_valG hs rfl rfl rfl (y_load hs Tryd.underlying38 rfl rfl (fun w hw => (hw.to 0 rfl).cellV rfl)) ?_; clear hs a; intro a hs
      refine a_valG hs rfl rfl rfl (y_cmp hs rfl rfl rfl) ?_; clear hs a; intro a hs
      refine a_val hs rfl rfl rfl (y_pickT hs rfl rfl rfl) ?_; clear hs a; intro a hs
      refine a_val hs rfl rfl rfl (y_move hs rfl) ?_; clear hs a; intro a hs
      rcases hs.know (d := 16) rfl with ⟨h16, hs1⟩ | ⟨h16, hs1⟩ <;> replace hs := hs1 <;> clear hs1
      · replace h16 := eq_of_beq h16
        refine a_valG hs rfl rfl rfl (y_faddr (k' := 1) 1 hs (by kernel_rfl) rfl rfl) ?_; clear hs a; intro a hs
        refine a_valG hs rfl rfl rfl (y_load hs Tryd.underlying9 rfl rfl (fun w hw => (hw.to 0 rfl).cellV rfl)) ?_; clear hs a; intro a hs
        refine a_valG hs rfl rfl rfl (y_seqE hs rfl rfl) ?_; clear hs a; intro a hs
        refine a_val hs rfl rfl rfl (y_pickT hs rfl rfl rfl) ?_; clear hs a; intro a hs
        refine a_val hs rfl rfl rfl (y_move hs rfl) ?_; clear hs a; intro a hs
        rcases hs.know (d := 21) rfl with ⟨h21, hs1⟩ | ⟨h21, hs1⟩ <;> replace hs := hs1 <;> clear hs1
        · replace h21 := of_decide_eq_true h21
          refine a_valG hs rfl rfl rfl (y_faddr (k' := 2) 2 hs (by kernel_rfl) rfl rfl) ?_; clear hs a; intro a hs
          refine a_valG hs rfl rfl rfl (y_load hs Tryd.underlying23 rfl rfl (fun w hw => (hw.to 0 rfl).cellV rfl)) ?_; clear hs a; intro a hs
          refine a_valG hs rfl rfl rfl (y_lenL hs Tryd.underlying23 rfl) ?_; clear hs a; intro a hs
          refine a_valG hs rfl rfl rfl (y_cmp hs rfl rfl rfl) ?_; clear hs a; intro a hs
          refine a_val hs rfl rfl rfl (y_pickT hs rfl rfl rfl) ?_; clear hs a; intro a hs
          refine a_val hs rfl rfl rfl (y_move hs rfl) ?_; clear hs a; intro a hs
          rcases hs.know (d := 27) rfl with ⟨h27, hs1⟩ | ⟨h27, hs1⟩ <;> replace hs := hs1 <;> clear hs1
          · replace h27 := eq_of_beq h27
            refine a_valG hs rfl rfl rfl (y_faddr (k' := 3) 3 hs (by kernel_rfl) rfl rfl) ?_; clear hs a; intro a hs
            refine a_valG hs rfl rfl rfl (y_load hs Tryd.underlying39 rfl rfl (fun w hw => (hw.to 0 rfl).cellV rfl)) ?_; clear hs a; intro a hs
            refine a_valG hs rfl rfl rfl (y_lenL hs Tryd.underlying39 rfl) ?_; clear hs a; intro a hs
            refine a_valG hs rfl rfl rfl (y_cmp hs rfl rfl rfl) ?_; clear hs a; intro a hs
            refine a_val hs rfl rfl rfl (y_pickT hs rfl rfl rfl) ?_; clear hs a; intro a hs
            refine a_val hs rfl rfl rfl (y_move hs rfl) ?_; clear hs a; intro a hs
            rcases hs.know (d := 33) rfl with ⟨h33, hs1⟩ | ⟨h33, hs1⟩ <;> replace hs := hs1 <;> clear hs1
            · replace h33 := eq_of_beq h33
              refine a_valG hs rfl rfl rfl (y_faddr (k' := 4) 4 hs (by kernel_rfl) rfl rfl) ?_; clear hs a; intro a hs
              refine a_valG hs rfl rfl rfl (y_load hs Tryd.underlying40 rfl rfl (fun w hw => (hw.to 0 rfl).cellV rfl)) ?_; clear hs a; intro a hs
              refine a_valG hs rfl rfl rfl (y_lenL hs Tryd.underlying40 rfl) ?_; clear hs a; intro a hs
              refine a_valG hs rfl rfl rfl (y_cmp hs rfl rfl rfl) ?_; clear hs a; intro a hs
              refine a_val hs rfl rfl rfl (y_pickT hs rfl rfl rfl) ?_; clear hs a; intro a hs
              refine a_val hs rfl rfl rfl (y_assign hs rfl) ?_; clear hs a; intro a hs
              refine wpList_nil (then_normal ?_)
              refine wp_ret ?_
              refine fin_ret hs (.tmp (hs.slots _ _ rfl) .nil) ⟨?_, hs.mem.base⟩
              first | (rw [show noShapeB s = false from decide_eq_false (by omega)]; rfl) | (rw [show noShapeB s = ((s.f4.length : Int) == 0) from by unfold noShapeB; rw [Bool.eq_iff_iff]; simp only [decide_eq_true_eq, beq_iff_eq]; omega]; rfl)
            · replace h33 := ne_of_beq_false h33
              refine a_skip hs rfl rfl rfl ?_; clear hs a; intro a hs
              refine a_skip hs rfl rfl rfl ?_; clear hs a; intro a hs
              refine a_skip hs rfl rfl rfl ?_; clear hs a; intro a hs
              refine a_skip hs rfl rfl rfl ?_; clear hs a; intro a hs
              refine a_val hs rfl rfl rfl (y_pickF hs rfl rfl rfl) ?_; clear hs a; intro a hs
              refine a_val hs rfl rfl rfl (y_assign hs rfl) ?_; clear hs a; intro a hs
              refine wpList_nil (then_normal ?_)
              refine wp_ret ?_
              refine fin_ret hs (.tmp (hs.slots _ _ rfl) .nil) ⟨?_, hs.mem.base⟩
              first | (rw [show noShapeB s = false from decide_eq_false (by omega)]; rfl) | (rw [show noShapeB s = ((s.f4.length : Int) == 0) from by unfold noShapeB; rw [Bool.eq_iff_iff]; simp only [decide_eq_true_eq, beq_iff_eq]; omega]; rfl)
          · replace h27 := ne_of_beq_false h27
            refine a_skip hs rfl rfl rfl ?_; clear hs a; intro a hs
            refine a_skip hs rfl rfl rfl ?_; clear hs a; intro a hs
            refine a_skip hs rfl rfl rfl ?_; clear hs a; intro a hs
            refine a_skip hs rfl rfl rfl ?_; clear hs a; intro a hs
            refine a_val hs rfl rfl rfl (y_pickF hs rfl rfl rfl) ?_; clear hs a; intro a hs
            refine a_val hs rfl rfl rfl (y_move hs rfl) ?_; clear hs a; intro a hs
            refine a_skip hs rfl rfl rfl ?_; clear hs a; intro a hs
            refine a_skip hs rfl rfl rfl ?_; clear hs a; intro a hs
            refine a_skip hs rfl rfl rfl ?_; clear hs a; intro a hs
            refine a_skip hs rfl rfl rfl ?_; clear hs a; intro a hs
            refine a_val hs rfl rfl rfl (y_pickF hs rfl rfl rfl) ?_; clear hs a; intro a hs
            refine a_val hs rfl rfl rfl (y_assign hs rfl) ?_; clear hs a; intro a hs
            refine wpList_nil (then_normal ?_)
            refine wp_ret ?_
            refine fin_ret hs (.tmp (hs.slots _ _ rfl) .nil) ⟨?_, hs.mem.base⟩
            first | (rw [show noShapeB s = false from decide_eq_false (by omega)]; rfl) | (rw [show noShapeB s = ((s.f4.length : Int) == 0) from by unfold noShapeB; rw [Bool.eq_iff_iff]; simp only [decide_eq_true_eq, beq_iff_eq]; omega]; rfl)
        · replace h21 := of_decide_eq_false h21
          refine a_skip hs rfl rfl rfl ?_; clear hs a; intro a hs
          refine a_skip hs rfl rfl rfl ?_; clear hs a; intro a hs
          refine a_skip hs rfl rfl rfl ?_; clear hs a; intro a hs
          refine a_skip hs rfl rfl rfl ?_; clear hs a; intro a hs
          refine a_val hs rfl rfl rfl (y_pickF hs rfl rfl rfl) ?_; clear hs a; intro a hs
          refine a_val hs rfl rfl rfl (y_move hs rfl) ?_; clear hs a; intro a hs
          refine a_skip hs rfl rfl rfl ?_; clear hs a; intro a hs
          refine a_skip hs rfl rfl rfl ?_; clear hs a; intro a hs
          refine a_skip hs rfl rfl rfl ?_; clear hs a; intro a hs
          refine a_skip hs rfl rfl rfl ?_; clear hs a; intro a hs
          refine a_val hs rfl rfl rfl (y_pickF hs rfl rfl rfl) ?_; clear hs a; intro a hs
          refine a_val hs rfl rfl rfl (y_move hs rfl) ?_; clear hs a; intro a hs
          refine a_skip hs rfl rfl rfl ?_; clear hs a; intro a hs
          refine a_skip hs rfl rfl rfl ?_; clear hs a; intro a hs
          refine a_skip hs rfl rfl rfl ?_; clear hs a; intro a hs
          refine a_skip hs rfl rfl rfl ?_; clear hs a; intro a hs
          refine a_val hs rfl rfl rfl (y_pickF hs rfl rfl rfl) ?_; clear hs a; intro a hs
          refine a_val hs rfl rfl rfl (y_assign hs rfl) ?_; clear hs a; intro a hs
          refine wpList_nil (then_normal ?_)
          refine wp_ret ?_
          refine fin_ret hs (.tmp (hs.slots _ _ rfl) .nil) ⟨?_, hs.mem.base⟩
          first | (rw [show noShapeB s = false from decide_eq_false (by omega)]; rfl) | (rw [show noShapeB s = ((s.f4.length : Int) == 0) from by unfold noShapeB; rw [Bool.eq_iff_iff]; simp only [decide_eq_true_eq, beq_iff_eq]; omega]; rfl)
      · replace h16 := ne_of_beq_false h16
        refine a_skip hs rfl rfl rfl ?_; clear hs a; intro a hs
        refine a_skip hs rfl rfl rfl ?_; clear hs a; intro a hs
        refine a_skip hs rfl rfl rfl ?_; clear hs a; intro a hs
        refine a_val hs rfl rfl rfl (y_pickF hs rfl rfl rfl) ?_; clear hs a; intro a hs
        refine a_val hs rfl rfl rfl (y_move hs rfl) ?_; clear hs a; intro a hs
        refine a_skip hs rfl rfl rfl ?_; clear hs a; intro a hs
        refine a_skip hs rfl rfl rfl ?_; clear hs a; intro a hs
        refine a_skip hs rfl rfl rfl ?_; clear hs a; intro a hs
        refine a_skip hs rfl rfl rfl ?_; clear hs a; intro a hs
        refine a_val hs rfl rfl rfl (y_pickF hs rfl rfl rfl) ?_; clear hs a; intro a hs
        refine a_val hs rfl rfl rfl (y_move hs rfl) ?_; clear hs a; intro a hs
        refine a_skip hs rfl rfl rfl ?_; clear hs a; intro a hs
        refine a_skip hs rfl rfl rfl ?_; clear hs a; intro a hs
        refine a_skip hs rfl rfl rfl ?_; clear hs a; intro a hs
        refine a_skip hs rfl rfl rfl ?_; clear hs a; intro a hs
        refine a_val hs rfl rfl rfl (y_pickF hs rfl rfl rfl) ?_; clear hs a; intro a hs
        refine a_val hs rfl rfl rfl (y_move hs rfl) ?_; clear hs a; intro a hs
        refine a_skip hs rfl rfl rfl ?_; clear hs a; intro a hs
        refine a_skip hs rfl rfl rfl ?_; clear hs a; intro a hs
        refine a_skip hs rfl rfl rfl ?_; clear hs a; intro a hs
        refine a_skip hs rfl rfl rfl ?_; clear hs a; intro a hs
        refine a_val hs rfl rfl rfl (y_pickF hs rfl rfl rfl) ?_; clear hs a; intro a hs
        refine a_val hs rfl rfl rfl (y_assign hs rfl) ?_; clear hs a; intro a hs
        refine wpList_nil (then_normal ?_)
        refine wp_ret ?_
        refine fin_ret hs (.tmp (hs.slots _ _ rfl) .nil) ⟨?_, hs.mem.base⟩
        first | (rw [show noShapeB s = false from decide_eq_false (by omega)]; rfl) | (rw [show noShapeB s = ((s.f4.length : Int) == 0) from by unfold noShapeB; rw [Bool.eq_iff_iff]; simp only [decide_eq_true_eq, beq_iff_eq]; omega]; rfl)
    · replace h11 := ne_of_beq_false h11
      refine a_skip hs rfl rfl rfl ?_; clear hs a; intro a hs
      refine a_skip hs rfl rfl rfl ?_; clear hs a; intro a hs
      refine a_skip hs rfl rfl rfl ?_; clear hs a; intro a hs
      refine a_val hs rfl rfl rfl (y_pickF hs rfl rfl rfl) ?_; clear hs a; intro a hs
      refine a_val hs rfl rfl rfl (y_move hs rfl) ?_; clear hs a; intro a hs
      refine a_skip hs rfl rfl rfl ?_; clear hs a; intro a hs
      refine a_skip hs rfl rfl rfl ?_; clear hs a; intro a hs
      refine a_skip hs rfl rfl rfl ?_; clear hs a; intro a hs
      refine a_val hs rfl rfl rfl (y_pickF hs rfl rfl rfl) ?_; clear hs a; intro a hs
      refine a_val hs rfl rfl rfl (y_move hs rfl) ?_; clear hs a; intro a hs
      refine a_skip hs rfl rfl rfl ?_; clear hs a; intro a hs
      refine a_skip hs rfl rfl rfl ?_; clear hs a; intro a hs
      refine a_skip hs rfl rfl rfl ?_; clear hs a; intro a hs
      refine a_skip hs rfl rfl rfl ?_; clear hs a; intro a hs
      refine a_val hs rfl rfl rfl (y_pickF hs rfl rfl rfl) ?_; clear hs a; intro a hs
      refine a_val hs rfl rfl rfl (y_move hs rfl) ?_; clear hs a; intro a hs
      refine a_skip hs rfl rfl rfl ?_; clear hs a; intro a hs
      refine a_skip hs rfl rfl rfl ?_; clear hs a; intro a hs
      refine a_skip hs rfl rfl rfl ?_; clear hs a; intro a hs
      refine a_skip hs rfl rfl rfl ?_; clear hs a; intro a hs
      refine a_val hs rfl rfl rfl (y_pickF hs rfl rfl rfl) ?_; clear hs a; intro a hs
      refine a_val hs rfl rfl rfl (y_move hs rfl) ?_; clear hs a; intro a hs
      refine a_skip hs rfl rfl rfl ?_; clear hs a; intro a hs
      refine a_skip hs rfl rfl rfl ?_; clear hs a; intro a hs
      refine a_skip hs rfl rfl rfl ?_; clear hs a; intro a hs
      refine a_skip hs rfl rfl rfl ?_; clear hs a; intro a hs
      refine a_val hs rfl rfl rfl (y_pickF hs rfl rfl rfl) ?_; clear hs a; intro a hs
      refine a_val hs rfl rfl rfl (y_assign hs rfl) ?_; clear hs a; intro a hs
      refine wpList_nil (then_normal ?_)
      refine wp_ret ?_
      refine fin_ret hs (.tmp (hs.slots _ _ rfl) .nil) ⟨?_, hs.mem.base⟩
      first | (rw [show noShapeB s = false from decide_eq_false (by omega)]; rfl) | (rw [show noShapeB s = ((s.f4.length : Int) == 0) from by unfold noShapeB; rw [Bool.eq_iff_iff]; simp only [decide_eq_true_eq, beq_iff_eq]; omega]; rfl)
  · replace h6 := ne_of_beq_false h6
    refine a_skip hs rfl rfl rfl ?_; clear hs a; intro a hs
    refine a_skip hs rfl rfl rfl ?_; clear hs a; intro a hs
    refine a_skip hs rfl rfl rfl ?_; clear hs a; intro a hs
    refine a_val hs rfl rfl rfl (y_pickF hs rfl rfl rfl) ?_; clear hs a; intro a hs
    refine a_val hs rfl rfl rfl (y_move hs rfl) ?_; clear hs a; intro a hs
    refine a_skip hs rfl rfl rfl ?_; clear hs a; intro a hs
    refine a_skip hs rfl rfl rfl ?_; clear hs a; intro a hs
    refine a_skip hs rfl rfl rfl ?_; clear hs a; intro a hs
    refine a_val hs rfl rfl rfl (y_pickF hs rfl rfl rfl) ?_; clear hs a; intro a hs
    refine a_val hs rfl rfl rfl (y_move hs rfl) ?_; clear hs a; intro a hs
    refine a_skip hs rfl rfl rfl ?_; clear hs a; intro a hs
    refine a_skip hs rfl rfl rfl ?_; clear hs a; intro a hs
    refine a_skip hs rfl rfl rfl ?_; clear hs a; intro a hs
    refine a_val hs rfl rfl rfl (y_pickF hs rfl rfl rfl) ?_; clear hs a; intro a hs
    refine a_val hs rfl rfl rfl (y_move hs rfl) ?_; clear hs a; intro a hs
    refine a_skip hs rfl rfl rfl ?_; clear hs a; intro a hs
    refine a_skip hs rfl rfl rfl ?_; clear hs a; intro a hs
    refine a_skip hs rfl rfl rfl ?_; clear hs a; intro a hs
    refine a_skip hs rfl rfl rfl ?_; clear hs a; intro a hs
    refine a_val hs rfl rfl rfl (y_pickF hs rfl rfl rfl) ?_; clear hs a; intro a hs
    refine a_val hs rfl rfl rfl (y_move hs rfl) ?_; clear hs a; intro a hs
    refine a_skip hs rfl rfl rfl ?_; clear hs a; intro a hs
    refine a_skip hs rfl rfl rfl ?_; clear hs a; intro a hs
    refine a_skip hs rfl rfl rfl ?_; clear hs a; intro a hs
    refine a_skip hs rfl rfl rfl ?_; clear hs a; intro a hs
    refine a_val hs rfl rfl rfl (y_pickF hs rfl rfl rfl) ?_; clear hs a; intro a hs
    refine a_val hs rfl rfl rfl (y_move hs rfl) ?_; clear hs a; intro a hs
    refine a_skip hs rfl rfl rfl ?_; clear hs a; intro a hs
    refine a_skip hs rfl rfl rfl ?_; clear hs a; intro a hs
    refine a_skip hs rfl rfl rfl ?_; clear hs a; intro a hs
    refine a_skip hs rfl rfl rfl ?_; clear hs a; intro a hs
    refine a_val hs rfl rfl rfl (y_pickF hs rfl rfl rfl) ?_; clear hs a; intro a hs
    refine a_val hs rfl rfl rfl (y_assign hs rfl) ?_; clear hs a; intro a hs
    refine wpList_nil (then_normal ?_)
    refine wp_ret ?_
    refine fin_ret hs (.tmp (hs.slots _ _ rfl) .nil) ⟨?_, hs.mem.base⟩
    first | (rw [show noShapeB s = false from decide_eq_false (by omega)]; rfl) | (rw [show noShapeB s = ((s.f4.length : Int) == 0) from by unfold noShapeB; rw [Bool.eq_iff_iff]; simp only [decide_eq_true_eq, beq_iff_eq]; omega]; rfl)
theorem refE_deep (x : XE) : 0 ≤ refE 16 x 8192 ↔ 0 < deepX x := by
  have h := xexpr_left 16 x 8192 (by decide)
  unfold refE deepX
  constructor
  · intro h0
    split at h0
    · omega
    · omega
  · intro h0
    rw [if_neg (by omega)]
    exact h.2.2 (by omega)
set_option maxRecDepth 100000 in
theorem ref_MayExpr (x : XE) (A : Option Addr) (C : Nat) (v0 : World) (hA : Kd.C k25 v0 A x.f3.length x.f3) (hsm : smallX 16 x) :
    Calls Tryd.prog 18 #[.agg #[.int .u8 x.f0, .int .i64 x.f1, .string x.f2, .slice A x.f3.length C, .int .i64 x.f4, .int .i64 x.f5]] v0 fun e w' => e = .returned (.bool (decide (0 < deepX x))) ∧ Below v0.heap.size v0 w' := by
  refine calls_enter (N := 6) (n := 5) (args := [.agg #[.int .u8 x.f0, .int .i64 x.f1, .string x.f2, .slice A x.f3.length C, .int .i64 x.f4, .int .i64 x.f5]]) Tryd.func18 rfl rfl rfl (H.init v0) (fun a hs => ?_)
  refine wp_seq ?_
  refine wp_region_lit ?_
  refine a_eff rfl (e_box (cs := #[_, _, _, _, _, _]) hs rfl rfl rfl ?_); clear hs a; intro gx a w hs
  refine a_val hs rfl rfl rfl (y_assign hs rfl) ?_; clear hs a; intro a hs
  refine wpList_nil (then_normal ?_)
  refine wp_seq ?_
  refine wp_region_lit ?_
  refine a_val hs rfl rfl rfl (y_loadPt 0 rfl hs Tryd.underlying25 rfl (by kernel_rfl) rfl) ?_; clear hs a; intro a hs
  refine a_eff rfl (e_callB Tryd.func42 rfl rfl hs rfl rfl (ref_expr 16 (by decide) x A C 8192 _ (Kd.C_below hA hs.mem.base) hsm (by omega)) ?_); clear hs a; intro a w hs
  refine a_val hs rfl rfl rfl (y_cmp (b := decide (0 < deepX x)) hs rfl rfl (congrArg some (decide_eq_decide.2 (by rw [ge_iff_le]; exact refE_deep x)))) ?_; clear hs a; intro a hs
  refine a_val hs rfl rfl rfl (y_assign hs rfl) ?_; clear hs a; intro a hs
  refine wpList_nil (then_normal ?_)
  refine wp_ret ?_
  refine fin_ret hs (.tmp (hs.slots _ _ rfl) .nil) ⟨rfl, hs.mem.base⟩
end Go.Proofs.YtibaidddhmdafaaDoor.E
end
section
namespace Go.Proofs.YtibaidddhmdafaaDoor.E
open Go Go.RowKit Go.Proofs.YtibaidddhmdafaaDoorW.PrintWords Go.Proofs.YtibaidddhmdafaaDoorW.PrintLast Go.Proofs.YtibaidddhmdafaaDoorW.PrintMore Go.Proofs.YtibaidddhmdafaaDoor.PA
set_option linter.unusedVariables false
set_option linter.unusedSimpArgs false
/-- How deep an expression of a shape that may be is. -/
def dX : Nat → XE → Nat
  | 0, _ => 0
  | n + 1, x => x.f3.foldl (fun d p => max d (dX n p)) 0 + 1
theorem fold_le {f : XE → Nat} {k : Nat} (hf : ∀ p, f p ≤ k) : ∀ (l : List XE) (d : Nat), d ≤ k → l.foldl (fun d p => max d (f p)) d ≤ k
  | [], d, h => h
  | p :: r, d, h => fold_le hf r (max d (f p)) (by have := hf p; omega)
theorem dX_le : ∀ (n : Nat) (x : XE), dX n x ≤ n
  | 0, _ => Nat.le_refl _
  | n + 1, x => by
    have := fold_le (fun p => dX_le n p) x.f3 0 (Nat.zero_le _)
    rw [dX]; omega
theorem xexprs_deep {f : XE → Int → Nat × Int} {g : XE → Nat} (hf : ∀ p l, (f p l).1 ≠ 0 → (f p l).1 = g p) : ∀ (l : List XE) (d : Nat) (left : Int), (xexprs f l d left).1 ≠ 0 → (xexprs f l d left).1 = l.foldl (fun d p => max d (g p)) d + 1
  | [], d, left, _ => rfl
  | p :: r, d, left, h => by
    rw [xexprs] at h ⊢
    split at h
    · exact absurd rfl h
    · rename_i h0
      rw [if_neg h0, xexprs_deep hf r _ _ h, hf p left h0]; rfl
theorem xexpr_deep : ∀ (n : Nat) (x : XE) (left : Int), (xexpr n x left).1 ≠ 0 → (xexpr n x left).1 = dX n x
  | 0, _, _, h => absurd rfl h
  | n + 1, x, left, h => by
    rw [xexpr] at h ⊢
    split at h
    · exact absurd rfl h
    · rename_i h1
      rw [if_neg h1]
      cases hE : exprParts x with
      | none => rw [hE] at h; exact absurd rfl h
      | some p =>
        rw [hE] at h
        simp only at h ⊢
        split at h
        · rename_i h2
          rw [if_pos h2]
          exact xexprs_deep (fun q l hq => xexpr_deep n q l hq) _ _ _ h
        · exact absurd rfl h
def DeepOk (n : Nat) : Prop := ∀ (x : XE) (A : Option Addr) (C : Nat) (v0 : World), Kd.C k25 v0 A x.f3.length x.f3 → shapeX n x →
    Calls Tryd.prog 19 #[.agg #[.int .u8 x.f0, .int .i64 x.f1, .string x.f2, .slice A x.f3.length C, .int .i64 x.f4, .int .i64 x.f5]] v0 fun e w' => e = .returned (.int .i64 ((dX n x : Nat) : Int)) ∧ Below v0.heap.size v0 w'
set_option maxRecDepth 100000 in
theorem ref_Deep_step (n : Nat) (hn : n ≤ 1000) (ih : ∀ q, q + 1 = n → DeepOk q) (x : XE) (A : Option Addr) (C : Nat) (v0 : World) (hA : Kd.C k25 v0 A x.f3.length x.f3) (hS : shapeX n x) :
    Calls Tryd.prog 19 #[.agg #[.int .u8 x.f0, .int .i64 x.f1, .string x.f2, .slice A x.f3.length C, .int .i64 x.f4, .int .i64 x.f5]] v0 fun e w' => e = .returned (.int .i64 ((dX n x : Nat) : Int)) ∧ Below v0.heap.size v0 w' := by
  refine calls_enter (N := 22) (n := 21) (args := [.agg #[.int .u8 x.f0, .int .i64 x.f1, .string x.f2, .slice A x.f3.length C, .int .i64 x.f4, .int .i64 x.f5]]) Tryd.func19 rfl rfl rfl (H.init v0) (fun a hs => ?_)
  obtain ⟨q, rfl⟩ : ∃ q, n = q + 1 := by cases n with | zero => exact hS.elim | succ q => exact ⟨q, rfl⟩
  obtain ⟨hp, hq⟩ := hS
  have hl2 := exprParts_le hp
  refine wp_seq ?_
  refine wp_region_lit ?_
  refine a_eff rfl (e_box (cs := #[_, _, _, _, _, _]) hs rfl rfl rfl ?_); clear hs a; intro gx a w hs
  refine a_val hs rfl rfl rfl (y_assign hs rfl) ?_; clear hs a; intro a hs
  refine wpList_nil (then_normal ?_)
  refine wp_seq ?_
  refine wp_region_lit ?_
  refine a_val hs rfl rfl rfl (y_assign hs rfl) ?_; clear hs a; intro a hs
  refine wpList_nil (then_normal ?_)
  refine wp_seq ?_
  refine wp_seq ?_
  refine wp_region_lit ?_
  refine a_val hs rfl rfl rfl (y_assign hs rfl) ?_; clear hs a; intro a hs
  refine wpList_nil (then_normal ?_)
  refine wp_block ?_
  refine wp_loopN (fun m a w1 => ∃ (i : Nat), (i + m = x.f3.length) ∧ ((x.f3.take i).foldl (fun d p => max d (dX q p)) 0 ≤ q) ∧ St 22 v0 [(1, .pointer (some ⟨gx, 0, none⟩)), (3, .int .i64 (((x.f3.take i).foldl (fun d p => max d (dX q p)) 0 : Nat) : Int)), (4, .int .i64 ((i : Nat) : Int))] [pt gx #[.int .u8 x.f0, .int .i64 x.f1, .string x.f2, .slice A x.f3.length C, .int .i64 x.f4, .int .i64 x.f5] 25] a w1) (x.f3.length) ⟨0, by omega, Nat.zero_le _, ?_⟩ (fun m a w1 hJ => ?_)
  · exact (hs.mem_to hs.mem).cut _ ⟨rfl, rfl, rfl, trivial⟩
  · clear hs
    obtain ⟨i, hi, hd, hs⟩ := hJ
    refine wp_seq ?_
    refine wp_seq ?_
    refine wp_region_lit ?_
    refine a_val hs rfl rfl rfl (y_move hs rfl) ?_; clear hs a; intro a hs
    refine a_val hs rfl rfl rfl (y_faddr (k' := 3) 3 hs (by kernel_rfl) rfl rfl) ?_; clear hs a; intro a hs
    refine a_val hs rfl rfl rfl (y_load hs Tryd.underlying23 rfl rfl (fun w hw => (hw.to 0 rfl).cellV rfl)) ?_; clear hs a; intro a hs
    refine a_val hs rfl rfl rfl (y_lenL hs Tryd.underlying23 rfl) ?_; clear hs a; intro a hs
    refine a_val hs rfl rfl rfl (y_cmp hs rfl rfl rfl) ?_; clear hs a; intro a hs
    refine wpList_nil (then_normal ?_)
    refine wp_cond_split (hs.ev rfl) (fun h9 => ?_) (fun h9 => ?_)
    · replace h9 := of_decide_eq_true h9
      obtain ⟨y, hy⟩ : ∃ y, x.f3[i]? = some y := ⟨_, List.getElem?_eq_getElem (by omega)⟩
      obtain ⟨g0, o, rfl, hcell⟩ := C_atG (show 0 < 6 by decide) hA (by omega)
      obtain ⟨cs, hK, hc⟩ := hcell i y hy
      obtain ⟨A0, c0, rfl, hlc, hC⟩ := k25_open hK
      have hnx : (x.f3.take (i + 1)).foldl (fun d p => max d (dX q p)) 0 = max ((x.f3.take i).foldl (fun d p => max d (dX q p)) 0) (dX q y) := by rw [List.take_add_one, hy, List.foldl_append]; rfl
      have hdl := dX_le q y
      refine wp_skip (then_normal ?_)
      refine wp_seq ?_
      refine wp_block ?_
      refine wp_region_lit ?_
      refine a_val hs rfl rfl rfl (y_move hs rfl) ?_; clear hs a; intro a hs
      refine a_val hs rfl rfl rfl (y_faddr (k' := 3) 3 hs (by kernel_rfl) rfl rfl) ?_; clear hs a; intro a hs
      refine a_val hs rfl rfl rfl (y_load hs Tryd.underlying23 rfl rfl (fun w hw => (hw.to 0 rfl).cellV rfl)) ?_; clear hs a; intro a hs
      refine a_val hs rfl rfl rfl (y_move hs rfl) ?_; clear hs a; intro a hs
      refine a_val hs rfl rfl rfl (y_idxB (size := 6) (off := o + i * 6) hs Tryd.underlying23 (by kernel_rfl) rfl rfl (by omega) (by omega) (by simp)) ?_; clear hs a; intro a hs
      refine a_val hs rfl rfl rfl (y_loadAgg (vs := [.int .u8 y.f0, .int .i64 y.f1, .string y.f2, .slice A0 y.f3.length c0, .int .i64 y.f4, .int .i64 y.f5]) hs Tryd.underlying25 rfl (by kernel_rfl) rfl (fun w hw k v hk => hc w hw.base k v hk)) ?_; clear hs a; intro a hs
      refine a_eff rfl (e_callB Tryd.func19 rfl rfl hs rfl rfl (ih q rfl y A0 c0 _ (Kd.C_below hC hs.mem.base) (hq y (List.mem_of_getElem? hy))) ?_); clear hs a; intro a w hs
      refine a_val hs rfl rfl rfl (y_max hs rfl rfl) ?_; clear hs a; intro a hs
      refine a_val hs rfl rfl rfl (y_assign hs rfl) ?_; clear hs a; intro a hs
      refine wpList_nil (in_normal (then_normal ?_))
      refine wp_region_lit ?_
      refine a_val hs rfl rfl rfl (y_move hs rfl) ?_; clear hs a; intro a hs
      refine a_val hs rfl rfl rfl (y_add hs rfl rfl (by omega)) ?_; clear hs a; intro a hs
      refine a_val hs rfl rfl rfl (y_assign hs rfl) ?_; clear hs a; intro a hs
      refine wpList_nil (then_normal ?_)
      replace hs := hs.say 3 rfl (congrArg (Value.int IntKind.i64) (show _ = (((x.f3.take (i + 1)).foldl (fun d p => max d (dX q p)) 0 : Nat) : Int) by rw [hnx]; split <;> omega))
      refine ⟨m - 1, by omega, i + 1, by omega, by rw [hnx]; omega, ?_⟩
      exact (hs.mem_to hs.mem).cut _ ⟨rfl, rfl, rfl, trivial⟩
    · replace h9 := of_decide_eq_false h9
      have hX : dX (q + 1) x = (x.f3.take i).foldl (fun d p => max d (dX q p)) 0 + 1 := by rw [List.take_of_length_le (by omega)]; rfl
      refine wp_exit (then_exit (then_exit (in_here (then_normal ?_))))
      refine wp_seq ?_
      refine wp_region_lit ?_
      refine a_val hs rfl rfl rfl (y_move hs rfl) ?_; clear hs a; intro a hs
      refine a_val hs rfl rfl rfl (y_add hs rfl rfl (by omega)) ?_; clear hs a; intro a hs
      refine a_val hs rfl rfl rfl (y_assign hs rfl) ?_; clear hs a; intro a hs
      refine wpList_nil (then_normal ?_)
      refine wp_ret ?_
      refine fin_ret hs (.tmp (hs.slots _ _ rfl) .nil) ⟨?_, hs.mem.base⟩
      rw [hX]; rfl
theorem ref_Deep : ∀ n : Nat, n ≤ 1000 → DeepOk n := fun n => by
  induction n using Nat.strongRecOn with
  | _ n ih => exact fun hn x A C v0 hA hS => ref_Deep_step n hn (fun q hq => ih q (by omega) (by omega)) x A C v0 hA hS
end Go.Proofs.YtibaidddhmdafaaDoor.E
end
section
namespace Go.Proofs.YtibaidddhmdafaaDoor.E
open Go Go.RowKit Go.Proofs.YtibaidddhmdafaaDoorW.PrintWords Go.Proofs.YtibaidddhmdafaaDoorW.PrintLast Go.Proofs.YtibaidddhmdafaaDoorW.PrintMore Go.Proofs.YtibaidddhmdafaaDoor.PA
set_option linter.unusedVariables false
set_option linter.unusedSimpArgs false
/-- What the reference answers where the walk tells whether, and what is left. -/
def refB (r : Bool × Int) : Int := if r.1 = true then r.2 else -1
theorem refB_bounds {r : Bool × Int} {l : Int} (h : fallsB r l) : -1 ≤ refB r ∧ refB r ≤ l := by
  obtain ⟨a, b, c⟩ := h
  unfold refB
  split
  · exact ⟨a, b⟩
  · exact ⟨Int.le_refl _, by omega⟩
theorem refL_B (l : List XE) (lf : Int) : refL l lf = refB (xlist stE l lf) := rfl
/-- A search over a list, and what follows it. -/
def xk {α : Type} (st : α → Int → Bool × Int) (l : List α) (k : Int → Bool × Int) (lf : Int) : Bool × Int := if (xlist st l lf).1 = true then k (xlist st l lf).2 else xlist st l lf
theorem xk_nil {α : Type} {st : α → Int → Bool × Int} {k : Int → Bool × Int} {lf : Int} : xk st [] k lf = k lf := rfl
theorem xk_cons {α : Type} {st : α → Int → Bool × Int} {p : α} {r : List α} {k : Int → Bool × Int} {lf : Int} : xk st (p :: r) k lf = if (st p lf).1 = true then xk st r k (st p lf).2 else (false, (st p lf).2) := by
  unfold xk
  rw [xlist]
  by_cases h : (st p lf).1 = true
  · rw [if_pos h, if_pos h]
  · rw [if_neg h, if_neg h, if_neg (by exact Bool.false_ne_true)]
theorem xk_true {α : Type} {st : α → Int → Bool × Int} {l : List α} {lf : Int} : xk st l (fun l => (true, l)) lf = xlist st l lf := by
  unfold xk
  split
  · rename_i h; exact Prod.ext h.symm rfl
  · rfl
theorem xb_next {r X : Bool × Int} {k : Int → Bool × Int} (hX : X = if r.1 = true then k r.2 else r) : 0 ≤ refB r → X = k (refB r) := by
  intro h
  unfold refB at h ⊢
  split at h
  · rename_i h1; rw [if_pos h1, hX, if_pos h1]
  · omega
theorem xb_stop {r X : Bool × Int} {k : Int → Bool × Int} {l : Int} (hX : X = if r.1 = true then k r.2 else r) (hf : fallsB r l) : refB r < 0 → X.1 = false ∧ refB r = -1 := by
  intro h
  unfold refB at h ⊢
  split at h
  · rename_i h1; have := hf.2.2 h1; omega
  · rename_i h1; rw [if_neg h1, hX, if_neg h1]; exact ⟨by simpa using h1, rfl⟩
theorem xk_next {α : Type} {st : α → Int → Bool × Int} {p : α} {r : List α} {k : Int → Bool × Int} {lf : Int} {X : Bool × Int} (hX : X = xk st (p :: r) k lf) : 0 ≤ refB (st p lf) → X = xk st r k (refB (st p lf)) := by
  intro h
  rw [xk_cons] at hX
  unfold refB at h ⊢
  split at h
  · rename_i h1; rw [if_pos h1, hX, if_pos h1]
  · omega
theorem xk_stop {α : Type} {st : α → Int → Bool × Int} {p : α} {r : List α} {k : Int → Bool × Int} {lf : Int} {X : Bool × Int} (hX : X = xk st (p :: r) k lf) (hf : fallsB (st p lf) lf) : refB (st p lf) < 0 → X.1 = false ∧ refB (st p lf) = -1 := by
  intro h
  rw [xk_cons] at hX
  unfold refB at h ⊢
  split at h
  · rename_i h1; have := hf.2.2 h1; omega
  · rename_i h1; rw [if_neg h1, hX, if_neg h1]; exact ⟨rfl, rfl⟩
theorem nameOk_nil {s : ByteArray} (h : s.size = 0) : nameOk s = false := by
  have h1 : s = ⟨#[]⟩ := by
    rcases s with ⟨d⟩
    have h2 : d.size = 0 := h
    rw [Array.size_eq_zero_iff.1 h2]
  subst h1; rfl
/-- What the reference's shape answers: the nodes that are left, or -1. -/
noncomputable def refS (n : Nat) (s : XS) (left : Int) : Int := refB (xshape n s left)
theorem refS_low {q : Nat} {s : XS} {left : Int} (h : left - 1 < 0) : refS (q + 1) s left = -1 := by
  unfold refS refB
  rw [xshape, if_pos h]; rfl
theorem refS_bad {q : Nat} {s : XS} {left : Int} (h : ¬ headS s ∨ s.f0 = 8 ∧ ¬ (1 ≤ s.f4.length ∧ s.f4.length ≤ 64)) : refS (q + 1) s left = -1 := by
  unfold refS refB
  rw [xshape]
  by_cases h1 : left - 1 < 0
  · rw [if_pos h1]; rfl
  · rw [if_neg h1]
    by_cases h2 : headS s
    · rcases h with h | ⟨h3, h4⟩
      · exact absurd h2 h
      · have hR : rowsS s (left - 1) = (false, left - 1) := by unfold rowsS rowsF; rw [if_pos h3, if_neg h4]
        rw [if_pos h2, hR, if_neg (show ¬ (false = true) from Bool.false_ne_true)]; rfl
    · rw [if_neg h2]; rfl
theorem shape_args {q : Nat} {s : XS} {left : Int} (hl : ¬ left - 1 < 0) (hH : headS s) (h8 : s.f0 = 8 → 1 ≤ s.f4.length ∧ s.f4.length ≤ 64) :
    xshape (q + 1) s left = if (xlist stE s.f2 (left - 1)).1 = true then xk stR s.f4 (xk (xshape q) s.f3 (fun l => (true, l))) (xlist stE s.f2 (left - 1)).2 else xlist stE s.f2 (left - 1) := by
  rw [xshape, if_neg hl, if_pos hH]
  obtain ⟨nm, a, p, r, h1, h2, h3, h4, h5, h6⟩ := hH
  by_cases hk : s.f0 = 8
  · have ha : s.f2 = [] := by
      rcases parts_cases h1 with ⟨rfl, rfl, rfl, rfl, hk1⟩ | ⟨rfl, rfl, rfl, rfl, hk1⟩ | ⟨rfl, rfl, rfl, rfl, hk1⟩ | ⟨rfl, rfl, rfl, rfl, hk1⟩ | ⟨rfl, rfl, rfl, rfl, hk1⟩
      all_goals first | omega | exact List.eq_nil_of_length_eq_zero h4
    have hR : ∀ l, rowsS s l = xlist stR s.f4 l := fun l => by unfold rowsS rowsF; rw [if_pos hk, if_pos (h8 hk)]
    rw [ha, hR]
    show _ = xk stR s.f4 _ (left - 1)
    unfold xk
    split
    · rw [if_pos (show (xlist stE [] (xlist stR s.f4 (left - 1)).2).1 = true from rfl)]
      exact xk_true.symm
    · rfl
  · have hr : s.f4 = [] := by
      rcases parts_cases h1 with ⟨rfl, rfl, rfl, rfl, hk1⟩ | ⟨rfl, rfl, rfl, rfl, hk1⟩ | ⟨rfl, rfl, rfl, rfl, hk1⟩ | ⟨rfl, rfl, rfl, rfl, hk1⟩ | ⟨rfl, rfl, rfl, rfl, hk1⟩
      all_goals first | omega | exact List.eq_nil_of_length_eq_zero (h6 rfl)
    have hR : ∀ l, rowsS s l = (true, l) := fun l => by unfold rowsS; rw [if_neg hk]
    rw [hr, hR, if_pos rfl]
    split
    · rw [xk_nil]; exact xk_true.symm
    · rfl
theorem shape_kinds {k : Int} {a : Prop} {na np : Nat} {l : Nat} (h : k = 1 ∧ a ∧ na = 0 ∧ np = 0 ∨ (k = 2 ∨ k = 3) ∧ na = 2 ∧ np = 0 ∨ (k = 4 ∨ k = 5) ∧ na = 3 ∧ np = 0 ∨ (k = 6 ∨ k = 7) ∧ na = 0 ∧ np = 2 ∨ k = 8 ∧ na = 0 ∧ np = 0 ∧ 1 ≤ l ∧ l ≤ 64) :
    k = 1 ∧ na = 0 ∧ np = 0 ∨ (k = 2 ∨ k = 3) ∧ na = 2 ∧ np = 0 ∨ (k = 4 ∨ k = 5) ∧ na = 3 ∧ np = 0 ∨ (k = 6 ∨ k = 7) ∧ na = 0 ∧ np = 2 ∨ k = 8 ∧ na = 0 ∧ np = 0 ∧ 1 ≤ l ∧ l ≤ 64 := by
  rcases h with ⟨h1, _, h2⟩ | h | h | h | h
  · exact .inl ⟨h1, h2⟩
  · exact .inr (.inl h)
  · exact .inr (.inr (.inl h))
  · exact .inr (.inr (.inr (.inl h)))
  · exact .inr (.inr (.inr (.inr h)))
def RefSOk (n : Nat) : Prop := ∀ (s : XS) (A2 A3 A4 : Option Addr) (c2 c3 c4 : Nat) (left : Int) (v0 : World), Kd.C k25 v0 A2 s.f2.length s.f2 → Kd.C k42 v0 A3 s.f3.length s.f3 → Kd.C (Kd.slice 25 k25) v0 A4 s.f4.length s.f4 → smallS n s → 0 ≤ left ∧ left ≤ 8192 → Calls Tryd.prog 46 #[.agg #[.int .u8 s.f0, .string s.f1, .slice A2 s.f2.length c2, .slice A3 s.f3.length c3, .slice A4 s.f4.length c4, .int .i64 s.f5, .int .i64 s.f6], .int .i64 left, .int .i64 ((n : Nat) : Int)] v0 fun e w' => e = .returned (.int .i64 (refS n s left)) ∧ Below v0.heap.size v0 w'
set_option maxRecDepth 100000 in
theorem ref_shape_step (n : Nat) (hn : n ≤ 1000) (ih : ∀ q, q + 1 = n → RefSOk q) (s : XS) (A2 A3 A4 : Option Addr) (c2 c3 c4 : Nat) (left : Int) (v0 : World) (hA2 : Kd.C k25 v0 A2 s.f2.length s.f2) (hA3 : Kd.C k42 v0 A3 s.f3.length s.f3) (hA4 : Kd.C (Kd.slice 25 k25) v0 A4 s.f4.length s.f4) (hsm : smallS n s) (hl : 0 ≤ left ∧ left ≤ 8192) :
    Calls Tryd.prog 46 #[.agg #[.int .u8 s.f0, .string s.f1, .slice A2 s.f2.length c2, .slice A3 s.f3.length c3, .slice A4 s.f4.length c4, .int .i64 s.f5, .int .i64 s.f6], .int .i64 left, .int .i64 ((n : Nat) : Int)] v0 fun e w' => e = .returned (.int .i64 (refS n s left)) ∧ Below v0.heap.size v0 w' := by
  refine calls_enter (N := 139) (n := 136) (args := [.agg #[.int .u8 s.f0, .string s.f1, .slice A2 s.f2.length c2, .slice A3 s.f3.length c3, .slice A4 s.f4.length c4, .int .i64 s.f5, .int .i64 s.f6], .int .i64 left, .int .i64 ((n : Nat) : Int)]) Tryd.func46 rfl rfl rfl (H.init v0) (fun a hs => ?_)
  have hcl2 := C_len hA2
  have hcl3 := C_len hA3
  have hcl4 := C_len hA4
  refine wp_seq ?_
  refine wp_region_lit ?_
  refine a_eff rfl (e_box (cs := #[_, _, _, _, _, _, _]) hs rfl rfl rfl ?_); clear hs a; intro gx a w hs
  refine a_val hs rfl rfl rfl (y_assign hs rfl) ?_; clear hs a; intro a hs
  refine wpList_nil (then_normal ?_)
  refine wp_seq ?_
  refine wp_region_lit ?_
  refine a_val hs rfl rfl rfl (y_move hs rfl) ?_; clear hs a; intro a hs
  refine a_val hs rfl rfl rfl (y_sub hs rfl rfl (by omega)) ?_; clear hs a; intro a hs
  refine a_val hs rfl rfl rfl (y_assign hs rfl) ?_; clear hs a; intro a hs
  refine wpList_nil (then_normal ?_)
  refine wp_seq ?_
  refine wp_seq ?_
  refine wp_region_lit ?_
  refine a_val hs rfl rfl rfl (y_move hs rfl) ?_; clear hs a; intro a hs
  refine a_val hs rfl rfl rfl (y_cmp hs rfl rfl rfl) ?_; clear hs a; intro a hs
  refine a_val hs rfl rfl rfl (y_move hs rfl) ?_; clear hs a; intro a hs
  rcases hs.know (d := 15) rfl with ⟨h15, hs1⟩ | ⟨h15, hs1⟩ <;> replace hs := hs1 <;> clear hs1
  · replace h15 := of_decide_eq_true h15
    refine a_skip hs rfl rfl rfl ?_; clear hs a; intro a hs
    refine a_skip hs rfl rfl rfl ?_; clear hs a; intro a hs
    refine a_val hs rfl rfl rfl (y_pickT hs rfl rfl rfl) ?_; clear hs a; intro a hs
    refine a_val hs rfl rfl rfl (y_move hs rfl) ?_; clear hs a; intro a hs
    refine a_skip hs rfl rfl rfl ?_; clear hs a; intro a hs
    refine a_skip hs rfl rfl rfl ?_; clear hs a; intro a hs
    refine a_skip hs rfl rfl rfl ?_; clear hs a; intro a hs
    refine a_skip hs rfl rfl rfl ?_; clear hs a; intro a hs
    refine a_skip hs rfl rfl rfl ?_; clear hs a; intro a hs
    refine a_skip hs rfl rfl rfl ?_; clear hs a; intro a hs
    refine a_skip hs rfl rfl rfl ?_; clear hs a; intro a hs
    refine a_val hs rfl rfl rfl (y_pickT hs rfl rfl rfl) ?_; clear hs a; intro a hs
    refine wpList_nil (then_normal ?_)
    refine wp_cond_true (hs.ev rfl) ?_
    refine wp_seq ?_
    refine wp_region_lit ?_
    refine a_val hs rfl rfl rfl (y_assign hs rfl) ?_; clear hs a; intro a hs
    refine wpList_nil (then_normal ?_)
    refine wp_ret (then_ret ?_)
    have hX : refS n s left = -1 := by
      cases n with
      | zero => rfl
      | succ q => exact refS_low (by omega)
    refine fin_ret hs (.tmp (hs.slots _ _ rfl) .nil) ⟨?_, hs.mem.base⟩
    rw [hX]; rfl
  · replace h15 := of_decide_eq_false h15
    refine a_valG hs rfl rfl rfl (y_move hs rfl) ?_; clear hs a; intro a hs
    refine a_valG hs rfl rfl rfl (y_cmp hs rfl rfl rfl) ?_; clear hs a; intro a hs
    refine a_val hs rfl rfl rfl (y_pickF hs rfl rfl rfl) ?_; clear hs a; intro a hs
    refine a_val hs rfl rfl rfl (y_move hs rfl) ?_; clear hs a; intro a hs
    rcases hs.know (d := 19) rfl with ⟨h19, hs1⟩ | ⟨h19, hs1⟩ <;> replace hs := hs1 <;> clear hs1
    · replace h19 := eq_of_beq h19
      refine a_skip hs rfl rfl rfl ?_; clear hs a; intro a hs
      refine a_skip hs rfl rfl rfl ?_; clear hs a; intro a hs
      refine a_skip hs rfl rfl rfl ?_; clear hs a; intro a hs
      refine a_skip hs rfl rfl rfl ?_; clear hs a; intro a hs
      refine a_skip hs rfl rfl rfl ?_; clear hs a; intro a hs
      refine a_skip hs rfl rfl rfl ?_; clear hs a; intro a hs
      refine a_skip hs rfl rfl rfl ?_; clear hs a; intro a hs
      refine a_val hs rfl rfl rfl (y_pickT hs rfl rfl rfl) ?_; clear hs a; intro a hs
      refine wpList_nil (then_normal ?_)
      refine wp_cond_true (hs.ev rfl) ?_
      refine wp_seq ?_
      refine wp_region_lit ?_
      refine a_val hs rfl rfl rfl (y_assign hs rfl) ?_; clear hs a; intro a hs
      refine wpList_nil (then_normal ?_)
      refine wp_ret (then_ret ?_)
      have hX : refS n s left = -1 := by
        cases n with
        | zero => rfl
        | succ q => exact refS_low (by omega)
      refine fin_ret hs (.tmp (hs.slots _ _ rfl) .nil) ⟨?_, hs.mem.base⟩
      rw [hX]; rfl
    · replace h19 := ne_of_beq_false h19
      refine a_valG hs rfl rfl rfl (y_faddr (k' := 0) 0 hs (by kernel_rfl) rfl rfl) ?_; clear hs a; intro a hs
      refine a_valG hs rfl rfl rfl (y_load hs Tryd.underlying38 rfl rfl (fun w hw => (hw.to 0 rfl).cellV rfl)) ?_; clear hs a; intro a hs
      refine a_valG hs rfl rfl rfl (y_cmp hs rfl rfl rfl) ?_; clear hs a; intro a hs
      refine a_valG hs rfl rfl rfl (y_faddr (k' := 1) 1 hs (by kernel_rfl) rfl rfl) ?_; clear hs a; intro a hs
      refine a_valG hs rfl rfl rfl (y_load hs Tryd.underlying9 rfl rfl (fun w hw => (hw.to 0 rfl).cellV rfl)) ?_; clear hs a; intro a hs
      refine a_valG hs rfl rfl rfl (y_sneE hs rfl rfl) ?_; clear hs a; intro a hs
      refine a_valG hs rfl rfl rfl (y_bne hs Tryd.underlying4 rfl rfl) ?_; clear hs a; intro a hs
      refine a_val hs rfl rfl rfl (y_pickF hs rfl rfl rfl) ?_; clear hs a; intro a hs
      refine wpList_nil (then_normal ?_)
      refine wp_cond_split (hs.ev rfl) (fun h27 => ?_) (fun h27 => ?_)
      · have h27' : ¬ (s.f0 = 1 ↔ ¬ s.f1.size = 0) := by clear hs; have h27c := h27; simp only [Bool.not_eq_true', Bool.not_eq_false', beq_eq_false_iff_ne, beq_iff_eq, ne_eq] at h27c; rw [Bool.eq_iff_iff] at h27c; simp only [beq_iff_eq, decide_eq_true_eq] at h27c; exact h27c
        refine wp_seq ?_
        refine wp_region_lit ?_
        refine a_val hs rfl rfl rfl (y_assign hs rfl) ?_; clear hs a; intro a hs
        refine wpList_nil (then_normal ?_)
        refine wp_ret (then_ret ?_)
        obtain ⟨q, rfl⟩ : ∃ q, n = q + 1 := ⟨n - 1, by omega⟩
        have hH : ¬ headS s := by
          clear hs
          rintro ⟨nm, a, p, r, h1, h2, h3, h4, h5, h6⟩
          rcases parts_cases h1 with ⟨rfl, rfl, rfl, rfl, hk1⟩ | ⟨rfl, rfl, rfl, rfl, hk1⟩ | ⟨rfl, rfl, rfl, rfl, hk1⟩ | ⟨rfl, rfl, rfl, rfl, hk1⟩ | ⟨rfl, rfl, rfl, rfl, hk1⟩
          all_goals first | omega | (have := h3 rfl; omega) | (have := h6 rfl; omega) | (have hz : ¬ s.f1.size = 0 := fun h0 => absurd h2 (by rw [nameOk_nil h0]; exact Bool.false_ne_true); omega) | (rw [h2] at h35; cases h35; done)
        have hX : refS (q + 1) s left = -1 := refS_bad (.inl hH)
        refine fin_ret hs (.tmp (hs.slots _ _ rfl) .nil) ⟨?_, hs.mem.base⟩
        rw [hX]; rfl
      · have h27' : s.f0 = 1 ↔ ¬ s.f1.size = 0 := by clear hs; have h27c := h27; simp only [Bool.not_eq_true', Bool.not_eq_false', beq_eq_false_iff_ne, beq_iff_eq, ne_eq] at h27c; rw [Bool.eq_iff_iff] at h27c; simp only [beq_iff_eq, decide_eq_true_eq] at h27c; exact h27c
        obtain ⟨q, rfl⟩ : ∃ q, n = q + 1 := ⟨n - 1, by omega⟩
        refine wp_skip (then_normal ?_)
        refine wp_seq ?_
        refine wp_region_lit ?_
        refine a_val hs rfl rfl rfl (y_assign hs rfl) ?_; clear hs a; intro a hs
        refine a_val hs rfl rfl rfl (y_assign hs rfl) ?_; clear hs a; intro a hs
        refine wpList_nil (then_normal ?_)
        refine wp_seq_cut (fun a w1 => ∃ (na np : Nat), (s.f0 = 1 ∧ nameOk s.f1 = true ∧ na = 0 ∧ np = 0 ∨ (s.f0 = 2 ∨ s.f0 = 3) ∧ na = 2 ∧ np = 0 ∨ (s.f0 = 4 ∨ s.f0 = 5) ∧ na = 3 ∧ np = 0 ∨ (s.f0 = 6 ∨ s.f0 = 7) ∧ na = 0 ∧ np = 2 ∨ s.f0 = 8 ∧ na = 0 ∧ np = 0 ∧ 1 ≤ s.f4.length ∧ s.f4.length ≤ 64) ∧ St 139 v0 [(1, .int .i64 (left - 1)), (2, .int .i64 ((q + 1 : Nat) : Int)), (3, .pointer (some ⟨gx, 0, none⟩)), (7, .int .i64 ((na : Nat) : Int)), (8, .int .i64 ((np : Nat) : Int))] [pt gx #[.int .u8 s.f0, .string s.f1, .slice A2 s.f2.length c2, .slice A3 s.f3.length c3, .slice A4 s.f4.length c4, .int .i64 s.f5, .int .i64 s.f6] 42] a w1) ?_ (fun a w1 hJ => ?_)
        · refine wp_seq ?_
          refine wp_region_lit ?_
          refine a_val hs rfl rfl rfl (y_faddr (k' := 0) 0 hs (by kernel_rfl) rfl rfl) ?_; clear hs a; intro a hs
          refine a_val hs rfl rfl rfl (y_load hs Tryd.underlying38 rfl rfl (fun w hw => (hw.to 0 rfl).cellV rfl)) ?_; clear hs a; intro a hs
          refine wpList_nil (then_normal ?_)
          refine wp_block ?_
          refine wp_seq ?_
          refine wp_region_lit ?_
          refine a_val hs rfl rfl rfl (y_cmp hs rfl rfl rfl) ?_; clear hs a; intro a hs
          refine a_val hs rfl rfl rfl (y_assign hs rfl) ?_; clear hs a; intro a hs
          refine wpList_nil (then_normal ?_)
          refine wp_cond_split (hs.ev rfl) (fun h30 => ?_) (fun h30 => ?_)
          · replace h30 := eq_of_beq h30
            refine wp_seq ?_
            refine wp_region_lit ?_
            refine a_val hs rfl rfl rfl (y_faddr (k' := 1) 1 hs (by kernel_rfl) rfl rfl) ?_; clear hs a; intro a hs
            refine a_val hs rfl rfl rfl (y_load hs Tryd.underlying9 rfl rfl (fun w hw => (hw.to 0 rfl).cellV rfl)) ?_; clear hs a; intro a hs
            refine a_eff rfl (e_callB Tryd.func70 rfl rfl hs rfl rfl (recoupref09_Name.calls _ s.f1 (nameOk s.f1) _ (refName s.f1 hsm.1)) ?_); clear hs a; intro a w hs
            refine a_val hs rfl rfl rfl (y_not hs rfl) ?_; clear hs a; intro a hs
            refine wpList_nil (then_normal ?_)
            refine wp_cond_split (hs.ev rfl) (fun h35 => ?_) (fun h35 => ?_)
            · replace h35 := (not_t h35)
              refine wp_seq ?_
              refine wp_region_lit ?_
              refine a_val hs rfl rfl rfl (y_assign hs rfl) ?_; clear hs a; intro a hs
              refine wpList_nil (then_normal ?_)
              refine wp_ret (in_ret (then_ret ?_))
              have hH : ¬ headS s := by
                clear hs
                rintro ⟨nm, a, p, r, h1, h2, h3, h4, h5, h6⟩
                rcases parts_cases h1 with ⟨rfl, rfl, rfl, rfl, hk1⟩ | ⟨rfl, rfl, rfl, rfl, hk1⟩ | ⟨rfl, rfl, rfl, rfl, hk1⟩ | ⟨rfl, rfl, rfl, rfl, hk1⟩ | ⟨rfl, rfl, rfl, rfl, hk1⟩
                all_goals first | omega | (have := h3 rfl; omega) | (have := h6 rfl; omega) | (have hz : ¬ s.f1.size = 0 := fun h0 => absurd h2 (by rw [nameOk_nil h0]; exact Bool.false_ne_true); omega) | (rw [h2] at h35; cases h35; done)
              have hX : refS (q + 1) s left = -1 := refS_bad (.inl hH)
              refine fin_ret hs (.tmp (hs.slots _ _ rfl) .nil) ⟨?_, hs.mem.base⟩
              rw [hX]; rfl
            · replace h35 := (not_f h35)
              refine wp_skip (in_normal (then_normal ?_))
              refine ⟨0, 0, .inl ⟨by omega, by rw [h35], rfl, rfl⟩, ?_⟩
              exact (hs.mem_to hs.mem).cut _ ⟨rfl, rfl, rfl, rfl, rfl, trivial⟩
          · replace h30 := ne_of_beq_false h30
            refine wp_seq ?_
            refine wp_seq ?_
            refine wp_region_lit ?_
            refine a_val hs rfl rfl rfl (y_cmp hs rfl rfl rfl) ?_; clear hs a; intro a hs
            refine a_val hs rfl rfl rfl (y_assign hs rfl) ?_; clear hs a; intro a hs
            refine wpList_nil (then_normal ?_)
            refine wp_cond_split (hs.ev rfl) (fun h36 => ?_) (fun h36 => ?_)
            · replace h36 := eq_of_beq h36
              replace hs := hs.say 36 rfl (congrArg Value.bool (beq_iff_eq.2 h36))
              refine wp_skip (then_normal ?_)
              refine wp_cond_true (hs.ev rfl) ?_
              refine wp_region_lit ?_
              refine a_val hs rfl rfl rfl (y_assign hs rfl) ?_; clear hs a; intro a hs
              refine wpList_nil (in_normal (then_normal ?_))
              refine ⟨2, 0, .inr (.inl ⟨by omega, rfl, rfl⟩), ?_⟩
              exact (hs.mem_to hs.mem).cut _ ⟨rfl, rfl, rfl, rfl, rfl, trivial⟩
            · replace h36 := ne_of_beq_false h36
              replace hs := hs.say 36 rfl (congrArg Value.bool (beq_eq_false_iff_ne.2 h36))
              refine wp_region_lit ?_
              refine a_val hs rfl rfl rfl (y_cmp hs rfl rfl rfl) ?_; clear hs a; intro a hs
              refine a_val hs rfl rfl rfl (y_assign hs rfl) ?_; clear hs a; intro a hs
              refine wpList_nil (then_normal ?_)
              refine wp_cond_split (hs.ev rfl) (fun h36 => ?_) (fun h36 => ?_)
              · replace h36 := eq_of_beq h36
                replace hs := hs.say 36 rfl (congrArg Value.bool (beq_iff_eq.2 h36))
                refine wp_region_lit ?_
                refine a_val hs rfl rfl rfl (y_assign hs rfl) ?_; clear hs a; intro a hs
                refine wpList_nil (in_normal (then_normal ?_))
                refine ⟨2, 0, .inr (.inl ⟨by omega, rfl, rfl⟩), ?_⟩
                exact (hs.mem_to hs.mem).cut _ ⟨rfl, rfl, rfl, rfl, rfl, trivial⟩
              · replace h36 := ne_of_beq_false h36
                replace hs := hs.say 36 rfl (congrArg Value.bool (beq_eq_false_iff_ne.2 h36))
                refine wp_seq ?_
                refine wp_seq ?_
                refine wp_region_lit ?_
                refine a_val hs rfl rfl rfl (y_cmp hs rfl rfl rfl) ?_; clear hs a; intro a hs
                refine a_val hs rfl rfl rfl (y_assign hs rfl) ?_; clear hs a; intro a hs
                refine wpList_nil (then_normal ?_)
                refine wp_cond_split (hs.ev rfl) (fun h39 => ?_) (fun h39 => ?_)
                · replace h39 := eq_of_beq h39
                  replace hs := hs.say 39 rfl (congrArg Value.bool (beq_iff_eq.2 h39))
                  refine wp_skip (then_normal ?_)
                  refine wp_cond_true (hs.ev rfl) ?_
                  refine wp_region_lit ?_
                  refine a_val hs rfl rfl rfl (y_assign hs rfl) ?_; clear hs a; intro a hs
                  refine wpList_nil (in_normal (then_normal ?_))
                  refine ⟨3, 0, .inr (.inr (.inl ⟨by omega, rfl, rfl⟩)), ?_⟩
                  exact (hs.mem_to hs.mem).cut _ ⟨rfl, rfl, rfl, rfl, rfl, trivial⟩
                · replace h39 := ne_of_beq_false h39
                  replace hs := hs.say 39 rfl (congrArg Value.bool (beq_eq_false_iff_ne.2 h39))
                  refine wp_region_lit ?_
                  refine a_val hs rfl rfl rfl (y_cmp hs rfl rfl rfl) ?_; clear hs a; intro a hs
                  refine a_val hs rfl rfl rfl (y_assign hs rfl) ?_; clear hs a; intro a hs
                  refine wpList_nil (then_normal ?_)
                  refine wp_cond_split (hs.ev rfl) (fun h39 => ?_) (fun h39 => ?_)
                  · replace h39 := eq_of_beq h39
                    replace hs := hs.say 39 rfl (congrArg Value.bool (beq_iff_eq.2 h39))
                    refine wp_region_lit ?_
                    refine a_val hs rfl rfl rfl (y_assign hs rfl) ?_; clear hs a; intro a hs
                    refine wpList_nil (in_normal (then_normal ?_))
                    refine ⟨3, 0, .inr (.inr (.inl ⟨by omega, rfl, rfl⟩)), ?_⟩
                    exact (hs.mem_to hs.mem).cut _ ⟨rfl, rfl, rfl, rfl, rfl, trivial⟩
                  · replace h39 := ne_of_beq_false h39
                    replace hs := hs.say 39 rfl (congrArg Value.bool (beq_eq_false_iff_ne.2 h39))
                    refine wp_seq ?_
                    refine wp_seq ?_
                    refine wp_region_lit ?_
                    refine a_val hs rfl rfl rfl (y_cmp hs rfl rfl rfl) ?_; clear hs a; intro a hs
                    refine a_val hs rfl rfl rfl (y_assign hs rfl) ?_; clear hs a; intro a hs
                    refine wpList_nil (then_normal ?_)
                    refine wp_cond_split (hs.ev rfl) (fun h42 => ?_) (fun h42 => ?_)
                    · replace h42 := eq_of_beq h42
                      replace hs := hs.say 42 rfl (congrArg Value.bool (beq_iff_eq.2 h42))
                      refine wp_skip (then_normal ?_)
                      refine wp_cond_true (hs.ev rfl) ?_
                      refine wp_region_lit ?_
                      refine a_val hs rfl rfl rfl (y_assign hs rfl) ?_; clear hs a; intro a hs
                      refine wpList_nil (in_normal (then_normal ?_))
                      refine ⟨0, 2, .inr (.inr (.inr (.inl ⟨by omega, rfl, rfl⟩))), ?_⟩
                      exact (hs.mem_to hs.mem).cut _ ⟨rfl, rfl, rfl, rfl, rfl, trivial⟩
                    · replace h42 := ne_of_beq_false h42
                      replace hs := hs.say 42 rfl (congrArg Value.bool (beq_eq_false_iff_ne.2 h42))
                      refine wp_region_lit ?_
                      refine a_val hs rfl rfl rfl (y_cmp hs rfl rfl rfl) ?_; clear hs a; intro a hs
                      refine a_val hs rfl rfl rfl (y_assign hs rfl) ?_; clear hs a; intro a hs
                      refine wpList_nil (then_normal ?_)
                      refine wp_cond_split (hs.ev rfl) (fun h42 => ?_) (fun h42 => ?_)
                      · replace h42 := eq_of_beq h42
                        replace hs := hs.say 42 rfl (congrArg Value.bool (beq_iff_eq.2 h42))
                        refine wp_region_lit ?_
                        refine a_val hs rfl rfl rfl (y_assign hs rfl) ?_; clear hs a; intro a hs
                        refine wpList_nil (in_normal (then_normal ?_))
                        refine ⟨0, 2, .inr (.inr (.inr (.inl ⟨by omega, rfl, rfl⟩))), ?_⟩
                        exact (hs.mem_to hs.mem).cut _ ⟨rfl, rfl, rfl, rfl, rfl, trivial⟩
                      · replace h42 := ne_of_beq_false h42
                        replace hs := hs.say 42 rfl (congrArg Value.bool (beq_eq_false_iff_ne.2 h42))
                        refine wp_seq ?_
                        refine wp_region_lit ?_
                        refine a_val hs rfl rfl rfl (y_cmp hs rfl rfl rfl) ?_; clear hs a; intro a hs
                        refine a_val hs rfl rfl rfl (y_assign hs rfl) ?_; clear hs a; intro a hs
                        refine wpList_nil (then_normal ?_)
                        refine wp_cond_split (hs.ev rfl) (fun h45 => ?_) (fun h45 => ?_)
                        · replace h45 := eq_of_beq h45
                          refine wp_seq ?_
                          refine wp_region_lit ?_
                          refine a_val hs rfl rfl rfl (y_faddr (k' := 4) 4 hs (by kernel_rfl) rfl rfl) ?_; clear hs a; intro a hs
                          refine a_val hs rfl rfl rfl (y_load hs Tryd.underlying40 rfl rfl (fun w hw => (hw.to 0 rfl).cellV rfl)) ?_; clear hs a; intro a hs
                          refine a_val hs rfl rfl rfl (y_lenL hs Tryd.underlying40 rfl) ?_; clear hs a; intro a hs
                          refine a_val hs rfl rfl rfl (y_cmp hs rfl rfl rfl) ?_; clear hs a; intro a hs
                          refine a_val hs rfl rfl rfl (y_move hs rfl) ?_; clear hs a; intro a hs
                          rcases hs.know (d := 51) rfl with ⟨h51, hs1⟩ | ⟨h51, hs1⟩ <;> replace hs := hs1 <;> clear hs1
                          · replace h51 := of_decide_eq_true h51
                            refine a_skip hs rfl rfl rfl ?_; clear hs a; intro a hs
                            refine a_skip hs rfl rfl rfl ?_; clear hs a; intro a hs
                            refine a_skip hs rfl rfl rfl ?_; clear hs a; intro a hs
                            refine a_skip hs rfl rfl rfl ?_; clear hs a; intro a hs
                            refine a_val hs rfl rfl rfl (y_pickT hs rfl rfl rfl) ?_; clear hs a; intro a hs
                            refine wpList_nil (then_normal ?_)
                            refine wp_cond_true (hs.ev rfl) ?_
                            refine wp_seq ?_
                            refine wp_region_lit ?_
                            refine a_val hs rfl rfl rfl (y_assign hs rfl) ?_; clear hs a; intro a hs
                            refine wpList_nil (then_normal ?_)
                            refine wp_ret (in_ret (then_ret ?_))
                            have hX : refS (q + 1) s left = -1 := refS_bad (.inr (by omega))
                            refine fin_ret hs (.tmp (hs.slots _ _ rfl) .nil) ⟨?_, hs.mem.base⟩
                            rw [hX]; rfl
                          · replace h51 := of_decide_eq_false h51
                            refine a_valG hs rfl rfl rfl (y_faddr (k' := 4) 4 hs (by kernel_rfl) rfl rfl) ?_; clear hs a; intro a hs
                            refine a_valG hs rfl rfl rfl (y_load hs Tryd.underlying40 rfl rfl (fun w hw => (hw.to 0 rfl).cellV rfl)) ?_; clear hs a; intro a hs
                            refine a_valG hs rfl rfl rfl (y_lenL hs Tryd.underlying40 rfl) ?_; clear hs a; intro a hs
                            refine a_valG hs rfl rfl rfl (y_cmp hs rfl rfl rfl) ?_; clear hs a; intro a hs
                            refine a_val hs rfl rfl rfl (y_pickF hs rfl rfl rfl) ?_; clear hs a; intro a hs
                            refine wpList_nil (then_normal ?_)
                            refine wp_cond_split (hs.ev rfl) (fun h56 => ?_) (fun h56 => ?_)
                            · replace h56 := of_decide_eq_true h56
                              refine wp_seq ?_
                              refine wp_region_lit ?_
                              refine a_val hs rfl rfl rfl (y_assign hs rfl) ?_; clear hs a; intro a hs
                              refine wpList_nil (then_normal ?_)
                              refine wp_ret (in_ret (then_ret ?_))
                              have hX : refS (q + 1) s left = -1 := refS_bad (.inr (by omega))
                              refine fin_ret hs (.tmp (hs.slots _ _ rfl) .nil) ⟨?_, hs.mem.base⟩
                              rw [hX]; rfl
                            · replace h56 := of_decide_eq_false h56
                              refine wp_skip (in_normal (then_normal ?_))
                              refine ⟨0, 0, .inr (.inr (.inr (.inr (⟨by omega, rfl, rfl, by omega, by omega⟩)))), ?_⟩
                              exact (hs.mem_to hs.mem).cut _ ⟨rfl, rfl, rfl, rfl, rfl, trivial⟩
                        · replace h45 := ne_of_beq_false h45
                          refine wp_seq ?_
                          refine wp_region_lit ?_
                          refine a_val hs rfl rfl rfl (y_assign hs rfl) ?_; clear hs a; intro a hs
                          refine wpList_nil (then_normal ?_)
                          refine wp_ret (in_ret (then_ret ?_))
                          have hH : ¬ headS s := by
                            clear hs
                            rintro ⟨nm, a, p, r, h1, h2, h3, h4, h5, h6⟩
                            rcases parts_cases h1 with ⟨rfl, rfl, rfl, rfl, hk1⟩ | ⟨rfl, rfl, rfl, rfl, hk1⟩ | ⟨rfl, rfl, rfl, rfl, hk1⟩ | ⟨rfl, rfl, rfl, rfl, hk1⟩ | ⟨rfl, rfl, rfl, rfl, hk1⟩
                            all_goals first | omega | (have := h3 rfl; omega) | (have := h6 rfl; omega) | (have hz : ¬ s.f1.size = 0 := fun h0 => absurd h2 (by rw [nameOk_nil h0]; exact Bool.false_ne_true); omega) | (rw [h2] at h35; cases h35; done)
                          have hX : refS (q + 1) s left = -1 := refS_bad (.inl hH)
                          refine fin_ret hs (.tmp (hs.slots _ _ rfl) .nil) ⟨?_, hs.mem.base⟩
                          rw [hX]; rfl
        · clear hs
          obtain ⟨na, np, hk, hs⟩ := hJ
          have hk' := shape_kinds hk
          refine wp_seq ?_
          refine wp_seq ?_
          refine wp_region_lit ?_
          refine a_val hs rfl rfl rfl (y_faddr (k' := 2) 2 hs (by kernel_rfl) rfl rfl) ?_; clear hs a; intro a hs
          refine a_val hs rfl rfl rfl (y_load hs Tryd.underlying23 rfl rfl (fun w hw => (hw.to 0 rfl).cellV rfl)) ?_; clear hs a; intro a hs
          refine a_val hs rfl rfl rfl (y_lenL hs Tryd.underlying23 rfl) ?_; clear hs a; intro a hs
          refine a_val hs rfl rfl rfl (y_move hs rfl) ?_; clear hs a; intro a hs
          refine a_val hs rfl rfl rfl (y_cmp hs rfl rfl rfl) ?_; clear hs a; intro a hs
          refine a_val hs rfl rfl rfl (y_move hs rfl) ?_; clear hs a; intro a hs
          rcases hs.know (d := 62) rfl with ⟨h62, hs1⟩ | ⟨h62, hs1⟩ <;> replace hs := hs1 <;> clear hs1
          · replace h62 := bne_iff_ne.1 h62
            refine a_skip hs rfl rfl rfl ?_; clear hs a; intro a hs
            refine a_skip hs rfl rfl rfl ?_; clear hs a; intro a hs
            refine a_skip hs rfl rfl rfl ?_; clear hs a; intro a hs
            refine a_skip hs rfl rfl rfl ?_; clear hs a; intro a hs
            refine a_skip hs rfl rfl rfl ?_; clear hs a; intro a hs
            refine a_val hs rfl rfl rfl (y_pickT hs rfl rfl rfl) ?_; clear hs a; intro a hs
            refine a_val hs rfl rfl rfl (y_move hs rfl) ?_; clear hs a; intro a hs
            refine a_skip hs rfl rfl rfl ?_; clear hs a; intro a hs
            refine a_skip hs rfl rfl rfl ?_; clear hs a; intro a hs
            refine a_skip hs rfl rfl rfl ?_; clear hs a; intro a hs
            refine a_skip hs rfl rfl rfl ?_; clear hs a; intro a hs
            refine a_skip hs rfl rfl rfl ?_; clear hs a; intro a hs
            refine a_skip hs rfl rfl rfl ?_; clear hs a; intro a hs
            refine a_skip hs rfl rfl rfl ?_; clear hs a; intro a hs
            refine a_skip hs rfl rfl rfl ?_; clear hs a; intro a hs
            refine a_skip hs rfl rfl rfl ?_; clear hs a; intro a hs
            refine a_val hs rfl rfl rfl (y_pickT hs rfl rfl rfl) ?_; clear hs a; intro a hs
            refine wpList_nil (then_normal ?_)
            refine wp_cond_true (hs.ev rfl) ?_
            refine wp_seq ?_
            refine wp_region_lit ?_
            refine a_val hs rfl rfl rfl (y_assign hs rfl) ?_; clear hs a; intro a hs
            refine wpList_nil (then_normal ?_)
            refine wp_ret (then_ret ?_)
            have hH : ¬ headS s := by
              clear hs
              rintro ⟨nm, a, p, r, h1, h2, h3, h4, h5, h6⟩
              rcases parts_cases h1 with ⟨rfl, rfl, rfl, rfl, hk1⟩ | ⟨rfl, rfl, rfl, rfl, hk1⟩ | ⟨rfl, rfl, rfl, rfl, hk1⟩ | ⟨rfl, rfl, rfl, rfl, hk1⟩ | ⟨rfl, rfl, rfl, rfl, hk1⟩
              all_goals first | omega | (have := h3 rfl; omega) | (have := h6 rfl; omega) | (have hz : ¬ s.f1.size = 0 := fun h0 => absurd h2 (by rw [nameOk_nil h0]; exact Bool.false_ne_true); omega) | (rw [h2] at h35; cases h35; done)
            have hX : refS (q + 1) s left = -1 := refS_bad (.inl hH)
            refine fin_ret hs (.tmp (hs.slots _ _ rfl) .nil) ⟨?_, hs.mem.base⟩
            rw [hX]; rfl
          · replace h62 := bne_eq_false_iff_eq.1 h62
            refine a_valG hs rfl rfl rfl (y_faddr (k' := 3) 3 hs (by kernel_rfl) rfl rfl) ?_; clear hs a; intro a hs
            refine a_valG hs rfl rfl rfl (y_load hs Tryd.underlying39 rfl rfl (fun w hw => (hw.to 0 rfl).cellV rfl)) ?_; clear hs a; intro a hs
            refine a_valG hs rfl rfl rfl (y_lenL hs Tryd.underlying39 rfl) ?_; clear hs a; intro a hs
            refine a_valG hs rfl rfl rfl (y_move hs rfl) ?_; clear hs a; intro a hs
            refine a_valG hs rfl rfl rfl (y_cmp hs rfl rfl rfl) ?_; clear hs a; intro a hs
            refine a_val hs rfl rfl rfl (y_pickF hs rfl rfl rfl) ?_; clear hs a; intro a hs
            refine a_val hs rfl rfl rfl (y_move hs rfl) ?_; clear hs a; intro a hs
            rcases hs.know (d := 69) rfl with ⟨h69, hs1⟩ | ⟨h69, hs1⟩ <;> replace hs := hs1 <;> clear hs1
            · replace h69 := bne_iff_ne.1 h69
              refine a_skip hs rfl rfl rfl ?_; clear hs a; intro a hs
              refine a_skip hs rfl rfl rfl ?_; clear hs a; intro a hs
              refine a_skip hs rfl rfl rfl ?_; clear hs a; intro a hs
              refine a_skip hs rfl rfl rfl ?_; clear hs a; intro a hs
              refine a_skip hs rfl rfl rfl ?_; clear hs a; intro a hs
              refine a_skip hs rfl rfl rfl ?_; clear hs a; intro a hs
              refine a_skip hs rfl rfl rfl ?_; clear hs a; intro a hs
              refine a_skip hs rfl rfl rfl ?_; clear hs a; intro a hs
              refine a_skip hs rfl rfl rfl ?_; clear hs a; intro a hs
              refine a_val hs rfl rfl rfl (y_pickT hs rfl rfl rfl) ?_; clear hs a; intro a hs
              refine wpList_nil (then_normal ?_)
              refine wp_cond_true (hs.ev rfl) ?_
              refine wp_seq ?_
              refine wp_region_lit ?_
              refine a_val hs rfl rfl rfl (y_assign hs rfl) ?_; clear hs a; intro a hs
              refine wpList_nil (then_normal ?_)
              refine wp_ret (then_ret ?_)
              have hH : ¬ headS s := by
                clear hs
                rintro ⟨nm, a, p, r, h1, h2, h3, h4, h5, h6⟩
                rcases parts_cases h1 with ⟨rfl, rfl, rfl, rfl, hk1⟩ | ⟨rfl, rfl, rfl, rfl, hk1⟩ | ⟨rfl, rfl, rfl, rfl, hk1⟩ | ⟨rfl, rfl, rfl, rfl, hk1⟩ | ⟨rfl, rfl, rfl, rfl, hk1⟩
                all_goals first | omega | (have := h3 rfl; omega) | (have := h6 rfl; omega) | (have hz : ¬ s.f1.size = 0 := fun h0 => absurd h2 (by rw [nameOk_nil h0]; exact Bool.false_ne_true); omega) | (rw [h2] at h35; cases h35; done)
              have hX : refS (q + 1) s left = -1 := refS_bad (.inl hH)
              refine fin_ret hs (.tmp (hs.slots _ _ rfl) .nil) ⟨?_, hs.mem.base⟩
              rw [hX]; rfl
            · replace h69 := bne_eq_false_iff_eq.1 h69
              refine a_valG hs rfl rfl rfl (y_faddr (k' := 0) 0 hs (by kernel_rfl) rfl rfl) ?_; clear hs a; intro a hs
              refine a_valG hs rfl rfl rfl (y_load hs Tryd.underlying38 rfl rfl (fun w hw => (hw.to 0 rfl).cellV rfl)) ?_; clear hs a; intro a hs
              refine a_valG hs rfl rfl rfl (y_cmp hs rfl rfl rfl) ?_; clear hs a; intro a hs
              refine a_valG hs rfl rfl rfl (y_move hs rfl) ?_; clear hs a; intro a hs
              rcases hs.know (d := 73) rfl with ⟨h73, hs1⟩ | ⟨h73, hs1⟩ <;> replace hs := hs1 <;> clear hs1
              · replace h73 := bne_iff_ne.1 h73
                refine a_valG hs rfl rfl rfl (y_faddr (k' := 4) 4 hs (by kernel_rfl) rfl rfl) ?_; clear hs a; intro a hs
                refine a_valG hs rfl rfl rfl (y_load hs Tryd.underlying40 rfl rfl (fun w hw => (hw.to 0 rfl).cellV rfl)) ?_; clear hs a; intro a hs
                refine a_valG hs rfl rfl rfl (y_lenL hs Tryd.underlying40 rfl) ?_; clear hs a; intro a hs
                refine a_valG hs rfl rfl rfl (y_cmp hs rfl rfl rfl) ?_; clear hs a; intro a hs
                refine a_valG hs rfl rfl rfl (y_pickT hs rfl rfl rfl) ?_; clear hs a; intro a hs
                refine a_val hs rfl rfl rfl (y_pickF hs rfl rfl rfl) ?_; clear hs a; intro a hs
                refine wpList_nil (then_normal ?_)
                refine wp_cond_split (hs.ev rfl) (fun h79 => ?_) (fun h79 => ?_)
                · replace h79 := of_decide_eq_true h79
                  refine wp_seq ?_
                  refine wp_region_lit ?_
                  refine a_val hs rfl rfl rfl (y_assign hs rfl) ?_; clear hs a; intro a hs
                  refine wpList_nil (then_normal ?_)
                  refine wp_ret (then_ret ?_)
                  have hH : ¬ headS s := by
                    clear hs
                    rintro ⟨nm, a, p, r, h1, h2, h3, h4, h5, h6⟩
                    rcases parts_cases h1 with ⟨rfl, rfl, rfl, rfl, hk1⟩ | ⟨rfl, rfl, rfl, rfl, hk1⟩ | ⟨rfl, rfl, rfl, rfl, hk1⟩ | ⟨rfl, rfl, rfl, rfl, hk1⟩ | ⟨rfl, rfl, rfl, rfl, hk1⟩
                    all_goals first | omega | (have := h3 rfl; omega) | (have := h6 rfl; omega) | (have hz : ¬ s.f1.size = 0 := fun h0 => absurd h2 (by rw [nameOk_nil h0]; exact Bool.false_ne_true); omega) | (rw [h2] at h35; cases h35; done)
                  have hX : refS (q + 1) s left = -1 := refS_bad (.inl hH)
                  refine fin_ret hs (.tmp (hs.slots _ _ rfl) .nil) ⟨?_, hs.mem.base⟩
                  rw [hX]; rfl
                · replace h79 := of_decide_eq_false h79
                  refine wp_skip (then_normal ?_)
                  refine wp_seq ?_
                  have hH : headS s := by
                    clear hs
                    rcases hk with ⟨k1, k2, rfl, rfl⟩ | ⟨k1, rfl, rfl⟩ | ⟨k1, rfl, rfl⟩ | ⟨k1, rfl, rfl⟩ | ⟨k1, rfl, rfl, k2⟩
                    · exact ⟨true, 0, 0, false, by unfold shapeParts; rw [if_pos k1], k2, fun h => (by cases h), by omega, by omega, fun _ => by omega⟩
                    · exact ⟨false, 2, 0, false, by unfold shapeParts; rw [if_neg (by omega), if_pos k1], nameOk_nil (by omega), fun _ => by omega, by omega, by omega, fun _ => by omega⟩
                    · exact ⟨false, 3, 0, false, by unfold shapeParts; rw [if_neg (by omega), if_neg (by omega), if_pos k1], nameOk_nil (by omega), fun _ => by omega, by omega, by omega, fun _ => by omega⟩
                    · exact ⟨false, 0, 2, false, by unfold shapeParts; rw [if_neg (by omega), if_neg (by omega), if_neg (by omega), if_pos k1], nameOk_nil (by omega), fun _ => by omega, by omega, by omega, fun _ => by omega⟩
                    · exact ⟨false, 0, 0, true, by unfold shapeParts; rw [if_neg (by omega), if_neg (by omega), if_neg (by omega), if_neg (by omega), if_pos k1], nameOk_nil (by omega), fun _ => by omega, by omega, by omega, fun h => by cases h⟩
                  have hA := shape_args (q := q) (left := left) (by omega) hH (by omega)
                  have hfa := xlist_left s.f2 (left - 1) (fun p _ l h => stE_falls p l h) (by omega)
                  have hra : -1 ≤ refL s.f2 (left - 1) ∧ refL s.f2 (left - 1) ≤ left - 1 := refB_bounds hfa
                  refine wp_region_lit ?_
                  refine a_val hs rfl rfl rfl (y_faddr (k' := 2) 2 hs (by kernel_rfl) rfl rfl) ?_; clear hs a; intro a hs
                  refine a_val hs rfl rfl rfl (y_load hs Tryd.underlying23 rfl rfl (fun w hw => (hw.to 0 rfl).cellV rfl)) ?_; clear hs a; intro a hs
                  refine a_val hs rfl rfl rfl (y_move hs rfl) ?_; clear hs a; intro a hs
                  refine a_eff rfl (e_callB Tryd.func73 rfl rfl hs rfl rfl (ref_exprs A2 c2 s.f2 (left - 1) _ (ref_expr 16 (by decide)) (Kd.C_below hA2 hs.mem.base) hsm.2.1 (by omega)) ?_); clear hs a; intro a w hs
                  refine a_val hs rfl rfl rfl (y_assign hs rfl) ?_; clear hs a; intro a hs
                  refine wpList_nil (then_normal ?_)
                  refine wp_seq_cut (fun a w1 => ∃ (lf : Int), (-1 ≤ lf ∧ lf ≤ 8192) ∧ (0 ≤ lf → (xshape (q + 1) s left) = xk (xshape q) s.f3 (fun l => (true, l)) lf) ∧ (lf < 0 → (xshape (q + 1) s left).1 = false ∧ lf = -1) ∧ St 139 v0 [(1, .int .i64 lf), (2, .int .i64 ((q + 1 : Nat) : Int)), (3, .pointer (some ⟨gx, 0, none⟩))] [pt gx #[.int .u8 s.f0, .string s.f1, .slice A2 s.f2.length c2, .slice A3 s.f3.length c3, .slice A4 s.f4.length c4, .int .i64 s.f5, .int .i64 s.f6] 42] a w1) ?_ (fun a w1 hJ => ?_)
                  · refine wp_seq ?_
                    refine wp_region_lit ?_
                    refine a_val hs rfl rfl rfl (y_assign hs rfl) ?_; clear hs a; intro a hs
                    refine wpList_nil (then_normal ?_)
                    refine wp_block ?_
                    refine wp_loopN (fun m a w1 => ∃ (i : Nat) (lf : Int), (i + m = s.f4.length) ∧ (-1 ≤ lf ∧ lf ≤ 8192) ∧ (0 ≤ lf → (xshape (q + 1) s left) = xk stR (s.f4.drop i) (xk (xshape q) s.f3 (fun l => (true, l))) lf) ∧ (lf < 0 → (xshape (q + 1) s left).1 = false ∧ lf = -1) ∧ St 139 v0 [(1, .int .i64 lf), (2, .int .i64 ((q + 1 : Nat) : Int)), (3, .pointer (some ⟨gx, 0, none⟩)), (9, .int .i64 ((i : Nat) : Int))] [pt gx #[.int .u8 s.f0, .string s.f1, .slice A2 s.f2.length c2, .slice A3 s.f3.length c3, .slice A4 s.f4.length c4, .int .i64 s.f5, .int .i64 s.f6] 42] a w1) (s.f4.length) ⟨0, refL s.f2 (left - 1), by omega, by omega, xb_next hA, xb_stop hA hfa, ?_⟩ (fun m a w1 hJ => ?_)
                    · exact (hs.mem_to hs.mem).cut _ ⟨rfl, rfl, rfl, rfl, trivial⟩
                    · clear hs
                      obtain ⟨i, lf, hi, hlf, hinv1, hneg1, hs⟩ := hJ
                      refine wp_seq ?_
                      refine wp_seq ?_
                      refine wp_region_lit ?_
                      refine a_val hs rfl rfl rfl (y_move hs rfl) ?_; clear hs a; intro a hs
                      refine a_val hs rfl rfl rfl (y_faddr (k' := 4) 4 hs (by kernel_rfl) rfl rfl) ?_; clear hs a; intro a hs
                      refine a_val hs rfl rfl rfl (y_load hs Tryd.underlying40 rfl rfl (fun w hw => (hw.to 0 rfl).cellV rfl)) ?_; clear hs a; intro a hs
                      refine a_val hs rfl rfl rfl (y_lenL hs Tryd.underlying40 rfl) ?_; clear hs a; intro a hs
                      refine a_val hs rfl rfl rfl (y_cmp hs rfl rfl rfl) ?_; clear hs a; intro a hs
                      refine a_val hs rfl rfl rfl (y_move hs rfl) ?_; clear hs a; intro a hs
                      rcases hs.know (d := 89) rfl with ⟨h89, hs1⟩ | ⟨h89, hs1⟩ <;> replace hs := hs1 <;> clear hs1
                      · replace h89 := of_decide_eq_true h89
                        refine a_valG hs rfl rfl rfl (y_move hs rfl) ?_; clear hs a; intro a hs
                        refine a_valG hs rfl rfl rfl (y_cmp hs rfl rfl rfl) ?_; clear hs a; intro a hs
                        refine a_val hs rfl rfl rfl (y_pickT hs rfl rfl rfl) ?_; clear hs a; intro a hs
                        refine wpList_nil (then_normal ?_)
                        refine wp_cond_split (hs.ev rfl) (fun h92 => ?_) (fun h92 => ?_)
                        · replace h92 := of_decide_eq_true h92
                          obtain ⟨r, hr⟩ : ∃ r, s.f4[i]? = some r := ⟨_, List.getElem?_eq_getElem (by omega)⟩
                          obtain ⟨g0, o, rfl, hcell⟩ := C_atH (show 0 < 1 by decide) hA4 (by omega)
                          obtain ⟨cs, hK, hlen, hc⟩ := hcell i r hr
                          obtain ⟨A0, c0, rfl, hlc, hC⟩ := hK
                          have hdrop : s.f4.drop i = r :: s.f4.drop (i + 1) := by
                            rw [List.drop_eq_getElem_cons (by omega)]
                            rw [List.getElem?_eq_getElem (by omega)] at hr
                            injection hr with hr
                            rw [hr]
                          rw [hdrop] at hinv1
                          refine wp_skip (then_normal ?_)
                          refine wp_seq ?_
                          refine wp_block ?_
                          refine wp_seq ?_
                          refine wp_seq ?_
                          refine wp_region_lit ?_
                          refine a_val hs rfl rfl rfl (y_faddr (k' := 4) 4 hs (by kernel_rfl) rfl rfl) ?_; clear hs a; intro a hs
                          refine a_val hs rfl rfl rfl (y_load hs Tryd.underlying40 rfl rfl (fun w hw => (hw.to 0 rfl).cellV rfl)) ?_; clear hs a; intro a hs
                          refine a_val hs rfl rfl rfl (y_move hs rfl) ?_; clear hs a; intro a hs
                          refine a_val hs rfl rfl rfl (y_idxB (size := 1) (off := o + i * 1) hs Tryd.underlying40 (by kernel_rfl) rfl rfl (by omega) (by omega) (by simp)) ?_; clear hs a; intro a hs
                          refine a_val hs rfl rfl rfl (y_load (v := .slice A0 r.length c0) hs Tryd.underlying23 rfl rfl (fun w hw => hc w hw.base 0 _ rfl)) ?_; clear hs a; intro a hs
                          refine a_val hs rfl rfl rfl (y_lenL hs Tryd.underlying23 rfl) ?_; clear hs a; intro a hs
                          refine a_val hs rfl rfl rfl (y_cmp hs rfl rfl rfl) ?_; clear hs a; intro a hs
                          refine a_val hs rfl rfl rfl (y_move hs rfl) ?_; clear hs a; intro a hs
                          rcases hs.know (d := 102) rfl with ⟨h102, hs1⟩ | ⟨h102, hs1⟩ <;> replace hs := hs1 <;> clear hs1
                          · replace h102 := of_decide_eq_true h102
                            refine a_skip hs rfl rfl rfl ?_; clear hs a; intro a hs
                            refine a_skip hs rfl rfl rfl ?_; clear hs a; intro a hs
                            refine a_skip hs rfl rfl rfl ?_; clear hs a; intro a hs
                            refine a_skip hs rfl rfl rfl ?_; clear hs a; intro a hs
                            refine a_skip hs rfl rfl rfl ?_; clear hs a; intro a hs
                            refine a_skip hs rfl rfl rfl ?_; clear hs a; intro a hs
                            refine a_skip hs rfl rfl rfl ?_; clear hs a; intro a hs
                            refine a_val hs rfl rfl rfl (y_pickT hs rfl rfl rfl) ?_; clear hs a; intro a hs
                            refine wpList_nil (then_normal ?_)
                            refine wp_cond_true (hs.ev rfl) ?_
                            refine wp_seq ?_
                            refine wp_region_lit ?_
                            refine a_val hs rfl rfl rfl (y_assign hs rfl) ?_; clear hs a; intro a hs
                            refine wpList_nil (then_normal ?_)
                            refine wp_ret (then_ret (in_ret (then_ret (then_ret (in_ret (then_ret ?_))))))
                            have hX : refS (q + 1) s left = -1 := by
                              have h1 := (xk_stop (hinv1 (by omega)) (stR_falls r lf (by omega)) (by rw [show stR r lf = (false, lf) by unfold stR; rw [if_neg (by omega)]]; show (-1 : Int) < 0; decide)).1
                              unfold refS refB; rw [h1]; rfl
                            refine fin_ret hs (.tmp (hs.slots _ _ rfl) .nil) ⟨?_, hs.mem.base⟩
                            rw [hX]; rfl
                          · replace h102 := of_decide_eq_false h102
                            refine a_valG hs rfl rfl rfl (y_faddr (k' := 4) 4 hs (by kernel_rfl) rfl rfl) ?_; clear hs a; intro a hs
                            refine a_valG hs rfl rfl rfl (y_load hs Tryd.underlying40 rfl rfl (fun w hw => (hw.to 0 rfl).cellV rfl)) ?_; clear hs a; intro a hs
                            refine a_valG hs rfl rfl rfl (y_move hs rfl) ?_; clear hs a; intro a hs
                            refine a_valG hs rfl rfl rfl (y_idxB (size := 1) (off := o + i * 1) hs Tryd.underlying40 (by kernel_rfl) rfl rfl (by omega) (by omega) (by simp)) ?_; clear hs a; intro a hs
                            refine a_valG hs rfl rfl rfl (y_load (v := .slice A0 r.length c0) hs Tryd.underlying23 rfl rfl (fun w hw => hc w hw.base 0 _ rfl)) ?_; clear hs a; intro a hs
                            refine a_valG hs rfl rfl rfl (y_lenL hs Tryd.underlying23 rfl) ?_; clear hs a; intro a hs
                            refine a_valG hs rfl rfl rfl (y_cmp hs rfl rfl rfl) ?_; clear hs a; intro a hs
                            refine a_val hs rfl rfl rfl (y_pickF hs rfl rfl rfl) ?_; clear hs a; intro a hs
                            refine wpList_nil (then_normal ?_)
                            refine wp_cond_split (hs.ev rfl) (fun h110 => ?_) (fun h110 => ?_)
                            · replace h110 := of_decide_eq_true h110
                              refine wp_seq ?_
                              refine wp_region_lit ?_
                              refine a_val hs rfl rfl rfl (y_assign hs rfl) ?_; clear hs a; intro a hs
                              refine wpList_nil (then_normal ?_)
                              refine wp_ret (then_ret (in_ret (then_ret (then_ret (in_ret (then_ret ?_))))))
                              have hX : refS (q + 1) s left = -1 := by
                                have h1 := (xk_stop (hinv1 (by omega)) (stR_falls r lf (by omega)) (by rw [show stR r lf = (false, lf) by unfold stR; rw [if_neg (by omega)]]; show (-1 : Int) < 0; decide)).1
                                unfold refS refB; rw [h1]; rfl
                              refine fin_ret hs (.tmp (hs.slots _ _ rfl) .nil) ⟨?_, hs.mem.base⟩
                              rw [hX]; rfl
                            · replace h110 := of_decide_eq_false h110
                              refine wp_skip (then_normal ?_)
                              refine wp_region_lit ?_
                              refine a_val hs rfl rfl rfl (y_faddr (k' := 4) 4 hs (by kernel_rfl) rfl rfl) ?_; clear hs a; intro a hs
                              refine a_val hs rfl rfl rfl (y_load hs Tryd.underlying40 rfl rfl (fun w hw => (hw.to 0 rfl).cellV rfl)) ?_; clear hs a; intro a hs
                              refine a_val hs rfl rfl rfl (y_move hs rfl) ?_; clear hs a; intro a hs
                              refine a_val hs rfl rfl rfl (y_idxB (size := 1) (off := o + i * 1) hs Tryd.underlying40 (by kernel_rfl) rfl rfl (by omega) (by omega) (by simp)) ?_; clear hs a; intro a hs
                              refine a_val hs rfl rfl rfl (y_load (v := .slice A0 r.length c0) hs Tryd.underlying23 rfl rfl (fun w hw => hc w hw.base 0 _ rfl)) ?_; clear hs a; intro a hs
                              refine a_val hs rfl rfl rfl (y_move hs rfl) ?_; clear hs a; intro a hs
                              have hR : stR r lf = xlist stE r lf := by unfold stR; rw [if_pos (by omega)]
                              have hfl := stR_falls r lf (by omega)
                              have hrb : -1 ≤ refL r lf ∧ refL r lf ≤ lf := by rw [refL_B, ← hR]; exact refB_bounds hfl
                              refine a_eff rfl (e_callB Tryd.func73 rfl rfl hs rfl rfl (ref_exprs A0 c0 r lf _ (ref_expr 16 (by decide)) (Kd.C_below hC hs.mem.base) (hsm.2.2.2 r (List.mem_of_getElem? hr)) (by omega)) ?_); clear hs a; intro a w hs
                              refine a_val hs rfl rfl rfl (y_assign hs rfl) ?_; clear hs a; intro a hs
                              refine wpList_nil (in_normal (then_normal ?_))
                              refine wp_region_lit ?_
                              refine a_val hs rfl rfl rfl (y_move hs rfl) ?_; clear hs a; intro a hs
                              refine a_val hs rfl rfl rfl (y_add hs rfl rfl (by omega)) ?_; clear hs a; intro a hs
                              refine a_val hs rfl rfl rfl (y_assign hs rfl) ?_; clear hs a; intro a hs
                              refine wpList_nil (then_normal ?_)
                              refine ⟨m - 1, by omega, i + 1, refL r lf, by omega, by omega, by rw [refL_B, ← hR]; exact xk_next (hinv1 (by omega)), by rw [refL_B, ← hR]; exact xk_stop (hinv1 (by omega)) hfl, ?_⟩
                              exact (hs.mem_to hs.mem).cut _ ⟨rfl, rfl, rfl, rfl, trivial⟩
                        · replace h92 := of_decide_eq_false h92
                          refine wp_exit (then_exit (then_exit (in_here (then_normal ?_))))
                          refine ⟨lf, hlf, fun h0 => by have h1 := hinv1 h0; rw [List.drop_eq_nil_of_le (by omega), xk_nil] at h1; exact h1, hneg1, ?_⟩
                          exact (hs.mem_to hs.mem).cut _ ⟨rfl, rfl, rfl, trivial⟩
                      · replace h89 := of_decide_eq_false h89
                        refine a_skip hs rfl rfl rfl ?_; clear hs a; intro a hs
                        refine a_skip hs rfl rfl rfl ?_; clear hs a; intro a hs
                        refine a_val hs rfl rfl rfl (y_pickF hs rfl rfl rfl) ?_; clear hs a; intro a hs
                        refine wpList_nil (then_normal ?_)
                        refine wp_cond_false (hs.ev rfl) ?_
                        refine wp_exit (then_exit (then_exit (in_here (then_normal ?_))))
                        refine ⟨lf, hlf, fun h0 => by have h1 := hinv1 h0; rw [List.drop_eq_nil_of_le (by omega), xk_nil] at h1; exact h1, hneg1, ?_⟩
                        exact (hs.mem_to hs.mem).cut _ ⟨rfl, rfl, rfl, trivial⟩
                  · clear hs
                    obtain ⟨lf, hlf, hinv0, hneg0, hs⟩ := hJ
                    refine wp_seq ?_
                    refine wp_seq ?_
                    refine wp_region_lit ?_
                    refine a_val hs rfl rfl rfl (y_assign hs rfl) ?_; clear hs a; intro a hs
                    refine wpList_nil (then_normal ?_)
                    refine wp_block ?_
                    refine wp_loopN (fun m a w1 => ∃ (i : Nat) (lf : Int), (i + m = s.f3.length) ∧ (-1 ≤ lf ∧ lf ≤ 8192) ∧ (0 ≤ lf → (xshape (q + 1) s left) = xk (xshape q) (s.f3.drop i) (fun l => (true, l)) lf) ∧ (lf < 0 → (xshape (q + 1) s left).1 = false ∧ lf = -1) ∧ St 139 v0 [(1, .int .i64 lf), (2, .int .i64 ((q + 1 : Nat) : Int)), (3, .pointer (some ⟨gx, 0, none⟩)), (10, .int .i64 ((i : Nat) : Int))] [pt gx #[.int .u8 s.f0, .string s.f1, .slice A2 s.f2.length c2, .slice A3 s.f3.length c3, .slice A4 s.f4.length c4, .int .i64 s.f5, .int .i64 s.f6] 42] a w1) (s.f3.length) ⟨0, lf, by omega, hlf, hinv0, hneg0, ?_⟩ (fun m a w1 hJ => ?_)
                    · exact (hs.mem_to hs.mem).cut _ ⟨rfl, rfl, rfl, rfl, trivial⟩
                    · clear hs
                      obtain ⟨i, lf, hi, hlf, hinv, hneg, hs⟩ := hJ
                      refine wp_seq ?_
                      refine wp_seq ?_
                      refine wp_region_lit ?_
                      refine a_val hs rfl rfl rfl (y_move hs rfl) ?_; clear hs a; intro a hs
                      refine a_val hs rfl rfl rfl (y_faddr (k' := 3) 3 hs (by kernel_rfl) rfl rfl) ?_; clear hs a; intro a hs
                      refine a_val hs rfl rfl rfl (y_load hs Tryd.underlying39 rfl rfl (fun w hw => (hw.to 0 rfl).cellV rfl)) ?_; clear hs a; intro a hs
                      refine a_val hs rfl rfl rfl (y_lenL hs Tryd.underlying39 rfl) ?_; clear hs a; intro a hs
                      refine a_val hs rfl rfl rfl (y_cmp hs rfl rfl rfl) ?_; clear hs a; intro a hs
                      refine a_val hs rfl rfl rfl (y_move hs rfl) ?_; clear hs a; intro a hs
                      rcases hs.know (d := 123) rfl with ⟨h123, hs1⟩ | ⟨h123, hs1⟩ <;> replace hs := hs1 <;> clear hs1
                      · replace h123 := of_decide_eq_true h123
                        refine a_valG hs rfl rfl rfl (y_move hs rfl) ?_; clear hs a; intro a hs
                        refine a_valG hs rfl rfl rfl (y_cmp hs rfl rfl rfl) ?_; clear hs a; intro a hs
                        refine a_val hs rfl rfl rfl (y_pickT hs rfl rfl rfl) ?_; clear hs a; intro a hs
                        refine wpList_nil (then_normal ?_)
                        refine wp_cond_split (hs.ev rfl) (fun h126 => ?_) (fun h126 => ?_)
                        · replace h126 := of_decide_eq_true h126
                          obtain ⟨y, hy⟩ : ∃ y, s.f3[i]? = some y := ⟨_, List.getElem?_eq_getElem (by omega)⟩
                          obtain ⟨g0, o, rfl, hcell⟩ := C_atG (show 0 < 7 by decide) hA3 (by omega)
                          obtain ⟨cs, hK, hc⟩ := hcell i y hy
                          obtain ⟨B2, d2, B3, d3, B4, d4, rfl, e2, g2, e3, g3, e4, g4⟩ := k42_open hK
                          have hdrop : s.f3.drop i = y :: s.f3.drop (i + 1) := by
                            rw [List.drop_eq_getElem_cons (by omega)]
                            rw [List.getElem?_eq_getElem (by omega)] at hy
                            injection hy with hy
                            rw [hy]
                          rw [hdrop] at hinv
                          refine wp_skip (then_normal ?_)
                          refine wp_seq ?_
                          refine wp_block ?_
                          refine wp_region_lit ?_
                          refine a_val hs rfl rfl rfl (y_faddr (k' := 3) 3 hs (by kernel_rfl) rfl rfl) ?_; clear hs a; intro a hs
                          refine a_val hs rfl rfl rfl (y_load hs Tryd.underlying39 rfl rfl (fun w hw => (hw.to 0 rfl).cellV rfl)) ?_; clear hs a; intro a hs
                          refine a_val hs rfl rfl rfl (y_move hs rfl) ?_; clear hs a; intro a hs
                          refine a_val hs rfl rfl rfl (y_idxB (size := 7) (off := o + i * 7) hs Tryd.underlying39 (by kernel_rfl) rfl rfl (by omega) (by omega) (by simp)) ?_; clear hs a; intro a hs
                          refine a_val hs rfl rfl rfl (y_loadAgg (vs := [.int .u8 y.f0, .string y.f1, .slice B2 y.f2.length d2, .slice B3 y.f3.length d3, .slice B4 y.f4.length d4, .int .i64 y.f5, .int .i64 y.f6]) hs Tryd.underlying42 rfl (by kernel_rfl) rfl (fun w hw k v hk => hc w hw.base k v hk)) ?_; clear hs a; intro a hs
                          refine a_val hs rfl rfl rfl (y_move hs rfl) ?_; clear hs a; intro a hs
                          refine a_val hs rfl rfl rfl (y_move hs rfl) ?_; clear hs a; intro a hs
                          refine a_val hs rfl rfl rfl (y_sub hs rfl rfl (by omega)) ?_; clear hs a; intro a hs
                          replace hs := hs.say 136 rfl (congrArg (Value.int IntKind.i64) (show (((q + 1 : Nat) : Int) - 1) = ((q : Nat) : Int) by omega))
                          have hfl := xshape_falls q y lf (by omega)
                          have hrb : -1 ≤ refS q y lf ∧ refS q y lf ≤ lf := refB_bounds hfl
                          refine a_eff rfl (e_callB Tryd.func46 rfl rfl hs rfl rfl (ih q rfl y B2 B3 B4 d2 d3 d4 lf _ (Kd.C_below g2 hs.mem.base) (Kd.C_below g3 hs.mem.base) (Kd.C_below g4 hs.mem.base) (hsm.2.2.1 y (List.mem_of_getElem? hy)) (by omega)) ?_); clear hs a; intro a w hs
                          refine a_val hs rfl rfl rfl (y_assign hs rfl) ?_; clear hs a; intro a hs
                          refine wpList_nil (in_normal (then_normal ?_))
                          refine wp_region_lit ?_
                          refine a_val hs rfl rfl rfl (y_move hs rfl) ?_; clear hs a; intro a hs
                          refine a_val hs rfl rfl rfl (y_add hs rfl rfl (by omega)) ?_; clear hs a; intro a hs
                          refine a_val hs rfl rfl rfl (y_assign hs rfl) ?_; clear hs a; intro a hs
                          refine wpList_nil (then_normal ?_)
                          refine ⟨m - 1, by omega, i + 1, refS q y lf, by omega, by omega, xk_next (hinv (by omega)), xk_stop (hinv (by omega)) hfl, ?_⟩
                          exact (hs.mem_to hs.mem).cut _ ⟨rfl, rfl, rfl, rfl, trivial⟩
                        · replace h126 := of_decide_eq_false h126
                          refine wp_exit (then_exit (then_exit (in_here (then_normal ?_))))
                          refine wp_seq ?_
                          refine wp_region_lit ?_
                          refine a_val hs rfl rfl rfl (y_move hs rfl) ?_; clear hs a; intro a hs
                          refine a_val hs rfl rfl rfl (y_assign hs rfl) ?_; clear hs a; intro a hs
                          refine wpList_nil (then_normal ?_)
                          refine wp_ret ?_
                          have hX : refS (q + 1) s left = lf := by
                            by_cases h0 : 0 ≤ lf
                            · have h1 := hinv h0
                              rw [List.drop_eq_nil_of_le (by omega), xk_nil] at h1
                              unfold refS; rw [h1]; rfl
                            · obtain ⟨h1, h2⟩ := hneg (by omega)
                              unfold refS refB; rw [h1, h2]; rfl
                          refine fin_ret hs (.tmp (hs.slots _ _ rfl) .nil) ⟨?_, hs.mem.base⟩
                          rw [hX]; rfl
                      · replace h123 := of_decide_eq_false h123
                        refine a_skip hs rfl rfl rfl ?_; clear hs a; intro a hs
                        refine a_skip hs rfl rfl rfl ?_; clear hs a; intro a hs
                        refine a_val hs rfl rfl rfl (y_pickF hs rfl rfl rfl) ?_; clear hs a; intro a hs
                        refine wpList_nil (then_normal ?_)
                        refine wp_cond_false (hs.ev rfl) ?_
                        refine wp_exit (then_exit (then_exit (in_here (then_normal ?_))))
                        refine wp_seq ?_
                        refine wp_region_lit ?_
                        refine a_val hs rfl rfl rfl (y_move hs rfl) ?_; clear hs a; intro a hs
                        refine a_val hs rfl rfl rfl (y_assign hs rfl) ?_; clear hs a; intro a hs
                        refine wpList_nil (then_normal ?_)
                        refine wp_ret ?_
                        have hX : refS (q + 1) s left = lf := by
                          by_cases h0 : 0 ≤ lf
                          · have h1 := hinv h0
                            rw [List.drop_eq_nil_of_le (by omega), xk_nil] at h1
                            unfold refS; rw [h1]; rfl
                          · obtain ⟨h1, h2⟩ := hneg (by omega)
                            unfold refS refB; rw [h1, h2]; rfl
                        refine fin_ret hs (.tmp (hs.slots _ _ rfl) .nil) ⟨?_, hs.mem.base⟩
                        rw [hX]; rfl
              · replace h73 := bne_eq_false_iff_eq.1 h73
                refine a_skip hs rfl rfl rfl ?_; clear hs a; intro a hs
                refine a_skip hs rfl rfl rfl ?_; clear hs a; intro a hs
                refine a_skip hs rfl rfl rfl ?_; clear hs a; intro a hs
                refine a_skip hs rfl rfl rfl ?_; clear hs a; intro a hs
                refine a_valG hs rfl rfl rfl (y_pickF hs rfl rfl rfl) ?_; clear hs a; intro a hs
                refine a_val hs rfl rfl rfl (y_pickF hs rfl rfl rfl) ?_; clear hs a; intro a hs
                refine wpList_nil (then_normal ?_)
                refine wp_cond_false (hs.ev rfl) ?_
                refine wp_skip (then_normal ?_)
                refine wp_seq ?_
                have hH : headS s := by
                  clear hs
                  rcases hk with ⟨k1, k2, rfl, rfl⟩ | ⟨k1, rfl, rfl⟩ | ⟨k1, rfl, rfl⟩ | ⟨k1, rfl, rfl⟩ | ⟨k1, rfl, rfl, k2⟩
                  · exact ⟨true, 0, 0, false, by unfold shapeParts; rw [if_pos k1], k2, fun h => (by cases h), by omega, by omega, fun _ => by omega⟩
                  · exact ⟨false, 2, 0, false, by unfold shapeParts; rw [if_neg (by omega), if_pos k1], nameOk_nil (by omega), fun _ => by omega, by omega, by omega, fun _ => by omega⟩
                  · exact ⟨false, 3, 0, false, by unfold shapeParts; rw [if_neg (by omega), if_neg (by omega), if_pos k1], nameOk_nil (by omega), fun _ => by omega, by omega, by omega, fun _ => by omega⟩
                  · exact ⟨false, 0, 2, false, by unfold shapeParts; rw [if_neg (by omega), if_neg (by omega), if_neg (by omega), if_pos k1], nameOk_nil (by omega), fun _ => by omega, by omega, by omega, fun _ => by omega⟩
                  · exact ⟨false, 0, 0, true, by unfold shapeParts; rw [if_neg (by omega), if_neg (by omega), if_neg (by omega), if_neg (by omega), if_pos k1], nameOk_nil (by omega), fun _ => by omega, by omega, by omega, fun h => by cases h⟩
                have hA := shape_args (q := q) (left := left) (by omega) hH (by omega)
                have hfa := xlist_left s.f2 (left - 1) (fun p _ l h => stE_falls p l h) (by omega)
                have hra : -1 ≤ refL s.f2 (left - 1) ∧ refL s.f2 (left - 1) ≤ left - 1 := refB_bounds hfa
                refine wp_region_lit ?_
                refine a_val hs rfl rfl rfl (y_faddr (k' := 2) 2 hs (by kernel_rfl) rfl rfl) ?_; clear hs a; intro a hs
                refine a_val hs rfl rfl rfl (y_load hs Tryd.underlying23 rfl rfl (fun w hw => (hw.to 0 rfl).cellV rfl)) ?_; clear hs a; intro a hs
                refine a_val hs rfl rfl rfl (y_move hs rfl) ?_; clear hs a; intro a hs
                refine a_eff rfl (e_callB Tryd.func73 rfl rfl hs rfl rfl (ref_exprs A2 c2 s.f2 (left - 1) _ (ref_expr 16 (by decide)) (Kd.C_below hA2 hs.mem.base) hsm.2.1 (by omega)) ?_); clear hs a; intro a w hs
                refine a_val hs rfl rfl rfl (y_assign hs rfl) ?_; clear hs a; intro a hs
                refine wpList_nil (then_normal ?_)
                refine wp_seq_cut (fun a w1 => ∃ (lf : Int), (-1 ≤ lf ∧ lf ≤ 8192) ∧ (0 ≤ lf → (xshape (q + 1) s left) = xk (xshape q) s.f3 (fun l => (true, l)) lf) ∧ (lf < 0 → (xshape (q + 1) s left).1 = false ∧ lf = -1) ∧ St 139 v0 [(1, .int .i64 lf), (2, .int .i64 ((q + 1 : Nat) : Int)), (3, .pointer (some ⟨gx, 0, none⟩))] [pt gx #[.int .u8 s.f0, .string s.f1, .slice A2 s.f2.length c2, .slice A3 s.f3.length c3, .slice A4 s.f4.length c4, .int .i64 s.f5, .int .i64 s.f6] 42] a w1) ?_ (fun a w1 hJ => ?_)
                · refine wp_seq ?_
                  refine wp_region_lit ?_
                  refine a_val hs rfl rfl rfl (y_assign hs rfl) ?_; clear hs a; intro a hs
                  refine wpList_nil (then_normal ?_)
                  refine wp_block ?_
                  refine wp_loopN (fun m a w1 => ∃ (i : Nat) (lf : Int), (i + m = s.f4.length) ∧ (-1 ≤ lf ∧ lf ≤ 8192) ∧ (0 ≤ lf → (xshape (q + 1) s left) = xk stR (s.f4.drop i) (xk (xshape q) s.f3 (fun l => (true, l))) lf) ∧ (lf < 0 → (xshape (q + 1) s left).1 = false ∧ lf = -1) ∧ St 139 v0 [(1, .int .i64 lf), (2, .int .i64 ((q + 1 : Nat) : Int)), (3, .pointer (some ⟨gx, 0, none⟩)), (9, .int .i64 ((i : Nat) : Int))] [pt gx #[.int .u8 s.f0, .string s.f1, .slice A2 s.f2.length c2, .slice A3 s.f3.length c3, .slice A4 s.f4.length c4, .int .i64 s.f5, .int .i64 s.f6] 42] a w1) (s.f4.length) ⟨0, refL s.f2 (left - 1), by omega, by omega, xb_next hA, xb_stop hA hfa, ?_⟩ (fun m a w1 hJ => ?_)
                  · exact (hs.mem_to hs.mem).cut _ ⟨rfl, rfl, rfl, rfl, trivial⟩
                  · clear hs
                    obtain ⟨i, lf, hi, hlf, hinv1, hneg1, hs⟩ := hJ
                    refine wp_seq ?_
                    refine wp_seq ?_
                    refine wp_region_lit ?_
                    refine a_val hs rfl rfl rfl (y_move hs rfl) ?_; clear hs a; intro a hs
                    refine a_val hs rfl rfl rfl (y_faddr (k' := 4) 4 hs (by kernel_rfl) rfl rfl) ?_; clear hs a; intro a hs
                    refine a_val hs rfl rfl rfl (y_load hs Tryd.underlying40 rfl rfl (fun w hw => (hw.to 0 rfl).cellV rfl)) ?_; clear hs a; intro a hs
                    refine a_val hs rfl rfl rfl (y_lenL hs Tryd.underlying40 rfl) ?_; clear hs a; intro a hs
                    refine a_val hs rfl rfl rfl (y_cmp hs rfl rfl rfl) ?_; clear hs a; intro a hs
                    refine a_val hs rfl rfl rfl (y_move hs rfl) ?_; clear hs a; intro a hs
                    rcases hs.know (d := 89) rfl with ⟨h89, hs1⟩ | ⟨h89, hs1⟩ <;> replace hs := hs1 <;> clear hs1
                    · replace h89 := of_decide_eq_true h89
                      refine a_valG hs rfl rfl rfl (y_move hs rfl) ?_; clear hs a; intro a hs
                      refine a_valG hs rfl rfl rfl (y_cmp hs rfl rfl rfl) ?_; clear hs a; intro a hs
                      refine a_val hs rfl rfl rfl (y_pickT hs rfl rfl rfl) ?_; clear hs a; intro a hs
                      refine wpList_nil (then_normal ?_)
                      refine wp_cond_split (hs.ev rfl) (fun h92 => ?_) (fun h92 => ?_)
                      · replace h92 := of_decide_eq_true h92
                        obtain ⟨r, hr⟩ : ∃ r, s.f4[i]? = some r := ⟨_, List.getElem?_eq_getElem (by omega)⟩
                        obtain ⟨g0, o, rfl, hcell⟩ := C_atH (show 0 < 1 by decide) hA4 (by omega)
                        obtain ⟨cs, hK, hlen, hc⟩ := hcell i r hr
                        obtain ⟨A0, c0, rfl, hlc, hC⟩ := hK
                        have hdrop : s.f4.drop i = r :: s.f4.drop (i + 1) := by
                          rw [List.drop_eq_getElem_cons (by omega)]
                          rw [List.getElem?_eq_getElem (by omega)] at hr
                          injection hr with hr
                          rw [hr]
                        rw [hdrop] at hinv1
                        refine wp_skip (then_normal ?_)
                        refine wp_seq ?_
                        refine wp_block ?_
                        refine wp_seq ?_
                        refine wp_seq ?_
                        refine wp_region_lit ?_
                        refine a_val hs rfl rfl rfl (y_faddr (k' := 4) 4 hs (by kernel_rfl) rfl rfl) ?_; clear hs a; intro a hs
                        refine a_val hs rfl rfl rfl (y_load hs Tryd.underlying40 rfl rfl (fun w hw => (hw.to 0 rfl).cellV rfl)) ?_; clear hs a; intro a hs
                        refine a_val hs rfl rfl rfl (y_move hs rfl) ?_; clear hs a; intro a hs
                        refine a_val hs rfl rfl rfl (y_idxB (size := 1) (off := o + i * 1) hs Tryd.underlying40 (by kernel_rfl) rfl rfl (by omega) (by omega) (by simp)) ?_; clear hs a; intro a hs
                        refine a_val hs rfl rfl rfl (y_load (v := .slice A0 r.length c0) hs Tryd.underlying23 rfl rfl (fun w hw => hc w hw.base 0 _ rfl)) ?_; clear hs a; intro a hs
                        refine a_val hs rfl rfl rfl (y_lenL hs Tryd.underlying23 rfl) ?_; clear hs a; intro a hs
                        refine a_val hs rfl rfl rfl (y_cmp hs rfl rfl rfl) ?_; clear hs a; intro a hs
                        refine a_val hs rfl rfl rfl (y_move hs rfl) ?_; clear hs a; intro a hs
                        rcases hs.know (d := 102) rfl with ⟨h102, hs1⟩ | ⟨h102, hs1⟩ <;> replace hs := hs1 <;> clear hs1
                        · replace h102 := of_decide_eq_true h102
                          refine a_skip hs rfl rfl rfl ?_; clear hs a; intro a hs
                          refine a_skip hs rfl rfl rfl ?_; clear hs a; intro a hs
                          refine a_skip hs rfl rfl rfl ?_; clear hs a; intro a hs
                          refine a_skip hs rfl rfl rfl ?_; clear hs a; intro a hs
                          refine a_skip hs rfl rfl rfl ?_; clear hs a; intro a hs
                          refine a_skip hs rfl rfl rfl ?_; clear hs a; intro a hs
                          refine a_skip hs rfl rfl rfl ?_; clear hs a; intro a hs
                          refine a_val hs rfl rfl rfl (y_pickT hs rfl rfl rfl) ?_; clear hs a; intro a hs
                          refine wpList_nil (then_normal ?_)
                          refine wp_cond_true (hs.ev rfl) ?_
                          refine wp_seq ?_
                          refine wp_region_lit ?_
                          refine a_val hs rfl rfl rfl (y_assign hs rfl) ?_; clear hs a; intro a hs
                          refine wpList_nil (then_normal ?_)
                          refine wp_ret (then_ret (in_ret (then_ret (then_ret (in_ret (then_ret ?_))))))
                          have hX : refS (q + 1) s left = -1 := by
                            have h1 := (xk_stop (hinv1 (by omega)) (stR_falls r lf (by omega)) (by rw [show stR r lf = (false, lf) by unfold stR; rw [if_neg (by omega)]]; show (-1 : Int) < 0; decide)).1
                            unfold refS refB; rw [h1]; rfl
                          refine fin_ret hs (.tmp (hs.slots _ _ rfl) .nil) ⟨?_, hs.mem.base⟩
                          rw [hX]; rfl
                        · replace h102 := of_decide_eq_false h102
                          refine a_valG hs rfl rfl rfl (y_faddr (k' := 4) 4 hs (by kernel_rfl) rfl rfl) ?_; clear hs a; intro a hs
                          refine a_valG hs rfl rfl rfl (y_load hs Tryd.underlying40 rfl rfl (fun w hw => (hw.to 0 rfl).cellV rfl)) ?_; clear hs a; intro a hs
                          refine a_valG hs rfl rfl rfl (y_move hs rfl) ?_; clear hs a; intro a hs
                          refine a_valG hs rfl rfl rfl (y_idxB (size := 1) (off := o + i * 1) hs Tryd.underlying40 (by kernel_rfl) rfl rfl (by omega) (by omega) (by simp)) ?_; clear hs a; intro a hs
                          refine a_valG hs rfl rfl rfl (y_load (v := .slice A0 r.length c0) hs Tryd.underlying23 rfl rfl (fun w hw => hc w hw.base 0 _ rfl)) ?_; clear hs a; intro a hs
                          refine a_valG hs rfl rfl rfl (y_lenL hs Tryd.underlying23 rfl) ?_; clear hs a; intro a hs
                          refine a_valG hs rfl rfl rfl (y_cmp hs rfl rfl rfl) ?_; clear hs a; intro a hs
                          refine a_val hs rfl rfl rfl (y_pickF hs rfl rfl rfl) ?_; clear hs a; intro a hs
                          refine wpList_nil (then_normal ?_)
                          refine wp_cond_split (hs.ev rfl) (fun h110 => ?_) (fun h110 => ?_)
                          · replace h110 := of_decide_eq_true h110
                            refine wp_seq ?_
                            refine wp_region_lit ?_
                            refine a_val hs rfl rfl rfl (y_assign hs rfl) ?_; clear hs a; intro a hs
                            refine wpList_nil (then_normal ?_)
                            refine wp_ret (then_ret (in_ret (then_ret (then_ret (in_ret (then_ret ?_))))))
                            have hX : refS (q + 1) s left = -1 := by
                              have h1 := (xk_stop (hinv1 (by omega)) (stR_falls r lf (by omega)) (by rw [show stR r lf = (false, lf) by unfold stR; rw [if_neg (by omega)]]; show (-1 : Int) < 0; decide)).1
                              unfold refS refB; rw [h1]; rfl
                            refine fin_ret hs (.tmp (hs.slots _ _ rfl) .nil) ⟨?_, hs.mem.base⟩
                            rw [hX]; rfl
                          · replace h110 := of_decide_eq_false h110
                            refine wp_skip (then_normal ?_)
                            refine wp_region_lit ?_
                            refine a_val hs rfl rfl rfl (y_faddr (k' := 4) 4 hs (by kernel_rfl) rfl rfl) ?_; clear hs a; intro a hs
                            refine a_val hs rfl rfl rfl (y_load hs Tryd.underlying40 rfl rfl (fun w hw => (hw.to 0 rfl).cellV rfl)) ?_; clear hs a; intro a hs
                            refine a_val hs rfl rfl rfl (y_move hs rfl) ?_; clear hs a; intro a hs
                            refine a_val hs rfl rfl rfl (y_idxB (size := 1) (off := o + i * 1) hs Tryd.underlying40 (by kernel_rfl) rfl rfl (by omega) (by omega) (by simp)) ?_; clear hs a; intro a hs
                            refine a_val hs rfl rfl rfl (y_load (v := .slice A0 r.length c0) hs Tryd.underlying23 rfl rfl (fun w hw => hc w hw.base 0 _ rfl)) ?_; clear hs a; intro a hs
                            refine a_val hs rfl rfl rfl (y_move hs rfl) ?_; clear hs a; intro a hs
                            have hR : stR r lf = xlist stE r lf := by unfold stR; rw [if_pos (by omega)]
                            have hfl := stR_falls r lf (by omega)
                            have hrb : -1 ≤ refL r lf ∧ refL r lf ≤ lf := by rw [refL_B, ← hR]; exact refB_bounds hfl
                            refine a_eff rfl (e_callB Tryd.func73 rfl rfl hs rfl rfl (ref_exprs A0 c0 r lf _ (ref_expr 16 (by decide)) (Kd.C_below hC hs.mem.base) (hsm.2.2.2 r (List.mem_of_getElem? hr)) (by omega)) ?_); clear hs a; intro a w hs
                            refine a_val hs rfl rfl rfl (y_assign hs rfl) ?_; clear hs a; intro a hs
                            refine wpList_nil (in_normal (then_normal ?_))
                            refine wp_region_lit ?_
                            refine a_val hs rfl rfl rfl (y_move hs rfl) ?_; clear hs a; intro a hs
                            refine a_val hs rfl rfl rfl (y_add hs rfl rfl (by omega)) ?_; clear hs a; intro a hs
                            refine a_val hs rfl rfl rfl (y_assign hs rfl) ?_; clear hs a; intro a hs
                            refine wpList_nil (then_normal ?_)
                            refine ⟨m - 1, by omega, i + 1, refL r lf, by omega, by omega, by rw [refL_B, ← hR]; exact xk_next (hinv1 (by omega)), by rw [refL_B, ← hR]; exact xk_stop (hinv1 (by omega)) hfl, ?_⟩
                            exact (hs.mem_to hs.mem).cut _ ⟨rfl, rfl, rfl, rfl, trivial⟩
                      · replace h92 := of_decide_eq_false h92
                        refine wp_exit (then_exit (then_exit (in_here (then_normal ?_))))
                        refine ⟨lf, hlf, fun h0 => by have h1 := hinv1 h0; rw [List.drop_eq_nil_of_le (by omega), xk_nil] at h1; exact h1, hneg1, ?_⟩
                        exact (hs.mem_to hs.mem).cut _ ⟨rfl, rfl, rfl, trivial⟩
                    · replace h89 := of_decide_eq_false h89
                      refine a_skip hs rfl rfl rfl ?_; clear hs a; intro a hs
                      refine a_skip hs rfl rfl rfl ?_; clear hs a; intro a hs
                      refine a_val hs rfl rfl rfl (y_pickF hs rfl rfl rfl) ?_; clear hs a; intro a hs
                      refine wpList_nil (then_normal ?_)
                      refine wp_cond_false (hs.ev rfl) ?_
                      refine wp_exit (then_exit (then_exit (in_here (then_normal ?_))))
                      refine ⟨lf, hlf, fun h0 => by have h1 := hinv1 h0; rw [List.drop_eq_nil_of_le (by omega), xk_nil] at h1; exact h1, hneg1, ?_⟩
                      exact (hs.mem_to hs.mem).cut _ ⟨rfl, rfl, rfl, trivial⟩
                · clear hs
                  obtain ⟨lf, hlf, hinv0, hneg0, hs⟩ := hJ
                  refine wp_seq ?_
                  refine wp_seq ?_
                  refine wp_region_lit ?_
                  refine a_val hs rfl rfl rfl (y_assign hs rfl) ?_; clear hs a; intro a hs
                  refine wpList_nil (then_normal ?_)
                  refine wp_block ?_
                  refine wp_loopN (fun m a w1 => ∃ (i : Nat) (lf : Int), (i + m = s.f3.length) ∧ (-1 ≤ lf ∧ lf ≤ 8192) ∧ (0 ≤ lf → (xshape (q + 1) s left) = xk (xshape q) (s.f3.drop i) (fun l => (true, l)) lf) ∧ (lf < 0 → (xshape (q + 1) s left).1 = false ∧ lf = -1) ∧ St 139 v0 [(1, .int .i64 lf), (2, .int .i64 ((q + 1 : Nat) : Int)), (3, .pointer (some ⟨gx, 0, none⟩)), (10, .int .i64 ((i : Nat) : Int))] [pt gx #[.int .u8 s.f0, .string s.f1, .slice A2 s.f2.length c2, .slice A3 s.f3.length c3, .slice A4 s.f4.length c4, .int .i64 s.f5, .int .i64 s.f6] 42] a w1) (s.f3.length) ⟨0, lf, by omega, hlf, hinv0, hneg0, ?_⟩ (fun m a w1 hJ => ?_)
                  · exact (hs.mem_to hs.mem).cut _ ⟨rfl, rfl, rfl, rfl, trivial⟩
                  · clear hs
                    obtain ⟨i, lf, hi, hlf, hinv, hneg, hs⟩ := hJ
                    refine wp_seq ?_
                    refine wp_seq ?_
                    refine wp_region_lit ?_
                    refine a_val hs rfl rfl rfl (y_move hs rfl) ?_; clear hs a; intro a hs
                    refine a_val hs rfl rfl rfl (y_faddr (k' := 3) 3 hs (by kernel_rfl) rfl rfl) ?_; clear hs a; intro a hs
                    refine a_val hs rfl rfl rfl (y_load hs Tryd.underlying39 rfl rfl (fun w hw => (hw.to 0 rfl).cellV rfl)) ?_; clear hs a; intro a hs
                    refine a_val hs rfl rfl rfl (y_lenL hs Tryd.underlying39 rfl) ?_; clear hs a; intro a hs
                    refine a_val hs rfl rfl rfl (y_cmp hs rfl rfl rfl) ?_; clear hs a; intro a hs
                    refine a_val hs rfl rfl rfl (y_move hs rfl) ?_; clear hs a; intro a hs
                    rcases hs.know (d := 123) rfl with ⟨h123, hs1⟩ | ⟨h123, hs1⟩ <;> replace hs := hs1 <;> clear hs1
                    · replace h123 := of_decide_eq_true h123
                      refine a_valG hs rfl rfl rfl (y_move hs rfl) ?_; clear hs a; intro a hs
                      refine a_valG hs rfl rfl rfl (y_cmp hs rfl rfl rfl) ?_; clear hs a; intro a hs
                      refine a_val hs rfl rfl rfl (y_pickT hs rfl rfl rfl) ?_; clear hs a; intro a hs
                      refine wpList_nil (then_normal ?_)
                      refine wp_cond_split (hs.ev rfl) (fun h126 => ?_) (fun h126 => ?_)
                      · replace h126 := of_decide_eq_true h126
                        obtain ⟨y, hy⟩ : ∃ y, s.f3[i]? = some y := ⟨_, List.getElem?_eq_getElem (by omega)⟩
                        obtain ⟨g0, o, rfl, hcell⟩ := C_atG (show 0 < 7 by decide) hA3 (by omega)
                        obtain ⟨cs, hK, hc⟩ := hcell i y hy
                        obtain ⟨B2, d2, B3, d3, B4, d4, rfl, e2, g2, e3, g3, e4, g4⟩ := k42_open hK
                        have hdrop : s.f3.drop i = y :: s.f3.drop (i + 1) := by
                          rw [List.drop_eq_getElem_cons (by omega)]
                          rw [List.getElem?_eq_getElem (by omega)] at hy
                          injection hy with hy
                          rw [hy]
                        rw [hdrop] at hinv
                        refine wp_skip (then_normal ?_)
                        refine wp_seq ?_
                        refine wp_block ?_
                        refine wp_region_lit ?_
                        refine a_val hs rfl rfl rfl (y_faddr (k' := 3) 3 hs (by kernel_rfl) rfl rfl) ?_; clear hs a; intro a hs
                        refine a_val hs rfl rfl rfl (y_load hs Tryd.underlying39 rfl rfl (fun w hw => (hw.to 0 rfl).cellV rfl)) ?_; clear hs a; intro a hs
                        refine a_val hs rfl rfl rfl (y_move hs rfl) ?_; clear hs a; intro a hs
                        refine a_val hs rfl rfl rfl (y_idxB (size := 7) (off := o + i * 7) hs Tryd.underlying39 (by kernel_rfl) rfl rfl (by omega) (by omega) (by simp)) ?_; clear hs a; intro a hs
                        refine a_val hs rfl rfl rfl (y_loadAgg (vs := [.int .u8 y.f0, .string y.f1, .slice B2 y.f2.length d2, .slice B3 y.f3.length d3, .slice B4 y.f4.length d4, .int .i64 y.f5, .int .i64 y.f6]) hs Tryd.underlying42 rfl (by kernel_rfl) rfl (fun w hw k v hk => hc w hw.base k v hk)) ?_; clear hs a; intro a hs
                        refine a_val hs rfl rfl rfl (y_move hs rfl) ?_; clear hs a; intro a hs
                        refine a_val hs rfl rfl rfl (y_move hs rfl) ?_; clear hs a; intro a hs
                        refine a_val hs rfl rfl rfl (y_sub hs rfl rfl (by omega)) ?_; clear hs a; intro a hs
                        replace hs := hs.say 136 rfl (congrArg (Value.int IntKind.i64) (show (((q + 1 : Nat) : Int) - 1) = ((q : Nat) : Int) by omega))
                        have hfl := xshape_falls q y lf (by omega)
                        have hrb : -1 ≤ refS q y lf ∧ refS q y lf ≤ lf := refB_bounds hfl
                        refine a_eff rfl (e_callB Tryd.func46 rfl rfl hs rfl rfl (ih q rfl y B2 B3 B4 d2 d3 d4 lf _ (Kd.C_below g2 hs.mem.base) (Kd.C_below g3 hs.mem.base) (Kd.C_below g4 hs.mem.base) (hsm.2.2.1 y (List.mem_of_getElem? hy)) (by omega)) ?_); clear hs a; intro a w hs
                        refine a_val hs rfl rfl rfl (y_assign hs rfl) ?_; clear hs a; intro a hs
                        refine wpList_nil (in_normal (then_normal ?_))
                        refine wp_region_lit ?_
                        refine a_val hs rfl rfl rfl (y_move hs rfl) ?_; clear hs a; intro a hs
                        refine a_val hs rfl rfl rfl (y_add hs rfl rfl (by omega)) ?_; clear hs a; intro a hs
                        refine a_val hs rfl rfl rfl (y_assign hs rfl) ?_; clear hs a; intro a hs
                        refine wpList_nil (then_normal ?_)
                        refine ⟨m - 1, by omega, i + 1, refS q y lf, by omega, by omega, xk_next (hinv (by omega)), xk_stop (hinv (by omega)) hfl, ?_⟩
                        exact (hs.mem_to hs.mem).cut _ ⟨rfl, rfl, rfl, rfl, trivial⟩
                      · replace h126 := of_decide_eq_false h126
                        refine wp_exit (then_exit (then_exit (in_here (then_normal ?_))))
                        refine wp_seq ?_
                        refine wp_region_lit ?_
                        refine a_val hs rfl rfl rfl (y_move hs rfl) ?_; clear hs a; intro a hs
                        refine a_val hs rfl rfl rfl (y_assign hs rfl) ?_; clear hs a; intro a hs
                        refine wpList_nil (then_normal ?_)
                        refine wp_ret ?_
                        have hX : refS (q + 1) s left = lf := by
                          by_cases h0 : 0 ≤ lf
                          · have h1 := hinv h0
                            rw [List.drop_eq_nil_of_le (by omega), xk_nil] at h1
                            unfold refS; rw [h1]; rfl
                          · obtain ⟨h1, h2⟩ := hneg (by omega)
                            unfold refS refB; rw [h1, h2]; rfl
                        refine fin_ret hs (.tmp (hs.slots _ _ rfl) .nil) ⟨?_, hs.mem.base⟩
                        rw [hX]; rfl
                    · replace h123 := of_decide_eq_false h123
                      refine a_skip hs rfl rfl rfl ?_; clear hs a; intro a hs
                      refine a_skip hs rfl rfl rfl ?_; clear hs a; intro a hs
                      refine a_val hs rfl rfl rfl (y_pickF hs rfl rfl rfl) ?_; clear hs a; intro a hs
                      refine wpList_nil (then_normal ?_)
                      refine wp_cond_false (hs.ev rfl) ?_
                      refine wp_exit (then_exit (then_exit (in_here (then_normal ?_))))
                      refine wp_seq ?_
                      refine wp_region_lit ?_
                      refine a_val hs rfl rfl rfl (y_move hs rfl) ?_; clear hs a; intro a hs
                      refine a_val hs rfl rfl rfl (y_assign hs rfl) ?_; clear hs a; intro a hs
                      refine wpList_nil (then_normal ?_)
                      refine wp_ret ?_
                      have hX : refS (q + 1) s left = lf := by
                        by_cases h0 : 0 ≤ lf
                        · have h1 := hinv h0
                          rw [List.drop_eq_nil_of_le (by omega), xk_nil] at h1
                          unfold refS; rw [h1]; rfl
                        · obtain ⟨h1, h2⟩ := hneg (by omega)
                          unfold refS refB; rw [h1, h2]; rfl
                      refine fin_ret hs (.tmp (hs.slots _ _ rfl) .nil) ⟨?_, hs.mem.base⟩
                      rw [hX]; rfl
theorem ref_shape : ∀ n : Nat, n ≤ 1000 → RefSOk n := fun n => by
  induction n using Nat.strongRecOn with
  | _ n ih => exact fun hn s A2 A3 A4 c2 c3 c4 left v0 hA2 hA3 hA4 hsm hl => ref_shape_step n hn (fun q hq => ih q (by omega) (by omega)) s A2 A3 A4 c2 c3 c4 left v0 hA2 hA3 hA4 hsm hl
theorem refB_ge {r : Bool × Int} {l : Int} (h : fallsB r l) : decide (refB r ≥ 0) = r.1 := by
  unfold refB
  cases h1 : r.1 with
  | true => rw [if_pos rfl]; exact decide_eq_true (h.2.2 h1)
  | false => rw [if_neg (by decide)]; rfl
set_option maxRecDepth 100000 in
theorem ref_MayShape (s : XS) (A2 A3 A4 : Option Addr) (c2 c3 c4 : Nat) (v0 : World) (hA2 : Kd.C k25 v0 A2 s.f2.length s.f2) (hA3 : Kd.C k42 v0 A3 s.f3.length s.f3) (hA4 : Kd.C (Kd.slice 25 k25) v0 A4 s.f4.length s.f4) (hsm : smallS 16 s) :
    Calls Tryd.prog 22 #[.agg #[.int .u8 s.f0, .string s.f1, .slice A2 s.f2.length c2, .slice A3 s.f3.length c3, .slice A4 s.f4.length c4, .int .i64 s.f5, .int .i64 s.f6]] v0 fun e w' => e = .returned (.bool (xshape 16 s 8192).1) ∧ Below v0.heap.size v0 w' := by
  refine calls_enter (N := 6) (n := 5) (args := [.agg #[.int .u8 s.f0, .string s.f1, .slice A2 s.f2.length c2, .slice A3 s.f3.length c3, .slice A4 s.f4.length c4, .int .i64 s.f5, .int .i64 s.f6]]) Tryd.func22 rfl rfl rfl (H.init v0) (fun a hs => ?_)
  refine wp_seq ?_
  refine wp_region_lit ?_
  refine a_eff rfl (e_box (cs := #[_, _, _, _, _, _, _]) hs rfl rfl rfl ?_); clear hs a; intro gx a w hs
  refine a_val hs rfl rfl rfl (y_assign hs rfl) ?_; clear hs a; intro a hs
  refine wpList_nil (then_normal ?_)
  refine wp_seq ?_
  refine wp_region_lit ?_
  refine a_val hs rfl rfl rfl (y_loadPt 0 rfl hs Tryd.underlying42 rfl (by kernel_rfl) rfl) ?_; clear hs a; intro a hs
  refine a_eff rfl (e_callB Tryd.func46 rfl rfl hs rfl rfl (ref_shape 16 (by decide) s A2 A3 A4 c2 c3 c4 8192 _ (Kd.C_below hA2 hs.mem.base) (Kd.C_below hA3 hs.mem.base) (Kd.C_below hA4 hs.mem.base) hsm (by omega)) ?_); clear hs a; intro a w hs
  refine a_val hs rfl rfl rfl (y_cmp (b := (xshape 16 s 8192).1) hs rfl rfl (congrArg some (refB_ge (xshape_falls 16 s 8192 (by decide))))) ?_; clear hs a; intro a hs
  refine a_val hs rfl rfl rfl (y_assign hs rfl) ?_; clear hs a; intro a hs
  refine wpList_nil (then_normal ?_)
  refine wp_ret ?_
  refine fin_ret hs (.tmp (hs.slots _ _ rfl) .nil) ⟨rfl, hs.mem.base⟩
end Go.Proofs.YtibaidddhmdafaaDoor.E
end
