/- What YtibaidddhmdafaaDoorRTreeMays's proof reaches of its texts, part 19. Conditions: as each says. -/
import Derived.ArgAppend
import Derived.Below
import Derived.BigCall
import Derived.BigQuiet
import Derived.Deep.AppendLies
import Derived.Deep.CutBlock
import Derived.Deep.DeepCutAuto
import Derived.Deep.Draws
import Derived.Deep.LoopGhost
import Derived.Deep.OwnRows
import Derived.Deep.QuietTactic
import Derived.Deep.RegionHeld3
import Derived.Deep.WholeRow
import Derived.KernelRfl
import Derived.Laws.AppendOwn
import Derived.Laws.BitsLemmas
import Derived.Laws.BytesArg
import Derived.Laws.CopyRow
import Derived.Laws.Externs
import Derived.Laws.IdiomCopy
import Derived.Laws.MakeOwn
import Derived.Laws.OwnMore
import Derived.Laws.Rows
import Derived.Laws.Slices
import Derived.Laws.StructEq
import Derived.Laws.Tables
import Derived.Lib.AppendStr
import Derived.Lib.Builder
import Derived.Lib.Bytealg
import Derived.Lib.ConvBytes
import Derived.Lib.ItoaLen
import Derived.Lib.ItoaMem
import Derived.Lib.LaidTab
import Derived.Lib.Strings
import Derived.Lib.Walk
import Derived.Maps.AppendAt
import Derived.OrdersHeld
import Derived.OwnWalk
import Derived.RowKit
import Derived.RowKit3
import Derived.ScopeJumps
import Derived.Shelf.LaysM
import Derived.Shelf.Strconv.Itoa3
import Derived.Shelf.Strings.Builder1
import Derived.Sort.Grow
import Derived.Tactics
import Derived.Test.YtibaidddhmdafaaDoorProg
import Derived.WalkKit
import Derived.WideLaws
import Derived.Test.YtibaidddhmdafaaDoorZTreeMays15
import Derived.Test.YtibaidddhmdafaaDoorZTreeMays18
section
namespace Go.Proofs.YtibaidddhmdafaaDoor.E
open Go Go.RowKit Go.Proofs.YtibaidddhmdafaaDoorW.PrintWords Go.Proofs.YtibaidddhmdafaaDoorW.PrintLast Go.Proofs.YtibaidddhmdafaaDoorW.PrintMore Go.Proofs.YtibaidddhmdafaaDoor.PA
set_option linter.unusedVariables false
set_option linter.unusedSimpArgs false
/-- The head of an item as the reference asks it. -/
def refHead (x : XI) : Prop := 1 ≤ x.f0 ∧ x.f0 ≤ 6 ∧ decide (x.f0 = 1 ∨ x.f0 = 2 ∨ x.f0 = 3) = nameOk x.f1 ∧ (¬ (x.f0 = 1 ∨ x.f0 = 2 ∨ x.f0 = 3) → x.f1.size = 0) ∧ decide (x.f0 = 1 ∨ x.f0 = 4 ∨ x.f0 = 6 ∨ x.f0 = 5 ∧ x.f4 = 3) ≠ noExprB x.f2 ∧ decide (x.f0 = 2) ≠ noShapeB x.f3 ∧ (x.f0 = 5 ↔ 1 ≤ x.f4 ∧ x.f4 ≤ 4) ∧ (x.f0 ≠ 5 → x.f4 = 0) ∧ decide (x.f0 = 5 ∧ x.f4 = 4) = decide (0 < x.f5.length) ∧ x.f5.length ≤ 64
theorem stE_zero {x : XE} {l : Int} (h : noExprB x = true) : (stE x l).1 = false := by
  have h0 := of_decide_eq_true h
  unfold stE
  refine decide_eq_false ?_
  rw [xexpr]
  split
  · show ¬ 0 < 0; omega
  · have hE : exprParts x = none := by
      unfold exprParts
      repeat' split
      all_goals first | rfl | (exfalso; omega)
    rw [hE]; show ¬ 0 < 0; omega
theorem shape_zero {s : XS} {l : Int} (h : noShapeB s = true) : (xshape 16 s l).1 = false := by
  have h0 := of_decide_eq_true h
  rw [xshape]
  split
  · rfl
  · have hP : shapeParts s.f0 = none := by unfold shapeParts; (repeat' split) <;> first | rfl | (exfalso; omega)
    have hH : ¬ headS s := by rintro ⟨nm, a, p, r, h1, _⟩; rw [hP] at h1; cases h1
    rw [if_neg hH]
theorem itemParts_none {k p : Int} (h : itemParts k p = none) : ¬ (1 ≤ k ∧ k ≤ 6 ∧ (k = 5 ↔ 1 ≤ p ∧ p ≤ 4)) := by
  unfold itemParts at h
  rintro ⟨a, b, c⟩
  repeat' split at h
  all_goals first | cases h; done | omega
theorem refHead_head {x : XI} (h : refHead x) : headI x := by
  obtain ⟨b0, b1, b2, b3, b4, b5, b6, b7, b8, b9⟩ := h
  cases hp : itemParts x.f0 x.f4 with
  | none => exact absurd ⟨b0, b1, b6⟩ (itemParts_none hp)
  | some t =>
    obtain ⟨nm, v, sh, li⟩ := t
    have hn : nm = decide (x.f0 = 1 ∨ x.f0 = 2 ∨ x.f0 = 3) := by rcases items_cases hp with ⟨rfl, rfl, rfl, rfl, hk⟩ | ⟨rfl, rfl, rfl, rfl, hk⟩ | ⟨rfl, rfl, rfl, rfl, hk⟩ | ⟨rfl, rfl, rfl, rfl, hk⟩ | ⟨rfl, rfl, rfl, rfl, hk⟩ | ⟨rfl, rfl, rfl, rfl, hk⟩ <;> first | exact (decide_eq_true (by omega)).symm | exact (decide_eq_false (by omega)).symm
    have hv : v = decide (x.f0 = 1 ∨ x.f0 = 4 ∨ x.f0 = 6 ∨ x.f0 = 5 ∧ x.f4 = 3) := by rcases items_cases hp with ⟨rfl, rfl, rfl, rfl, hk⟩ | ⟨rfl, rfl, rfl, rfl, hk⟩ | ⟨rfl, rfl, rfl, rfl, hk⟩ | ⟨rfl, rfl, rfl, rfl, hk⟩ | ⟨rfl, rfl, rfl, rfl, hk⟩ | ⟨rfl, rfl, rfl, rfl, hk⟩ <;> first | exact (decide_eq_true (by omega)).symm | exact (decide_eq_false (by omega)).symm
    have hs : sh = decide (x.f0 = 2) := by rcases items_cases hp with ⟨rfl, rfl, rfl, rfl, hk⟩ | ⟨rfl, rfl, rfl, rfl, hk⟩ | ⟨rfl, rfl, rfl, rfl, hk⟩ | ⟨rfl, rfl, rfl, rfl, hk⟩ | ⟨rfl, rfl, rfl, rfl, hk⟩ | ⟨rfl, rfl, rfl, rfl, hk⟩ <;> first | exact (decide_eq_true (by omega)).symm | exact (decide_eq_false (by omega)).symm
    have hl : li = decide (x.f0 = 5 ∧ x.f4 = 4) := by rcases items_cases hp with ⟨rfl, rfl, rfl, rfl, hk⟩ | ⟨rfl, rfl, rfl, rfl, hk⟩ | ⟨rfl, rfl, rfl, rfl, hk⟩ | ⟨rfl, rfl, rfl, rfl, hk⟩ | ⟨rfl, rfl, rfl, rfl, hk⟩ | ⟨rfl, rfl, rfl, rfl, hk⟩ <;> first | exact (decide_eq_true (by omega)).symm | exact (decide_eq_false (by omega)).symm
    refine ⟨nm, v, sh, li, hp, fun h => ?_, fun h => ?_, b7, fun h => ?_, fun h => ?_, fun h => ?_, fun h => ?_⟩
    · rw [← b2, ← hn]; exact h
    · exact b3 (of_decide_eq_false (hn.symm.trans h))
    · have h1 := of_decide_eq_true (b8.symm.trans (hl.symm.trans h)); exact ⟨h1, b9⟩
    · have h1 := of_decide_eq_false (b8.symm.trans (hl.symm.trans h)); omega
    · have h1 : decide (x.f0 = 1 ∨ x.f0 = 4 ∨ x.f0 = 6 ∨ x.f0 = 5 ∧ x.f4 = 3) = false := hv.symm.trans h
      rw [h1] at b4; cases hq : noExprB x.f2 with
      | true => rfl
      | false => exact absurd hq.symm b4
    · have h1 : decide (x.f0 = 2) = false := hs.symm.trans h
      rw [h1] at b5; cases hq : noShapeB x.f3 with
      | true => rfl
      | false => exact absurd hq.symm b5
theorem itemF_ref {x : XI} {left : Int} (hl : ¬ left - 1 < 0) (hH : headI x) : itemF x left = if (valI x (left - 1)).1 = true then (if (shI x (valI x (left - 1)).2).1 = true then xlist stE x.f5 (shI x (valI x (left - 1)).2).2 else shI x (valI x (left - 1)).2) else valI x (left - 1) := by
  unfold itemF
  rw [if_neg hl, if_pos hH]
theorem itemF_not {x : XI} {left : Int} (h : ¬ (left - 1 < 0) → headI x → (valI x (left - 1)).1 = false ∨ x.f0 = 2 ∧ ∀ l, (xshape 16 x.f3 l).1 = false) : (itemF x left).1 = false := by
  unfold itemF
  split
  · rfl
  · rename_i h1
    split
    · rename_i h2
      rcases h h1 h2 with h3 | ⟨h3, h4⟩
      · rw [if_neg (by rw [h3]; exact Bool.false_ne_true)]; exact h3
      · split
        · have h5 : ∀ l, shI x l = xshape 16 x.f3 l := fun l => by unfold shI; rw [if_pos h3]
          rw [h5, if_neg (by rw [h4]; exact Bool.false_ne_true)]; exact h4 _
        · rename_i h5; simpa using h5
    · rfl
theorem head_refHead {x : XI} (h : headI x) (h1 : hasV x → noExprB x.f2 = false) (h2 : x.f0 = 2 → noShapeB x.f3 = false) : refHead x := by
  obtain ⟨nm, v, sh, li, hp, n1, n2, n3, l1, l2, v1, s1⟩ := h
  have hz : x.f1.size = 0 → nameOk x.f1 = false := nameOk_nil
  rcases items_cases hp with ⟨rfl, rfl, rfl, rfl, hk⟩ | ⟨rfl, rfl, rfl, rfl, hk⟩ | ⟨rfl, rfl, rfl, rfl, hk⟩ | ⟨rfl, rfl, rfl, rfl, hk⟩ | ⟨rfl, rfl, rfl, rfl, hk⟩ | ⟨rfl, rfl, rfl, rfl, hk⟩
  all_goals refine ⟨by omega, by omega, ?_, ?_, ?_, ?_, by omega, n3, ?_, ?_⟩
  all_goals first
    | (rw [n1 rfl]; exact decide_eq_true (by omega))
    | (rw [hz (n2 rfl)]; exact decide_eq_false (by omega))
    | (intro h0; first | exact n2 rfl | omega)
    | (rw [h1 (by unfold hasV; omega), decide_eq_true (by omega)]; exact fun h => by cases h)
    | (rw [v1 rfl, decide_eq_false (by omega)]; exact fun h => by cases h)
    | (rw [h2 (by omega), decide_eq_true (by omega)]; exact fun h => by cases h)
    | (rw [s1 rfl, decide_eq_false (by omega)]; exact fun h => by cases h)
    | (have := l1 rfl; first | omega | (rw [decide_eq_true (by omega), decide_eq_true (by omega)]))
    | (have := l2 rfl; first | omega | (rw [decide_eq_false (by omega), decide_eq_false (by omega)]))
theorem refI_bad {x : XI} {left : Int} (h : ¬ (¬ left - 1 < 0 ∧ refHead x)) : refB (itemF x left) = -1 := by
  have h1 : (itemF x left).1 = false := itemF_not (fun a b => by
    by_cases hv : hasV x ∧ noExprB x.f2 = true
    · left; unfold valI; rw [if_pos hv.1]; exact stE_zero hv.2
    · by_cases hs : x.f0 = 2 ∧ noShapeB x.f3 = true
      · exact .inr ⟨hs.1, fun l => shape_zero hs.2⟩
      · exact absurd ⟨a, head_refHead b (fun h => by cases hq : noExprB x.f2 with | true => exact absurd ⟨h, hq⟩ hv | false => rfl) (fun h => by cases hq : noShapeB x.f3 with | true => exact absurd ⟨h, hq⟩ hs | false => rfl)⟩ h)
  unfold refB; rw [h1]; rfl
theorem refE_B (x : XE) (l : Int) : refE 16 x l = refB (stE x l) := by
  unfold refE refB stE
  by_cases h : (xexpr 16 x l).1 = 0
  · rw [if_pos h, if_neg (by rw [decide_eq_false (by omega)]; exact Bool.false_ne_true)]
  · rw [if_neg h, if_pos (decide_eq_true (by omega))]
theorem ref_exprB (x : XE) (A : Option Addr) (C : Nat) (left : Int) (v0 : World) (hA : Kd.C k25 v0 A x.f3.length x.f3) (hsm : smallX 16 x) (hl : 0 ≤ left ∧ left ≤ 8192) :
    Calls Tryd.prog 42 #[.agg #[.int .u8 x.f0, .int .i64 x.f1, .string x.f2, .slice A x.f3.length C, .int .i64 x.f4, .int .i64 x.f5], .int .i64 left, .int .i64 ((16 : Nat) : Int)] v0 fun e w' => e = .returned (.int .i64 (refB (stE x left))) ∧ Below v0.heap.size v0 w' := by
  have h := ref_expr 16 (by decide) x A C left v0 hA hsm hl
  rw [refE_B] at h; exact h
theorem xb_k {r : Bool × Int} {k : Int → Bool × Int} (h : 0 ≤ refB r) : (if r.1 = true then k r.2 else r) = k (refB r) := by
  unfold refB at h ⊢
  split at h
  · rename_i h1; rw [if_pos h1, if_pos h1]
  · omega
theorem xb_s {r : Bool × Int} {k : Int → Bool × Int} {l : Int} (hf : fallsB r l) (h : refB r < 0) : (if r.1 = true then k r.2 else r).1 = false ∧ refB r = -1 := xb_stop rfl hf h
set_option maxHeartbeats 4000000 in
set_option maxRecDepth 100000 in
theorem ref_Item (x : XI) (A5 A10 A11 A12 A16 : Option Addr) (c5 c10 c11 c12 c16 : Nat) (left : Int) (v0 : World) (hA5 : Kd.C k25 v0 A5 x.f2.f3.length x.f2.f3) (hA10 : Kd.C k25 v0 A10 x.f3.f2.length x.f3.f2) (hA11 : Kd.C k42 v0 A11 x.f3.f3.length x.f3.f3) (hA12 : Kd.C (Kd.slice 25 k25) v0 A12 x.f3.f4.length x.f3.f4) (hA16 : Kd.C k25 v0 A16 x.f5.length x.f5) (hsm : smallI x) (hl : 0 ≤ left ∧ left ≤ 8192) :
    Calls Tryd.prog 41 #[.agg #[.int .u8 x.f0, .string x.f1, .int .u8 x.f2.f0, .int .i64 x.f2.f1, .string x.f2.f2, .slice A5 x.f2.f3.length c5, .int .i64 x.f2.f4, .int .i64 x.f2.f5, .int .u8 x.f3.f0, .string x.f3.f1, .slice A10 x.f3.f2.length c10, .slice A11 x.f3.f3.length c11, .slice A12 x.f3.f4.length c12, .int .i64 x.f3.f5, .int .i64 x.f3.f6, .int .u8 x.f4, .slice A16 x.f5.length c16, .int .i64 x.f6, .int .i64 x.f7], .int .i64 left] v0 fun e w' => e = .returned (.int .i64 (refB (itemF x left))) ∧ Below v0.heap.size v0 w' := by
  refine calls_enter (N := 155) (n := 153) (args := [.agg #[.int .u8 x.f0, .string x.f1, .int .u8 x.f2.f0, .int .i64 x.f2.f1, .string x.f2.f2, .slice A5 x.f2.f3.length c5, .int .i64 x.f2.f4, .int .i64 x.f2.f5, .int .u8 x.f3.f0, .string x.f3.f1, .slice A10 x.f3.f2.length c10, .slice A11 x.f3.f3.length c11, .slice A12 x.f3.f4.length c12, .int .i64 x.f3.f5, .int .i64 x.f3.f6, .int .u8 x.f4, .slice A16 x.f5.length c16, .int .i64 x.f6, .int .i64 x.f7], .int .i64 left]) Tryd.func41 rfl rfl rfl (H.init v0) (fun a hs => ?_)
  have hcl16 := C_len hA16
  refine wp_seq ?_
  refine wp_region_lit ?_
  refine a_eff rfl (e_box (cs := #[_, _, _, _, _, _, _, _, _, _, _, _, _, _, _, _, _, _, _]) hs rfl rfl rfl ?_); clear hs a; intro gx a w hs
  refine a_val hs rfl rfl rfl (y_assign hs rfl) ?_; clear hs a; intro a hs
  refine wpList_nil (then_normal ?_)
  refine wp_seq ?_
  refine wp_region_lit ?_
  refine a_val hs rfl rfl rfl (y_move hs rfl) ?_; clear hs a; intro a hs
  refine a_val hs rfl rfl rfl (y_sub hs rfl rfl (by omega)) ?_; clear hs a; intro a hs
  refine a_val hs rfl rfl rfl (y_assign hs rfl) ?_; clear hs a; intro a hs
  refine wpList_nil (then_normal ?_)
  refine wp_seq_cut (fun a w1 => ∃ (nm : Bool), (nm = decide (x.f0 = 1 ∨ x.f0 = 2 ∨ x.f0 = 3)) ∧ St 155 v0 [(1, .int .i64 (left - 1)), (2, .pointer (some ⟨gx, 0, none⟩)), (5, .bool nm)] [pt gx #[.int .u8 x.f0, .string x.f1, .int .u8 x.f2.f0, .int .i64 x.f2.f1, .string x.f2.f2, .slice A5 x.f2.f3.length c5, .int .i64 x.f2.f4, .int .i64 x.f2.f5, .int .u8 x.f3.f0, .string x.f3.f1, .slice A10 x.f3.f2.length c10, .slice A11 x.f3.f3.length c11, .slice A12 x.f3.f4.length c12, .int .i64 x.f3.f5, .int .i64 x.f3.f6, .int .u8 x.f4, .slice A16 x.f5.length c16, .int .i64 x.f6, .int .i64 x.f7] 45] a w1) ?_ (fun a w1 hJ => ?_)
  · refine wp_region_lit ?_
    refine a_val hs rfl rfl rfl (y_faddr (k' := 0) 0 hs (by kernel_rfl) rfl rfl) ?_; clear hs a; intro a hs
    refine a_val hs rfl rfl rfl (y_load hs Tryd.underlying37 rfl rfl (fun w hw => (hw.to 0 rfl).cellV rfl)) ?_; clear hs a; intro a hs
    refine a_val hs rfl rfl rfl (y_cmp hs rfl rfl rfl) ?_; clear hs a; intro a hs
    refine a_val hs rfl rfl rfl (y_move hs rfl) ?_; clear hs a; intro a hs
    rcases hs.know (d := 13) rfl with ⟨h13, hs1⟩ | ⟨h13, hs1⟩ <;> replace hs := hs1 <;> clear hs1
    · replace h13 := eq_of_beq h13
      refine a_skip hs rfl rfl rfl ?_; clear hs a; intro a hs
      refine a_skip hs rfl rfl rfl ?_; clear hs a; intro a hs
      refine a_skip hs rfl rfl rfl ?_; clear hs a; intro a hs
      refine a_val hs rfl rfl rfl (y_pickT hs rfl rfl rfl) ?_; clear hs a; intro a hs
      refine a_val hs rfl rfl rfl (y_move hs rfl) ?_; clear hs a; intro a hs
      refine a_skip hs rfl rfl rfl ?_; clear hs a; intro a hs
      refine a_skip hs rfl rfl rfl ?_; clear hs a; intro a hs
      refine a_skip hs rfl rfl rfl ?_; clear hs a; intro a hs
      refine a_val hs rfl rfl rfl (y_pickT hs rfl rfl rfl) ?_; clear hs a; intro a hs
      refine a_val hs rfl rfl rfl (y_assign hs rfl) ?_; clear hs a; intro a hs
      refine wpList_nil (then_normal ?_)
      refine ⟨true, (decide_eq_true (by omega)).symm, ?_⟩
      exact (hs.mem_to hs.mem).cut _ ⟨rfl, rfl, rfl, trivial⟩
    · replace h13 := ne_of_beq_false h13
      refine a_valG hs rfl rfl rfl (y_faddr (k' := 0) 0 hs (by kernel_rfl) rfl rfl) ?_; clear hs a; intro a hs
      refine a_valG hs rfl rfl rfl (y_load hs Tryd.underlying37 rfl rfl (fun w hw => (hw.to 0 rfl).cellV rfl)) ?_; clear hs a; intro a hs
      refine a_valG hs rfl rfl rfl (y_cmp hs rfl rfl rfl) ?_; clear hs a; intro a hs
      refine a_val hs rfl rfl rfl (y_pickF hs rfl rfl rfl) ?_; clear hs a; intro a hs
      refine a_val hs rfl rfl rfl (y_move hs rfl) ?_; clear hs a; intro a hs
      rcases hs.know (d := 18) rfl with ⟨h18, hs1⟩ | ⟨h18, hs1⟩ <;> replace hs := hs1 <;> clear hs1
      · replace h18 := eq_of_beq h18
        refine a_skip hs rfl rfl rfl ?_; clear hs a; intro a hs
        refine a_skip hs rfl rfl rfl ?_; clear hs a; intro a hs
        refine a_skip hs rfl rfl rfl ?_; clear hs a; intro a hs
        refine a_val hs rfl rfl rfl (y_pickT hs rfl rfl rfl) ?_; clear hs a; intro a hs
        refine a_val hs rfl rfl rfl (y_assign hs rfl) ?_; clear hs a; intro a hs
        refine wpList_nil (then_normal ?_)
        refine ⟨true, (decide_eq_true (by omega)).symm, ?_⟩
        exact (hs.mem_to hs.mem).cut _ ⟨rfl, rfl, rfl, trivial⟩
      · replace h18 := ne_of_beq_false h18
        refine a_valG hs rfl rfl rfl (y_faddr (k' := 0) 0 hs (by kernel_rfl) rfl rfl) ?_; clear hs a; intro a hs
        refine a_valG hs rfl rfl rfl (y_load hs Tryd.underlying37 rfl rfl (fun w hw => (hw.to 0 rfl).cellV rfl)) ?_; clear hs a; intro a hs
        refine a_valG hs rfl rfl rfl (y_cmp hs rfl rfl rfl) ?_; clear hs a; intro a hs
        refine a_val hs rfl rfl rfl (y_pickF hs rfl rfl rfl) ?_; clear hs a; intro a hs
        refine a_val hs rfl rfl rfl (y_assign hs rfl) ?_; clear hs a; intro a hs
        refine wpList_nil (then_normal ?_)
        refine ⟨(x.f0 == 3), by rw [Bool.eq_iff_iff]; simp only [beq_iff_eq, decide_eq_true_eq]; clear hs; omega, ?_⟩
        exact (hs.mem_to hs.mem).cut _ ⟨rfl, rfl, rfl, trivial⟩
  · clear hs
    obtain ⟨nm, hnm, hs⟩ := hJ
    refine wp_seq_cut (fun a w1 => ∃ (v : Bool), (v = decide (x.f0 = 1 ∨ x.f0 = 4 ∨ x.f0 = 6 ∨ x.f0 = 5 ∧ x.f4 = 3)) ∧ St 155 v0 [(1, .int .i64 (left - 1)), (2, .pointer (some ⟨gx, 0, none⟩)), (5, .bool nm), (6, .bool v)] [pt gx #[.int .u8 x.f0, .string x.f1, .int .u8 x.f2.f0, .int .i64 x.f2.f1, .string x.f2.f2, .slice A5 x.f2.f3.length c5, .int .i64 x.f2.f4, .int .i64 x.f2.f5, .int .u8 x.f3.f0, .string x.f3.f1, .slice A10 x.f3.f2.length c10, .slice A11 x.f3.f3.length c11, .slice A12 x.f3.f4.length c12, .int .i64 x.f3.f5, .int .i64 x.f3.f6, .int .u8 x.f4, .slice A16 x.f5.length c16, .int .i64 x.f6, .int .i64 x.f7] 45] a w1) ?_ (fun a w1 hJ => ?_)
    · refine wp_region_lit ?_
      refine a_val hs rfl rfl rfl (y_faddr (k' := 0) 0 hs (by kernel_rfl) rfl rfl) ?_; clear hs a; intro a hs
      refine a_val hs rfl rfl rfl (y_load hs Tryd.underlying37 rfl rfl (fun w hw => (hw.to 0 rfl).cellV rfl)) ?_; clear hs a; intro a hs
      refine a_val hs rfl rfl rfl (y_cmp hs rfl rfl rfl) ?_; clear hs a; intro a hs
      refine a_val hs rfl rfl rfl (y_move hs rfl) ?_; clear hs a; intro a hs
      rcases hs.know (d := 26) rfl with ⟨h26, hs1⟩ | ⟨h26, hs1⟩ <;> replace hs := hs1 <;> clear hs1
      · replace h26 := eq_of_beq h26
        refine a_skip hs rfl rfl rfl ?_; clear hs a; intro a hs
        refine a_skip hs rfl rfl rfl ?_; clear hs a; intro a hs
        refine a_skip hs rfl rfl rfl ?_; clear hs a; intro a hs
        refine a_val hs rfl rfl rfl (y_pickT hs rfl rfl rfl) ?_; clear hs a; intro a hs
        refine a_val hs rfl rfl rfl (y_move hs rfl) ?_; clear hs a; intro a hs
        refine a_skip hs rfl rfl rfl ?_; clear hs a; intro a hs
        refine a_skip hs rfl rfl rfl ?_; clear hs a; intro a hs
        refine a_skip hs rfl rfl rfl ?_; clear hs a; intro a hs
        refine a_val hs rfl rfl rfl (y_pickT hs rfl rfl rfl) ?_; clear hs a; intro a hs
        refine a_val hs rfl rfl rfl (y_move hs rfl) ?_; clear hs a; intro a hs
        refine a_skip hs rfl rfl rfl ?_; clear hs a; intro a hs
        refine a_skip hs rfl rfl rfl ?_; clear hs a; intro a hs
        refine a_skip hs rfl rfl rfl ?_; clear hs a; intro a hs
        refine a_skip hs rfl rfl rfl ?_; clear hs a; intro a hs
        refine a_skip hs rfl rfl rfl ?_; clear hs a; intro a hs
        refine a_skip hs rfl rfl rfl ?_; clear hs a; intro a hs
        refine a_skip hs rfl rfl rfl ?_; clear hs a; intro a hs
        refine a_skip hs rfl rfl rfl ?_; clear hs a; intro a hs
        refine a_val hs rfl rfl rfl (y_pickT hs rfl rfl rfl) ?_; clear hs a; intro a hs
        refine a_val hs rfl rfl rfl (y_assign hs rfl) ?_; clear hs a; intro a hs
        refine wpList_nil (then_normal ?_)
        refine ⟨true, (decide_eq_true (by omega)).symm, ?_⟩
        exact (hs.mem_to hs.mem).cut _ ⟨rfl, rfl, rfl, rfl, trivial⟩
      · replace h26 := ne_of_beq_false h26
        refine a_valG hs rfl rfl rfl (y_faddr (k' := 0) 0 hs (by kernel_rfl) rfl rfl) ?_; clear hs a; intro a hs
        refine a_valG hs rfl rfl rfl (y_load hs Tryd.underlying37 rfl rfl (fun w hw => (hw.to 0 rfl).cellV rfl)) ?_; clear hs a; intro a hs
        refine a_valG hs rfl rfl rfl (y_cmp hs rfl rfl rfl) ?_; clear hs a; intro a hs
        refine a_val hs rfl rfl rfl (y_pickF hs rfl rfl rfl) ?_; clear hs a; intro a hs
        refine a_val hs rfl rfl rfl (y_move hs rfl) ?_; clear hs a; intro a hs
        rcases hs.know (d := 31) rfl with ⟨h31, hs1⟩ | ⟨h31, hs1⟩ <;> replace hs := hs1 <;> clear hs1
        · replace h31 := eq_of_beq h31
          refine a_skip hs rfl rfl rfl ?_; clear hs a; intro a hs
          refine a_skip hs rfl rfl rfl ?_; clear hs a; intro a hs
          refine a_skip hs rfl rfl rfl ?_; clear hs a; intro a hs
          refine a_val hs rfl rfl rfl (y_pickT hs rfl rfl rfl) ?_; clear hs a; intro a hs
          refine a_val hs rfl rfl rfl (y_move hs rfl) ?_; clear hs a; intro a hs
          refine a_skip hs rfl rfl rfl ?_; clear hs a; intro a hs
          refine a_skip hs rfl rfl rfl ?_; clear hs a; intro a hs
          refine a_skip hs rfl rfl rfl ?_; clear hs a; intro a hs
          refine a_skip hs rfl rfl rfl ?_; clear hs a; intro a hs
          refine a_skip hs rfl rfl rfl ?_; clear hs a; intro a hs
          refine a_skip hs rfl rfl rfl ?_; clear hs a; intro a hs
          refine a_skip hs rfl rfl rfl ?_; clear hs a; intro a hs
          refine a_skip hs rfl rfl rfl ?_; clear hs a; intro a hs
          refine a_val hs rfl rfl rfl (y_pickT hs rfl rfl rfl) ?_; clear hs a; intro a hs
          refine a_val hs rfl rfl rfl (y_assign hs rfl) ?_; clear hs a; intro a hs
          refine wpList_nil (then_normal ?_)
          refine ⟨true, (decide_eq_true (by omega)).symm, ?_⟩
          exact (hs.mem_to hs.mem).cut _ ⟨rfl, rfl, rfl, rfl, trivial⟩
        · replace h31 := ne_of_beq_false h31
          refine a_valG hs rfl rfl rfl (y_faddr (k' := 0) 0 hs (by kernel_rfl) rfl rfl) ?_; clear hs a; intro a hs
          refine a_valG hs rfl rfl rfl (y_load hs Tryd.underlying37 rfl rfl (fun w hw => (hw.to 0 rfl).cellV rfl)) ?_; clear hs a; intro a hs
          refine a_valG hs rfl rfl rfl (y_cmp hs rfl rfl rfl) ?_; clear hs a; intro a hs
          refine a_val hs rfl rfl rfl (y_pickF hs rfl rfl rfl) ?_; clear hs a; intro a hs
          refine a_val hs rfl rfl rfl (y_move hs rfl) ?_; clear hs a; intro a hs
          rcases hs.know (d := 36) rfl with ⟨h36, hs1⟩ | ⟨h36, hs1⟩ <;> replace hs := hs1 <;> clear hs1
          · replace h36 := eq_of_beq h36
            refine a_skip hs rfl rfl rfl ?_; clear hs a; intro a hs
            refine a_skip hs rfl rfl rfl ?_; clear hs a; intro a hs
            refine a_skip hs rfl rfl rfl ?_; clear hs a; intro a hs
            refine a_skip hs rfl rfl rfl ?_; clear hs a; intro a hs
            refine a_skip hs rfl rfl rfl ?_; clear hs a; intro a hs
            refine a_skip hs rfl rfl rfl ?_; clear hs a; intro a hs
            refine a_skip hs rfl rfl rfl ?_; clear hs a; intro a hs
            refine a_skip hs rfl rfl rfl ?_; clear hs a; intro a hs
            refine a_val hs rfl rfl rfl (y_pickT hs rfl rfl rfl) ?_; clear hs a; intro a hs
            refine a_val hs rfl rfl rfl (y_assign hs rfl) ?_; clear hs a; intro a hs
            refine wpList_nil (then_normal ?_)
            refine ⟨true, (decide_eq_true (by omega)).symm, ?_⟩
            exact (hs.mem_to hs.mem).cut _ ⟨rfl, rfl, rfl, rfl, trivial⟩
          · replace h36 := ne_of_beq_false h36
            refine a_valG hs rfl rfl rfl (y_faddr (k' := 0) 0 hs (by kernel_rfl) rfl rfl) ?_; clear hs a; intro a hs
            refine a_valG hs rfl rfl rfl (y_load hs Tryd.underlying37 rfl rfl (fun w hw => (hw.to 0 rfl).cellV rfl)) ?_; clear hs a; intro a hs
            refine a_valG hs rfl rfl rfl (y_cmp hs rfl rfl rfl) ?_; clear hs a; intro a hs
            refine a_valG hs rfl rfl rfl (y_move hs rfl) ?_; clear hs a; intro a hs
            rcases hs.know (d := 40) rfl with ⟨h40, hs1⟩ | ⟨h40, hs1⟩ <;> replace hs := hs1 <;> clear hs1
            · replace h40 := eq_of_beq h40
              refine a_valG hs rfl rfl rfl (y_faddr (k' := 15) 15 hs (by kernel_rfl) rfl rfl) ?_; clear hs a; intro a hs
              refine a_valG hs rfl rfl rfl (y_load hs Tryd.underlying43 rfl rfl (fun w hw => (hw.to 0 rfl).cellV rfl)) ?_; clear hs a; intro a hs
              refine a_valG hs rfl rfl rfl (y_cmp hs rfl rfl rfl) ?_; clear hs a; intro a hs
              refine a_valG hs rfl rfl rfl (y_pickT hs rfl rfl rfl) ?_; clear hs a; intro a hs
              refine a_val hs rfl rfl rfl (y_pickF hs rfl rfl rfl) ?_; clear hs a; intro a hs
              refine a_val hs rfl rfl rfl (y_assign hs rfl) ?_; clear hs a; intro a hs
              refine wpList_nil (then_normal ?_)
              refine ⟨(x.f4 == 3), by rw [Bool.eq_iff_iff]; simp only [beq_iff_eq, decide_eq_true_eq]; clear hs; omega, ?_⟩
              exact (hs.mem_to hs.mem).cut _ ⟨rfl, rfl, rfl, rfl, trivial⟩
            · replace h40 := ne_of_beq_false h40
              refine a_skip hs rfl rfl rfl ?_; clear hs a; intro a hs
              refine a_skip hs rfl rfl rfl ?_; clear hs a; intro a hs
              refine a_skip hs rfl rfl rfl ?_; clear hs a; intro a hs
              refine a_valG hs rfl rfl rfl (y_pickF hs rfl rfl rfl) ?_; clear hs a; intro a hs
              refine a_val hs rfl rfl rfl (y_pickF hs rfl rfl rfl) ?_; clear hs a; intro a hs
              refine a_val hs rfl rfl rfl (y_assign hs rfl) ?_; clear hs a; intro a hs
              refine wpList_nil (then_normal ?_)
              refine ⟨false, (decide_eq_false (by omega)).symm, ?_⟩
              exact (hs.mem_to hs.mem).cut _ ⟨rfl, rfl, rfl, rfl, trivial⟩
    · clear hs
      obtain ⟨v, hvm, hs⟩ := hJ
      refine wp_seq_cut (fun a w1 => (¬ left - 1 < 0 ∧ 1 ≤ x.f0 ∧ x.f0 ≤ 6) ∧ (nm = nameOk x.f1) ∧ (nm = false → x.f1.size = 0) ∧ St 155 v0 [(1, .int .i64 (left - 1)), (2, .pointer (some ⟨gx, 0, none⟩)), (6, .bool v)] [pt gx #[.int .u8 x.f0, .string x.f1, .int .u8 x.f2.f0, .int .i64 x.f2.f1, .string x.f2.f2, .slice A5 x.f2.f3.length c5, .int .i64 x.f2.f4, .int .i64 x.f2.f5, .int .u8 x.f3.f0, .string x.f3.f1, .slice A10 x.f3.f2.length c10, .slice A11 x.f3.f3.length c11, .slice A12 x.f3.f4.length c12, .int .i64 x.f3.f5, .int .i64 x.f3.f6, .int .u8 x.f4, .slice A16 x.f5.length c16, .int .i64 x.f6, .int .i64 x.f7] 45] a w1) ?_ (fun a w1 hJ => ?_)
      · refine wp_seq ?_
        refine wp_region_lit ?_
        refine a_val hs rfl rfl rfl (y_move hs rfl) ?_; clear hs a; intro a hs
        refine a_val hs rfl rfl rfl (y_cmp hs rfl rfl rfl) ?_; clear hs a; intro a hs
        refine a_val hs rfl rfl rfl (y_move hs rfl) ?_; clear hs a; intro a hs
        rcases hs.know (d := 48) rfl with ⟨h48, hs1⟩ | ⟨h48, hs1⟩ <;> replace hs := hs1 <;> clear hs1
        · replace h48 := of_decide_eq_true h48
          refine a_skip hs rfl rfl rfl ?_; clear hs a; intro a hs
          refine a_skip hs rfl rfl rfl ?_; clear hs a; intro a hs
          refine a_skip hs rfl rfl rfl ?_; clear hs a; intro a hs
          refine a_val hs rfl rfl rfl (y_pickT hs rfl rfl rfl) ?_; clear hs a; intro a hs
          refine a_val hs rfl rfl rfl (y_move hs rfl) ?_; clear hs a; intro a hs
          refine a_skip hs rfl rfl rfl ?_; clear hs a; intro a hs
          refine a_skip hs rfl rfl rfl ?_; clear hs a; intro a hs
          refine a_skip hs rfl rfl rfl ?_; clear hs a; intro a hs
          refine a_val hs rfl rfl rfl (y_pickT hs rfl rfl rfl) ?_; clear hs a; intro a hs
          refine a_val hs rfl rfl rfl (y_move hs rfl) ?_; clear hs a; intro a hs
          refine a_skip hs rfl rfl rfl ?_; clear hs a; intro a hs
          refine a_skip hs rfl rfl rfl ?_; clear hs a; intro a hs
          refine a_skip hs rfl rfl rfl ?_; clear hs a; intro a hs
          refine a_skip hs rfl rfl rfl ?_; clear hs a; intro a hs
          refine a_skip hs rfl rfl rfl ?_; clear hs a; intro a hs
          refine a_val hs rfl rfl rfl (y_pickT hs rfl rfl rfl) ?_; clear hs a; intro a hs
          refine a_val hs rfl rfl rfl (y_move hs rfl) ?_; clear hs a; intro a hs
          refine a_skip hs rfl rfl rfl ?_; clear hs a; intro a hs
          refine a_skip hs rfl rfl rfl ?_; clear hs a; intro a hs
          refine a_skip hs rfl rfl rfl ?_; clear hs a; intro a hs
          refine a_skip hs rfl rfl rfl ?_; clear hs a; intro a hs
          refine a_skip hs rfl rfl rfl ?_; clear hs a; intro a hs
          refine a_skip hs rfl rfl rfl ?_; clear hs a; intro a hs
          refine a_skip hs rfl rfl rfl ?_; clear hs a; intro a hs
          refine a_val hs rfl rfl rfl (y_pickT hs rfl rfl rfl) ?_; clear hs a; intro a hs
          refine wpList_nil (then_normal ?_)
          refine wp_cond_true (hs.ev rfl) ?_
          refine wp_seq ?_
          refine wp_region_lit ?_
          refine a_val hs rfl rfl rfl (y_assign hs rfl) ?_; clear hs a; intro a hs
          refine wpList_nil (then_normal ?_)
          refine wp_ret (then_ret ?_)
          refine fin_ret hs (.tmp (hs.slots _ _ rfl) .nil) ⟨?_, hs.mem.base⟩
          have hX : refB (itemF x left) = -1 := refI_bad (by
            clear hs
            rintro ⟨a0, b0, b1, b2, b3, b4, b5, b6, b7, b8, b9⟩
            first | omega | (rw [hnm, b2] at h65; simp at h65; done) | (have hz : nm = false := (by simpa using h68); have := b3 (of_decide_eq_false (hnm.symm.trans hz)); omega) | exact b4 (hvm.symm.trans (eq_of_beq h79)) | exact b5 (Eq.trans (by rw [Bool.eq_iff_iff]; simp) (eq_of_beq h88)) | (rw [hli.trans b8] at h126; simp at h126; done) | (first | (simp only [Bool.not_eq_true', Bool.not_eq_false', beq_eq_false_iff_ne, beq_iff_eq, ne_eq] at h102; rw [Bool.eq_iff_iff] at h102; simp only [beq_iff_eq, decide_eq_true_eq, Bool.false_eq_true, iff_false] at h102; omega) | (simp at h102; omega)))
          rw [hX]; rfl
        · replace h48 := of_decide_eq_false h48
          refine a_valG hs rfl rfl rfl (y_faddr (k' := 0) 0 hs (by kernel_rfl) rfl rfl) ?_; clear hs a; intro a hs
          refine a_valG hs rfl rfl rfl (y_load hs Tryd.underlying37 rfl rfl (fun w hw => (hw.to 0 rfl).cellV rfl)) ?_; clear hs a; intro a hs
          refine a_valG hs rfl rfl rfl (y_cmp hs rfl rfl rfl) ?_; clear hs a; intro a hs
          refine a_val hs rfl rfl rfl (y_pickF hs rfl rfl rfl) ?_; clear hs a; intro a hs
          refine a_val hs rfl rfl rfl (y_move hs rfl) ?_; clear hs a; intro a hs
          rcases hs.know (d := 53) rfl with ⟨h53, hs1⟩ | ⟨h53, hs1⟩ <;> replace hs := hs1 <;> clear hs1
          · replace h53 := of_decide_eq_true h53
            refine a_skip hs rfl rfl rfl ?_; clear hs a; intro a hs
            refine a_skip hs rfl rfl rfl ?_; clear hs a; intro a hs
            refine a_skip hs rfl rfl rfl ?_; clear hs a; intro a hs
            refine a_val hs rfl rfl rfl (y_pickT hs rfl rfl rfl) ?_; clear hs a; intro a hs
            refine a_val hs rfl rfl rfl (y_move hs rfl) ?_; clear hs a; intro a hs
            refine a_skip hs rfl rfl rfl ?_; clear hs a; intro a hs
            refine a_skip hs rfl rfl rfl ?_; clear hs a; intro a hs
            refine a_skip hs rfl rfl rfl ?_; clear hs a; intro a hs
            refine a_skip hs rfl rfl rfl ?_; clear hs a; intro a hs
            refine a_skip hs rfl rfl rfl ?_; clear hs a; intro a hs
            refine a_val hs rfl rfl rfl (y_pickT hs rfl rfl rfl) ?_; clear hs a; intro a hs
            refine a_val hs rfl rfl rfl (y_move hs rfl) ?_; clear hs a; intro a hs
            refine a_skip hs rfl rfl rfl ?_; clear hs a; intro a hs
            refine a_skip hs rfl rfl rfl ?_; clear hs a; intro a hs
            refine a_skip hs rfl rfl rfl ?_; clear hs a; intro a hs
            refine a_skip hs rfl rfl rfl ?_; clear hs a; intro a hs
            refine a_skip hs rfl rfl rfl ?_; clear hs a; intro a hs
            refine a_skip hs rfl rfl rfl ?_; clear hs a; intro a hs
            refine a_skip hs rfl rfl rfl ?_; clear hs a; intro a hs
            refine a_val hs rfl rfl rfl (y_pickT hs rfl rfl rfl) ?_; clear hs a; intro a hs
            refine wpList_nil (then_normal ?_)
            refine wp_cond_true (hs.ev rfl) ?_
            refine wp_seq ?_
            refine wp_region_lit ?_
            refine a_val hs rfl rfl rfl (y_assign hs rfl) ?_; clear hs a; intro a hs
            refine wpList_nil (then_normal ?_)
            refine wp_ret (then_ret ?_)
            refine fin_ret hs (.tmp (hs.slots _ _ rfl) .nil) ⟨?_, hs.mem.base⟩
            have hX : refB (itemF x left) = -1 := refI_bad (by
              clear hs
              rintro ⟨a0, b0, b1, b2, b3, b4, b5, b6, b7, b8, b9⟩
              first | omega | (rw [hnm, b2] at h65; simp at h65; done) | (have hz : nm = false := (by simpa using h68); have := b3 (of_decide_eq_false (hnm.symm.trans hz)); omega) | exact b4 (hvm.symm.trans (eq_of_beq h79)) | exact b5 (Eq.trans (by rw [Bool.eq_iff_iff]; simp) (eq_of_beq h88)) | (rw [hli.trans b8] at h126; simp at h126; done) | (first | (simp only [Bool.not_eq_true', Bool.not_eq_false', beq_eq_false_iff_ne, beq_iff_eq, ne_eq] at h102; rw [Bool.eq_iff_iff] at h102; simp only [beq_iff_eq, decide_eq_true_eq, Bool.false_eq_true, iff_false] at h102; omega) | (simp at h102; omega)))
            rw [hX]; rfl
          · replace h53 := of_decide_eq_false h53
            refine a_valG hs rfl rfl rfl (y_faddr (k' := 0) 0 hs (by kernel_rfl) rfl rfl) ?_; clear hs a; intro a hs
            refine a_valG hs rfl rfl rfl (y_load hs Tryd.underlying37 rfl rfl (fun w hw => (hw.to 0 rfl).cellV rfl)) ?_; clear hs a; intro a hs
            refine a_valG hs rfl rfl rfl (y_cmp hs rfl rfl rfl) ?_; clear hs a; intro a hs
            refine a_val hs rfl rfl rfl (y_pickF hs rfl rfl rfl) ?_; clear hs a; intro a hs
            refine a_val hs rfl rfl rfl (y_move hs rfl) ?_; clear hs a; intro a hs
            rcases hs.know (d := 58) rfl with ⟨h58, hs1⟩ | ⟨h58, hs1⟩ <;> replace hs := hs1 <;> clear hs1
            · replace h58 := of_decide_eq_true h58
              refine a_skip hs rfl rfl rfl ?_; clear hs a; intro a hs
              refine a_skip hs rfl rfl rfl ?_; clear hs a; intro a hs
              refine a_skip hs rfl rfl rfl ?_; clear hs a; intro a hs
              refine a_skip hs rfl rfl rfl ?_; clear hs a; intro a hs
              refine a_skip hs rfl rfl rfl ?_; clear hs a; intro a hs
              refine a_val hs rfl rfl rfl (y_pickT hs rfl rfl rfl) ?_; clear hs a; intro a hs
              refine a_val hs rfl rfl rfl (y_move hs rfl) ?_; clear hs a; intro a hs
              refine a_skip hs rfl rfl rfl ?_; clear hs a; intro a hs
              refine a_skip hs rfl rfl rfl ?_; clear hs a; intro a hs
              refine a_skip hs rfl rfl rfl ?_; clear hs a; intro a hs
              refine a_skip hs rfl rfl rfl ?_; clear hs a; intro a hs
              refine a_skip hs rfl rfl rfl ?_; clear hs a; intro a hs
              refine a_skip hs rfl rfl rfl ?_; clear hs a; intro a hs
              refine a_skip hs rfl rfl rfl ?_; clear hs a; intro a hs
              refine a_val hs rfl rfl rfl (y_pickT hs rfl rfl rfl) ?_; clear hs a; intro a hs
              refine wpList_nil (then_normal ?_)
              refine wp_cond_true (hs.ev rfl) ?_
              refine wp_seq ?_
              refine wp_region_lit ?_
              refine a_val hs rfl rfl rfl (y_assign hs rfl) ?_; clear hs a; intro a hs
              refine wpList_nil (then_normal ?_)
              refine wp_ret (then_ret ?_)
              refine fin_ret hs (.tmp (hs.slots _ _ rfl) .nil) ⟨?_, hs.mem.base⟩
              have hX : refB (itemF x left) = -1 := refI_bad (by
                clear hs
                rintro ⟨a0, b0, b1, b2, b3, b4, b5, b6, b7, b8, b9⟩
                first | omega | (rw [hnm, b2] at h65; simp at h65; done) | (have hz : nm = false := (by simpa using h68); have := b3 (of_decide_eq_false (hnm.symm.trans hz)); omega) | exact b4 (hvm.symm.trans (eq_of_beq h79)) | exact b5 (Eq.trans (by rw [Bool.eq_iff_iff]; simp) (eq_of_beq h88)) | (rw [hli.trans b8] at h126; simp at h126; done) | (first | (simp only [Bool.not_eq_true', Bool.not_eq_false', beq_eq_false_iff_ne, beq_iff_eq, ne_eq] at h102; rw [Bool.eq_iff_iff] at h102; simp only [beq_iff_eq, decide_eq_true_eq, Bool.false_eq_true, iff_false] at h102; omega) | (simp at h102; omega)))
              rw [hX]; rfl
            · replace h58 := of_decide_eq_false h58
              refine a_valG hs rfl rfl rfl (y_move hs rfl) ?_; clear hs a; intro a hs
              refine a_valG hs rfl rfl rfl (y_faddr (k' := 1) 1 hs (by kernel_rfl) rfl rfl) ?_; clear hs a; intro a hs
              refine a_valG hs rfl rfl rfl (y_load hs Tryd.underlying9 rfl rfl (fun w hw => (hw.to 0 rfl).cellV rfl)) ?_; clear hs a; intro a hs
              refine a_effG hs rfl (e_callB Tryd.func70 rfl rfl hs rfl rfl (recoupref09_Name.calls _ x.f1 (nameOk x.f1) _ (refName x.f1 hsm.1)) ?_); clear hs a; intro a w hs
              refine a_valG hs rfl rfl rfl (y_bne hs Tryd.underlying4 rfl rfl) ?_; clear hs a; intro a hs
              refine a_val hs rfl rfl rfl (y_pickF hs rfl rfl rfl) ?_; clear hs a; intro a hs
              refine a_val hs rfl rfl rfl (y_move hs rfl) ?_; clear hs a; intro a hs
              rcases hs.know (d := 65) rfl with ⟨h65, hs1⟩ | ⟨h65, hs1⟩ <;> replace hs := hs1 <;> clear hs1
              · refine a_skip hs rfl rfl rfl ?_; clear hs a; intro a hs
                refine a_skip hs rfl rfl rfl ?_; clear hs a; intro a hs
                refine a_skip hs rfl rfl rfl ?_; clear hs a; intro a hs
                refine a_skip hs rfl rfl rfl ?_; clear hs a; intro a hs
                refine a_skip hs rfl rfl rfl ?_; clear hs a; intro a hs
                refine a_skip hs rfl rfl rfl ?_; clear hs a; intro a hs
                refine a_skip hs rfl rfl rfl ?_; clear hs a; intro a hs
                refine a_val hs rfl rfl rfl (y_pickT hs rfl rfl rfl) ?_; clear hs a; intro a hs
                refine wpList_nil (then_normal ?_)
                refine wp_cond_true (hs.ev rfl) ?_
                refine wp_seq ?_
                refine wp_region_lit ?_
                refine a_val hs rfl rfl rfl (y_assign hs rfl) ?_; clear hs a; intro a hs
                refine wpList_nil (then_normal ?_)
                refine wp_ret (then_ret ?_)
                refine fin_ret hs (.tmp (hs.slots _ _ rfl) .nil) ⟨?_, hs.mem.base⟩
                have hX : refB (itemF x left) = -1 := refI_bad (by
                  clear hs
                  rintro ⟨a0, b0, b1, b2, b3, b4, b5, b6, b7, b8, b9⟩
                  first | omega | (rw [hnm, b2] at h65; simp at h65; done) | (have hz : nm = false := (by simpa using h68); have := b3 (of_decide_eq_false (hnm.symm.trans hz)); omega) | exact b4 (hvm.symm.trans (eq_of_beq h79)) | exact b5 (Eq.trans (by rw [Bool.eq_iff_iff]; simp) (eq_of_beq h88)) | (rw [hli.trans b8] at h126; simp at h126; done) | (first | (simp only [Bool.not_eq_true', Bool.not_eq_false', beq_eq_false_iff_ne, beq_iff_eq, ne_eq] at h102; rw [Bool.eq_iff_iff] at h102; simp only [beq_iff_eq, decide_eq_true_eq, Bool.false_eq_true, iff_false] at h102; omega) | (simp at h102; omega)))
                rw [hX]; rfl
              · refine a_valG hs rfl rfl rfl (y_move hs rfl) ?_; clear hs a; intro a hs
                refine a_valG hs rfl rfl rfl (y_not hs rfl) ?_; clear hs a; intro a hs
                refine a_valG hs rfl rfl rfl (y_move hs rfl) ?_; clear hs a; intro a hs
                rcases hs.know (d := 68) rfl with ⟨h68, hs1⟩ | ⟨h68, hs1⟩ <;> replace hs := hs1 <;> clear hs1
                · replace h68 := (not_t h68)
                  refine a_valG hs rfl rfl rfl (y_faddr (k' := 1) 1 hs (by kernel_rfl) rfl rfl) ?_; clear hs a; intro a hs
                  refine a_valG hs rfl rfl rfl (y_load hs Tryd.underlying9 rfl rfl (fun w hw => (hw.to 0 rfl).cellV rfl)) ?_; clear hs a; intro a hs
                  refine a_valG hs rfl rfl rfl (y_sneE hs rfl rfl) ?_; clear hs a; intro a hs
                  refine a_valG hs rfl rfl rfl (y_pickT hs rfl rfl rfl) ?_; clear hs a; intro a hs
                  refine a_val hs rfl rfl rfl (y_pickF hs rfl rfl rfl) ?_; clear hs a; intro a hs
                  refine wpList_nil (then_normal ?_)
                  refine wp_cond_split (hs.ev rfl) (fun h73 => ?_) (fun h73 => ?_)
                  · replace h73 := of_decide_eq_true h73
                    refine wp_seq ?_
                    refine wp_region_lit ?_
                    refine a_val hs rfl rfl rfl (y_assign hs rfl) ?_; clear hs a; intro a hs
                    refine wpList_nil (then_normal ?_)
                    refine wp_ret (then_ret ?_)
                    refine fin_ret hs (.tmp (hs.slots _ _ rfl) .nil) ⟨?_, hs.mem.base⟩
                    have hX : refB (itemF x left) = -1 := refI_bad (by
                      clear hs
                      rintro ⟨a0, b0, b1, b2, b3, b4, b5, b6, b7, b8, b9⟩
                      first | omega | (rw [hnm, b2] at h65; simp at h65; done) | (have hz : nm = false := (by simpa using h68); have := b3 (of_decide_eq_false (hnm.symm.trans hz)); omega) | exact b4 (hvm.symm.trans (eq_of_beq h79)) | exact b5 (Eq.trans (by rw [Bool.eq_iff_iff]; simp) (eq_of_beq h88)) | (rw [hli.trans b8] at h126; simp at h126; done) | (first | (simp only [Bool.not_eq_true', Bool.not_eq_false', beq_eq_false_iff_ne, beq_iff_eq, ne_eq] at h102; rw [Bool.eq_iff_iff] at h102; simp only [beq_iff_eq, decide_eq_true_eq, Bool.false_eq_true, iff_false] at h102; omega) | (simp at h102; omega)))
                    rw [hX]; rfl
                  · replace h73 := of_decide_eq_false h73
                    refine wp_skip (then_normal ?_)
                    refine ⟨⟨by omega, by omega, by omega⟩, by simpa using h65, fun h0 => by first | (rw [h0] at h68; cases h68; done) | omega, ?_⟩
                    exact (hs.mem_to hs.mem).cut _ ⟨rfl, rfl, rfl, trivial⟩
                · replace h68 := (not_f h68)
                  refine a_skip hs rfl rfl rfl ?_; clear hs a; intro a hs
                  refine a_skip hs rfl rfl rfl ?_; clear hs a; intro a hs
                  refine a_skip hs rfl rfl rfl ?_; clear hs a; intro a hs
                  refine a_valG hs rfl rfl rfl (y_pickF hs rfl rfl rfl) ?_; clear hs a; intro a hs
                  refine a_val hs rfl rfl rfl (y_pickF hs rfl rfl rfl) ?_; clear hs a; intro a hs
                  refine wpList_nil (then_normal ?_)
                  refine wp_cond_false (hs.ev rfl) ?_
                  refine wp_skip (then_normal ?_)
                  refine ⟨⟨by omega, by omega, by omega⟩, by simpa using h65, fun h0 => by first | (rw [h0] at h68; cases h68; done) | omega, ?_⟩
                  exact (hs.mem_to hs.mem).cut _ ⟨rfl, rfl, rfl, trivial⟩
      · clear hs
        obtain ⟨hl0, hn1, hn2, hs⟩ := hJ
        refine wp_seq_cut (fun a w1 => (v ≠ noExprB x.f2) ∧ ((x.f0 == 2) ≠ noShapeB x.f3) ∧ ((x.f0 = 5 ↔ 1 ≤ x.f4 ∧ x.f4 ≤ 4) ∧ (x.f0 ≠ 5 → x.f4 = 0)) ∧ St 155 v0 [(1, .int .i64 (left - 1)), (2, .pointer (some ⟨gx, 0, none⟩)), (6, .bool v)] [pt gx #[.int .u8 x.f0, .string x.f1, .int .u8 x.f2.f0, .int .i64 x.f2.f1, .string x.f2.f2, .slice A5 x.f2.f3.length c5, .int .i64 x.f2.f4, .int .i64 x.f2.f5, .int .u8 x.f3.f0, .string x.f3.f1, .slice A10 x.f3.f2.length c10, .slice A11 x.f3.f3.length c11, .slice A12 x.f3.f4.length c12, .int .i64 x.f3.f5, .int .i64 x.f3.f6, .int .u8 x.f4, .slice A16 x.f5.length c16, .int .i64 x.f6, .int .i64 x.f7] 45] a w1) ?_ (fun a w1 hJ => ?_)
        · refine wp_seq ?_
          refine b_enter [0] (by kernel_rfl) hs #[false, false, false, false, false, false, false, false, false, false, false, false, false, false, false, false, false, false, false, false, false, false, false, false, false, false, false, false, false, false, false, false, false, false, false, false, false, false] (by rfl) 38 (by rfl) ?_; clear hs; intro w hs
          refine b_take 0 rfl #[true, false, false, false, false, false, false, false, false, false, false, false, false, false, false, false, false, false, false, false, false, false, false, false, false, false, false, false, false, false, false, false, false, false, false, false, false, false] rfl (by kernel_rfl) hs ((hs.mem.first 1)) rfl rfl rfl (fun _ _ _ h => h) (y_move hs rfl) ?_; clear hs a; intro a hs
          refine b_take 1 rfl #[true, true, false, false, false, false, false, false, false, false, false, false, false, false, false, false, false, false, false, false, false, false, false, false, false, false, false, false, false, false, false, false, false, false, false, false, false, false] rfl (by kernel_rfl) hs ((hs.mem.first 1)) rfl rfl rfl (fun _ _ _ h => h) (y_faddr (k' := 2) 2 hs (by kernel_rfl) rfl rfl) ?_; clear hs a; intro a hs
          refine b_take 2 rfl #[true, true, true, false, false, false, false, false, false, false, false, false, false, false, false, false, false, false, false, false, false, false, false, false, false, false, false, false, false, false, false, false, false, false, false, false, false, false] rfl (by kernel_rfl) hs ((hs.mem.first 1)) rfl rfl rfl (fun _ _ _ h => h) (y_loadAgg (vs := [.int .u8 x.f2.f0, .int .i64 x.f2.f1, .string x.f2.f2, .slice A5 x.f2.f3.length c5, .int .i64 x.f2.f4, .int .i64 x.f2.f5]) hs Tryd.underlying24 rfl (by kernel_rfl) rfl (fun w hw k v hk => ((hw.to 0 rfl).cell).trans (sub_at 6 rfl hk))) ?_; clear hs a; intro a hs
          refine b_eff 3 (by kernel_rfl) rfl #[true, true, true, true, false, false, false, false, false, false, false, false, false, false, false, false, false, false, false, false, false, false, false, false, false, false, false, false, false, false, false, false, false, false, false, false, false, false] rfl hs rfl (e_callB Tryd.func71 rfl rfl hs rfl rfl (ref_NoExpr x.f2 A5 c5 _) ?_); clear hs a; intro a w hs
          refine ⟨(hs.mem.first 1), ?_⟩
          refine b_take 4 rfl #[true, true, true, true, true, false, false, false, false, false, false, false, false, false, false, false, false, false, false, false, false, false, false, false, false, false, false, false, false, false, false, false, false, false, false, false, false, false] rfl (by kernel_rfl) hs ((hs.mem.first 1)) rfl rfl rfl (fun _ _ _ h => h) (y_beqB hs Tryd.underlying4 rfl rfl rfl) ?_; clear hs a; intro a hs
          refine b_take 5 rfl #[true, true, true, true, true, true, false, false, false, false, false, false, false, false, false, false, false, false, false, false, false, false, false, false, false, false, false, false, false, false, false, false, false, false, false, false, false, false] rfl (by kernel_rfl) hs ((hs.mem.first 1)) rfl rfl rfl (fun _ _ _ h => h) (y_move hs rfl) ?_; clear hs a; intro a hs
          rcases hs.know (d := 79) rfl with ⟨h79, hs1⟩ | ⟨h79, hs1⟩ <;> replace hs := hs1 <;> clear hs1
          · refine b_skip 6 rfl #[true, true, true, true, true, true, true, false, false, false, false, false, false, false, false, false, false, false, false, false, false, false, false, false, false, false, false, false, false, false, false, false, false, false, false, false, false, false] rfl (by kernel_rfl) hs ((hs.mem.first 1)) rfl rfl rfl (fun _ _ _ h => h) ?_; clear hs a; intro a hs
            refine b_skip 7 rfl #[true, true, true, true, true, true, true, true, false, false, false, false, false, false, false, false, false, false, false, false, false, false, false, false, false, false, false, false, false, false, false, false, false, false, false, false, false, false] rfl (by kernel_rfl) hs ((hs.mem.first 1)) rfl rfl rfl (fun _ _ _ h => h) ?_; clear hs a; intro a hs
            refine b_skip 8 rfl #[true, true, true, true, true, true, true, true, true, false, false, false, false, false, false, false, false, false, false, false, false, false, false, false, false, false, false, false, false, false, false, false, false, false, false, false, false, false] rfl (by kernel_rfl) hs ((hs.mem.first 1)) rfl rfl rfl (fun _ _ _ h => h) ?_; clear hs a; intro a hs
            refine b_skip 9 rfl #[true, true, true, true, true, true, true, true, true, true, false, false, false, false, false, false, false, false, false, false, false, false, false, false, false, false, false, false, false, false, false, false, false, false, false, false, false, false] rfl (by kernel_rfl) hs ((hs.mem.first 1)) rfl rfl rfl (fun _ _ _ h => h) ?_; clear hs a; intro a hs
            refine b_skip 10 rfl #[true, true, true, true, true, true, true, true, true, true, true, false, false, false, false, false, false, false, false, false, false, false, false, false, false, false, false, false, false, false, false, false, false, false, false, false, false, false] rfl (by kernel_rfl) hs ((hs.mem.first 1)) rfl rfl rfl (fun _ _ _ h => h) ?_; clear hs a; intro a hs
            refine b_skip 11 rfl #[true, true, true, true, true, true, true, true, true, true, true, true, false, false, false, false, false, false, false, false, false, false, false, false, false, false, false, false, false, false, false, false, false, false, false, false, false, false] rfl (by kernel_rfl) hs ((hs.mem.first 1)) rfl rfl rfl (fun _ _ _ h => h) ?_; clear hs a; intro a hs
            refine b_skip 12 rfl #[true, true, true, true, true, true, true, true, true, true, true, true, true, false, false, false, false, false, false, false, false, false, false, false, false, false, false, false, false, false, false, false, false, false, false, false, false, false] rfl (by kernel_rfl) hs ((hs.mem.first 1)) rfl rfl rfl (fun _ _ _ h => h) ?_; clear hs a; intro a hs
            refine b_take 13 rfl #[true, true, true, true, true, true, true, true, true, true, true, true, true, true, false, false, false, false, false, false, false, false, false, false, false, false, false, false, false, false, false, false, false, false, false, false, false, false] rfl (by kernel_rfl) hs ((hs.mem.first 1)) rfl rfl rfl (fun _ _ _ h => h) (y_pickT hs rfl rfl rfl) ?_; clear hs a; intro a hs
            refine b_take 14 rfl #[true, true, true, true, true, true, true, true, true, true, true, true, true, true, true, false, false, false, false, false, false, false, false, false, false, false, false, false, false, false, false, false, false, false, false, false, false, false] rfl (by kernel_rfl) hs ((hs.mem.first 1)) rfl rfl rfl (fun _ _ _ h => h) (y_move hs rfl) ?_; clear hs a; intro a hs
            refine b_skip 15 rfl #[true, true, true, true, true, true, true, true, true, true, true, true, true, true, true, true, false, false, false, false, false, false, false, false, false, false, false, false, false, false, false, false, false, false, false, false, false, false] rfl (by kernel_rfl) hs ((hs.mem.first 1)) rfl rfl rfl (fun _ _ _ h => h) ?_; clear hs a; intro a hs
            refine b_skip 16 rfl #[true, true, true, true, true, true, true, true, true, true, true, true, true, true, true, true, true, false, false, false, false, false, false, false, false, false, false, false, false, false, false, false, false, false, false, false, false, false] rfl (by kernel_rfl) hs ((hs.mem.first 1)) rfl rfl rfl (fun _ _ _ h => h) ?_; clear hs a; intro a hs
            refine b_skip 17 rfl #[true, true, true, true, true, true, true, true, true, true, true, true, true, true, true, true, true, true, false, false, false, false, false, false, false, false, false, false, false, false, false, false, false, false, false, false, false, false] rfl (by kernel_rfl) hs ((hs.mem.first 1)) rfl rfl rfl (fun _ _ _ h => h) ?_; clear hs a; intro a hs
            refine b_skip 18 rfl #[true, true, true, true, true, true, true, true, true, true, true, true, true, true, true, true, true, true, true, false, false, false, false, false, false, false, false, false, false, false, false, false, false, false, false, false, false, false] rfl (by kernel_rfl) hs ((hs.mem.first 1)) rfl rfl rfl (fun _ _ _ h => h) ?_; clear hs a; intro a hs
            refine b_skip 19 rfl #[true, true, true, true, true, true, true, true, true, true, true, true, true, true, true, true, true, true, true, true, false, false, false, false, false, false, false, false, false, false, false, false, false, false, false, false, false, false] rfl (by kernel_rfl) hs ((hs.mem.first 1)) rfl rfl rfl (fun _ _ _ h => h) ?_; clear hs a; intro a hs
            refine b_skip 20 rfl #[true, true, true, true, true, true, true, true, true, true, true, true, true, true, true, true, true, true, true, true, true, false, false, false, false, false, false, false, false, false, false, false, false, false, false, false, false, false] rfl (by kernel_rfl) hs ((hs.mem.first 1)) rfl rfl rfl (fun _ _ _ h => h) ?_; clear hs a; intro a hs
            refine b_skip 21 rfl #[true, true, true, true, true, true, true, true, true, true, true, true, true, true, true, true, true, true, true, true, true, true, false, false, false, false, false, false, false, false, false, false, false, false, false, false, false, false] rfl (by kernel_rfl) hs ((hs.mem.first 1)) rfl rfl rfl (fun _ _ _ h => h) ?_; clear hs a; intro a hs
            refine b_skip 22 rfl #[true, true, true, true, true, true, true, true, true, true, true, true, true, true, true, true, true, true, true, true, true, true, true, false, false, false, false, false, false, false, false, false, false, false, false, false, false, false] rfl (by kernel_rfl) hs ((hs.mem.first 1)) rfl rfl rfl (fun _ _ _ h => h) ?_; clear hs a; intro a hs
            refine b_skip 23 rfl #[true, true, true, true, true, true, true, true, true, true, true, true, true, true, true, true, true, true, true, true, true, true, true, true, false, false, false, false, false, false, false, false, false, false, false, false, false, false] rfl (by kernel_rfl) hs ((hs.mem.first 1)) rfl rfl rfl (fun _ _ _ h => h) ?_; clear hs a; intro a hs
            refine b_skip 24 rfl #[true, true, true, true, true, true, true, true, true, true, true, true, true, true, true, true, true, true, true, true, true, true, true, true, true, false, false, false, false, false, false, false, false, false, false, false, false, false] rfl (by kernel_rfl) hs ((hs.mem.first 1)) rfl rfl rfl (fun _ _ _ h => h) ?_; clear hs a; intro a hs
            refine b_skip 25 rfl #[true, true, true, true, true, true, true, true, true, true, true, true, true, true, true, true, true, true, true, true, true, true, true, true, true, true, false, false, false, false, false, false, false, false, false, false, false, false] rfl (by kernel_rfl) hs ((hs.mem.first 1)) rfl rfl rfl (fun _ _ _ h => h) ?_; clear hs a; intro a hs
            refine b_skip 26 rfl #[true, true, true, true, true, true, true, true, true, true, true, true, true, true, true, true, true, true, true, true, true, true, true, true, true, true, true, false, false, false, false, false, false, false, false, false, false, false] rfl (by kernel_rfl) hs ((hs.mem.first 1)) rfl rfl rfl (fun _ _ _ h => h) ?_; clear hs a; intro a hs
            refine b_take 27 rfl #[true, true, true, true, true, true, true, true, true, true, true, true, true, true, true, true, true, true, true, true, true, true, true, true, true, true, true, true, false, false, false, false, false, false, false, false, false, false] rfl (by kernel_rfl) hs ((hs.mem.first 1)) rfl rfl rfl (fun _ _ _ h => h) (y_pickT hs rfl rfl rfl) ?_; clear hs a; intro a hs
            refine b_take 28 rfl #[true, true, true, true, true, true, true, true, true, true, true, true, true, true, true, true, true, true, true, true, true, true, true, true, true, true, true, true, true, false, false, false, false, false, false, false, false, false] rfl (by kernel_rfl) hs ((hs.mem.first 1)) rfl rfl rfl (fun _ _ _ h => h) (y_move hs rfl) ?_; clear hs a; intro a hs
            refine b_skip 29 rfl #[true, true, true, true, true, true, true, true, true, true, true, true, true, true, true, true, true, true, true, true, true, true, true, true, true, true, true, true, true, true, false, false, false, false, false, false, false, false] rfl (by kernel_rfl) hs ((hs.mem.first 1)) rfl rfl rfl (fun _ _ _ h => h) ?_; clear hs a; intro a hs
            refine b_skip 30 rfl #[true, true, true, true, true, true, true, true, true, true, true, true, true, true, true, true, true, true, true, true, true, true, true, true, true, true, true, true, true, true, true, false, false, false, false, false, false, false] rfl (by kernel_rfl) hs ((hs.mem.first 1)) rfl rfl rfl (fun _ _ _ h => h) ?_; clear hs a; intro a hs
            refine b_skip 31 rfl #[true, true, true, true, true, true, true, true, true, true, true, true, true, true, true, true, true, true, true, true, true, true, true, true, true, true, true, true, true, true, true, true, false, false, false, false, false, false] rfl (by kernel_rfl) hs ((hs.mem.first 1)) rfl rfl rfl (fun _ _ _ h => h) ?_; clear hs a; intro a hs
            refine b_skip 32 rfl #[true, true, true, true, true, true, true, true, true, true, true, true, true, true, true, true, true, true, true, true, true, true, true, true, true, true, true, true, true, true, true, true, true, false, false, false, false, false] rfl (by kernel_rfl) hs ((hs.mem.first 1)) rfl rfl rfl (fun _ _ _ h => h) ?_; clear hs a; intro a hs
            refine b_skip 33 rfl #[true, true, true, true, true, true, true, true, true, true, true, true, true, true, true, true, true, true, true, true, true, true, true, true, true, true, true, true, true, true, true, true, true, true, false, false, false, false] rfl (by kernel_rfl) hs ((hs.mem.first 1)) rfl rfl rfl (fun _ _ _ h => h) ?_; clear hs a; intro a hs
            refine b_skip 34 rfl #[true, true, true, true, true, true, true, true, true, true, true, true, true, true, true, true, true, true, true, true, true, true, true, true, true, true, true, true, true, true, true, true, true, true, true, false, false, false] rfl (by kernel_rfl) hs ((hs.mem.first 1)) rfl rfl rfl (fun _ _ _ h => h) ?_; clear hs a; intro a hs
            refine b_skip 35 rfl #[true, true, true, true, true, true, true, true, true, true, true, true, true, true, true, true, true, true, true, true, true, true, true, true, true, true, true, true, true, true, true, true, true, true, true, true, false, false] rfl (by kernel_rfl) hs ((hs.mem.first 1)) rfl rfl rfl (fun _ _ _ h => h) ?_; clear hs a; intro a hs
            refine b_skip 36 rfl #[true, true, true, true, true, true, true, true, true, true, true, true, true, true, true, true, true, true, true, true, true, true, true, true, true, true, true, true, true, true, true, true, true, true, true, true, true, false] rfl (by kernel_rfl) hs ((hs.mem.first 1)) rfl rfl rfl (fun _ _ _ h => h) ?_; clear hs a; intro a hs
            refine b_take 37 rfl #[true, true, true, true, true, true, true, true, true, true, true, true, true, true, true, true, true, true, true, true, true, true, true, true, true, true, true, true, true, true, true, true, true, true, true, true, true, true] rfl (by kernel_rfl) hs ((hs.mem.first 1)) rfl rfl rfl (fun _ _ _ h => h) (y_pickT hs rfl rfl rfl) ?_; clear hs a; intro a hs
            refine b_done (by kernel_rfl) (then_normal ?_)
            refine wp_cond_true (hs.ev rfl) ?_
            refine wp_seq ?_
            refine wp_region_lit ?_
            refine a_val hs rfl rfl rfl (y_assign hs rfl) ?_; clear hs a; intro a hs
            refine wpList_nil (then_normal ?_)
            refine wp_ret (then_ret ?_)
            refine fin_ret hs (.tmp (hs.slots _ _ rfl) .nil) ⟨?_, hs.mem.base⟩
            have hX : refB (itemF x left) = -1 := refI_bad (by
              clear hs
              rintro ⟨a0, b0, b1, b2, b3, b4, b5, b6, b7, b8, b9⟩
              first | omega | (rw [hnm, b2] at h65; simp at h65; done) | (have hz : nm = false := (by simpa using h68); have := b3 (of_decide_eq_false (hnm.symm.trans hz)); omega) | exact b4 (hvm.symm.trans (eq_of_beq h79)) | exact b5 (Eq.trans (by rw [Bool.eq_iff_iff]; simp) (eq_of_beq h88)) | (rw [hli.trans b8] at h126; simp at h126; done) | (first | (simp only [Bool.not_eq_true', Bool.not_eq_false', beq_eq_false_iff_ne, beq_iff_eq, ne_eq] at h102; rw [Bool.eq_iff_iff] at h102; simp only [beq_iff_eq, decide_eq_true_eq, Bool.false_eq_true, iff_false] at h102; omega) | (simp at h102; omega)))
            rw [hX]; rfl
          · refine b_take 6 rfl #[true, true, true, true, true, true, true, false, false, false, false, false, false, false, false, false, false, false, false, false, false, false, false, false, false, false, false, false, false, false, false, false, false, false, false, false, false, false] rfl (by kernel_rfl) hs ((hs.mem.first 1)) rfl rfl rfl (fun _ _ _ h => h) (y_faddr (k' := 0) 0 hs (by kernel_rfl) rfl rfl) ?_; clear hs a; intro a hs
            refine b_take 7 rfl #[true, true, true, true, true, true, true, true, false, false, false, false, false, false, false, false, false, false, false, false, false, false, false, false, false, false, false, false, false, false, false, false, false, false, false, false, false, false] rfl (by kernel_rfl) hs ((hs.mem.first 1)) rfl rfl rfl (fun _ _ _ h => h) (y_load hs Tryd.underlying37 rfl rfl (fun w hw => (hw.to 0 rfl).cellV rfl)) ?_; clear hs a; intro a hs
            refine b_take 8 rfl #[true, true, true, true, true, true, true, true, true, false, false, false, false, false, false, false, false, false, false, false, false, false, false, false, false, false, false, false, false, false, false, false, false, false, false, false, false, false] rfl (by kernel_rfl) hs ((hs.mem.first 1)) rfl rfl rfl (fun _ _ _ h => h) (y_cmp hs rfl rfl rfl) ?_; clear hs a; intro a hs
            refine b_take 9 rfl #[true, true, true, true, true, true, true, true, true, true, false, false, false, false, false, false, false, false, false, false, false, false, false, false, false, false, false, false, false, false, false, false, false, false, false, false, false, false] rfl (by kernel_rfl) hs ((hs.mem.first 1)) rfl rfl rfl (fun _ _ _ h => h) (y_faddr (k' := 8) 8 hs (by kernel_rfl) rfl rfl) ?_; clear hs a; intro a hs
            refine b_take 10 rfl #[true, true, true, true, true, true, true, true, true, true, true, false, false, false, false, false, false, false, false, false, false, false, false, false, false, false, false, false, false, false, false, false, false, false, false, false, false, false] rfl (by kernel_rfl) hs ((hs.mem.first 1)) rfl rfl rfl (fun _ _ _ h => h) (y_loadAgg (vs := [.int .u8 x.f3.f0, .string x.f3.f1, .slice A10 x.f3.f2.length c10, .slice A11 x.f3.f3.length c11, .slice A12 x.f3.f4.length c12, .int .i64 x.f3.f5, .int .i64 x.f3.f6]) hs Tryd.underlying41 rfl (by kernel_rfl) rfl (fun w hw k v hk => ((hw.to 0 rfl).cell).trans (sub_at 7 rfl hk))) ?_; clear hs a; intro a hs
            refine b_eff 11 (by kernel_rfl) rfl #[true, true, true, true, true, true, true, true, true, true, true, true, false, false, false, false, false, false, false, false, false, false, false, false, false, false, false, false, false, false, false, false, false, false, false, false, false, false] rfl hs rfl (e_callB Tryd.func72 rfl rfl hs rfl rfl (ref_noShape x.f3 A10 A11 A12 c10 c11 c12 _) ?_); clear hs a; intro a w hs
            refine ⟨(hs.mem.first 1), ?_⟩
            refine b_take 12 rfl #[true, true, true, true, true, true, true, true, true, true, true, true, true, false, false, false, false, false, false, false, false, false, false, false, false, false, false, false, false, false, false, false, false, false, false, false, false, false] rfl (by kernel_rfl) hs ((hs.mem.first 1)) rfl rfl rfl (fun _ _ _ h => h) (y_beqB hs Tryd.underlying4 rfl rfl rfl) ?_; clear hs a; intro a hs
            refine b_take 13 rfl #[true, true, true, true, true, true, true, true, true, true, true, true, true, true, false, false, false, false, false, false, false, false, false, false, false, false, false, false, false, false, false, false, false, false, false, false, false, false] rfl (by kernel_rfl) hs ((hs.mem.first 1)) rfl rfl rfl (fun _ _ _ h => h) (y_pickF hs rfl rfl rfl) ?_; clear hs a; intro a hs
            refine b_take 14 rfl #[true, true, true, true, true, true, true, true, true, true, true, true, true, true, true, false, false, false, false, false, false, false, false, false, false, false, false, false, false, false, false, false, false, false, false, false, false, false] rfl (by kernel_rfl) hs ((hs.mem.first 1)) rfl rfl rfl (fun _ _ _ h => h) (y_move hs rfl) ?_; clear hs a; intro a hs
            rcases hs.know (d := 88) rfl with ⟨h88, hs1⟩ | ⟨h88, hs1⟩ <;> replace hs := hs1 <;> clear hs1
            · refine b_skip 15 rfl #[true, true, true, true, true, true, true, true, true, true, true, true, true, true, true, true, false, false, false, false, false, false, false, false, false, false, false, false, false, false, false, false, false, false, false, false, false, false] rfl (by kernel_rfl) hs ((hs.mem.first 1)) rfl rfl rfl (fun _ _ _ h => h) ?_; clear hs a; intro a hs
              refine b_skip 16 rfl #[true, true, true, true, true, true, true, true, true, true, true, true, true, true, true, true, true, false, false, false, false, false, false, false, false, false, false, false, false, false, false, false, false, false, false, false, false, false] rfl (by kernel_rfl) hs ((hs.mem.first 1)) rfl rfl rfl (fun _ _ _ h => h) ?_; clear hs a; intro a hs
              refine b_skip 17 rfl #[true, true, true, true, true, true, true, true, true, true, true, true, true, true, true, true, true, true, false, false, false, false, false, false, false, false, false, false, false, false, false, false, false, false, false, false, false, false] rfl (by kernel_rfl) hs ((hs.mem.first 1)) rfl rfl rfl (fun _ _ _ h => h) ?_; clear hs a; intro a hs
              refine b_skip 18 rfl #[true, true, true, true, true, true, true, true, true, true, true, true, true, true, true, true, true, true, true, false, false, false, false, false, false, false, false, false, false, false, false, false, false, false, false, false, false, false] rfl (by kernel_rfl) hs ((hs.mem.first 1)) rfl rfl rfl (fun _ _ _ h => h) ?_; clear hs a; intro a hs
              refine b_skip 19 rfl #[true, true, true, true, true, true, true, true, true, true, true, true, true, true, true, true, true, true, true, true, false, false, false, false, false, false, false, false, false, false, false, false, false, false, false, false, false, false] rfl (by kernel_rfl) hs ((hs.mem.first 1)) rfl rfl rfl (fun _ _ _ h => h) ?_; clear hs a; intro a hs
              refine b_skip 20 rfl #[true, true, true, true, true, true, true, true, true, true, true, true, true, true, true, true, true, true, true, true, true, false, false, false, false, false, false, false, false, false, false, false, false, false, false, false, false, false] rfl (by kernel_rfl) hs ((hs.mem.first 1)) rfl rfl rfl (fun _ _ _ h => h) ?_; clear hs a; intro a hs
              refine b_skip 21 rfl #[true, true, true, true, true, true, true, true, true, true, true, true, true, true, true, true, true, true, true, true, true, true, false, false, false, false, false, false, false, false, false, false, false, false, false, false, false, false] rfl (by kernel_rfl) hs ((hs.mem.first 1)) rfl rfl rfl (fun _ _ _ h => h) ?_; clear hs a; intro a hs
              refine b_skip 22 rfl #[true, true, true, true, true, true, true, true, true, true, true, true, true, true, true, true, true, true, true, true, true, true, true, false, false, false, false, false, false, false, false, false, false, false, false, false, false, false] rfl (by kernel_rfl) hs ((hs.mem.first 1)) rfl rfl rfl (fun _ _ _ h => h) ?_; clear hs a; intro a hs
              refine b_skip 23 rfl #[true, true, true, true, true, true, true, true, true, true, true, true, true, true, true, true, true, true, true, true, true, true, true, true, false, false, false, false, false, false, false, false, false, false, false, false, false, false] rfl (by kernel_rfl) hs ((hs.mem.first 1)) rfl rfl rfl (fun _ _ _ h => h) ?_; clear hs a; intro a hs
              refine b_skip 24 rfl #[true, true, true, true, true, true, true, true, true, true, true, true, true, true, true, true, true, true, true, true, true, true, true, true, true, false, false, false, false, false, false, false, false, false, false, false, false, false] rfl (by kernel_rfl) hs ((hs.mem.first 1)) rfl rfl rfl (fun _ _ _ h => h) ?_; clear hs a; intro a hs
              refine b_skip 25 rfl #[true, true, true, true, true, true, true, true, true, true, true, true, true, true, true, true, true, true, true, true, true, true, true, true, true, true, false, false, false, false, false, false, false, false, false, false, false, false] rfl (by kernel_rfl) hs ((hs.mem.first 1)) rfl rfl rfl (fun _ _ _ h => h) ?_; clear hs a; intro a hs
              refine b_skip 26 rfl #[true, true, true, true, true, true, true, true, true, true, true, true, true, true, true, true, true, true, true, true, true, true, true, true, true, true, true, false, false, false, false, false, false, false, false, false, false, false] rfl (by kernel_rfl) hs ((hs.mem.first 1)) rfl rfl rfl (fun _ _ _ h => h) ?_; clear hs a; intro a hs
              refine b_take 27 rfl #[true, true, true, true, true, true, true, true, true, true, true, true, true, true, true, true, true, true, true, true, true, true, true, true, true, true, true, true, false, false, false, false, false, false, false, false, false, false] rfl (by kernel_rfl) hs ((hs.mem.first 1)) rfl rfl rfl (fun _ _ _ h => h) (y_pickT hs rfl rfl rfl) ?_; clear hs a; intro a hs
              refine b_take 28 rfl #[true, true, true, true, true, true, true, true, true, true, true, true, true, true, true, true, true, true, true, true, true, true, true, true, true, true, true, true, true, false, false, false, false, false, false, false, false, false] rfl (by kernel_rfl) hs ((hs.mem.first 1)) rfl rfl rfl (fun _ _ _ h => h) (y_move hs rfl) ?_; clear hs a; intro a hs
              refine b_skip 29 rfl #[true, true, true, true, true, true, true, true, true, true, true, true, true, true, true, true, true, true, true, true, true, true, true, true, true, true, true, true, true, true, false, false, false, false, false, false, false, false] rfl (by kernel_rfl) hs ((hs.mem.first 1)) rfl rfl rfl (fun _ _ _ h => h) ?_; clear hs a; intro a hs
              refine b_skip 30 rfl #[true, true, true, true, true, true, true, true, true, true, true, true, true, true, true, true, true, true, true, true, true, true, true, true, true, true, true, true, true, true, true, false, false, false, false, false, false, false] rfl (by kernel_rfl) hs ((hs.mem.first 1)) rfl rfl rfl (fun _ _ _ h => h) ?_; clear hs a; intro a hs
              refine b_skip 31 rfl #[true, true, true, true, true, true, true, true, true, true, true, true, true, true, true, true, true, true, true, true, true, true, true, true, true, true, true, true, true, true, true, true, false, false, false, false, false, false] rfl (by kernel_rfl) hs ((hs.mem.first 1)) rfl rfl rfl (fun _ _ _ h => h) ?_; clear hs a; intro a hs
              refine b_skip 32 rfl #[true, true, true, true, true, true, true, true, true, true, true, true, true, true, true, true, true, true, true, true, true, true, true, true, true, true, true, true, true, true, true, true, true, false, false, false, false, false] rfl (by kernel_rfl) hs ((hs.mem.first 1)) rfl rfl rfl (fun _ _ _ h => h) ?_; clear hs a; intro a hs
              refine b_skip 33 rfl #[true, true, true, true, true, true, true, true, true, true, true, true, true, true, true, true, true, true, true, true, true, true, true, true, true, true, true, true, true, true, true, true, true, true, false, false, false, false] rfl (by kernel_rfl) hs ((hs.mem.first 1)) rfl rfl rfl (fun _ _ _ h => h) ?_; clear hs a; intro a hs
              refine b_skip 34 rfl #[true, true, true, true, true, true, true, true, true, true, true, true, true, true, true, true, true, true, true, true, true, true, true, true, true, true, true, true, true, true, true, true, true, true, true, false, false, false] rfl (by kernel_rfl) hs ((hs.mem.first 1)) rfl rfl rfl (fun _ _ _ h => h) ?_; clear hs a; intro a hs
              refine b_skip 35 rfl #[true, true, true, true, true, true, true, true, true, true, true, true, true, true, true, true, true, true, true, true, true, true, true, true, true, true, true, true, true, true, true, true, true, true, true, true, false, false] rfl (by kernel_rfl) hs ((hs.mem.first 1)) rfl rfl rfl (fun _ _ _ h => h) ?_; clear hs a; intro a hs
              refine b_skip 36 rfl #[true, true, true, true, true, true, true, true, true, true, true, true, true, true, true, true, true, true, true, true, true, true, true, true, true, true, true, true, true, true, true, true, true, true, true, true, true, false] rfl (by kernel_rfl) hs ((hs.mem.first 1)) rfl rfl rfl (fun _ _ _ h => h) ?_; clear hs a; intro a hs
              refine b_take 37 rfl #[true, true, true, true, true, true, true, true, true, true, true, true, true, true, true, true, true, true, true, true, true, true, true, true, true, true, true, true, true, true, true, true, true, true, true, true, true, true] rfl (by kernel_rfl) hs ((hs.mem.first 1)) rfl rfl rfl (fun _ _ _ h => h) (y_pickT hs rfl rfl rfl) ?_; clear hs a; intro a hs
              refine b_done (by kernel_rfl) (then_normal ?_)
              refine wp_cond_true (hs.ev rfl) ?_
              refine wp_seq ?_
              refine wp_region_lit ?_
              refine a_val hs rfl rfl rfl (y_assign hs rfl) ?_; clear hs a; intro a hs
              refine wpList_nil (then_normal ?_)
              refine wp_ret (then_ret ?_)
              refine fin_ret hs (.tmp (hs.slots _ _ rfl) .nil) ⟨?_, hs.mem.base⟩
              have hX : refB (itemF x left) = -1 := refI_bad (by
                clear hs
                rintro ⟨a0, b0, b1, b2, b3, b4, b5, b6, b7, b8, b9⟩
                first | omega | (rw [hnm, b2] at h65; simp at h65; done) | (have hz : nm = false := (by simpa using h68); have := b3 (of_decide_eq_false (hnm.symm.trans hz)); omega) | exact b4 (hvm.symm.trans (eq_of_beq h79)) | exact b5 (Eq.trans (by rw [Bool.eq_iff_iff]; simp) (eq_of_beq h88)) | (rw [hli.trans b8] at h126; simp at h126; done) | (first | (simp only [Bool.not_eq_true', Bool.not_eq_false', beq_eq_false_iff_ne, beq_iff_eq, ne_eq] at h102; rw [Bool.eq_iff_iff] at h102; simp only [beq_iff_eq, decide_eq_true_eq, Bool.false_eq_true, iff_false] at h102; omega) | (simp at h102; omega)))
              rw [hX]; rfl
            · refine b_take 15 rfl #[true, true, true, true, true, true, true, true, true, true, true, true, true, true, true, true, false, false, false, false, false, false, false, false, false, false, false, false, false, false, false, false, false, false, false, false, false, false] rfl (by kernel_rfl) hs ((hs.mem.first 1)) rfl rfl rfl (fun _ _ _ h => h) (y_faddr (k' := 0) 0 hs (by kernel_rfl) rfl rfl) ?_; clear hs a; intro a hs
              refine b_take 16 rfl #[true, true, true, true, true, true, true, true, true, true, true, true, true, true, true, true, true, false, false, false, false, false, false, false, false, false, false, false, false, false, false, false, false, false, false, false, false, false] rfl (by kernel_rfl) hs ((hs.mem.first 1)) rfl rfl rfl (fun _ _ _ h => h) (y_load hs Tryd.underlying37 rfl rfl (fun w hw => (hw.to 0 rfl).cellV rfl)) ?_; clear hs a; intro a hs
              refine b_take 17 rfl #[true, true, true, true, true, true, true, true, true, true, true, true, true, true, true, true, true, true, false, false, false, false, false, false, false, false, false, false, false, false, false, false, false, false, false, false, false, false] rfl (by kernel_rfl) hs ((hs.mem.first 1)) rfl rfl rfl (fun _ _ _ h => h) (y_cmp hs rfl rfl rfl) ?_; clear hs a; intro a hs
              refine b_take 18 rfl #[true, true, true, true, true, true, true, true, true, true, true, true, true, true, true, true, true, true, true, false, false, false, false, false, false, false, false, false, false, false, false, false, false, false, false, false, false, false] rfl (by kernel_rfl) hs ((hs.mem.first 1)) rfl rfl rfl (fun _ _ _ h => h) (y_faddr (k' := 15) 15 hs (by kernel_rfl) rfl rfl) ?_; clear hs a; intro a hs
              refine b_take 19 rfl #[true, true, true, true, true, true, true, true, true, true, true, true, true, true, true, true, true, true, true, true, false, false, false, false, false, false, false, false, false, false, false, false, false, false, false, false, false, false] rfl (by kernel_rfl) hs ((hs.mem.first 1)) rfl rfl rfl (fun _ _ _ h => h) (y_load hs Tryd.underlying43 rfl rfl (fun w hw => (hw.to 0 rfl).cellV rfl)) ?_; clear hs a; intro a hs
              refine b_take 20 rfl #[true, true, true, true, true, true, true, true, true, true, true, true, true, true, true, true, true, true, true, true, true, false, false, false, false, false, false, false, false, false, false, false, false, false, false, false, false, false] rfl (by kernel_rfl) hs ((hs.mem.first 1)) rfl rfl rfl (fun _ _ _ h => h) (y_cmp hs rfl rfl rfl) ?_; clear hs a; intro a hs
              refine b_take 21 rfl #[true, true, true, true, true, true, true, true, true, true, true, true, true, true, true, true, true, true, true, true, true, true, false, false, false, false, false, false, false, false, false, false, false, false, false, false, false, false] rfl (by kernel_rfl) hs ((hs.mem.first 1)) rfl rfl rfl (fun _ _ _ h => h) (y_move hs rfl) ?_; clear hs a; intro a hs
              rcases hs.know (d := 95) rfl with ⟨h95, hs1⟩ | ⟨h95, hs1⟩ <;> replace hs := hs1 <;> clear hs1
              · replace h95 := of_decide_eq_true h95
                refine b_take 22 rfl #[true, true, true, true, true, true, true, true, true, true, true, true, true, true, true, true, true, true, true, true, true, true, true, false, false, false, false, false, false, false, false, false, false, false, false, false, false, false] rfl (by kernel_rfl) hs ((hs.mem.first 1)) rfl rfl rfl (fun _ _ _ h => h) (y_faddr (k' := 15) 15 hs (by kernel_rfl) rfl rfl) ?_; clear hs a; intro a hs
                refine b_take 23 rfl #[true, true, true, true, true, true, true, true, true, true, true, true, true, true, true, true, true, true, true, true, true, true, true, true, false, false, false, false, false, false, false, false, false, false, false, false, false, false] rfl (by kernel_rfl) hs ((hs.mem.first 1)) rfl rfl rfl (fun _ _ _ h => h) (y_load hs Tryd.underlying43 rfl rfl (fun w hw => (hw.to 0 rfl).cellV rfl)) ?_; clear hs a; intro a hs
                refine b_take 24 rfl #[true, true, true, true, true, true, true, true, true, true, true, true, true, true, true, true, true, true, true, true, true, true, true, true, true, false, false, false, false, false, false, false, false, false, false, false, false, false] rfl (by kernel_rfl) hs ((hs.mem.first 1)) rfl rfl rfl (fun _ _ _ h => h) (y_cmp hs rfl rfl rfl) ?_; clear hs a; intro a hs
                refine b_take 25 rfl #[true, true, true, true, true, true, true, true, true, true, true, true, true, true, true, true, true, true, true, true, true, true, true, true, true, true, false, false, false, false, false, false, false, false, false, false, false, false] rfl (by kernel_rfl) hs ((hs.mem.first 1)) rfl rfl rfl (fun _ _ _ h => h) (y_pickT hs rfl rfl rfl) ?_; clear hs a; intro a hs
                refine b_take 26 rfl #[true, true, true, true, true, true, true, true, true, true, true, true, true, true, true, true, true, true, true, true, true, true, true, true, true, true, true, false, false, false, false, false, false, false, false, false, false, false] rfl (by kernel_rfl) hs ((hs.mem.first 1)) rfl rfl rfl (fun _ _ _ h => h) (y_bne hs Tryd.underlying4 rfl rfl) ?_; clear hs a; intro a hs
                refine b_take 27 rfl #[true, true, true, true, true, true, true, true, true, true, true, true, true, true, true, true, true, true, true, true, true, true, true, true, true, true, true, true, false, false, false, false, false, false, false, false, false, false] rfl (by kernel_rfl) hs ((hs.mem.first 1)) rfl rfl rfl (fun _ _ _ h => h) (y_pickF hs rfl rfl rfl) ?_; clear hs a; intro a hs
                refine b_take 28 rfl #[true, true, true, true, true, true, true, true, true, true, true, true, true, true, true, true, true, true, true, true, true, true, true, true, true, true, true, true, true, false, false, false, false, false, false, false, false, false] rfl (by kernel_rfl) hs ((hs.mem.first 1)) rfl rfl rfl (fun _ _ _ h => h) (y_move hs rfl) ?_; clear hs a; intro a hs
                rcases hs.know (d := 102) rfl with ⟨h102, hs1⟩ | ⟨h102, hs1⟩ <;> replace hs := hs1 <;> clear hs1
                · refine b_skip 29 rfl #[true, true, true, true, true, true, true, true, true, true, true, true, true, true, true, true, true, true, true, true, true, true, true, true, true, true, true, true, true, true, false, false, false, false, false, false, false, false] rfl (by kernel_rfl) hs ((hs.mem.first 1)) rfl rfl rfl (fun _ _ _ h => h) ?_; clear hs a; intro a hs
                  refine b_skip 30 rfl #[true, true, true, true, true, true, true, true, true, true, true, true, true, true, true, true, true, true, true, true, true, true, true, true, true, true, true, true, true, true, true, false, false, false, false, false, false, false] rfl (by kernel_rfl) hs ((hs.mem.first 1)) rfl rfl rfl (fun _ _ _ h => h) ?_; clear hs a; intro a hs
                  refine b_skip 31 rfl #[true, true, true, true, true, true, true, true, true, true, true, true, true, true, true, true, true, true, true, true, true, true, true, true, true, true, true, true, true, true, true, true, false, false, false, false, false, false] rfl (by kernel_rfl) hs ((hs.mem.first 1)) rfl rfl rfl (fun _ _ _ h => h) ?_; clear hs a; intro a hs
                  refine b_skip 32 rfl #[true, true, true, true, true, true, true, true, true, true, true, true, true, true, true, true, true, true, true, true, true, true, true, true, true, true, true, true, true, true, true, true, true, false, false, false, false, false] rfl (by kernel_rfl) hs ((hs.mem.first 1)) rfl rfl rfl (fun _ _ _ h => h) ?_; clear hs a; intro a hs
                  refine b_skip 33 rfl #[true, true, true, true, true, true, true, true, true, true, true, true, true, true, true, true, true, true, true, true, true, true, true, true, true, true, true, true, true, true, true, true, true, true, false, false, false, false] rfl (by kernel_rfl) hs ((hs.mem.first 1)) rfl rfl rfl (fun _ _ _ h => h) ?_; clear hs a; intro a hs
                  refine b_skip 34 rfl #[true, true, true, true, true, true, true, true, true, true, true, true, true, true, true, true, true, true, true, true, true, true, true, true, true, true, true, true, true, true, true, true, true, true, true, false, false, false] rfl (by kernel_rfl) hs ((hs.mem.first 1)) rfl rfl rfl (fun _ _ _ h => h) ?_; clear hs a; intro a hs
                  refine b_skip 35 rfl #[true, true, true, true, true, true, true, true, true, true, true, true, true, true, true, true, true, true, true, true, true, true, true, true, true, true, true, true, true, true, true, true, true, true, true, true, false, false] rfl (by kernel_rfl) hs ((hs.mem.first 1)) rfl rfl rfl (fun _ _ _ h => h) ?_; clear hs a; intro a hs
                  refine b_skip 36 rfl #[true, true, true, true, true, true, true, true, true, true, true, true, true, true, true, true, true, true, true, true, true, true, true, true, true, true, true, true, true, true, true, true, true, true, true, true, true, false] rfl (by kernel_rfl) hs ((hs.mem.first 1)) rfl rfl rfl (fun _ _ _ h => h) ?_; clear hs a; intro a hs
                  refine b_take 37 rfl #[true, true, true, true, true, true, true, true, true, true, true, true, true, true, true, true, true, true, true, true, true, true, true, true, true, true, true, true, true, true, true, true, true, true, true, true, true, true] rfl (by kernel_rfl) hs ((hs.mem.first 1)) rfl rfl rfl (fun _ _ _ h => h) (y_pickT hs rfl rfl rfl) ?_; clear hs a; intro a hs
                  refine b_done (by kernel_rfl) (then_normal ?_)
                  refine wp_cond_true (hs.ev rfl) ?_
                  refine wp_seq ?_
                  refine wp_region_lit ?_
                  refine a_val hs rfl rfl rfl (y_assign hs rfl) ?_; clear hs a; intro a hs
                  refine wpList_nil (then_normal ?_)
                  refine wp_ret (then_ret ?_)
                  refine fin_ret hs (.tmp (hs.slots _ _ rfl) .nil) ⟨?_, hs.mem.base⟩
                  have hX : refB (itemF x left) = -1 := refI_bad (by
                    clear hs
                    rintro ⟨a0, b0, b1, b2, b3, b4, b5, b6, b7, b8, b9⟩
                    first | omega | (rw [hnm, b2] at h65; simp at h65; done) | (have hz : nm = false := (by simpa using h68); have := b3 (of_decide_eq_false (hnm.symm.trans hz)); omega) | exact b4 (hvm.symm.trans (eq_of_beq h79)) | exact b5 (Eq.trans (by rw [Bool.eq_iff_iff]; simp) (eq_of_beq h88)) | (rw [hli.trans b8] at h126; simp at h126; done) | (first | (simp only [Bool.not_eq_true', Bool.not_eq_false', beq_eq_false_iff_ne, beq_iff_eq, ne_eq] at h102; rw [Bool.eq_iff_iff] at h102; simp only [beq_iff_eq, decide_eq_true_eq, Bool.false_eq_true, iff_false] at h102; omega) | (simp at h102; omega)))
                  rw [hX]; rfl
                · refine b_take 29 rfl #[true, true, true, true, true, true, true, true, true, true, true, true, true, true, true, true, true, true, true, true, true, true, true, true, true, true, true, true, true, true, false, false, false, false, false, false, false, false] rfl (by kernel_rfl) hs ((hs.mem.first 1)) rfl rfl rfl (fun _ _ _ h => h) (y_faddr (k' := 0) 0 hs (by kernel_rfl) rfl rfl) ?_; clear hs a; intro a hs
                  refine b_take 30 rfl #[true, true, true, true, true, true, true, true, true, true, true, true, true, true, true, true, true, true, true, true, true, true, true, true, true, true, true, true, true, true, true, false, false, false, false, false, false, false] rfl (by kernel_rfl) hs ((hs.mem.first 1)) rfl rfl rfl (fun _ _ _ h => h) (y_load hs Tryd.underlying37 rfl rfl (fun w hw => (hw.to 0 rfl).cellV rfl)) ?_; clear hs a; intro a hs
                  refine b_take 31 rfl #[true, true, true, true, true, true, true, true, true, true, true, true, true, true, true, true, true, true, true, true, true, true, true, true, true, true, true, true, true, true, true, true, false, false, false, false, false, false] rfl (by kernel_rfl) hs ((hs.mem.first 1)) rfl rfl rfl (fun _ _ _ h => h) (y_cmp hs rfl rfl rfl) ?_; clear hs a; intro a hs
                  refine b_take 32 rfl #[true, true, true, true, true, true, true, true, true, true, true, true, true, true, true, true, true, true, true, true, true, true, true, true, true, true, true, true, true, true, true, true, true, false, false, false, false, false] rfl (by kernel_rfl) hs ((hs.mem.first 1)) rfl rfl rfl (fun _ _ _ h => h) (y_move hs rfl) ?_; clear hs a; intro a hs
                  rcases hs.know (d := 106) rfl with ⟨h106, hs1⟩ | ⟨h106, hs1⟩ <;> replace hs := hs1 <;> clear hs1
                  · replace h106 := bne_iff_ne.1 h106
                    refine b_take 33 rfl #[true, true, true, true, true, true, true, true, true, true, true, true, true, true, true, true, true, true, true, true, true, true, true, true, true, true, true, true, true, true, true, true, true, true, false, false, false, false] rfl (by kernel_rfl) hs ((hs.mem.first 1)) rfl rfl rfl (fun _ _ _ h => h) (y_faddr (k' := 15) 15 hs (by kernel_rfl) rfl rfl) ?_; clear hs a; intro a hs
                    refine b_take 34 rfl #[true, true, true, true, true, true, true, true, true, true, true, true, true, true, true, true, true, true, true, true, true, true, true, true, true, true, true, true, true, true, true, true, true, true, true, false, false, false] rfl (by kernel_rfl) hs ((hs.mem.first 1)) rfl rfl rfl (fun _ _ _ h => h) (y_load hs Tryd.underlying43 rfl rfl (fun w hw => (hw.to 0 rfl).cellV rfl)) ?_; clear hs a; intro a hs
                    refine b_take 35 rfl #[true, true, true, true, true, true, true, true, true, true, true, true, true, true, true, true, true, true, true, true, true, true, true, true, true, true, true, true, true, true, true, true, true, true, true, true, false, false] rfl (by kernel_rfl) hs ((hs.mem.first 1)) rfl rfl rfl (fun _ _ _ h => h) (y_cmp hs rfl rfl rfl) ?_; clear hs a; intro a hs
                    refine b_take 36 rfl #[true, true, true, true, true, true, true, true, true, true, true, true, true, true, true, true, true, true, true, true, true, true, true, true, true, true, true, true, true, true, true, true, true, true, true, true, true, false] rfl (by kernel_rfl) hs ((hs.mem.first 1)) rfl rfl rfl (fun _ _ _ h => h) (y_pickT hs rfl rfl rfl) ?_; clear hs a; intro a hs
                    refine b_take 37 rfl #[true, true, true, true, true, true, true, true, true, true, true, true, true, true, true, true, true, true, true, true, true, true, true, true, true, true, true, true, true, true, true, true, true, true, true, true, true, true] rfl (by kernel_rfl) hs ((hs.mem.first 1)) rfl rfl rfl (fun _ _ _ h => h) (y_pickF hs rfl rfl rfl) ?_; clear hs a; intro a hs
                    refine b_done (by kernel_rfl) (then_normal ?_)
                    refine wp_cond_split (hs.ev rfl) (fun h111 => ?_) (fun h111 => ?_)
                    · replace h111 := bne_iff_ne.1 h111
                      refine wp_seq ?_
                      refine wp_region_lit ?_
                      refine a_val hs rfl rfl rfl (y_assign hs rfl) ?_; clear hs a; intro a hs
                      refine wpList_nil (then_normal ?_)
                      refine wp_ret (then_ret ?_)
                      refine fin_ret hs (.tmp (hs.slots _ _ rfl) .nil) ⟨?_, hs.mem.base⟩
                      have hX : refB (itemF x left) = -1 := refI_bad (by
                        clear hs
                        rintro ⟨a0, b0, b1, b2, b3, b4, b5, b6, b7, b8, b9⟩
                        first | omega | (rw [hnm, b2] at h65; simp at h65; done) | (have hz : nm = false := (by simpa using h68); have := b3 (of_decide_eq_false (hnm.symm.trans hz)); omega) | exact b4 (hvm.symm.trans (eq_of_beq h79)) | exact b5 (Eq.trans (by rw [Bool.eq_iff_iff]; simp) (eq_of_beq h88)) | (rw [hli.trans b8] at h126; simp at h126; done) | (first | (simp only [Bool.not_eq_true', Bool.not_eq_false', beq_eq_false_iff_ne, beq_iff_eq, ne_eq] at h102; rw [Bool.eq_iff_iff] at h102; simp only [beq_iff_eq, decide_eq_true_eq, Bool.false_eq_true, iff_false] at h102; omega) | (simp at h102; omega)))
                      rw [hX]; rfl
                    · replace h111 := bne_eq_false_iff_eq.1 h111
                      refine wp_skip (then_normal ?_)
                      refine ⟨beq_eq_false_iff_ne.1 h79, beq_eq_false_iff_ne.1 h88, ⟨by clear hs; first | (simp only [Bool.not_eq_true', Bool.not_eq_false', beq_eq_false_iff_ne, beq_iff_eq, ne_eq] at h102; rw [Bool.eq_iff_iff] at h102; simp only [beq_iff_eq, decide_eq_true_eq, Bool.false_eq_true, iff_false] at h102; omega) | (simp at h102; omega), fun h0 => by clear hs; omega⟩, ?_⟩
                      exact (hs.mem_to hs.mem).cut _ ⟨rfl, rfl, rfl, trivial⟩
                  · replace h106 := bne_eq_false_iff_eq.1 h106
                    refine b_skip 33 rfl #[true, true, true, true, true, true, true, true, true, true, true, true, true, true, true, true, true, true, true, true, true, true, true, true, true, true, true, true, true, true, true, true, true, true, false, false, false, false] rfl (by kernel_rfl) hs ((hs.mem.first 1)) rfl rfl rfl (fun _ _ _ h => h) ?_; clear hs a; intro a hs
                    refine b_skip 34 rfl #[true, true, true, true, true, true, true, true, true, true, true, true, true, true, true, true, true, true, true, true, true, true, true, true, true, true, true, true, true, true, true, true, true, true, true, false, false, false] rfl (by kernel_rfl) hs ((hs.mem.first 1)) rfl rfl rfl (fun _ _ _ h => h) ?_; clear hs a; intro a hs
                    refine b_skip 35 rfl #[true, true, true, true, true, true, true, true, true, true, true, true, true, true, true, true, true, true, true, true, true, true, true, true, true, true, true, true, true, true, true, true, true, true, true, true, false, false] rfl (by kernel_rfl) hs ((hs.mem.first 1)) rfl rfl rfl (fun _ _ _ h => h) ?_; clear hs a; intro a hs
                    refine b_take 36 rfl #[true, true, true, true, true, true, true, true, true, true, true, true, true, true, true, true, true, true, true, true, true, true, true, true, true, true, true, true, true, true, true, true, true, true, true, true, true, false] rfl (by kernel_rfl) hs ((hs.mem.first 1)) rfl rfl rfl (fun _ _ _ h => h) (y_pickF hs rfl rfl rfl) ?_; clear hs a; intro a hs
                    refine b_take 37 rfl #[true, true, true, true, true, true, true, true, true, true, true, true, true, true, true, true, true, true, true, true, true, true, true, true, true, true, true, true, true, true, true, true, true, true, true, true, true, true] rfl (by kernel_rfl) hs ((hs.mem.first 1)) rfl rfl rfl (fun _ _ _ h => h) (y_pickF hs rfl rfl rfl) ?_; clear hs a; intro a hs
                    refine b_done (by kernel_rfl) (then_normal ?_)
                    refine wp_cond_false (hs.ev rfl) ?_
                    refine wp_skip (then_normal ?_)
                    refine ⟨beq_eq_false_iff_ne.1 h79, beq_eq_false_iff_ne.1 h88, ⟨by clear hs; first | (simp only [Bool.not_eq_true', Bool.not_eq_false', beq_eq_false_iff_ne, beq_iff_eq, ne_eq] at h102; rw [Bool.eq_iff_iff] at h102; simp only [beq_iff_eq, decide_eq_true_eq, Bool.false_eq_true, iff_false] at h102; omega) | (simp at h102; omega), fun h0 => by clear hs; omega⟩, ?_⟩
                    exact (hs.mem_to hs.mem).cut _ ⟨rfl, rfl, rfl, trivial⟩
              · replace h95 := of_decide_eq_false h95
                refine b_skip 22 rfl #[true, true, true, true, true, true, true, true, true, true, true, true, true, true, true, true, true, true, true, true, true, true, true, false, false, false, false, false, false, false, false, false, false, false, false, false, false, false] rfl (by kernel_rfl) hs ((hs.mem.first 1)) rfl rfl rfl (fun _ _ _ h => h) ?_; clear hs a; intro a hs
                refine b_skip 23 rfl #[true, true, true, true, true, true, true, true, true, true, true, true, true, true, true, true, true, true, true, true, true, true, true, true, false, false, false, false, false, false, false, false, false, false, false, false, false, false] rfl (by kernel_rfl) hs ((hs.mem.first 1)) rfl rfl rfl (fun _ _ _ h => h) ?_; clear hs a; intro a hs
                refine b_skip 24 rfl #[true, true, true, true, true, true, true, true, true, true, true, true, true, true, true, true, true, true, true, true, true, true, true, true, true, false, false, false, false, false, false, false, false, false, false, false, false, false] rfl (by kernel_rfl) hs ((hs.mem.first 1)) rfl rfl rfl (fun _ _ _ h => h) ?_; clear hs a; intro a hs
                refine b_take 25 rfl #[true, true, true, true, true, true, true, true, true, true, true, true, true, true, true, true, true, true, true, true, true, true, true, true, true, true, false, false, false, false, false, false, false, false, false, false, false, false] rfl (by kernel_rfl) hs ((hs.mem.first 1)) rfl rfl rfl (fun _ _ _ h => h) (y_pickF hs rfl rfl rfl) ?_; clear hs a; intro a hs
                refine b_take 26 rfl #[true, true, true, true, true, true, true, true, true, true, true, true, true, true, true, true, true, true, true, true, true, true, true, true, true, true, true, false, false, false, false, false, false, false, false, false, false, false] rfl (by kernel_rfl) hs ((hs.mem.first 1)) rfl rfl rfl (fun _ _ _ h => h) (y_bne hs Tryd.underlying4 rfl rfl) ?_; clear hs a; intro a hs
                refine b_take 27 rfl #[true, true, true, true, true, true, true, true, true, true, true, true, true, true, true, true, true, true, true, true, true, true, true, true, true, true, true, true, false, false, false, false, false, false, false, false, false, false] rfl (by kernel_rfl) hs ((hs.mem.first 1)) rfl rfl rfl (fun _ _ _ h => h) (y_pickF hs rfl rfl rfl) ?_; clear hs a; intro a hs
                refine b_take 28 rfl #[true, true, true, true, true, true, true, true, true, true, true, true, true, true, true, true, true, true, true, true, true, true, true, true, true, true, true, true, true, false, false, false, false, false, false, false, false, false] rfl (by kernel_rfl) hs ((hs.mem.first 1)) rfl rfl rfl (fun _ _ _ h => h) (y_move hs rfl) ?_; clear hs a; intro a hs
                rcases hs.know (d := 102) rfl with ⟨h102, hs1⟩ | ⟨h102, hs1⟩ <;> replace hs := hs1 <;> clear hs1
                · refine b_skip 29 rfl #[true, true, true, true, true, true, true, true, true, true, true, true, true, true, true, true, true, true, true, true, true, true, true, true, true, true, true, true, true, true, false, false, false, false, false, false, false, false] rfl (by kernel_rfl) hs ((hs.mem.first 1)) rfl rfl rfl (fun _ _ _ h => h) ?_; clear hs a; intro a hs
                  refine b_skip 30 rfl #[true, true, true, true, true, true, true, true, true, true, true, true, true, true, true, true, true, true, true, true, true, true, true, true, true, true, true, true, true, true, true, false, false, false, false, false, false, false] rfl (by kernel_rfl) hs ((hs.mem.first 1)) rfl rfl rfl (fun _ _ _ h => h) ?_; clear hs a; intro a hs
                  refine b_skip 31 rfl #[true, true, true, true, true, true, true, true, true, true, true, true, true, true, true, true, true, true, true, true, true, true, true, true, true, true, true, true, true, true, true, true, false, false, false, false, false, false] rfl (by kernel_rfl) hs ((hs.mem.first 1)) rfl rfl rfl (fun _ _ _ h => h) ?_; clear hs a; intro a hs
                  refine b_skip 32 rfl #[true, true, true, true, true, true, true, true, true, true, true, true, true, true, true, true, true, true, true, true, true, true, true, true, true, true, true, true, true, true, true, true, true, false, false, false, false, false] rfl (by kernel_rfl) hs ((hs.mem.first 1)) rfl rfl rfl (fun _ _ _ h => h) ?_; clear hs a; intro a hs
                  refine b_skip 33 rfl #[true, true, true, true, true, true, true, true, true, true, true, true, true, true, true, true, true, true, true, true, true, true, true, true, true, true, true, true, true, true, true, true, true, true, false, false, false, false] rfl (by kernel_rfl) hs ((hs.mem.first 1)) rfl rfl rfl (fun _ _ _ h => h) ?_; clear hs a; intro a hs
                  refine b_skip 34 rfl #[true, true, true, true, true, true, true, true, true, true, true, true, true, true, true, true, true, true, true, true, true, true, true, true, true, true, true, true, true, true, true, true, true, true, true, false, false, false] rfl (by kernel_rfl) hs ((hs.mem.first 1)) rfl rfl rfl (fun _ _ _ h => h) ?_; clear hs a; intro a hs
                  refine b_skip 35 rfl #[true, true, true, true, true, true, true, true, true, true, true, true, true, true, true, true, true, true, true, true, true, true, true, true, true, true, true, true, true, true, true, true, true, true, true, true, false, false] rfl (by kernel_rfl) hs ((hs.mem.first 1)) rfl rfl rfl (fun _ _ _ h => h) ?_; clear hs a; intro a hs
                  refine b_skip 36 rfl #[true, true, true, true, true, true, true, true, true, true, true, true, true, true, true, true, true, true, true, true, true, true, true, true, true, true, true, true, true, true, true, true, true, true, true, true, true, false] rfl (by kernel_rfl) hs ((hs.mem.first 1)) rfl rfl rfl (fun _ _ _ h => h) ?_; clear hs a; intro a hs
                  refine b_take 37 rfl #[true, true, true, true, true, true, true, true, true, true, true, true, true, true, true, true, true, true, true, true, true, true, true, true, true, true, true, true, true, true, true, true, true, true, true, true, true, true] rfl (by kernel_rfl) hs ((hs.mem.first 1)) rfl rfl rfl (fun _ _ _ h => h) (y_pickT hs rfl rfl rfl) ?_; clear hs a; intro a hs
                  refine b_done (by kernel_rfl) (then_normal ?_)
                  refine wp_cond_true (hs.ev rfl) ?_
                  refine wp_seq ?_
                  refine wp_region_lit ?_
                  refine a_val hs rfl rfl rfl (y_assign hs rfl) ?_; clear hs a; intro a hs
                  refine wpList_nil (then_normal ?_)
                  refine wp_ret (then_ret ?_)
                  refine fin_ret hs (.tmp (hs.slots _ _ rfl) .nil) ⟨?_, hs.mem.base⟩
                  have hX : refB (itemF x left) = -1 := refI_bad (by
                    clear hs
                    rintro ⟨a0, b0, b1, b2, b3, b4, b5, b6, b7, b8, b9⟩
                    first | omega | (rw [hnm, b2] at h65; simp at h65; done) | (have hz : nm = false := (by simpa using h68); have := b3 (of_decide_eq_false (hnm.symm.trans hz)); omega) | exact b4 (hvm.symm.trans (eq_of_beq h79)) | exact b5 (Eq.trans (by rw [Bool.eq_iff_iff]; simp) (eq_of_beq h88)) | (rw [hli.trans b8] at h126; simp at h126; done) | (first | (simp only [Bool.not_eq_true', Bool.not_eq_false', beq_eq_false_iff_ne, beq_iff_eq, ne_eq] at h102; rw [Bool.eq_iff_iff] at h102; simp only [beq_iff_eq, decide_eq_true_eq, Bool.false_eq_true, iff_false] at h102; omega) | (simp at h102; omega)))
                  rw [hX]; rfl
                · refine b_take 29 rfl #[true, true, true, true, true, true, true, true, true, true, true, true, true, true, true, true, true, true, true, true, true, true, true, true, true, true, true, true, true, true, false, false, false, false, false, false, false, false] rfl (by kernel_rfl) hs ((hs.mem.first 1)) rfl rfl rfl (fun _ _ _ h => h) (y_faddr (k' := 0) 0 hs (by kernel_rfl) rfl rfl) ?_; clear hs a; intro a hs
                  refine b_take 30 rfl #[true, true, true, true, true, true, true, true, true, true, true, true, true, true, true, true, true, true, true, true, true, true, true, true, true, true, true, true, true, true, true, false, false, false, false, false, false, false] rfl (by kernel_rfl) hs ((hs.mem.first 1)) rfl rfl rfl (fun _ _ _ h => h) (y_load hs Tryd.underlying37 rfl rfl (fun w hw => (hw.to 0 rfl).cellV rfl)) ?_; clear hs a; intro a hs
                  refine b_take 31 rfl #[true, true, true, true, true, true, true, true, true, true, true, true, true, true, true, true, true, true, true, true, true, true, true, true, true, true, true, true, true, true, true, true, false, false, false, false, false, false] rfl (by kernel_rfl) hs ((hs.mem.first 1)) rfl rfl rfl (fun _ _ _ h => h) (y_cmp hs rfl rfl rfl) ?_; clear hs a; intro a hs
                  refine b_take 32 rfl #[true, true, true, true, true, true, true, true, true, true, true, true, true, true, true, true, true, true, true, true, true, true, true, true, true, true, true, true, true, true, true, true, true, false, false, false, false, false] rfl (by kernel_rfl) hs ((hs.mem.first 1)) rfl rfl rfl (fun _ _ _ h => h) (y_move hs rfl) ?_; clear hs a; intro a hs
                  rcases hs.know (d := 106) rfl with ⟨h106, hs1⟩ | ⟨h106, hs1⟩ <;> replace hs := hs1 <;> clear hs1
                  · replace h106 := bne_iff_ne.1 h106
                    refine b_take 33 rfl #[true, true, true, true, true, true, true, true, true, true, true, true, true, true, true, true, true, true, true, true, true, true, true, true, true, true, true, true, true, true, true, true, true, true, false, false, false, false] rfl (by kernel_rfl) hs ((hs.mem.first 1)) rfl rfl rfl (fun _ _ _ h => h) (y_faddr (k' := 15) 15 hs (by kernel_rfl) rfl rfl) ?_; clear hs a; intro a hs
                    refine b_take 34 rfl #[true, true, true, true, true, true, true, true, true, true, true, true, true, true, true, true, true, true, true, true, true, true, true, true, true, true, true, true, true, true, true, true, true, true, true, false, false, false] rfl (by kernel_rfl) hs ((hs.mem.first 1)) rfl rfl rfl (fun _ _ _ h => h) (y_load hs Tryd.underlying43 rfl rfl (fun w hw => (hw.to 0 rfl).cellV rfl)) ?_; clear hs a; intro a hs
                    refine b_take 35 rfl #[true, true, true, true, true, true, true, true, true, true, true, true, true, true, true, true, true, true, true, true, true, true, true, true, true, true, true, true, true, true, true, true, true, true, true, true, false, false] rfl (by kernel_rfl) hs ((hs.mem.first 1)) rfl rfl rfl (fun _ _ _ h => h) (y_cmp hs rfl rfl rfl) ?_; clear hs a; intro a hs
                    refine b_take 36 rfl #[true, true, true, true, true, true, true, true, true, true, true, true, true, true, true, true, true, true, true, true, true, true, true, true, true, true, true, true, true, true, true, true, true, true, true, true, true, false] rfl (by kernel_rfl) hs ((hs.mem.first 1)) rfl rfl rfl (fun _ _ _ h => h) (y_pickT hs rfl rfl rfl) ?_; clear hs a; intro a hs
                    refine b_take 37 rfl #[true, true, true, true, true, true, true, true, true, true, true, true, true, true, true, true, true, true, true, true, true, true, true, true, true, true, true, true, true, true, true, true, true, true, true, true, true, true] rfl (by kernel_rfl) hs ((hs.mem.first 1)) rfl rfl rfl (fun _ _ _ h => h) (y_pickF hs rfl rfl rfl) ?_; clear hs a; intro a hs
                    refine b_done (by kernel_rfl) (then_normal ?_)
                    refine wp_cond_split (hs.ev rfl) (fun h111 => ?_) (fun h111 => ?_)
                    · replace h111 := bne_iff_ne.1 h111
                      refine wp_seq ?_
                      refine wp_region_lit ?_
                      refine a_val hs rfl rfl rfl (y_assign hs rfl) ?_; clear hs a; intro a hs
                      refine wpList_nil (then_normal ?_)
                      refine wp_ret (then_ret ?_)
                      refine fin_ret hs (.tmp (hs.slots _ _ rfl) .nil) ⟨?_, hs.mem.base⟩
                      have hX : refB (itemF x left) = -1 := refI_bad (by
                        clear hs
                        rintro ⟨a0, b0, b1, b2, b3, b4, b5, b6, b7, b8, b9⟩
                        first | omega | (rw [hnm, b2] at h65; simp at h65; done) | (have hz : nm = false := (by simpa using h68); have := b3 (of_decide_eq_false (hnm.symm.trans hz)); omega) | exact b4 (hvm.symm.trans (eq_of_beq h79)) | exact b5 (Eq.trans (by rw [Bool.eq_iff_iff]; simp) (eq_of_beq h88)) | (rw [hli.trans b8] at h126; simp at h126; done) | (first | (simp only [Bool.not_eq_true', Bool.not_eq_false', beq_eq_false_iff_ne, beq_iff_eq, ne_eq] at h102; rw [Bool.eq_iff_iff] at h102; simp only [beq_iff_eq, decide_eq_true_eq, Bool.false_eq_true, iff_false] at h102; omega) | (simp at h102; omega)))
                      rw [hX]; rfl
                    · replace h111 := bne_eq_false_iff_eq.1 h111
                      refine wp_skip (then_normal ?_)
                      refine ⟨beq_eq_false_iff_ne.1 h79, beq_eq_false_iff_ne.1 h88, ⟨by clear hs; first | (simp only [Bool.not_eq_true', Bool.not_eq_false', beq_eq_false_iff_ne, beq_iff_eq, ne_eq] at h102; rw [Bool.eq_iff_iff] at h102; simp only [beq_iff_eq, decide_eq_true_eq, Bool.false_eq_true, iff_false] at h102; omega) | (simp at h102; omega), fun h0 => by clear hs; omega⟩, ?_⟩
                      exact (hs.mem_to hs.mem).cut _ ⟨rfl, rfl, rfl, trivial⟩
                  · replace h106 := bne_eq_false_iff_eq.1 h106
                    refine b_skip 33 rfl #[true, true, true, true, true, true, true, true, true, true, true, true, true, true, true, true, true, true, true, true, true, true, true, true, true, true, true, true, true, true, true, true, true, true, false, false, false, false] rfl (by kernel_rfl) hs ((hs.mem.first 1)) rfl rfl rfl (fun _ _ _ h => h) ?_; clear hs a; intro a hs
                    refine b_skip 34 rfl #[true, true, true, true, true, true, true, true, true, true, true, true, true, true, true, true, true, true, true, true, true, true, true, true, true, true, true, true, true, true, true, true, true, true, true, false, false, false] rfl (by kernel_rfl) hs ((hs.mem.first 1)) rfl rfl rfl (fun _ _ _ h => h) ?_; clear hs a; intro a hs
                    refine b_skip 35 rfl #[true, true, true, true, true, true, true, true, true, true, true, true, true, true, true, true, true, true, true, true, true, true, true, true, true, true, true, true, true, true, true, true, true, true, true, true, false, false] rfl (by kernel_rfl) hs ((hs.mem.first 1)) rfl rfl rfl (fun _ _ _ h => h) ?_; clear hs a; intro a hs
                    refine b_take 36 rfl #[true, true, true, true, true, true, true, true, true, true, true, true, true, true, true, true, true, true, true, true, true, true, true, true, true, true, true, true, true, true, true, true, true, true, true, true, true, false] rfl (by kernel_rfl) hs ((hs.mem.first 1)) rfl rfl rfl (fun _ _ _ h => h) (y_pickF hs rfl rfl rfl) ?_; clear hs a; intro a hs
                    refine b_take 37 rfl #[true, true, true, true, true, true, true, true, true, true, true, true, true, true, true, true, true, true, true, true, true, true, true, true, true, true, true, true, true, true, true, true, true, true, true, true, true, true] rfl (by kernel_rfl) hs ((hs.mem.first 1)) rfl rfl rfl (fun _ _ _ h => h) (y_pickF hs rfl rfl rfl) ?_; clear hs a; intro a hs
                    refine b_done (by kernel_rfl) (then_normal ?_)
                    refine wp_cond_false (hs.ev rfl) ?_
                    refine wp_skip (then_normal ?_)
                    refine ⟨beq_eq_false_iff_ne.1 h79, beq_eq_false_iff_ne.1 h88, ⟨by clear hs; first | (simp only [Bool.not_eq_true', Bool.not_eq_false', beq_eq_false_iff_ne, beq_iff_eq, ne_eq] at h102; rw [Bool.eq_iff_iff] at h102; simp only [beq_iff_eq, decide_eq_true_eq, Bool.false_eq_true, iff_false] at h102; omega) | (simp at h102; omega), fun h0 => by clear hs; omega⟩, ?_⟩
                    exact (hs.mem_to hs.mem).cut _ ⟨rfl, rfl, rfl, trivial⟩
        · clear hs
          obtain ⟨hv1, hs1, hp, hs⟩ := hJ
          refine wp_seq ?_
          refine wp_seq_cut (fun a w1 => ∃ (li : Bool), (li = decide (x.f0 = 5 ∧ x.f4 = 4)) ∧ St 155 v0 [(1, .int .i64 (left - 1)), (2, .pointer (some ⟨gx, 0, none⟩)), (6, .bool v), (7, .bool li)] [pt gx #[.int .u8 x.f0, .string x.f1, .int .u8 x.f2.f0, .int .i64 x.f2.f1, .string x.f2.f2, .slice A5 x.f2.f3.length c5, .int .i64 x.f2.f4, .int .i64 x.f2.f5, .int .u8 x.f3.f0, .string x.f3.f1, .slice A10 x.f3.f2.length c10, .slice A11 x.f3.f3.length c11, .slice A12 x.f3.f4.length c12, .int .i64 x.f3.f5, .int .i64 x.f3.f6, .int .u8 x.f4, .slice A16 x.f5.length c16, .int .i64 x.f6, .int .i64 x.f7] 45] a w1) ?_ (fun a w1 hJ => ?_)
          · refine wp_region_lit ?_
            refine a_val hs rfl rfl rfl (y_faddr (k' := 0) 0 hs (by kernel_rfl) rfl rfl) ?_; clear hs a; intro a hs
            refine a_val hs rfl rfl rfl (y_load hs Tryd.underlying37 rfl rfl (fun w hw => (hw.to 0 rfl).cellV rfl)) ?_; clear hs a; intro a hs
            refine a_val hs rfl rfl rfl (y_cmp hs rfl rfl rfl) ?_; clear hs a; intro a hs
            refine a_val hs rfl rfl rfl (y_move hs rfl) ?_; clear hs a; intro a hs
            rcases hs.know (d := 115) rfl with ⟨h115, hs1⟩ | ⟨h115, hs1⟩ <;> replace hs := hs1 <;> clear hs1
            · replace h115 := eq_of_beq h115
              refine a_valG hs rfl rfl rfl (y_faddr (k' := 15) 15 hs (by kernel_rfl) rfl rfl) ?_; clear hs a; intro a hs
              refine a_valG hs rfl rfl rfl (y_load hs Tryd.underlying43 rfl rfl (fun w hw => (hw.to 0 rfl).cellV rfl)) ?_; clear hs a; intro a hs
              refine a_valG hs rfl rfl rfl (y_cmp hs rfl rfl rfl) ?_; clear hs a; intro a hs
              refine a_val hs rfl rfl rfl (y_pickT hs rfl rfl rfl) ?_; clear hs a; intro a hs
              refine a_val hs rfl rfl rfl (y_assign hs rfl) ?_; clear hs a; intro a hs
              refine wpList_nil (then_normal ?_)
              refine ⟨(x.f4 == 4), by rw [Bool.eq_iff_iff]; simp only [beq_iff_eq, decide_eq_true_eq]; clear hs; omega, ?_⟩
              exact (hs.mem_to hs.mem).cut _ ⟨rfl, rfl, rfl, rfl, trivial⟩
            · replace h115 := ne_of_beq_false h115
              refine a_skip hs rfl rfl rfl ?_; clear hs a; intro a hs
              refine a_skip hs rfl rfl rfl ?_; clear hs a; intro a hs
              refine a_skip hs rfl rfl rfl ?_; clear hs a; intro a hs
              refine a_val hs rfl rfl rfl (y_pickF hs rfl rfl rfl) ?_; clear hs a; intro a hs
              refine a_val hs rfl rfl rfl (y_assign hs rfl) ?_; clear hs a; intro a hs
              refine wpList_nil (then_normal ?_)
              refine ⟨false, (decide_eq_false (by omega)).symm, ?_⟩
              exact (hs.mem_to hs.mem).cut _ ⟨rfl, rfl, rfl, rfl, trivial⟩
          · clear hs
            obtain ⟨li, hli, hs⟩ := hJ
            refine wp_seq ?_
            refine wp_region_lit ?_
            refine a_val hs rfl rfl rfl (y_move hs rfl) ?_; clear hs a; intro a hs
            refine a_val hs rfl rfl rfl (y_faddr (k' := 16) 16 hs (by kernel_rfl) rfl rfl) ?_; clear hs a; intro a hs
            refine a_val hs rfl rfl rfl (y_load hs Tryd.underlying23 rfl rfl (fun w hw => (hw.to 0 rfl).cellV rfl)) ?_; clear hs a; intro a hs
            refine a_val hs rfl rfl rfl (y_lenL hs Tryd.underlying23 rfl) ?_; clear hs a; intro a hs
            refine a_val hs rfl rfl rfl (y_cmp hs rfl rfl rfl) ?_; clear hs a; intro a hs
            refine a_val hs rfl rfl rfl (y_bne hs Tryd.underlying4 rfl rfl) ?_; clear hs a; intro a hs
            refine a_val hs rfl rfl rfl (y_move hs rfl) ?_; clear hs a; intro a hs
            rcases hs.know (d := 126) rfl with ⟨h126, hs1⟩ | ⟨h126, hs1⟩ <;> replace hs := hs1 <;> clear hs1
            · refine a_skip hs rfl rfl rfl ?_; clear hs a; intro a hs
              refine a_skip hs rfl rfl rfl ?_; clear hs a; intro a hs
              refine a_skip hs rfl rfl rfl ?_; clear hs a; intro a hs
              refine a_skip hs rfl rfl rfl ?_; clear hs a; intro a hs
              refine a_val hs rfl rfl rfl (y_pickT hs rfl rfl rfl) ?_; clear hs a; intro a hs
              refine wpList_nil (then_normal ?_)
              refine wp_cond_true (hs.ev rfl) ?_
              refine wp_seq ?_
              refine wp_region_lit ?_
              refine a_val hs rfl rfl rfl (y_assign hs rfl) ?_; clear hs a; intro a hs
              refine wpList_nil (then_normal ?_)
              refine wp_ret (then_ret ?_)
              refine fin_ret hs (.tmp (hs.slots _ _ rfl) .nil) ⟨?_, hs.mem.base⟩
              have hX : refB (itemF x left) = -1 := refI_bad (by
                clear hs
                rintro ⟨a0, b0, b1, b2, b3, b4, b5, b6, b7, b8, b9⟩
                first | omega | (rw [hnm, b2] at h65; simp at h65; done) | (have hz : nm = false := (by simpa using h68); have := b3 (of_decide_eq_false (hnm.symm.trans hz)); omega) | exact b4 (hvm.symm.trans (eq_of_beq h79)) | exact b5 (Eq.trans (by rw [Bool.eq_iff_iff]; simp) (eq_of_beq h88)) | (rw [hli.trans b8] at h126; simp at h126; done) | (first | (simp only [Bool.not_eq_true', Bool.not_eq_false', beq_eq_false_iff_ne, beq_iff_eq, ne_eq] at h102; rw [Bool.eq_iff_iff] at h102; simp only [beq_iff_eq, decide_eq_true_eq, Bool.false_eq_true, iff_false] at h102; omega) | (simp at h102; omega)))
              rw [hX]; rfl
            · refine a_valG hs rfl rfl rfl (y_faddr (k' := 16) 16 hs (by kernel_rfl) rfl rfl) ?_; clear hs a; intro a hs
              refine a_valG hs rfl rfl rfl (y_load hs Tryd.underlying23 rfl rfl (fun w hw => (hw.to 0 rfl).cellV rfl)) ?_; clear hs a; intro a hs
              refine a_valG hs rfl rfl rfl (y_lenL hs Tryd.underlying23 rfl) ?_; clear hs a; intro a hs
              refine a_valG hs rfl rfl rfl (y_cmp hs rfl rfl rfl) ?_; clear hs a; intro a hs
              refine a_val hs rfl rfl rfl (y_pickF hs rfl rfl rfl) ?_; clear hs a; intro a hs
              refine wpList_nil (then_normal ?_)
              refine wp_cond_split (hs.ev rfl) (fun h131 => ?_) (fun h131 => ?_)
              · replace h131 := of_decide_eq_true h131
                refine wp_seq ?_
                refine wp_region_lit ?_
                refine a_val hs rfl rfl rfl (y_assign hs rfl) ?_; clear hs a; intro a hs
                refine wpList_nil (then_normal ?_)
                refine wp_ret (then_ret ?_)
                refine fin_ret hs (.tmp (hs.slots _ _ rfl) .nil) ⟨?_, hs.mem.base⟩
                have hX : refB (itemF x left) = -1 := refI_bad (by
                  clear hs
                  rintro ⟨a0, b0, b1, b2, b3, b4, b5, b6, b7, b8, b9⟩
                  first | omega | (rw [hnm, b2] at h65; simp at h65; done) | (have hz : nm = false := (by simpa using h68); have := b3 (of_decide_eq_false (hnm.symm.trans hz)); omega) | exact b4 (hvm.symm.trans (eq_of_beq h79)) | exact b5 (Eq.trans (by rw [Bool.eq_iff_iff]; simp) (eq_of_beq h88)) | (rw [hli.trans b8] at h126; simp at h126; done) | (first | (simp only [Bool.not_eq_true', Bool.not_eq_false', beq_eq_false_iff_ne, beq_iff_eq, ne_eq] at h102; rw [Bool.eq_iff_iff] at h102; simp only [beq_iff_eq, decide_eq_true_eq, Bool.false_eq_true, iff_false] at h102; omega) | (simp at h102; omega)))
                rw [hX]; rfl
              · replace h131 := of_decide_eq_false h131
                refine wp_skip (then_normal ?_)
                refine wp_seq_cut (fun a w1 => ∃ (lf : Int), (-1 ≤ lf ∧ lf ≤ 8192) ∧ (0 ≤ lf → (itemF x left) = if (shI x lf).1 = true then xlist stE x.f5 (shI x lf).2 else shI x lf) ∧ (lf < 0 → (itemF x left).1 = false ∧ lf = -1) ∧ St 155 v0 [(1, .int .i64 lf), (2, .pointer (some ⟨gx, 0, none⟩))] [pt gx #[.int .u8 x.f0, .string x.f1, .int .u8 x.f2.f0, .int .i64 x.f2.f1, .string x.f2.f2, .slice A5 x.f2.f3.length c5, .int .i64 x.f2.f4, .int .i64 x.f2.f5, .int .u8 x.f3.f0, .string x.f3.f1, .slice A10 x.f3.f2.length c10, .slice A11 x.f3.f3.length c11, .slice A12 x.f3.f4.length c12, .int .i64 x.f3.f5, .int .i64 x.f3.f6, .int .u8 x.f4, .slice A16 x.f5.length c16, .int .i64 x.f6, .int .i64 x.f7] 45] a w1) ?_ (fun a w1 hJ => ?_)
                · refine wp_seq ?_
                  have hR : refHead x := by
                    clear hs
                    refine ⟨by omega, by omega, by rw [← hn1, hnm], fun h0 => hn2 (by rw [hnm, decide_eq_false h0]), by rw [← hvm]; exact hv1, ?_, hp.1, hp.2, ?_, by omega⟩
                    · intro h0; exact hs1 (by rw [← h0]; rw [Bool.eq_iff_iff]; simp)
                    · rw [← hli]; simpa using h126
                  have hH := refHead_head hR
                  have hI := itemF_ref (left := left) (by omega) hH
                  refine wp_region_lit ?_
                  refine a_val hs rfl rfl rfl (y_move hs rfl) ?_; clear hs a; intro a hs
                  refine wpList_nil (then_normal ?_)
                  refine wp_cond_split (hs.ev rfl) (fun h132 => ?_) (fun h132 => ?_)
                  · have hV : valI x (left - 1) = stE x.f2 (left - 1) := by unfold valI; rw [if_pos (show hasV x from of_decide_eq_true (hvm.symm.trans h132))]
                    have hfv := stE_falls x.f2 (left - 1) (by omega)
                    have hrb := refB_bounds hfv
                    refine wp_region_lit ?_
                    refine a_val hs rfl rfl rfl (y_faddr (k' := 2) 2 hs (by kernel_rfl) rfl rfl) ?_; clear hs a; intro a hs
                    refine a_val hs rfl rfl rfl (y_loadAgg (vs := [.int .u8 x.f2.f0, .int .i64 x.f2.f1, .string x.f2.f2, .slice A5 x.f2.f3.length c5, .int .i64 x.f2.f4, .int .i64 x.f2.f5]) hs Tryd.underlying24 rfl (by kernel_rfl) rfl (fun w hw k v hk => ((hw.to 0 rfl).cell).trans (sub_at 6 rfl hk))) ?_; clear hs a; intro a hs
                    refine a_val hs rfl rfl rfl (y_move hs rfl) ?_; clear hs a; intro a hs
                    refine a_eff rfl (e_callB Tryd.func42 rfl rfl hs rfl rfl (ref_exprB x.f2 A5 c5 (left - 1) _ (Kd.C_below hA5 hs.mem.base) hsm.2.1 (by omega)) ?_); clear hs a; intro a w hs
                    refine a_val hs rfl rfl rfl (y_assign hs rfl) ?_; clear hs a; intro a hs
                    refine wpList_nil (then_normal ?_)
                    refine ⟨refB (stE x.f2 (left - 1)), by omega, fun h0 => by rw [hI, hV]; exact xb_k (k := fun l => if (shI x l).1 = true then xlist stE x.f5 (shI x l).2 else shI x l) h0, fun h0 => by rw [hI, hV]; exact xb_s (k := fun l => if (shI x l).1 = true then xlist stE x.f5 (shI x l).2 else shI x l) hfv h0, ?_⟩
                    exact (hs.mem_to hs.mem).cut _ ⟨rfl, rfl, trivial⟩
                  · have hV : valI x (left - 1) = (true, left - 1) := by unfold valI; rw [if_neg (show ¬ hasV x from of_decide_eq_false (hvm.symm.trans h132))]
                    refine wp_skip (then_normal ?_)
                    refine ⟨left - 1, by omega, fun h0 => by rw [hI, hV, if_pos rfl], fun h0 => by omega, ?_⟩
                    exact (hs.mem_to hs.mem).cut _ ⟨rfl, rfl, trivial⟩
                · clear hs
                  obtain ⟨lf, hlf, hinv, hneg, hs⟩ := hJ
                  refine wp_seq_cut (fun a w1 => ∃ (lf : Int), (-1 ≤ lf ∧ lf ≤ 8192) ∧ (0 ≤ lf → (itemF x left) = xlist stE x.f5 lf) ∧ (lf < 0 → (itemF x left).1 = false ∧ lf = -1) ∧ St 155 v0 [(1, .int .i64 lf), (2, .pointer (some ⟨gx, 0, none⟩))] [pt gx #[.int .u8 x.f0, .string x.f1, .int .u8 x.f2.f0, .int .i64 x.f2.f1, .string x.f2.f2, .slice A5 x.f2.f3.length c5, .int .i64 x.f2.f4, .int .i64 x.f2.f5, .int .u8 x.f3.f0, .string x.f3.f1, .slice A10 x.f3.f2.length c10, .slice A11 x.f3.f3.length c11, .slice A12 x.f3.f4.length c12, .int .i64 x.f3.f5, .int .i64 x.f3.f6, .int .u8 x.f4, .slice A16 x.f5.length c16, .int .i64 x.f6, .int .i64 x.f7] 45] a w1) ?_ (fun a w1 hJ => ?_)
                  · refine wp_seq ?_
                    refine wp_region_lit ?_
                    refine a_val hs rfl rfl rfl (y_faddr (k' := 0) 0 hs (by kernel_rfl) rfl rfl) ?_; clear hs a; intro a hs
                    refine a_val hs rfl rfl rfl (y_load hs Tryd.underlying37 rfl rfl (fun w hw => (hw.to 0 rfl).cellV rfl)) ?_; clear hs a; intro a hs
                    refine a_val hs rfl rfl rfl (y_cmp hs rfl rfl rfl) ?_; clear hs a; intro a hs
                    refine a_val hs rfl rfl rfl (y_move hs rfl) ?_; clear hs a; intro a hs
                    rcases hs.know (d := 140) rfl with ⟨h140, hs1⟩ | ⟨h140, hs1⟩ <;> replace hs := hs1 <;> clear hs1
                    · replace h140 := eq_of_beq h140
                      refine a_valG hs rfl rfl rfl (y_move hs rfl) ?_; clear hs a; intro a hs
                      refine a_valG hs rfl rfl rfl (y_cmp hs rfl rfl rfl) ?_; clear hs a; intro a hs
                      refine a_val hs rfl rfl rfl (y_pickT hs rfl rfl rfl) ?_; clear hs a; intro a hs
                      refine wpList_nil (then_normal ?_)
                      refine wp_cond_split (hs.ev rfl) (fun h143 => ?_) (fun h143 => ?_)
                      · replace h143 := of_decide_eq_true h143
                        have hSn : ∀ l, shI x l = xshape 16 x.f3 l := fun l => by unfold shI; rw [if_pos (by omega)]
                        have hfs := xshape_falls 16 x.f3 lf (by omega)
                        have hrb := refB_bounds hfs
                        refine wp_region_lit ?_
                        refine a_val hs rfl rfl rfl (y_faddr (k' := 8) 8 hs (by kernel_rfl) rfl rfl) ?_; clear hs a; intro a hs
                        refine a_val hs rfl rfl rfl (y_loadAgg (vs := [.int .u8 x.f3.f0, .string x.f3.f1, .slice A10 x.f3.f2.length c10, .slice A11 x.f3.f3.length c11, .slice A12 x.f3.f4.length c12, .int .i64 x.f3.f5, .int .i64 x.f3.f6]) hs Tryd.underlying41 rfl (by kernel_rfl) rfl (fun w hw k v hk => ((hw.to 0 rfl).cell).trans (sub_at 7 rfl hk))) ?_; clear hs a; intro a hs
                        refine a_val hs rfl rfl rfl (y_move hs rfl) ?_; clear hs a; intro a hs
                        refine a_eff rfl (e_callB Tryd.func46 rfl rfl hs rfl rfl (ref_shape 16 (by decide) x.f3 A10 A11 A12 c10 c11 c12 lf _ (Kd.C_below hA10 hs.mem.base) (Kd.C_below hA11 hs.mem.base) (Kd.C_below hA12 hs.mem.base) hsm.2.2.1 (by omega)) ?_); clear hs a; intro a w hs
                        refine a_val hs rfl rfl rfl (y_assign hs rfl) ?_; clear hs a; intro a hs
                        refine wpList_nil (then_normal ?_)
                        refine ⟨refB (xshape 16 x.f3 lf), by omega, fun h0 => by rw [hinv (by omega), hSn]; exact xb_k (k := fun l => xlist stE x.f5 l) h0, fun h0 => by rw [hinv (by omega), hSn]; exact xb_s (k := fun l => xlist stE x.f5 l) hfs h0, ?_⟩
                        exact (hs.mem_to hs.mem).cut _ ⟨rfl, rfl, trivial⟩
                      · replace h143 := of_decide_eq_false h143
                        refine wp_skip (then_normal ?_)
                        refine ⟨lf, hlf, fun h0 => by omega, hneg, ?_⟩
                        exact (hs.mem_to hs.mem).cut _ ⟨rfl, rfl, trivial⟩
                    · replace h140 := ne_of_beq_false h140
                      have hSn : ∀ l, shI x l = (true, l) := fun l => by unfold shI; rw [if_neg (by omega)]
                      refine a_skip hs rfl rfl rfl ?_; clear hs a; intro a hs
                      refine a_skip hs rfl rfl rfl ?_; clear hs a; intro a hs
                      refine a_val hs rfl rfl rfl (y_pickF hs rfl rfl rfl) ?_; clear hs a; intro a hs
                      refine wpList_nil (then_normal ?_)
                      refine wp_cond_false (hs.ev rfl) ?_
                      refine wp_skip (then_normal ?_)
                      refine ⟨lf, hlf, fun h0 => by have h1 := hinv h0; rw [hSn, if_pos rfl] at h1; exact h1, hneg, ?_⟩
                      exact (hs.mem_to hs.mem).cut _ ⟨rfl, rfl, trivial⟩
                  · clear hs
                    obtain ⟨lf, hlf, hinv, hneg, hs⟩ := hJ
                    refine wp_seq_cut (fun a w1 => ∃ (lq : Int), (refB (itemF x left) = lq) ∧ St 155 v0 [(1, .int .i64 lq), (2, .pointer (some ⟨gx, 0, none⟩))] [pt gx #[.int .u8 x.f0, .string x.f1, .int .u8 x.f2.f0, .int .i64 x.f2.f1, .string x.f2.f2, .slice A5 x.f2.f3.length c5, .int .i64 x.f2.f4, .int .i64 x.f2.f5, .int .u8 x.f3.f0, .string x.f3.f1, .slice A10 x.f3.f2.length c10, .slice A11 x.f3.f3.length c11, .slice A12 x.f3.f4.length c12, .int .i64 x.f3.f5, .int .i64 x.f3.f6, .int .u8 x.f4, .slice A16 x.f5.length c16, .int .i64 x.f6, .int .i64 x.f7] 45] a w1) ?_ (fun a w1 hJ => ?_)
                    · refine wp_seq ?_
                      refine wp_region_lit ?_
                      refine a_val hs rfl rfl rfl (y_move hs rfl) ?_; clear hs a; intro a hs
                      refine a_val hs rfl rfl rfl (y_cmp hs rfl rfl rfl) ?_; clear hs a; intro a hs
                      refine wpList_nil (then_normal ?_)
                      refine wp_cond_split (hs.ev rfl) (fun h149 => ?_) (fun h149 => ?_)
                      · replace h149 := of_decide_eq_true h149
                        have hfl := xlist_left x.f5 lf (fun p _ l h => stE_falls p l h) (by omega)
                        refine wp_region_lit ?_
                        refine a_val hs rfl rfl rfl (y_faddr (k' := 16) 16 hs (by kernel_rfl) rfl rfl) ?_; clear hs a; intro a hs
                        refine a_val hs rfl rfl rfl (y_load hs Tryd.underlying23 rfl rfl (fun w hw => (hw.to 0 rfl).cellV rfl)) ?_; clear hs a; intro a hs
                        refine a_val hs rfl rfl rfl (y_move hs rfl) ?_; clear hs a; intro a hs
                        refine a_eff rfl (e_callB Tryd.func73 rfl rfl hs rfl rfl (ref_exprs A16 c16 x.f5 lf _ (ref_expr 16 (by decide)) (Kd.C_below hA16 hs.mem.base) hsm.2.2.2 (by omega)) ?_); clear hs a; intro a w hs
                        refine a_val hs rfl rfl rfl (y_assign hs rfl) ?_; clear hs a; intro a hs
                        refine wpList_nil (then_normal ?_)
                        refine ⟨refL x.f5 lf, by rw [hinv (by omega)]; rfl, ?_⟩
                        exact (hs.mem_to hs.mem).cut _ ⟨rfl, rfl, trivial⟩
                      · replace h149 := of_decide_eq_false h149
                        refine wp_skip (then_normal ?_)
                        refine ⟨lf, by obtain ⟨h1, h2⟩ := hneg (by omega); unfold refB; rw [h1, h2]; rfl, ?_⟩
                        exact (hs.mem_to hs.mem).cut _ ⟨rfl, rfl, trivial⟩
                    · clear hs
                      obtain ⟨lq, hq, hs⟩ := hJ
                      refine wp_seq ?_
                      refine wp_region_lit ?_
                      refine a_val hs rfl rfl rfl (y_move hs rfl) ?_; clear hs a; intro a hs
                      refine a_val hs rfl rfl rfl (y_assign hs rfl) ?_; clear hs a; intro a hs
                      refine wpList_nil (then_normal ?_)
                      refine wp_ret ?_
                      refine fin_ret hs (.tmp (hs.slots _ _ rfl) .nil) ⟨?_, hs.mem.base⟩
                      rw [hq]; rfl
set_option maxRecDepth 100000 in
theorem ref_May (A : Option Addr) (c : Nat) (l : List XI) (v0 : World) (hA : Kd.C k45 v0 A l.length l) (hsm : ∀ p ∈ l, smallI p) :
    Calls Tryd.prog 17 #[.slice A l.length c] v0 fun e w' => e = .returned (.bool (mayI l)) ∧ Below v0.heap.size v0 w' := by
  refine calls_enter (N := 28) (n := 27) (args := [.slice A l.length c]) Tryd.func17 rfl rfl rfl (H.init v0) (fun a hs => ?_)
  have hcl := C_len hA
  refine wp_seq ?_
  refine wp_region_lit ?_
  refine a_val hs rfl rfl rfl (y_assign hs rfl) ?_; clear hs a; intro a hs
  refine wpList_nil (then_normal ?_)
  refine wp_seq ?_
  refine wp_region_lit ?_
  refine a_val hs rfl rfl rfl (y_assign hs rfl) ?_; clear hs a; intro a hs
  refine wpList_nil (then_normal ?_)
  refine wp_seq ?_
  refine wp_seq ?_
  refine wp_region_lit ?_
  refine a_val hs rfl rfl rfl (y_assign hs rfl) ?_; clear hs a; intro a hs
  refine wpList_nil (then_normal ?_)
  refine wp_block ?_
  refine wp_loopN (fun m a w1 => ∃ (i : Nat) (lf : Int), (i + m = l.length) ∧ (-1 ≤ lf ∧ lf ≤ 8192) ∧ (0 ≤ lf → (xlist itemF l 8192) = xk itemF (l.drop i) (fun l => (true, l)) lf) ∧ (lf < 0 → (xlist itemF l 8192).1 = false ∧ lf = -1) ∧ St 28 v0 [(0, .slice A l.length c), (3, .int .i64 lf), (4, .int .i64 ((i : Nat) : Int))] [] a w1) (l.length) ⟨0, 8192, by omega, by omega, fun _ => xk_true.symm, fun h => by omega, ?_⟩ (fun m a w1 hJ => ?_)
  · exact (hs.mem_to hs.mem).cut _ ⟨rfl, rfl, rfl, trivial⟩
  · clear hs
    obtain ⟨i, lf, hi, hlf, hinv, hneg, hs⟩ := hJ
    refine wp_seq ?_
    refine wp_seq ?_
    refine wp_region_lit ?_
    refine a_val hs rfl rfl rfl (y_move hs rfl) ?_; clear hs a; intro a hs
    refine a_val hs rfl rfl rfl (y_move hs rfl) ?_; clear hs a; intro a hs
    refine a_val hs rfl rfl rfl (y_lenL hs Tryd.underlying32 rfl) ?_; clear hs a; intro a hs
    refine a_val hs rfl rfl rfl (y_cmp hs rfl rfl rfl) ?_; clear hs a; intro a hs
    refine a_val hs rfl rfl rfl (y_move hs rfl) ?_; clear hs a; intro a hs
    rcases hs.know (d := 9) rfl with ⟨h9, hs1⟩ | ⟨h9, hs1⟩ <;> replace hs := hs1 <;> clear hs1
    · replace h9 := of_decide_eq_true h9
      refine a_valG hs rfl rfl rfl (y_move hs rfl) ?_; clear hs a; intro a hs
      refine a_valG hs rfl rfl rfl (y_cmp hs rfl rfl rfl) ?_; clear hs a; intro a hs
      refine a_val hs rfl rfl rfl (y_pickT hs rfl rfl rfl) ?_; clear hs a; intro a hs
      refine wpList_nil (then_normal ?_)
      refine wp_cond_split (hs.ev rfl) (fun h12 => ?_) (fun h12 => ?_)
      · replace h12 := of_decide_eq_true h12
        obtain ⟨y, hy⟩ : ∃ y, l[i]? = some y := ⟨_, List.getElem?_eq_getElem (by omega)⟩
        obtain ⟨g0, o, rfl, hcell⟩ := C_atG (show 0 < 19 by decide) hA (by omega)
        obtain ⟨cs, hK, hc⟩ := hcell i y hy
        obtain ⟨A5, c5, A10, c10, A11, c11, A12, c12, A16, c16, rfl, l5, g5, l10, g10, l11, g11, l12, g12, l16, g16⟩ := k45_open hK
        have hdrop : l.drop i = y :: l.drop (i + 1) := by
          rw [List.drop_eq_getElem_cons (by omega)]
          rw [List.getElem?_eq_getElem (by omega)] at hy
          injection hy with hy
          rw [hy]
        rw [hdrop] at hinv
        refine wp_skip (then_normal ?_)
        refine wp_seq ?_
        refine wp_block ?_
        refine wp_region_lit ?_
        refine a_val hs rfl rfl rfl (y_move hs rfl) ?_; clear hs a; intro a hs
        refine a_val hs rfl rfl rfl (y_move hs rfl) ?_; clear hs a; intro a hs
        refine a_val hs rfl rfl rfl (y_idxB (size := 19) (off := o + i * 19) hs Tryd.underlying32 (by kernel_rfl) rfl rfl (by omega) (by omega) (by simp)) ?_; clear hs a; intro a hs
        refine a_val hs rfl rfl rfl (y_loadAgg (vs := [.int .u8 y.f0, .string y.f1, .int .u8 y.f2.f0, .int .i64 y.f2.f1, .string y.f2.f2, .slice A5 y.f2.f3.length c5, .int .i64 y.f2.f4, .int .i64 y.f2.f5, .int .u8 y.f3.f0, .string y.f3.f1, .slice A10 y.f3.f2.length c10, .slice A11 y.f3.f3.length c11, .slice A12 y.f3.f4.length c12, .int .i64 y.f3.f5, .int .i64 y.f3.f6, .int .u8 y.f4, .slice A16 y.f5.length c16, .int .i64 y.f6, .int .i64 y.f7]) hs Tryd.underlying44 rfl (by kernel_rfl) rfl (fun w hw k v hk => hc w hw.base k v hk)) ?_; clear hs a; intro a hs
        refine a_val hs rfl rfl rfl (y_move hs rfl) ?_; clear hs a; intro a hs
        have hfl := itemF_falls y lf (by omega)
        have hrb := refB_bounds hfl
        refine a_eff rfl (e_callB Tryd.func41 rfl rfl hs rfl rfl (ref_Item y A5 A10 A11 A12 A16 c5 c10 c11 c12 c16 lf _ (Kd.C_below g5 hs.mem.base) (Kd.C_below g10 hs.mem.base) (Kd.C_below g11 hs.mem.base) (Kd.C_below g12 hs.mem.base) (Kd.C_below g16 hs.mem.base) (hsm y (List.mem_of_getElem? hy)) (by omega)) ?_); clear hs a; intro a w hs
        refine a_val hs rfl rfl rfl (y_assign hs rfl) ?_; clear hs a; intro a hs
        refine wpList_nil (in_normal (then_normal ?_))
        refine wp_region_lit ?_
        refine a_val hs rfl rfl rfl (y_move hs rfl) ?_; clear hs a; intro a hs
        refine a_val hs rfl rfl rfl (y_add hs rfl rfl (by omega)) ?_; clear hs a; intro a hs
        refine a_val hs rfl rfl rfl (y_assign hs rfl) ?_; clear hs a; intro a hs
        refine wpList_nil (then_normal ?_)
        refine ⟨m - 1, by omega, i + 1, refB (itemF y lf), by omega, by omega, xk_next (hinv (by omega)), xk_stop (hinv (by omega)) hfl, ?_⟩
        exact (hs.mem_to hs.mem).cut _ ⟨rfl, rfl, rfl, trivial⟩
      · replace h12 := of_decide_eq_false h12
        refine wp_exit (then_exit (then_exit (in_here (then_normal ?_))))
        refine wp_seq ?_
        have hq : (xlist itemF l 8192).1 = decide (0 ≤ lf) := by
          by_cases h0 : 0 ≤ lf
          · have h1 := hinv h0
            rw [List.drop_eq_nil_of_le (by omega), xk_nil] at h1
            rw [h1]; exact (decide_eq_true h0).symm
          · rw [(hneg (by omega)).1]; exact (decide_eq_false h0).symm
        refine wp_region_lit ?_
        refine a_val hs rfl rfl rfl (y_move hs rfl) ?_; clear hs a; intro a hs
        refine a_val hs rfl rfl rfl (y_cmp hs rfl rfl rfl) ?_; clear hs a; intro a hs
        refine a_val hs rfl rfl rfl (y_move hs rfl) ?_; clear hs a; intro a hs
        rcases hs.know (d := 23) rfl with ⟨h23, hs1⟩ | ⟨h23, hs1⟩ <;> replace hs := hs1 <;> clear hs1
        · replace h23 := of_decide_eq_true h23
          refine a_valG hs rfl rfl rfl (y_move hs rfl) ?_; clear hs a; intro a hs
          refine a_valG hs rfl rfl rfl (y_lenL hs Tryd.underlying32 rfl) ?_; clear hs a; intro a hs
          refine a_valG hs rfl rfl rfl (y_cmp hs rfl rfl rfl) ?_; clear hs a; intro a hs
          refine a_val hs rfl rfl rfl (y_pickT hs rfl rfl rfl) ?_; clear hs a; intro a hs
          refine a_val hs rfl rfl rfl (y_assign hs rfl) ?_; clear hs a; intro a hs
          refine wpList_nil (then_normal ?_)
          refine wp_ret ?_
          refine fin_ret hs (.tmp (hs.slots _ _ rfl) .nil) ⟨?_, hs.mem.base⟩
          first | (rw [show mayI l = false by unfold mayI; rw [hq, decide_eq_false (show ¬ 0 ≤ lf by omega), Bool.and_false]]; rfl) | (rw [show mayI l = decide ((l.length : Int) ≤ 64) by unfold mayI; rw [hq, decide_eq_true (show 0 ≤ lf by omega), Bool.and_true]; exact decide_eq_decide.2 (by omega)]; rfl)
        · replace h23 := of_decide_eq_false h23
          refine a_skip hs rfl rfl rfl ?_; clear hs a; intro a hs
          refine a_skip hs rfl rfl rfl ?_; clear hs a; intro a hs
          refine a_skip hs rfl rfl rfl ?_; clear hs a; intro a hs
          refine a_val hs rfl rfl rfl (y_pickF hs rfl rfl rfl) ?_; clear hs a; intro a hs
          refine a_val hs rfl rfl rfl (y_assign hs rfl) ?_; clear hs a; intro a hs
          refine wpList_nil (then_normal ?_)
          refine wp_ret ?_
          refine fin_ret hs (.tmp (hs.slots _ _ rfl) .nil) ⟨?_, hs.mem.base⟩
          first | (rw [show mayI l = false by unfold mayI; rw [hq, decide_eq_false (show ¬ 0 ≤ lf by omega), Bool.and_false]]; rfl) | (rw [show mayI l = decide ((l.length : Int) ≤ 64) by unfold mayI; rw [hq, decide_eq_true (show 0 ≤ lf by omega), Bool.and_true]; exact decide_eq_decide.2 (by omega)]; rfl)
    · replace h9 := of_decide_eq_false h9
      refine a_skip hs rfl rfl rfl ?_; clear hs a; intro a hs
      refine a_skip hs rfl rfl rfl ?_; clear hs a; intro a hs
      refine a_val hs rfl rfl rfl (y_pickF hs rfl rfl rfl) ?_; clear hs a; intro a hs
      refine wpList_nil (then_normal ?_)
      refine wp_cond_false (hs.ev rfl) ?_
      refine wp_exit (then_exit (then_exit (in_here (then_normal ?_))))
      refine wp_seq ?_
      have hq : (xlist itemF l 8192).1 = decide (0 ≤ lf) := by
        by_cases h0 : 0 ≤ lf
        · have h1 := hinv h0
          rw [List.drop_eq_nil_of_le (by omega), xk_nil] at h1
          rw [h1]; exact (decide_eq_true h0).symm
        · rw [(hneg (by omega)).1]; exact (decide_eq_false h0).symm
      refine wp_region_lit ?_
      refine a_val hs rfl rfl rfl (y_move hs rfl) ?_; clear hs a; intro a hs
      refine a_val hs rfl rfl rfl (y_cmp hs rfl rfl rfl) ?_; clear hs a; intro a hs
      refine a_val hs rfl rfl rfl (y_move hs rfl) ?_; clear hs a; intro a hs
      rcases hs.know (d := 23) rfl with ⟨h23, hs1⟩ | ⟨h23, hs1⟩ <;> replace hs := hs1 <;> clear hs1
      · replace h23 := of_decide_eq_true h23
        refine a_valG hs rfl rfl rfl (y_move hs rfl) ?_; clear hs a; intro a hs
        refine a_valG hs rfl rfl rfl (y_lenL hs Tryd.underlying32 rfl) ?_; clear hs a; intro a hs
        refine a_valG hs rfl rfl rfl (y_cmp hs rfl rfl rfl) ?_; clear hs a; intro a hs
        refine a_val hs rfl rfl rfl (y_pickT hs rfl rfl rfl) ?_; clear hs a; intro a hs
        refine a_val hs rfl rfl rfl (y_assign hs rfl) ?_; clear hs a; intro a hs
        refine wpList_nil (then_normal ?_)
        refine wp_ret ?_
        refine fin_ret hs (.tmp (hs.slots _ _ rfl) .nil) ⟨?_, hs.mem.base⟩
        first | (rw [show mayI l = false by unfold mayI; rw [hq, decide_eq_false (show ¬ 0 ≤ lf by omega), Bool.and_false]]; rfl) | (rw [show mayI l = decide ((l.length : Int) ≤ 64) by unfold mayI; rw [hq, decide_eq_true (show 0 ≤ lf by omega), Bool.and_true]; exact decide_eq_decide.2 (by omega)]; rfl)
      · replace h23 := of_decide_eq_false h23
        refine a_skip hs rfl rfl rfl ?_; clear hs a; intro a hs
        refine a_skip hs rfl rfl rfl ?_; clear hs a; intro a hs
        refine a_skip hs rfl rfl rfl ?_; clear hs a; intro a hs
        refine a_val hs rfl rfl rfl (y_pickF hs rfl rfl rfl) ?_; clear hs a; intro a hs
        refine a_val hs rfl rfl rfl (y_assign hs rfl) ?_; clear hs a; intro a hs
        refine wpList_nil (then_normal ?_)
        refine wp_ret ?_
        refine fin_ret hs (.tmp (hs.slots _ _ rfl) .nil) ⟨?_, hs.mem.base⟩
        first | (rw [show mayI l = false by unfold mayI; rw [hq, decide_eq_false (show ¬ 0 ≤ lf by omega), Bool.and_false]]; rfl) | (rw [show mayI l = decide ((l.length : Int) ≤ 64) by unfold mayI; rw [hq, decide_eq_true (show 0 ≤ lf by omega), Bool.and_true]; exact decide_eq_decide.2 (by omega)]; rfl)
end Go.Proofs.YtibaidddhmdafaaDoor.E
end
section
namespace Go.Proofs.YtibaidddhmdafaaDoor.E
open Go Go.RowKit Go.Proofs.YtibaidddhmdafaaDoorW.PrintWords Go.Proofs.YtibaidddhmdafaaDoorW.PrintLast Go.Proofs.YtibaidddhmdafaaDoorW.PrintMore Go.Proofs.YtibaidddhmdafaaDoor.PA
set_option linter.unusedVariables false
set_option linter.unusedSimpArgs false
theorem add_at (g o k : Nat) : (⟨g, o, none⟩ : Addr).add k = ⟨g, o + k, none⟩ := by
  unfold Addr.add; split
  · rename_i h0; rw [h0]; rfl
  · rfl
/-- One element of a list is a list. -/
theorem C_sub1 {α : Type} {d : Kd α} {g o n i : Nat} {l : List α} {y : α} {w : World} (h : Kd.C d w (some ⟨g, o, none⟩) n l) (hy : l[i]? = some y) : Kd.C d w (some ⟨g, o + i * d.sz, none⟩) 1 [y] := by
  obtain ⟨hl, hb, hc⟩ := h
  have hlt : i < l.length := (List.getElem?_eq_some_iff.1 hy).1
  obtain ⟨ad, hA, hr⟩ := hc (by omega)
  obtain rfl := Option.some.inj hA
  refine ⟨rfl, (by show 1 ≤ 9223372036854775807; decide), fun _ => ⟨_, rfl, fun j p hj => ?_⟩⟩
  match j, hj with
  | 0, hj =>
    obtain rfl := Option.some.inj hj
    obtain ⟨cs, h1, h2, h3⟩ := hr i _ hy
    refine ⟨cs, h1, h2, fun k u hu => ?_⟩
    have h4 := h3 k u hu
    rw [add_at] at h4 ⊢
    rw [Nat.zero_mul, Nat.zero_add, Nat.add_assoc]; exact h4
theorem one_item (gl : Nat) (y : XI) (bs : List Res) (w0 w : World) {A5 A10 A11 A12 A16 : Option Addr} {c5 c10 c11 c12 c16 : Nat} (l5 : y.f2.f3.length ≤ c5) (g5 : Kd.C k25 w A5 y.f2.f3.length y.f2.f3) (l10 : y.f3.f2.length ≤ c10) (g10 : Kd.C k25 w A10 y.f3.f2.length y.f3.f2)
    (l11 : y.f3.f3.length ≤ c11) (g11 : Kd.C k42 w A11 y.f3.f3.length y.f3.f3) (l12 : y.f3.f4.length ≤ c12) (g12 : Kd.C (Kd.slice 25 k25) w A12 y.f3.f4.length y.f3.f4) (l16 : y.f5.length ≤ c16) (g16 : Kd.C k25 w A16 y.f5.length y.f5)
    (h : H w0 (pt gl #[.int .u8 y.f0, .string y.f1, .int .u8 y.f2.f0, .int .i64 y.f2.f1, .string y.f2.f2, .slice A5 y.f2.f3.length c5, .int .i64 y.f2.f4, .int .i64 y.f2.f5, .int .u8 y.f3.f0, .string y.f3.f1, .slice A10 y.f3.f2.length c10, .slice A11 y.f3.f3.length c11, .slice A12 y.f3.f4.length c12, .int .i64 y.f3.f5, .int .i64 y.f3.f6, .int .u8 y.f4, .slice A16 y.f5.length c16, .int .i64 y.f6, .int .i64 y.f7] 45 :: bs) w) : Kd.C k45 w (some ⟨gl, 0, none⟩) 1 [y] := by
  refine h.ptCG (l := [y]) (by show 1 ≤ 9223372036854775807; decide) (fun _ => [.int .u8 y.f0, .string y.f1, .int .u8 y.f2.f0, .int .i64 y.f2.f1, .string y.f2.f2, .slice A5 y.f2.f3.length c5, .int .i64 y.f2.f4, .int .i64 y.f2.f5, .int .u8 y.f3.f0, .string y.f3.f1, .slice A10 y.f3.f2.length c10, .slice A11 y.f3.f3.length c11, .slice A12 y.f3.f4.length c12, .int .i64 y.f3.f5, .int .i64 y.f3.f6, .int .u8 y.f4, .slice A16 y.f5.length c16, .int .i64 y.f6, .int .i64 y.f7]) (fun i x hi => ?_)
  match i, hi with
  | 0, hi =>
    obtain rfl := Option.some.inj hi
    exact ⟨k45_mk w _ l5 g5 l10 g10 l11 g11 l12 g12 l16 g16, rfl, fun j v hj => by
      have h1 := List.getElem?_eq_some_iff.1 hj
      obtain ⟨h1, _⟩ := h1
      replace h1 : j < 19 := h1
      rw [Nat.zero_mul, Nat.zero_add]
      match j, h1, hj with
      | 0, _, hj | 1, _, hj | 2, _, hj | 3, _, hj | 4, _, hj | 5, _, hj | 6, _, hj | 7, _, hj | 8, _, hj | 9, _, hj | 10, _, hj | 11, _, hj | 12, _, hj | 13, _, hj | 14, _, hj | 15, _, hj | 16, _, hj | 17, _, hj | 18, _, hj => exact hj⟩
section
variable {P : Program} {N : Nat} {w0 w : World} {σ : List (Nat × Value)} {bs bs1 : List Res} {a : Act} {x y z : Operand} {t ty : TypeId} {ps : String} {af : Array Edge} {gd : Option (Nat × Bool)} {od : Option Nat}
theorem y_slice1 {e : TypeId} {g o l c size i : Nat} {k1 k2 : IntKind} (hs : St N w0 σ bs1 a w) (ht : P.underlying t = some (.slice e)) (hinf : (P.info? e).map (·.size) = some size) (hx : ev σ x = some (.slice (some ⟨g, o, none⟩) l c)) (hy : ev σ y = some (.int k1 (i : Int))) (hz : ev σ z = some (.int k2 ((i : Int) + 1))) (hc : i + 1 ≤ c) :
    Y P w0 bs a (Oper.mk od (.slice t x (some y) (some z) Option.none) ty ps af gd) (.slice (some ⟨g, o + i * size, none⟩) 1 (c - i)) := by
  have h := y_sliceM (P := P) (bs := bs) (ty := ty) (ps := ps) (af := af) (gd := gd) (od := od) (lo := i) (hi := i + 1) hs ht hinf hx hy hz rfl (by omega) (by omega) hc
  rw [if_neg (by omega), show i + 1 - i = 1 by omega] at h
  rw [show (some (⟨g, o, none⟩ : Addr)).map (·.add (i * size)) = some ⟨g, o + i * size, none⟩ from congrArg some (add_at ..)] at h
  exact h
end
set_option maxHeartbeats 400000 in
set_option maxRecDepth 100000 in
theorem law_TreeMays (A : Option Addr) (c : Nat) (l : List XI) (v0 : World) (hA : Kd.C k45 v0 A l.length l) (hcc : l.length ≤ c) (hsm : ∀ p ∈ l, smallI p) (hP : Pow10 v0) :
    Calls Tryd.prog 5 #[.slice A l.length c] v0 fun e w' => e = .returned (.bool true) ∧ Below v0.heap.size v0 w' := by
  refine calls_enter (N := 65) (n := 64) (args := [.slice A l.length c]) Tryd.func5 rfl rfl rfl (H.init v0) (fun a hs => ?_)
  have hcl := C_len hA
  refine wp_seq ?_
  refine wp_region_lit ?_
  refine a_val hs rfl rfl rfl (y_assign hs rfl) ?_; clear hs a; intro a hs
  refine wpList_nil (then_normal ?_)
  refine wp_seq ?_
  refine wp_seq ?_
  refine wp_region_lit ?_
  refine a_val hs rfl rfl rfl (y_assign hs rfl) ?_; clear hs a; intro a hs
  refine wpList_nil (then_normal ?_)
  refine wp_block ?_
  refine wp_loopN (fun m a w1 => ∃ (i : Nat), (i + m = l.length) ∧ St 65 v0 [(0, .slice A l.length c), (3, .int .i64 ((i : Nat) : Int))] [] a w1) (l.length) ⟨0, by omega, ?_⟩ (fun m a w1 hJ => ?_)
  · exact (hs.mem_to hs.mem).cut _ ⟨rfl, rfl, trivial⟩
  · clear hs
    obtain ⟨i, hi, hs⟩ := hJ
    refine wp_seq ?_
    refine wp_seq ?_
    refine wp_region_lit ?_
    refine a_val hs rfl rfl rfl (y_move hs rfl) ?_; clear hs a; intro a hs
    refine a_val hs rfl rfl rfl (y_move hs rfl) ?_; clear hs a; intro a hs
    refine a_val hs rfl rfl rfl (y_lenL hs Tryd.underlying32 rfl) ?_; clear hs a; intro a hs
    refine a_val hs rfl rfl rfl (y_cmp hs rfl rfl rfl) ?_; clear hs a; intro a hs
    refine wpList_nil (then_normal ?_)
    refine wp_cond_split (hs.ev rfl) (fun h10 => ?_) (fun h10 => ?_)
    · replace h10 := of_decide_eq_true h10
      obtain ⟨y, hy⟩ : ∃ y, l[i]? = some y := ⟨_, List.getElem?_eq_getElem (by omega)⟩
      have hy0 := hsm y (List.mem_of_getElem? hy)
      obtain ⟨g0, o, rfl, hcell⟩ := C_atH (show 0 < 19 by decide) hA (by omega)
      have hC1 := C_sub1 hA hy
      obtain ⟨cs, hK, hlen, hc⟩ := hcell i y hy
      obtain ⟨A5, c5, A10, c10, A11, c11, A12, c12, A16, c16, rfl, l5, g5, l10, g10, l11, g11, l12, g12, l16, g16⟩ := k45_open hK
      refine wp_skip (then_normal ?_)
      refine wp_seq ?_
      refine wp_block ?_
      refine wp_seq ?_
      refine wp_region_lit ?_
      refine a_val hs rfl rfl rfl (y_move hs rfl) ?_; clear hs a; intro a hs
      refine a_val hs rfl rfl rfl (y_move hs rfl) ?_; clear hs a; intro a hs
      refine a_val hs rfl rfl rfl (y_idxB (size := 19) (off := o + i * 19) hs Tryd.underlying32 (by kernel_rfl) rfl rfl (by omega) (by omega) (by simp)) ?_; clear hs a; intro a hs
      refine a_val hs rfl rfl rfl (y_loadAgg (vs := [.int .u8 y.f0, .string y.f1, .int .u8 y.f2.f0, .int .i64 y.f2.f1, .string y.f2.f2, .slice A5 y.f2.f3.length c5, .int .i64 y.f2.f4, .int .i64 y.f2.f5, .int .u8 y.f3.f0, .string y.f3.f1, .slice A10 y.f3.f2.length c10, .slice A11 y.f3.f3.length c11, .slice A12 y.f3.f4.length c12, .int .i64 y.f3.f5, .int .i64 y.f3.f6, .int .u8 y.f4, .slice A16 y.f5.length c16, .int .i64 y.f6, .int .i64 y.f7]) hs Tryd.underlying44 rfl (by kernel_rfl) rfl (fun w hw k v hk => hc w hw.base k v hk)) ?_; clear hs a; intro a hs
      refine a_eff rfl (e_alloc (z := .agg #[.int .u8 0, .string ⟨#[]⟩, .int .u8 0, .int .i64 0, .string ⟨#[]⟩, .slice none 0 0, .int .i64 0, .int .i64 0, .int .u8 0, .string ⟨#[]⟩, .slice none 0 0, .slice none 0 0, .slice none 0 0, .int .i64 0, .int .i64 0, .int .u8 0, .slice none 0 0, .int .i64 0, .int .i64 0]) (cs := #[.int .u8 0, .string ⟨#[]⟩, .int .u8 0, .int .i64 0, .string ⟨#[]⟩, .slice none 0 0, .int .i64 0, .int .i64 0, .int .u8 0, .string ⟨#[]⟩, .slice none 0 0, .slice none 0 0, .slice none 0 0, .int .i64 0, .int .i64 0, .int .u8 0, .slice none 0 0, .int .i64 0, .int .i64 0]) hs rfl (by kernel_rfl) rfl ?_); clear hs a; intro gx a w hs
      refine a_eff rfl (e_store (cl := [_, _, _, _, _, _, _, _, _, _, _, _, _, _, _, _, _, _, _]) 0 rfl hs rfl rfl (by kernel_rfl) rfl rfl rfl ?_); clear hs a; intro a w hs
      refine wpList_nil (then_normal ?_)
      refine wp_seq ?_
      refine wp_region_lit ?_
      refine a_val hs rfl rfl rfl (y_faddr (k' := 2) 2 hs (by kernel_rfl) rfl rfl) ?_; clear hs a; intro a hs
      refine a_val hs rfl rfl rfl (y_loadAgg (vs := [.int .u8 y.f2.f0, .int .i64 y.f2.f1, .string y.f2.f2, .slice A5 y.f2.f3.length c5, .int .i64 y.f2.f4, .int .i64 y.f2.f5]) hs Tryd.underlying24 rfl (by kernel_rfl) rfl (fun w hw k v hk => ((hw.to 0 rfl).cell).trans (sub_at 6 rfl hk))) ?_; clear hs a; intro a hs
      refine a_eff rfl (e_callB Tryd.func18 rfl rfl hs rfl rfl (ref_MayExpr y.f2 A5 c5 _ (Kd.C_below g5 hs.mem.base) hy0.2.1) ?_); clear hs a; intro a w hs
      refine a_val hs rfl rfl rfl (y_assign hs rfl) ?_; clear hs a; intro a hs
      refine wpList_nil (then_normal ?_)
      refine wp_seq ?_
      refine wp_region_lit ?_
      refine a_val hs rfl rfl rfl (y_assign hs rfl) ?_; clear hs a; intro a hs
      refine wpList_nil (then_normal ?_)
      refine wp_seq_cut (fun a w1 => ∃ (d : Nat), (deepX y.f2 = d) ∧ St 65 v0 [(0, .slice (some ⟨g0, o, none⟩) l.length c), (3, .int .i64 ((i : Nat) : Int)), (4, .pointer (some ⟨gx, 0, none⟩)), (5, .bool (decide (0 < deepX y.f2))), (6, .int .i64 ((d : Nat) : Int))] [pt gx #[.int .u8 y.f0, .string y.f1, .int .u8 y.f2.f0, .int .i64 y.f2.f1, .string y.f2.f2, .slice A5 y.f2.f3.length c5, .int .i64 y.f2.f4, .int .i64 y.f2.f5, .int .u8 y.f3.f0, .string y.f3.f1, .slice A10 y.f3.f2.length c10, .slice A11 y.f3.f3.length c11, .slice A12 y.f3.f4.length c12, .int .i64 y.f3.f5, .int .i64 y.f3.f6, .int .u8 y.f4, .slice A16 y.f5.length c16, .int .i64 y.f6, .int .i64 y.f7] 45] a w1) ?_ (fun a w1 hJ => ?_)
      · refine wp_seq ?_
        refine wp_region_lit ?_
        refine a_val hs rfl rfl rfl (y_move hs rfl) ?_; clear hs a; intro a hs
        refine wpList_nil (then_normal ?_)
        refine wp_cond_split (hs.ev rfl) (fun h20 => ?_) (fun h20 => ?_)
        · replace h20 := of_decide_eq_true h20
          refine wp_region_lit ?_
          refine a_val hs rfl rfl rfl (y_faddr (k' := 2) 2 hs (by kernel_rfl) rfl rfl) ?_; clear hs a; intro a hs
          refine a_val hs rfl rfl rfl (y_loadAgg (vs := [.int .u8 y.f2.f0, .int .i64 y.f2.f1, .string y.f2.f2, .slice A5 y.f2.f3.length c5, .int .i64 y.f2.f4, .int .i64 y.f2.f5]) hs Tryd.underlying24 rfl (by kernel_rfl) rfl (fun w hw k v hk => ((hw.to 0 rfl).cell).trans (sub_at 6 rfl hk))) ?_; clear hs a; intro a hs
          refine a_eff rfl (e_callB Tryd.func19 rfl rfl hs rfl rfl (ref_Deep 16 (by decide) y.f2 A5 c5 _ (Kd.C_below g5 hs.mem.base) (shape_of 16 y.f2 8192 (by unfold deepX at h20; omega))) ?_); clear hs a; intro a w hs
          refine a_val hs rfl rfl rfl (y_assign hs rfl) ?_; clear hs a; intro a hs
          refine wpList_nil (then_normal ?_)
          refine ⟨dX 16 y.f2, xexpr_deep 16 y.f2 8192 (by unfold deepX at h20; omega), ?_⟩
          exact (hs.mem_to hs.mem).cut _ ⟨rfl, rfl, rfl, rfl, rfl, trivial⟩
        · replace h20 := of_decide_eq_false h20
          refine wp_skip (then_normal ?_)
          refine ⟨0, by omega, ?_⟩
          exact (hs.mem_to hs.mem).cut _ ⟨rfl, rfl, rfl, rfl, rfl, trivial⟩
      · clear hs
        obtain ⟨d, hd, hs⟩ := hJ
        refine wp_seq ?_
        refine b_enter [0] (by kernel_rfl) hs #[false, false, false, false, false, false, false, false, false, false, false, false, false, false, false, false, false, false, false, false, false, false, false, false, false, false, false, false, false, false, false, false, false] (by rfl) 33 (by rfl) ?_; clear hs; intro w hs
        refine b_take 0 rfl #[true, false, false, false, false, false, false, false, false, false, false, false, false, false, false, false, false, false, false, false, false, false, false, false, false, false, false, false, false, false, false, false, false] rfl (by kernel_rfl) hs ((hs.mem.first 1)) rfl rfl rfl (fun _ _ _ h => h) (y_faddr (k' := 2) 2 hs (by kernel_rfl) rfl rfl) ?_; clear hs a; intro a hs
        refine b_take 1 rfl #[true, true, false, false, false, false, false, false, false, false, false, false, false, false, false, false, false, false, false, false, false, false, false, false, false, false, false, false, false, false, false, false, false] rfl (by kernel_rfl) hs ((hs.mem.first 1)) rfl rfl rfl (fun _ _ _ h => h) (y_loadAgg (vs := [.int .u8 y.f2.f0, .int .i64 y.f2.f1, .string y.f2.f2, .slice A5 y.f2.f3.length c5, .int .i64 y.f2.f4, .int .i64 y.f2.f5]) hs Tryd.underlying24 rfl (by kernel_rfl) rfl (fun w hw k v hk => ((hw.to 0 rfl).cell).trans (sub_at 6 rfl hk))) ?_; clear hs a; intro a hs
        refine b_take 3 rfl #[true, true, false, true, false, false, false, false, false, false, false, false, false, false, false, false, false, false, false, false, false, false, false, false, false, false, false, false, false, false, false, false, false] rfl (by kernel_rfl) hs ((hs.mem.first 1)) rfl rfl rfl (fun _ _ _ h => h) (y_move hs rfl) ?_; clear hs a; intro a hs
        refine b_eff 2 (by kernel_rfl) rfl #[true, true, true, true, false, false, false, false, false, false, false, false, false, false, false, false, false, false, false, false, false, false, false, false, false, false, false, false, false, false, false, false, false] rfl hs rfl (e_callB Tryd.func11 rfl rfl hs rfl rfl (tree_MayExpr y.f2 A5 c5 _ (Kd.C_below g5 hs.mem.base) hy0.2.1) ?_); clear hs a; intro a w hs
        refine ⟨(hs.mem.first 1), ?_⟩
        refine b_take 4 rfl #[true, true, true, true, true, false, false, false, false, false, false, false, false, false, false, false, false, false, false, false, false, false, false, false, false, false, false, false, false, false, false, false, false] rfl (by kernel_rfl) hs ((hs.mem.first 1)) rfl rfl rfl (fun _ _ _ h => h) (y_bneF hs Tryd.underlying4 rfl rfl) ?_; clear hs a; intro a hs
        refine b_take 5 rfl #[true, true, true, true, true, true, false, false, false, false, false, false, false, false, false, false, false, false, false, false, false, false, false, false, false, false, false, false, false, false, false, false, false] rfl (by kernel_rfl) hs ((hs.mem.first 1)) rfl rfl rfl (fun _ _ _ h => h) (y_move hs rfl) ?_; clear hs a; intro a hs
        refine b_take 6 rfl #[true, true, true, true, true, true, true, false, false, false, false, false, false, false, false, false, false, false, false, false, false, false, false, false, false, false, false, false, false, false, false, false, false] rfl (by kernel_rfl) hs ((hs.mem.first 1)) rfl rfl rfl (fun _ _ _ h => h) (y_faddr (k' := 2) 2 hs (by kernel_rfl) rfl rfl) ?_; clear hs a; intro a hs
        refine b_take 7 rfl #[true, true, true, true, true, true, true, true, false, false, false, false, false, false, false, false, false, false, false, false, false, false, false, false, false, false, false, false, false, false, false, false, false] rfl (by kernel_rfl) hs ((hs.mem.first 1)) rfl rfl rfl (fun _ _ _ h => h) (y_loadAgg (vs := [.int .u8 y.f2.f0, .int .i64 y.f2.f1, .string y.f2.f2, .slice A5 y.f2.f3.length c5, .int .i64 y.f2.f4, .int .i64 y.f2.f5]) hs Tryd.underlying24 rfl (by kernel_rfl) rfl (fun w hw k v hk => ((hw.to 0 rfl).cell).trans (sub_at 6 rfl hk))) ?_; clear hs a; intro a hs
        refine b_take 9 rfl #[true, true, true, true, true, true, true, true, false, true, false, false, false, false, false, false, false, false, false, false, false, false, false, false, false, false, false, false, false, false, false, false, false] rfl (by kernel_rfl) hs ((hs.mem.first 1)) rfl rfl rfl (fun _ _ _ h => h) (y_move hs rfl) ?_; clear hs a; intro a hs
        refine b_eff 8 (by kernel_rfl) rfl #[true, true, true, true, true, true, true, true, true, true, false, false, false, false, false, false, false, false, false, false, false, false, false, false, false, false, false, false, false, false, false, false, false] rfl hs rfl (e_callB Tryd.func20 rfl rfl hs rfl rfl (tree_Deep y.f2 A5 c5 _ (Kd.C_below g5 hs.mem.base) hy0.2.1) ?_); clear hs a; intro a w hs
        refine ⟨(hs.mem.first 1), ?_⟩
        refine b_take 10 rfl #[true, true, true, true, true, true, true, true, true, true, true, false, false, false, false, false, false, false, false, false, false, false, false, false, false, false, false, false, false, false, false, false, false] rfl (by kernel_rfl) hs ((hs.mem.first 1)) rfl rfl rfl (fun _ _ _ h => h) (y_cmp (b := false) hs rfl rfl (congrArg some (bne_eq_false_iff_eq.2 (by omega)))) ?_; clear hs a; intro a hs
        refine b_take 11 rfl #[true, true, true, true, true, true, true, true, true, true, true, true, false, false, false, false, false, false, false, false, false, false, false, false, false, false, false, false, false, false, false, false, false] rfl (by kernel_rfl) hs ((hs.mem.first 1)) rfl rfl rfl (fun _ _ _ h => h) (y_pickF hs rfl rfl rfl) ?_; clear hs a; intro a hs
        refine b_take 12 rfl #[true, true, true, true, true, true, true, true, true, true, true, true, true, false, false, false, false, false, false, false, false, false, false, false, false, false, false, false, false, false, false, false, false] rfl (by kernel_rfl) hs ((hs.mem.first 1)) rfl rfl rfl (fun _ _ _ h => h) (y_move hs rfl) ?_; clear hs a; intro a hs
        refine b_take 13 rfl #[true, true, true, true, true, true, true, true, true, true, true, true, true, true, false, false, false, false, false, false, false, false, false, false, false, false, false, false, false, false, false, false, false] rfl (by kernel_rfl) hs ((hs.mem.first 1)) rfl rfl rfl (fun _ _ _ h => h) (y_faddr (k' := 8) 8 hs (by kernel_rfl) rfl rfl) ?_; clear hs a; intro a hs
        refine b_take 14 rfl #[true, true, true, true, true, true, true, true, true, true, true, true, true, true, true, false, false, false, false, false, false, false, false, false, false, false, false, false, false, false, false, false, false] rfl (by kernel_rfl) hs ((hs.mem.first 1)) rfl rfl rfl (fun _ _ _ h => h) (y_loadAgg (vs := [.int .u8 y.f3.f0, .string y.f3.f1, .slice A10 y.f3.f2.length c10, .slice A11 y.f3.f3.length c11, .slice A12 y.f3.f4.length c12, .int .i64 y.f3.f5, .int .i64 y.f3.f6]) hs Tryd.underlying41 rfl (by kernel_rfl) rfl (fun w hw k v hk => ((hw.to 0 rfl).cell).trans (sub_at 7 rfl hk))) ?_; clear hs a; intro a hs
        refine b_take 16 rfl #[true, true, true, true, true, true, true, true, true, true, true, true, true, true, true, false, true, false, false, false, false, false, false, false, false, false, false, false, false, false, false, false, false] rfl (by kernel_rfl) hs ((hs.mem.first 1)) rfl rfl rfl (fun _ _ _ h => h) (y_faddr (k' := 8) 8 hs (by kernel_rfl) rfl rfl) ?_; clear hs a; intro a hs
        refine b_take 17 rfl #[true, true, true, true, true, true, true, true, true, true, true, true, true, true, true, false, true, true, false, false, false, false, false, false, false, false, false, false, false, false, false, false, false] rfl (by kernel_rfl) hs ((hs.mem.first 1)) rfl rfl rfl (fun _ _ _ h => h) (y_loadAgg (vs := [.int .u8 y.f3.f0, .string y.f3.f1, .slice A10 y.f3.f2.length c10, .slice A11 y.f3.f3.length c11, .slice A12 y.f3.f4.length c12, .int .i64 y.f3.f5, .int .i64 y.f3.f6]) hs Tryd.underlying41 rfl (by kernel_rfl) rfl (fun w hw k v hk => ((hw.to 0 rfl).cell).trans (sub_at 7 rfl hk))) ?_; clear hs a; intro a hs
        refine b_eff 15 (by kernel_rfl) rfl #[true, true, true, true, true, true, true, true, true, true, true, true, true, true, true, true, true, true, false, false, false, false, false, false, false, false, false, false, false, false, false, false, false] rfl hs rfl (e_callB Tryd.func21 rfl rfl hs rfl rfl (tree_MayShape y.f3 A10 A11 A12 c10 c11 c12 _ (Kd.C_below g10 hs.mem.base) (Kd.C_below g11 hs.mem.base) (Kd.C_below g12 hs.mem.base) hy0.2.2.1) ?_); clear hs a; intro a w hs
        refine ⟨(hs.mem.first 1), ?_⟩
        refine b_eff 18 (by kernel_rfl) rfl #[true, true, true, true, true, true, true, true, true, true, true, true, true, true, true, true, true, true, true, false, false, false, false, false, false, false, false, false, false, false, false, false, false] rfl hs rfl (e_callB Tryd.func22 rfl rfl hs rfl rfl (ref_MayShape y.f3 A10 A11 A12 c10 c11 c12 _ (Kd.C_below g10 hs.mem.base) (Kd.C_below g11 hs.mem.base) (Kd.C_below g12 hs.mem.base) hy0.2.2.1) ?_); clear hs a; intro a w hs
        refine ⟨(hs.mem.first 1), ?_⟩
        refine b_take 19 rfl #[true, true, true, true, true, true, true, true, true, true, true, true, true, true, true, true, true, true, true, true, false, false, false, false, false, false, false, false, false, false, false, false, false] rfl (by kernel_rfl) hs ((hs.mem.first 1)) rfl rfl rfl (fun _ _ _ h => h) (y_bneF hs Tryd.underlying4 rfl rfl) ?_; clear hs a; intro a hs
        refine b_take 20 rfl #[true, true, true, true, true, true, true, true, true, true, true, true, true, true, true, true, true, true, true, true, true, false, false, false, false, false, false, false, false, false, false, false, false] rfl (by kernel_rfl) hs ((hs.mem.first 1)) rfl rfl rfl (fun _ _ _ h => h) (y_pickF hs rfl rfl rfl) ?_; clear hs a; intro a hs
        refine b_take 21 rfl #[true, true, true, true, true, true, true, true, true, true, true, true, true, true, true, true, true, true, true, true, true, true, false, false, false, false, false, false, false, false, false, false, false] rfl (by kernel_rfl) hs ((hs.mem.first 1)) rfl rfl rfl (fun _ _ _ h => h) (y_move hs rfl) ?_; clear hs a; intro a hs
        refine b_take 22 rfl #[true, true, true, true, true, true, true, true, true, true, true, true, true, true, true, true, true, true, true, true, true, true, true, false, false, false, false, false, false, false, false, false, false] rfl (by kernel_rfl) hs ((hs.mem.first 1)) rfl rfl rfl (fun _ _ _ h => h) (y_loadAgg (vs := [.int .u8 y.f0, .string y.f1, .int .u8 y.f2.f0, .int .i64 y.f2.f1, .string y.f2.f2, .slice A5 y.f2.f3.length c5, .int .i64 y.f2.f4, .int .i64 y.f2.f5, .int .u8 y.f3.f0, .string y.f3.f1, .slice A10 y.f3.f2.length c10, .slice A11 y.f3.f3.length c11, .slice A12 y.f3.f4.length c12, .int .i64 y.f3.f5, .int .i64 y.f3.f6, .int .u8 y.f4, .slice A16 y.f5.length c16, .int .i64 y.f6, .int .i64 y.f7]) hs Tryd.underlying44 rfl (by kernel_rfl) rfl (fun w hw k v hk => ((hw.to 0 rfl).cell).trans (by rw [Nat.zero_add, ← Array.getElem?_toList]; exact hk))) ?_; clear hs a; intro a hs
        refine b_take 25 rfl #[true, true, true, true, true, true, true, true, true, true, true, true, true, true, true, true, true, true, true, true, true, true, true, false, false, true, false, false, false, false, false, false, false] rfl (by kernel_rfl) hs ((hs.mem.first 1)) rfl rfl rfl (fun _ _ _ h => h) (y_move hs rfl) ?_; clear hs a; intro a hs
        refine b_take 26 rfl #[true, true, true, true, true, true, true, true, true, true, true, true, true, true, true, true, true, true, true, true, true, true, true, false, false, true, true, false, false, false, false, false, false] rfl (by kernel_rfl) hs ((hs.mem.first 1)) rfl rfl rfl (fun _ _ _ h => h) (y_move hs rfl) ?_; clear hs a; intro a hs
        refine b_take 27 rfl #[true, true, true, true, true, true, true, true, true, true, true, true, true, true, true, true, true, true, true, true, true, true, true, false, false, true, true, true, false, false, false, false, false] rfl (by kernel_rfl) hs ((hs.mem.first 1)) rfl rfl rfl (fun _ _ _ h => h) (y_move hs rfl) ?_; clear hs a; intro a hs
        refine b_take 28 rfl #[true, true, true, true, true, true, true, true, true, true, true, true, true, true, true, true, true, true, true, true, true, true, true, false, false, true, true, true, true, false, false, false, false] rfl (by kernel_rfl) hs ((hs.mem.first 1)) rfl rfl rfl (fun _ _ _ h => h) (y_add hs rfl rfl (by omega)) ?_; clear hs a; intro a hs
        refine b_take 29 rfl #[true, true, true, true, true, true, true, true, true, true, true, true, true, true, true, true, true, true, true, true, true, true, true, false, false, true, true, true, true, true, false, false, false] rfl (by kernel_rfl) hs ((hs.mem.first 1)) rfl rfl rfl (fun _ _ _ h => h) (y_slice1 (size := 19) hs Tryd.underlying32 (by kernel_rfl) rfl rfl rfl (by omega)) ?_; clear hs a; intro a hs
        refine b_eff 23 (by kernel_rfl) rfl #[true, true, true, true, true, true, true, true, true, true, true, true, true, true, true, true, true, true, true, true, true, true, true, true, false, true, true, true, true, true, false, false, false] rfl hs rfl (e_bslice (z := .agg #[.int .u8 0, .string ⟨#[]⟩, .int .u8 0, .int .i64 0, .string ⟨#[]⟩, .slice none 0 0, .int .i64 0, .int .i64 0, .int .u8 0, .string ⟨#[]⟩, .slice none 0 0, .slice none 0 0, .slice none 0 0, .int .i64 0, .int .i64 0, .int .u8 0, .slice none 0 0, .int .i64 0, .int .i64 0]) (size := 19) (zc := #[.int .u8 0, .string ⟨#[]⟩, .int .u8 0, .int .i64 0, .string ⟨#[]⟩, .slice none 0 0, .int .i64 0, .int .i64 0, .int .u8 0, .string ⟨#[]⟩, .slice none 0 0, .slice none 0 0, .slice none 0 0, .int .i64 0, .int .i64 0, .int .u8 0, .slice none 0 0, .int .i64 0, .int .i64 0]) (cl := [_, _, _, _, _, _, _, _, _, _, _, _, _, _, _, _, _, _, _]) hs rfl Tryd.underlying32 (by kernel_rfl) rfl rfl rfl (by kernel_rfl) (by rfl) rfl ?_); clear hs a; intro gl a w hs
        refine ⟨((hs.mem.to 1 rfl).first 1), ?_⟩
        refine b_eff 24 (by kernel_rfl) rfl #[true, true, true, true, true, true, true, true, true, true, true, true, true, true, true, true, true, true, true, true, true, true, true, true, true, true, true, true, true, true, false, false, false] rfl hs rfl (e_callB Tryd.func23 rfl rfl hs rfl rfl (tree_May (some ⟨gl, 0, none⟩) 1 [y] _ (one_item gl y _ _ _ l5 (Kd.C_below g5 hs.mem.base) l10 (Kd.C_below g10 hs.mem.base) l11 (Kd.C_below g11 hs.mem.base) l12 (Kd.C_below g12 hs.mem.base) l16 (Kd.C_below g16 hs.mem.base) hs.mem) (fun p hp => by rw [List.mem_singleton] at hp; subst hp; exact hy0)) ?_); clear hs a; intro a w hs
        refine ⟨((hs.mem.to 1 rfl).first 1), ?_⟩
        refine b_eff 30 (by kernel_rfl) rfl #[true, true, true, true, true, true, true, true, true, true, true, true, true, true, true, true, true, true, true, true, true, true, true, true, true, true, true, true, true, true, true, false, false] rfl hs rfl (e_callB Tryd.func17 rfl rfl hs rfl rfl (ref_May (some ⟨g0, o + i * 19, none⟩) (c - i) [y] _ (Kd.C_below hC1 hs.mem.base) (fun p hp => by rw [List.mem_singleton] at hp; subst hp; exact hy0)) ?_); clear hs a; intro a w hs
        refine ⟨((hs.mem.to 1 rfl).first 1), ?_⟩
        refine b_take 31 rfl #[true, true, true, true, true, true, true, true, true, true, true, true, true, true, true, true, true, true, true, true, true, true, true, true, true, true, true, true, true, true, true, true, false] rfl (by kernel_rfl) hs (((hs.mem.to 1 rfl).first 1)) rfl rfl rfl (fun _ _ _ h => h) (y_bneF hs Tryd.underlying4 rfl rfl) ?_; clear hs a; intro a hs
        refine b_take 32 rfl #[true, true, true, true, true, true, true, true, true, true, true, true, true, true, true, true, true, true, true, true, true, true, true, true, true, true, true, true, true, true, true, true, true] rfl (by kernel_rfl) hs (((hs.mem.to 1 rfl).first 1)) rfl rfl rfl (fun _ _ _ h => h) (y_pickF hs rfl rfl rfl) ?_; clear hs a; intro a hs
        refine b_done (by kernel_rfl) (then_normal ?_)
        refine wp_cond_false (hs.ev rfl) ?_
        refine wp_skip (in_normal (then_normal ?_))
        refine wp_region_lit ?_
        refine a_val hs rfl rfl rfl (y_move hs rfl) ?_; clear hs a; intro a hs
        refine a_val hs rfl rfl rfl (y_add hs rfl rfl (by omega)) ?_; clear hs a; intro a hs
        refine a_val hs rfl rfl rfl (y_assign hs rfl) ?_; clear hs a; intro a hs
        refine wpList_nil (then_normal ?_)
        refine ⟨m - 1, by omega, i + 1, by omega, ?_⟩
        exact (hs.mem_to ((hs.mem.to 0 rfl).drop.to 0 rfl).drop).cut _ ⟨rfl, rfl, trivial⟩
    · replace h10 := of_decide_eq_false h10
      refine wp_exit (then_exit (then_exit (in_here (then_normal ?_))))
      refine wp_seq ?_
      refine wp_region_lit ?_
      refine a_val hs rfl rfl rfl (y_move hs rfl) ?_; clear hs a; intro a hs
      refine a_eff rfl (e_callB Tryd.func23 rfl rfl hs rfl rfl (tree_May A c l _ (Kd.C_below hA hs.mem.base) hsm) ?_); clear hs a; intro a w hs
      refine a_val hs rfl rfl rfl (y_move hs rfl) ?_; clear hs a; intro a hs
      refine a_eff rfl (e_callB Tryd.func17 rfl rfl hs rfl rfl (ref_May A c l _ (Kd.C_below hA hs.mem.base) hsm) ?_); clear hs a; intro a w hs
      refine a_val hs rfl rfl rfl (y_beqB (c := true) hs Tryd.underlying4 rfl rfl (beq_self_eq_true _)) ?_; clear hs a; intro a hs
      refine a_val hs rfl rfl rfl (y_move hs rfl) ?_; clear hs a; intro a hs
      refine a_effG hs rfl (e_callB Tryd.func12 rfl rfl hs rfl rfl (law_anchored _ (varKeep hs.mem.base hP)) ?_); clear hs a; intro a w hs
      refine a_val hs rfl rfl rfl (y_pickT hs rfl rfl rfl) ?_; clear hs a; intro a hs
      refine a_val hs rfl rfl rfl (y_assign hs rfl) ?_; clear hs a; intro a hs
      refine wpList_nil (then_normal ?_)
      refine wp_ret ?_
      refine fin_ret hs (.tmp (hs.slots _ _ rfl) .nil) ⟨rfl, hs.mem.base⟩
end Go.Proofs.YtibaidddhmdafaaDoor.E
end
