/- What YtibaidddhmdafaaDoorRTreeFresh's proof reaches of its texts, part 19. Conditions: as each says. -/
import Derived.ArgAppend
import Derived.Below
import Derived.BigCall
import Derived.BigQuiet
import Derived.Deep.AppendLies
import Derived.Deep.CutBlock
import Derived.Deep.DeepCutAuto
import Derived.Deep.Draws
import Derived.Deep.LoopGhost
import Derived.Deep.OwnRows
import Derived.Deep.QuietTactic
import Derived.Deep.RegionHeld3
import Derived.Deep.WholeRow
import Derived.KernelRfl
import Derived.Laws.AppendOwn
import Derived.Laws.BitsLemmas
import Derived.Laws.BytesArg
import Derived.Laws.CopyRow
import Derived.Laws.Externs
import Derived.Laws.IdiomCopy
import Derived.Laws.MakeOwn
import Derived.Laws.OwnMore
import Derived.Laws.Rows
import Derived.Laws.Slices
import Derived.Laws.StructEq
import Derived.Laws.Tables
import Derived.Lib.AppendStr
import Derived.Lib.Builder
import Derived.Lib.Bytealg
import Derived.Lib.ConvBytes
import Derived.Lib.ItoaLen
import Derived.Lib.ItoaMem
import Derived.Lib.LaidTab
import Derived.Lib.Strings
import Derived.Lib.Walk
import Derived.Maps.AppendAt
import Derived.OrdersHeld
import Derived.OwnWalk
import Derived.RowKit
import Derived.RowKit3
import Derived.ScopeJumps
import Derived.Shelf.LaysM
import Derived.Shelf.Strconv.Itoa3
import Derived.Shelf.Strings.Builder1
import Derived.Sort.Grow
import Derived.Tactics
import Derived.Test.YtibaidddhmdafaaDoorProg
import Derived.WalkKit
import Derived.WideLaws
import Derived.Test.YtibaidddhmdafaaDoorZTreeFresh16
import Derived.Test.YtibaidddhmdafaaDoorZTreeFresh17
import Derived.Test.YtibaidddhmdafaaDoorZTreeFresh18
section
namespace Go.Proofs.YtibaidddhmdafaaDoor.E
open Go Go.RowKit Go.Proofs.YtibaidddhmdafaaDoorW.PrintWords Go.Proofs.YtibaidddhmdafaaDoorW.PrintLast Go.Proofs.YtibaidddhmdafaaDoorW.PrintMore Go.Proofs.YtibaidddhmdafaaDoor.PA
set_option linter.unusedVariables false
set_option linter.unusedSimpArgs false
/-- The head of an item as the reference asks it. -/
def refHead (x : XI) : Prop := 1 ≤ x.f0 ∧ x.f0 ≤ 6 ∧ decide (x.f0 = 1 ∨ x.f0 = 2 ∨ x.f0 = 3) = nameOk x.f1 ∧ (¬ (x.f0 = 1 ∨ x.f0 = 2 ∨ x.f0 = 3) → x.f1.size = 0) ∧ decide (x.f0 = 1 ∨ x.f0 = 4 ∨ x.f0 = 6 ∨ x.f0 = 5 ∧ x.f4 = 3) ≠ noExprB x.f2 ∧ decide (x.f0 = 2) ≠ noShapeB x.f3 ∧ (x.f0 = 5 ↔ 1 ≤ x.f4 ∧ x.f4 ≤ 4) ∧ (x.f0 ≠ 5 → x.f4 = 0) ∧ decide (x.f0 = 5 ∧ x.f4 = 4) = decide (0 < x.f5.length) ∧ x.f5.length ≤ 64
theorem stE_zero {x : XE} {l : Int} (h : noExprB x = true) : (stE x l).1 = false := by
  have h0 := of_decide_eq_true h
  unfold stE
  refine decide_eq_false ?_
  rw [xexpr]
  split
  · show ¬ 0 < 0; omega
  · have hE : exprParts x = none := by
      unfold exprParts
      repeat' split
      all_goals first | rfl | (exfalso; omega)
    rw [hE]; show ¬ 0 < 0; omega
theorem shape_zero {s : XS} {l : Int} (h : noShapeB s = true) : (xshape 16 s l).1 = false := by
  have h0 := of_decide_eq_true h
  rw [xshape]
  split
  · rfl
  · have hP : shapeParts s.f0 = none := by unfold shapeParts; (repeat' split) <;> first | rfl | (exfalso; omega)
    have hH : ¬ headS s := by rintro ⟨nm, a, p, r, h1, _⟩; rw [hP] at h1; cases h1
    rw [if_neg hH]
theorem itemParts_none {k p : Int} (h : itemParts k p = none) : ¬ (1 ≤ k ∧ k ≤ 6 ∧ (k = 5 ↔ 1 ≤ p ∧ p ≤ 4)) := by
  unfold itemParts at h
  rintro ⟨a, b, c⟩
  repeat' split at h
  all_goals first | cases h; done | omega
theorem refHead_head {x : XI} (h : refHead x) : headI x := by
  obtain ⟨b0, b1, b2, b3, b4, b5, b6, b7, b8, b9⟩ := h
  cases hp : itemParts x.f0 x.f4 with
  | none => exact absurd ⟨b0, b1, b6⟩ (itemParts_none hp)
  | some t =>
    obtain ⟨nm, v, sh, li⟩ := t
    have hn : nm = decide (x.f0 = 1 ∨ x.f0 = 2 ∨ x.f0 = 3) := by rcases items_cases hp with ⟨rfl, rfl, rfl, rfl, hk⟩ | ⟨rfl, rfl, rfl, rfl, hk⟩ | ⟨rfl, rfl, rfl, rfl, hk⟩ | ⟨rfl, rfl, rfl, rfl, hk⟩ | ⟨rfl, rfl, rfl, rfl, hk⟩ | ⟨rfl, rfl, rfl, rfl, hk⟩ <;> first | exact (decide_eq_true (by omega)).symm | exact (decide_eq_false (by omega)).symm
    have hv : v = decide (x.f0 = 1 ∨ x.f0 = 4 ∨ x.f0 = 6 ∨ x.f0 = 5 ∧ x.f4 = 3) := by rcases items_cases hp with ⟨rfl, rfl, rfl, rfl, hk⟩ | ⟨rfl, rfl, rfl, rfl, hk⟩ | ⟨rfl, rfl, rfl, rfl, hk⟩ | ⟨rfl, rfl, rfl, rfl, hk⟩ | ⟨rfl, rfl, rfl, rfl, hk⟩ | ⟨rfl, rfl, rfl, rfl, hk⟩ <;> first | exact (decide_eq_true (by omega)).symm | exact (decide_eq_false (by omega)).symm
    have hs : sh = decide (x.f0 = 2) := by rcases items_cases hp with ⟨rfl, rfl, rfl, rfl, hk⟩ | ⟨rfl, rfl, rfl, rfl, hk⟩ | ⟨rfl, rfl, rfl, rfl, hk⟩ | ⟨rfl, rfl, rfl, rfl, hk⟩ | ⟨rfl, rfl, rfl, rfl, hk⟩ | ⟨rfl, rfl, rfl, rfl, hk⟩ <;> first | exact (decide_eq_true (by omega)).symm | exact (decide_eq_false (by omega)).symm
    have hl : li = decide (x.f0 = 5 ∧ x.f4 = 4) := by rcases items_cases hp with ⟨rfl, rfl, rfl, rfl, hk⟩ | ⟨rfl, rfl, rfl, rfl, hk⟩ | ⟨rfl, rfl, rfl, rfl, hk⟩ | ⟨rfl, rfl, rfl, rfl, hk⟩ | ⟨rfl, rfl, rfl, rfl, hk⟩ | ⟨rfl, rfl, rfl, rfl, hk⟩ <;> first | exact (decide_eq_true (by omega)).symm | exact (decide_eq_false (by omega)).symm
    refine ⟨nm, v, sh, li, hp, fun h => ?_, fun h => ?_, b7, fun h => ?_, fun h => ?_, fun h => ?_, fun h => ?_⟩
    · rw [← b2, ← hn]; exact h
    · exact b3 (of_decide_eq_false (hn.symm.trans h))
    · have h1 := of_decide_eq_true (b8.symm.trans (hl.symm.trans h)); exact ⟨h1, b9⟩
    · have h1 := of_decide_eq_false (b8.symm.trans (hl.symm.trans h)); omega
    · have h1 : decide (x.f0 = 1 ∨ x.f0 = 4 ∨ x.f0 = 6 ∨ x.f0 = 5 ∧ x.f4 = 3) = false := hv.symm.trans h
      rw [h1] at b4; cases hq : noExprB x.f2 with
      | true => rfl
      | false => exact absurd hq.symm b4
    · have h1 : decide (x.f0 = 2) = false := hs.symm.trans h
      rw [h1] at b5; cases hq : noShapeB x.f3 with
      | true => rfl
      | false => exact absurd hq.symm b5
theorem itemF_ref {x : XI} {left : Int} (hl : ¬ left - 1 < 0) (hH : headI x) : itemF x left = if (valI x (left - 1)).1 = true then (if (shI x (valI x (left - 1)).2).1 = true then xlist stE x.f5 (shI x (valI x (left - 1)).2).2 else shI x (valI x (left - 1)).2) else valI x (left - 1) := by
  unfold itemF
  rw [if_neg hl, if_pos hH]
theorem itemF_not {x : XI} {left : Int} (h : ¬ (left - 1 < 0) → headI x → (valI x (left - 1)).1 = false ∨ x.f0 = 2 ∧ ∀ l, (xshape 16 x.f3 l).1 = false) : (itemF x left).1 = false := by
  unfold itemF
  split
  · rfl
  · rename_i h1
    split
    · rename_i h2
      rcases h h1 h2 with h3 | ⟨h3, h4⟩
      · rw [if_neg (by rw [h3]; exact Bool.false_ne_true)]; exact h3
      · split
        · have h5 : ∀ l, shI x l = xshape 16 x.f3 l := fun l => by unfold shI; rw [if_pos h3]
          rw [h5, if_neg (by rw [h4]; exact Bool.false_ne_true)]; exact h4 _
        · rename_i h5; simpa using h5
    · rfl
theorem head_refHead {x : XI} (h : headI x) (h1 : hasV x → noExprB x.f2 = false) (h2 : x.f0 = 2 → noShapeB x.f3 = false) : refHead x := by
  obtain ⟨nm, v, sh, li, hp, n1, n2, n3, l1, l2, v1, s1⟩ := h
  have hz : x.f1.size = 0 → nameOk x.f1 = false := nameOk_nil
  rcases items_cases hp with ⟨rfl, rfl, rfl, rfl, hk⟩ | ⟨rfl, rfl, rfl, rfl, hk⟩ | ⟨rfl, rfl, rfl, rfl, hk⟩ | ⟨rfl, rfl, rfl, rfl, hk⟩ | ⟨rfl, rfl, rfl, rfl, hk⟩ | ⟨rfl, rfl, rfl, rfl, hk⟩
  all_goals refine ⟨by omega, by omega, ?_, ?_, ?_, ?_, by omega, n3, ?_, ?_⟩
  all_goals first
    | (rw [n1 rfl]; exact decide_eq_true (by omega))
    | (rw [hz (n2 rfl)]; exact decide_eq_false (by omega))
    | (intro h0; first | exact n2 rfl | omega)
    | (rw [h1 (by unfold hasV; omega), decide_eq_true (by omega)]; exact fun h => by cases h)
    | (rw [v1 rfl, decide_eq_false (by omega)]; exact fun h => by cases h)
    | (rw [h2 (by omega), decide_eq_true (by omega)]; exact fun h => by cases h)
    | (rw [s1 rfl, decide_eq_false (by omega)]; exact fun h => by cases h)
    | (have := l1 rfl; first | omega | (rw [decide_eq_true (by omega), decide_eq_true (by omega)]))
    | (have := l2 rfl; first | omega | (rw [decide_eq_false (by omega), decide_eq_false (by omega)]))
theorem refI_bad {x : XI} {left : Int} (h : ¬ (¬ left - 1 < 0 ∧ refHead x)) : refB (itemF x left) = -1 := by
  have h1 : (itemF x left).1 = false := itemF_not (fun a b => by
    by_cases hv : hasV x ∧ noExprB x.f2 = true
    · left; unfold valI; rw [if_pos hv.1]; exact stE_zero hv.2
    · by_cases hs : x.f0 = 2 ∧ noShapeB x.f3 = true
      · exact .inr ⟨hs.1, fun l => shape_zero hs.2⟩
      · exact absurd ⟨a, head_refHead b (fun h => by cases hq : noExprB x.f2 with | true => exact absurd ⟨h, hq⟩ hv | false => rfl) (fun h => by cases hq : noShapeB x.f3 with | true => exact absurd ⟨h, hq⟩ hs | false => rfl)⟩ h)
  unfold refB; rw [h1]; rfl
theorem refE_B (x : XE) (l : Int) : refE 16 x l = refB (stE x l) := by
  unfold refE refB stE
  by_cases h : (xexpr 16 x l).1 = 0
  · rw [if_pos h, if_neg (by rw [decide_eq_false (by omega)]; exact Bool.false_ne_true)]
  · rw [if_neg h, if_pos (decide_eq_true (by omega))]
theorem ref_exprB (x : XE) (A : Option Addr) (C : Nat) (left : Int) (v0 : World) (hA : Kd.C k25 v0 A x.f3.length x.f3) (hsm : smallX 16 x) (hl : 0 ≤ left ∧ left ≤ 8192) :
    Calls Tryd.prog 42 #[.agg #[.int .u8 x.f0, .int .i64 x.f1, .string x.f2, .slice A x.f3.length C, .int .i64 x.f4, .int .i64 x.f5], .int .i64 left, .int .i64 ((16 : Nat) : Int)] v0 fun e w' => e = .returned (.int .i64 (refB (stE x left))) ∧ Below v0.heap.size v0 w' := by
  have h := ref_expr 16 (by decide) x A C left v0 hA hsm hl
  rw [refE_B] at h; exact h
theorem xb_k {r : Bool × Int} {k : Int → Bool × Int} (h : 0 ≤ refB r) : (if r.1 = true then k r.2 else r) = k (refB r) := by
  unfold refB at h ⊢
  split at h
  · rename_i h1; rw [if_pos h1, if_pos h1]
  · omega
theorem xb_s {r : Bool × Int} {k : Int → Bool × Int} {l : Int} (hf : fallsB r l) (h : refB r < 0) : (if r.1 = true then k r.2 else r).1 = false ∧ refB r = -1 := xb_stop rfl hf h
set_option maxHeartbeats 4000000 in
set_option maxRecDepth 100000 in
theorem ref_Item (x : XI) (A5 A10 A11 A12 A16 : Option Addr) (c5 c10 c11 c12 c16 : Nat) (left : Int) (v0 : World) (hA5 : Kd.C k25 v0 A5 x.f2.f3.length x.f2.f3) (hA10 : Kd.C k25 v0 A10 x.f3.f2.length x.f3.f2) (hA11 : Kd.C k42 v0 A11 x.f3.f3.length x.f3.f3) (hA12 : Kd.C (Kd.slice 25 k25) v0 A12 x.f3.f4.length x.f3.f4) (hA16 : Kd.C k25 v0 A16 x.f5.length x.f5) (hsm : smallI x) (hl : 0 ≤ left ∧ left ≤ 8192) :
    Calls Tryd.prog 41 #[.agg #[.int .u8 x.f0, .string x.f1, .int .u8 x.f2.f0, .int .i64 x.f2.f1, .string x.f2.f2, .slice A5 x.f2.f3.length c5, .int .i64 x.f2.f4, .int .i64 x.f2.f5, .int .u8 x.f3.f0, .string x.f3.f1, .slice A10 x.f3.f2.length c10, .slice A11 x.f3.f3.length c11, .slice A12 x.f3.f4.length c12, .int .i64 x.f3.f5, .int .i64 x.f3.f6, .int .u8 x.f4, .slice A16 x.f5.length c16, .int .i64 x.f6, .int .i64 x.f7], .int .i64 left] v0 fun e w' => e = .returned (.int .i64 (refB (itemF x left))) ∧ Below v0.heap.size v0 w' := by
  refine calls_enter (N := 155) (n := 153) (args := [.agg #[.int .u8 x.f0, .string x.f1, .int .u8 x.f2.f0, .int .i64 x.f2.f1, .string x.f2.f2, .slice A5 x.f2.f3.length c5, .int .i64 x.f2.f4, .int .i64 x.f2.f5, .int .u8 x.f3.f0, .string x.f3.f1, .slice A10 x.f3.f2.length c10, .slice A11 x.f3.f3.length c11, .slice A12 x.f3.f4.length c12, .int .i64 x.f3.f5, .int .i64 x.f3.f6, .int .u8 x.f4, .slice A16 x.f5.length c16, .int .i64 x.f6, .int .i64 x.f7], .int .i64 left]) Tryd.func41 rfl rfl rfl (H.init v0) (fun a hs => ?_)
  have hcl16 := C_len hA16
  refine wp_seq (wp_region_lit ?_)
  refine a_eff rfl (e_box (cs := #[_, _, _, _, _, _, _, _, _, _, _, _, _, _, _, _, _, _, _]) hs rfl rfl rfl ?_); clear hs a; intro gx a w hs
  refine go hs (pA rfl <| ?_); clear hs a; intro a hs
  refine wpList_nil (then_normal (wp_seq ?_))
  refine wp_region_lit (go hs (pM rfl <| pV rfl (fun a hs => y_sub hs rfl rfl (by omega)) <| pA rfl <| ?_)); clear hs a; intro a hs
  refine wpList_nil (then_normal ?_)
  refine wp_seq_cut (fun a w1 => ∃ (nm : Bool), (nm = decide (x.f0 = 1 ∨ x.f0 = 2 ∨ x.f0 = 3)) ∧ St 155 v0 [(1, .int .i64 (left - 1)), (2, .pointer (some ⟨gx, 0, none⟩)), (5, .bool nm)] [pt gx #[.int .u8 x.f0, .string x.f1, .int .u8 x.f2.f0, .int .i64 x.f2.f1, .string x.f2.f2, .slice A5 x.f2.f3.length c5, .int .i64 x.f2.f4, .int .i64 x.f2.f5, .int .u8 x.f3.f0, .string x.f3.f1, .slice A10 x.f3.f2.length c10, .slice A11 x.f3.f3.length c11, .slice A12 x.f3.f4.length c12, .int .i64 x.f3.f5, .int .i64 x.f3.f6, .int .u8 x.f4, .slice A16 x.f5.length c16, .int .i64 x.f6, .int .i64 x.f7] 45] a w1) ?_ (fun a w1 hJ => ?_)
  · refine wp_region_lit (go hs (pV rfl (fun a hs => y_faddr (k' := 0) 0 hs (by kernel_rfl) rfl rfl) <| pV rfl (fun a hs => y_load hs Tryd.underlying37 rfl rfl (fun w hw => (hw.to 0 rfl).cellV rfl)) <| pV rfl (fun a hs => y_cmp hs rfl rfl rfl) <| pM rfl <| ?_)); clear hs a; intro a hs
    rcases hs.know (d := 13) rfl with ⟨h13, hs1⟩ | ⟨h13, hs1⟩ <;> replace hs := hs1 <;> clear hs1
    · replace h13 := eq_of_beq h13
      refine go hs (pS rfl <| pS rfl <| pS rfl <| pT rfl rfl <| pM rfl <| pS rfl <| pS rfl <| pS rfl <| pT rfl rfl <| pA rfl <| ?_); clear hs a; intro a hs
      refine wpList_nil (then_normal ?_)
      refine ⟨true, (decide_eq_true (by omega)).symm, ?_⟩
      exact (hs.mem_to hs.mem).cut _ ⟨rfl, rfl, rfl, trivial⟩
    replace h13 := ne_of_beq_false h13
    refine go hs (pG rfl (fun a hs => y_faddr (k' := 0) 0 hs (by kernel_rfl) rfl rfl) <| pG rfl (fun a hs => y_load hs Tryd.underlying37 rfl rfl (fun w hw => (hw.to 0 rfl).cellV rfl)) <| pG rfl (fun a hs => y_cmp hs rfl rfl rfl) <| pF rfl rfl <| pM rfl <| ?_); clear hs a; intro a hs
    rcases hs.know (d := 18) rfl with ⟨h18, hs1⟩ | ⟨h18, hs1⟩ <;> replace hs := hs1 <;> clear hs1
    · replace h18 := eq_of_beq h18
      refine go hs (pS rfl <| pS rfl <| pS rfl <| pT rfl rfl <| pA rfl <| ?_); clear hs a; intro a hs
      refine wpList_nil (then_normal ?_)
      refine ⟨true, (decide_eq_true (by omega)).symm, ?_⟩
      exact (hs.mem_to hs.mem).cut _ ⟨rfl, rfl, rfl, trivial⟩
    replace h18 := ne_of_beq_false h18
    refine go hs (pG rfl (fun a hs => y_faddr (k' := 0) 0 hs (by kernel_rfl) rfl rfl) <| pG rfl (fun a hs => y_load hs Tryd.underlying37 rfl rfl (fun w hw => (hw.to 0 rfl).cellV rfl)) <| pG rfl (fun a hs => y_cmp hs rfl rfl rfl) <| pF rfl rfl <| pA rfl <| ?_); clear hs a; intro a hs
    refine wpList_nil (then_normal ?_)
    refine ⟨(x.f0 == 3), by rw [Bool.eq_iff_iff]; simp only [beq_iff_eq, decide_eq_true_eq]; clear hs; omega, ?_⟩
    exact (hs.mem_to hs.mem).cut _ ⟨rfl, rfl, rfl, trivial⟩
  clear hs
  obtain ⟨nm, hnm, hs⟩ := hJ
  refine wp_seq_cut (fun a w1 => ∃ (v : Bool), (v = decide (x.f0 = 1 ∨ x.f0 = 4 ∨ x.f0 = 6 ∨ x.f0 = 5 ∧ x.f4 = 3)) ∧ St 155 v0 [(1, .int .i64 (left - 1)), (2, .pointer (some ⟨gx, 0, none⟩)), (5, .bool nm), (6, .bool v)] [pt gx #[.int .u8 x.f0, .string x.f1, .int .u8 x.f2.f0, .int .i64 x.f2.f1, .string x.f2.f2, .slice A5 x.f2.f3.length c5, .int .i64 x.f2.f4, .int .i64 x.f2.f5, .int .u8 x.f3.f0, .string x.f3.f1, .slice A10 x.f3.f2.length c10, .slice A11 x.f3.f3.length c11, .slice A12 x.f3.f4.length c12, .int .i64 x.f3.f5, .int .i64 x.f3.f6, .int .u8 x.f4, .slice A16 x.f5.length c16, .int .i64 x.f6, .int .i64 x.f7] 45] a w1) ?_ (fun a w1 hJ => ?_)
  · refine wp_region_lit (go hs (pV rfl (fun a hs => y_faddr (k' := 0) 0 hs (by kernel_rfl) rfl rfl) <| pV rfl (fun a hs => y_load hs Tryd.underlying37 rfl rfl (fun w hw => (hw.to 0 rfl).cellV rfl)) <| pV rfl (fun a hs => y_cmp hs rfl rfl rfl) <| pM rfl <| ?_)); clear hs a; intro a hs
    rcases hs.know (d := 26) rfl with ⟨h26, hs1⟩ | ⟨h26, hs1⟩ <;> replace hs := hs1 <;> clear hs1
    · replace h26 := eq_of_beq h26
      refine go hs (pS rfl <| pS rfl <| pS rfl <| pT rfl rfl <| pM rfl <| pS rfl <| pS rfl <| pS rfl <| pT rfl rfl <| pM rfl <| pS rfl <| pS rfl <| pS rfl <| pS rfl <| pS rfl <| pS rfl <| pS rfl <| pS rfl <| pT rfl rfl <| pA rfl <| ?_); clear hs a; intro a hs
      refine wpList_nil (then_normal ?_)
      refine ⟨true, (decide_eq_true (by omega)).symm, ?_⟩
      exact (hs.mem_to hs.mem).cut _ ⟨rfl, rfl, rfl, rfl, trivial⟩
    replace h26 := ne_of_beq_false h26
    refine go hs (pG rfl (fun a hs => y_faddr (k' := 0) 0 hs (by kernel_rfl) rfl rfl) <| pG rfl (fun a hs => y_load hs Tryd.underlying37 rfl rfl (fun w hw => (hw.to 0 rfl).cellV rfl)) <| pG rfl (fun a hs => y_cmp hs rfl rfl rfl) <| pF rfl rfl <| pM rfl <| ?_); clear hs a; intro a hs
    rcases hs.know (d := 31) rfl with ⟨h31, hs1⟩ | ⟨h31, hs1⟩ <;> replace hs := hs1 <;> clear hs1
    · replace h31 := eq_of_beq h31
      refine go hs (pS rfl <| pS rfl <| pS rfl <| pT rfl rfl <| pM rfl <| pS rfl <| pS rfl <| pS rfl <| pS rfl <| pS rfl <| pS rfl <| pS rfl <| pS rfl <| pT rfl rfl <| pA rfl <| ?_); clear hs a; intro a hs
      refine wpList_nil (then_normal ?_)
      refine ⟨true, (decide_eq_true (by omega)).symm, ?_⟩
      exact (hs.mem_to hs.mem).cut _ ⟨rfl, rfl, rfl, rfl, trivial⟩
    replace h31 := ne_of_beq_false h31
    refine go hs (pG rfl (fun a hs => y_faddr (k' := 0) 0 hs (by kernel_rfl) rfl rfl) <| pG rfl (fun a hs => y_load hs Tryd.underlying37 rfl rfl (fun w hw => (hw.to 0 rfl).cellV rfl)) <| pG rfl (fun a hs => y_cmp hs rfl rfl rfl) <| pF rfl rfl <| pM rfl <| ?_); clear hs a; intro a hs
    rcases hs.know (d := 36) rfl with ⟨h36, hs1⟩ | ⟨h36, hs1⟩ <;> replace hs := hs1 <;> clear hs1
    · replace h36 := eq_of_beq h36
      refine go hs (pS rfl <| pS rfl <| pS rfl <| pS rfl <| pS rfl <| pS rfl <| pS rfl <| pS rfl <| pT rfl rfl <| pA rfl <| ?_); clear hs a; intro a hs
      refine wpList_nil (then_normal ?_)
      refine ⟨true, (decide_eq_true (by omega)).symm, ?_⟩
      exact (hs.mem_to hs.mem).cut _ ⟨rfl, rfl, rfl, rfl, trivial⟩
    replace h36 := ne_of_beq_false h36
    refine go hs (pG rfl (fun a hs => y_faddr (k' := 0) 0 hs (by kernel_rfl) rfl rfl) <| pG rfl (fun a hs => y_load hs Tryd.underlying37 rfl rfl (fun w hw => (hw.to 0 rfl).cellV rfl)) <| pG rfl (fun a hs => y_cmp hs rfl rfl rfl) <| pG rfl (fun a hs => y_move hs rfl) <| ?_); clear hs a; intro a hs
    rcases hs.know (d := 40) rfl with ⟨h40, hs1⟩ | ⟨h40, hs1⟩ <;> replace hs := hs1 <;> clear hs1
    · replace h40 := eq_of_beq h40
      refine go hs (pG rfl (fun a hs => y_faddr (k' := 15) 15 hs (by kernel_rfl) rfl rfl) <| pG rfl (fun a hs => y_load hs Tryd.underlying43 rfl rfl (fun w hw => (hw.to 0 rfl).cellV rfl)) <| pG rfl (fun a hs => y_cmp hs rfl rfl rfl) <| pG rfl (fun a hs => y_pickT hs rfl rfl rfl) <| pF rfl rfl <| pA rfl <| ?_); clear hs a; intro a hs
      refine wpList_nil (then_normal ?_)
      refine ⟨(x.f4 == 3), by rw [Bool.eq_iff_iff]; simp only [beq_iff_eq, decide_eq_true_eq]; clear hs; omega, ?_⟩
      exact (hs.mem_to hs.mem).cut _ ⟨rfl, rfl, rfl, rfl, trivial⟩
    replace h40 := ne_of_beq_false h40
    refine go hs (pS rfl <| pS rfl <| pS rfl <| pG rfl (fun a hs => y_pickF hs rfl rfl rfl) <| pF rfl rfl <| pA rfl <| ?_); clear hs a; intro a hs
    refine wpList_nil (then_normal ?_)
    refine ⟨false, (decide_eq_false (by omega)).symm, ?_⟩
    exact (hs.mem_to hs.mem).cut _ ⟨rfl, rfl, rfl, rfl, trivial⟩
  clear hs
  obtain ⟨v, hvm, hs⟩ := hJ
  refine wp_seq_cut (fun a w1 => (¬ left - 1 < 0 ∧ 1 ≤ x.f0 ∧ x.f0 ≤ 6) ∧ (nm = nameOk x.f1) ∧ (nm = false → x.f1.size = 0) ∧ St 155 v0 [(1, .int .i64 (left - 1)), (2, .pointer (some ⟨gx, 0, none⟩)), (6, .bool v)] [pt gx #[.int .u8 x.f0, .string x.f1, .int .u8 x.f2.f0, .int .i64 x.f2.f1, .string x.f2.f2, .slice A5 x.f2.f3.length c5, .int .i64 x.f2.f4, .int .i64 x.f2.f5, .int .u8 x.f3.f0, .string x.f3.f1, .slice A10 x.f3.f2.length c10, .slice A11 x.f3.f3.length c11, .slice A12 x.f3.f4.length c12, .int .i64 x.f3.f5, .int .i64 x.f3.f6, .int .u8 x.f4, .slice A16 x.f5.length c16, .int .i64 x.f6, .int .i64 x.f7] 45] a w1) ?_ (fun a w1 hJ => ?_)
  · refine wp_seq (wp_region_lit ?_)
    refine go hs (pM rfl <| pV rfl (fun a hs => y_cmp hs rfl rfl rfl) <| pM rfl <| ?_); clear hs a; intro a hs
    rcases hs.know (d := 48) rfl with ⟨h48, hs1⟩ | ⟨h48, hs1⟩ <;> replace hs := hs1 <;> clear hs1
    · replace h48 := of_decide_eq_true h48
      refine go hs (pS rfl <| pS rfl <| pS rfl <| pT rfl rfl <| pM rfl <| pS rfl <| pS rfl <| pS rfl <| pT rfl rfl <| pM rfl <| pS rfl <| pS rfl <| pS rfl <| pS rfl <| pS rfl <| pT rfl rfl <| pM rfl <| pS rfl <| pS rfl <| pS rfl <| pS rfl <| pS rfl <| pS rfl <| pS rfl <| pT rfl rfl <| ?_); clear hs a; intro a hs
      refine wpList_nil (then_normal ?_)
      refine wp_cond_true (hs.ev rfl) ?_
      refine wp_seq (wp_region_lit ?_)
      refine go hs (pA rfl <| ?_); clear hs a; intro a hs
      refine wpList_nil (then_normal (wp_ret (then_ret ?_)))
      refine fin_ret hs (.tmp (hs.slots _ _ rfl) .nil) ⟨?_, hs.mem.base⟩
      have hX : refB (itemF x left) = -1 := refI_bad (by
        clear hs
        rintro ⟨a0, b0, b1, b2, b3, b4, b5, b6, b7, b8, b9⟩
        first | omega | (rw [hnm, b2] at h65; simp at h65; done) | (have hz : nm = false := (by simpa using h68); have := b3 (of_decide_eq_false (hnm.symm.trans hz)); omega) | exact b4 (hvm.symm.trans (eq_of_beq h79)) | exact b5 (Eq.trans (by rw [Bool.eq_iff_iff]; simp) (eq_of_beq h88)) | (rw [hli.trans b8] at h126; simp at h126; done) | (first | (simp only [Bool.not_eq_true', Bool.not_eq_false', beq_eq_false_iff_ne, beq_iff_eq, ne_eq] at h102; rw [Bool.eq_iff_iff] at h102; simp only [beq_iff_eq, decide_eq_true_eq, Bool.false_eq_true, iff_false] at h102; omega) | (simp at h102; omega)))
      rw [hX]; rfl
    replace h48 := of_decide_eq_false h48
    refine go hs (pG rfl (fun a hs => y_faddr (k' := 0) 0 hs (by kernel_rfl) rfl rfl) <| pG rfl (fun a hs => y_load hs Tryd.underlying37 rfl rfl (fun w hw => (hw.to 0 rfl).cellV rfl)) <| pG rfl (fun a hs => y_cmp hs rfl rfl rfl) <| pF rfl rfl <| pM rfl <| ?_); clear hs a; intro a hs
    rcases hs.know (d := 53) rfl with ⟨h53, hs1⟩ | ⟨h53, hs1⟩ <;> replace hs := hs1 <;> clear hs1
    · replace h53 := of_decide_eq_true h53
      refine go hs (pS rfl <| pS rfl <| pS rfl <| pT rfl rfl <| pM rfl <| pS rfl <| pS rfl <| pS rfl <| pS rfl <| pS rfl <| pT rfl rfl <| pM rfl <| pS rfl <| pS rfl <| pS rfl <| pS rfl <| pS rfl <| pS rfl <| pS rfl <| pT rfl rfl <| ?_); clear hs a; intro a hs
      refine wpList_nil (then_normal ?_)
      refine wp_cond_true (hs.ev rfl) ?_
      refine wp_seq (wp_region_lit ?_)
      refine go hs (pA rfl <| ?_); clear hs a; intro a hs
      refine wpList_nil (then_normal (wp_ret (then_ret ?_)))
      refine fin_ret hs (.tmp (hs.slots _ _ rfl) .nil) ⟨?_, hs.mem.base⟩
      have hX : refB (itemF x left) = -1 := refI_bad (by
        clear hs
        rintro ⟨a0, b0, b1, b2, b3, b4, b5, b6, b7, b8, b9⟩
        first | omega | (rw [hnm, b2] at h65; simp at h65; done) | (have hz : nm = false := (by simpa using h68); have := b3 (of_decide_eq_false (hnm.symm.trans hz)); omega) | exact b4 (hvm.symm.trans (eq_of_beq h79)) | exact b5 (Eq.trans (by rw [Bool.eq_iff_iff]; simp) (eq_of_beq h88)) | (rw [hli.trans b8] at h126; simp at h126; done) | (first | (simp only [Bool.not_eq_true', Bool.not_eq_false', beq_eq_false_iff_ne, beq_iff_eq, ne_eq] at h102; rw [Bool.eq_iff_iff] at h102; simp only [beq_iff_eq, decide_eq_true_eq, Bool.false_eq_true, iff_false] at h102; omega) | (simp at h102; omega)))
      rw [hX]; rfl
    replace h53 := of_decide_eq_false h53
    refine go hs (pG rfl (fun a hs => y_faddr (k' := 0) 0 hs (by kernel_rfl) rfl rfl) <| pG rfl (fun a hs => y_load hs Tryd.underlying37 rfl rfl (fun w hw => (hw.to 0 rfl).cellV rfl)) <| pG rfl (fun a hs => y_cmp hs rfl rfl rfl) <| pF rfl rfl <| pM rfl <| ?_); clear hs a; intro a hs
    rcases hs.know (d := 58) rfl with ⟨h58, hs1⟩ | ⟨h58, hs1⟩ <;> replace hs := hs1 <;> clear hs1
    · replace h58 := of_decide_eq_true h58
      refine go hs (pS rfl <| pS rfl <| pS rfl <| pS rfl <| pS rfl <| pT rfl rfl <| pM rfl <| pS rfl <| pS rfl <| pS rfl <| pS rfl <| pS rfl <| pS rfl <| pS rfl <| pT rfl rfl <| ?_); clear hs a; intro a hs
      refine wpList_nil (then_normal ?_)
      refine wp_cond_true (hs.ev rfl) ?_
      refine wp_seq (wp_region_lit ?_)
      refine go hs (pA rfl <| ?_); clear hs a; intro a hs
      refine wpList_nil (then_normal (wp_ret (then_ret ?_)))
      refine fin_ret hs (.tmp (hs.slots _ _ rfl) .nil) ⟨?_, hs.mem.base⟩
      have hX : refB (itemF x left) = -1 := refI_bad (by
        clear hs
        rintro ⟨a0, b0, b1, b2, b3, b4, b5, b6, b7, b8, b9⟩
        first | omega | (rw [hnm, b2] at h65; simp at h65; done) | (have hz : nm = false := (by simpa using h68); have := b3 (of_decide_eq_false (hnm.symm.trans hz)); omega) | exact b4 (hvm.symm.trans (eq_of_beq h79)) | exact b5 (Eq.trans (by rw [Bool.eq_iff_iff]; simp) (eq_of_beq h88)) | (rw [hli.trans b8] at h126; simp at h126; done) | (first | (simp only [Bool.not_eq_true', Bool.not_eq_false', beq_eq_false_iff_ne, beq_iff_eq, ne_eq] at h102; rw [Bool.eq_iff_iff] at h102; simp only [beq_iff_eq, decide_eq_true_eq, Bool.false_eq_true, iff_false] at h102; omega) | (simp at h102; omega)))
      rw [hX]; rfl
    replace h58 := of_decide_eq_false h58
    refine go hs (pG rfl (fun a hs => y_move hs rfl) <| pG rfl (fun a hs => y_faddr (k' := 1) 1 hs (by kernel_rfl) rfl rfl) <| pG rfl (fun a hs => y_load hs Tryd.underlying9 rfl rfl (fun w hw => (hw.to 0 rfl).cellV rfl)) <| ?_); clear hs a; intro a hs
    refine a_effG hs rfl (e_callB Tryd.func70 rfl rfl hs rfl rfl (recoupref09_Name.calls _ x.f1 (nameOk x.f1) _ (refName x.f1 hsm.1)) ?_); clear hs a; intro a w hs
    refine go hs (pG rfl (fun a hs => y_bne hs Tryd.underlying4 rfl rfl) <| pF rfl rfl <| pM rfl <| ?_); clear hs a; intro a hs
    rcases hs.know (d := 65) rfl with ⟨h65, hs1⟩ | ⟨h65, hs1⟩ <;> replace hs := hs1 <;> clear hs1
    · refine go hs (pS rfl <| pS rfl <| pS rfl <| pS rfl <| pS rfl <| pS rfl <| pS rfl <| pT rfl rfl <| ?_); clear hs a; intro a hs
      refine wpList_nil (then_normal ?_)
      refine wp_cond_true (hs.ev rfl) ?_
      refine wp_seq (wp_region_lit ?_)
      refine go hs (pA rfl <| ?_); clear hs a; intro a hs
      refine wpList_nil (then_normal (wp_ret (then_ret ?_)))
      refine fin_ret hs (.tmp (hs.slots _ _ rfl) .nil) ⟨?_, hs.mem.base⟩
      have hX : refB (itemF x left) = -1 := refI_bad (by
        clear hs
        rintro ⟨a0, b0, b1, b2, b3, b4, b5, b6, b7, b8, b9⟩
        first | omega | (rw [hnm, b2] at h65; simp at h65; done) | (have hz : nm = false := (by simpa using h68); have := b3 (of_decide_eq_false (hnm.symm.trans hz)); omega) | exact b4 (hvm.symm.trans (eq_of_beq h79)) | exact b5 (Eq.trans (by rw [Bool.eq_iff_iff]; simp) (eq_of_beq h88)) | (rw [hli.trans b8] at h126; simp at h126; done) | (first | (simp only [Bool.not_eq_true', Bool.not_eq_false', beq_eq_false_iff_ne, beq_iff_eq, ne_eq] at h102; rw [Bool.eq_iff_iff] at h102; simp only [beq_iff_eq, decide_eq_true_eq, Bool.false_eq_true, iff_false] at h102; omega) | (simp at h102; omega)))
      rw [hX]; rfl
    refine go hs (pG rfl (fun a hs => y_move hs rfl) <| pG rfl (fun a hs => y_not hs rfl) <| pG rfl (fun a hs => y_move hs rfl) <| ?_); clear hs a; intro a hs
    rcases hs.know (d := 68) rfl with ⟨h68, hs1⟩ | ⟨h68, hs1⟩ <;> replace hs := hs1 <;> clear hs1
    · replace h68 := (not_t h68)
      refine go hs (pG rfl (fun a hs => y_faddr (k' := 1) 1 hs (by kernel_rfl) rfl rfl) <| pG rfl (fun a hs => y_load hs Tryd.underlying9 rfl rfl (fun w hw => (hw.to 0 rfl).cellV rfl)) <| pG rfl (fun a hs => y_sneE hs rfl rfl) <| pG rfl (fun a hs => y_pickT hs rfl rfl rfl) <| pF rfl rfl <| ?_); clear hs a; intro a hs
      refine wpList_nil (then_normal ?_)
      refine wp_cond_split (hs.ev rfl) (fun h73 => ?_) (fun h73 => ?_)
      · replace h73 := of_decide_eq_true h73
        refine wp_seq (wp_region_lit ?_)
        refine go hs (pA rfl <| ?_); clear hs a; intro a hs
        refine wpList_nil (then_normal (wp_ret (then_ret ?_)))
        refine fin_ret hs (.tmp (hs.slots _ _ rfl) .nil) ⟨?_, hs.mem.base⟩
        have hX : refB (itemF x left) = -1 := refI_bad (by
          clear hs
          rintro ⟨a0, b0, b1, b2, b3, b4, b5, b6, b7, b8, b9⟩
          first | omega | (rw [hnm, b2] at h65; simp at h65; done) | (have hz : nm = false := (by simpa using h68); have := b3 (of_decide_eq_false (hnm.symm.trans hz)); omega) | exact b4 (hvm.symm.trans (eq_of_beq h79)) | exact b5 (Eq.trans (by rw [Bool.eq_iff_iff]; simp) (eq_of_beq h88)) | (rw [hli.trans b8] at h126; simp at h126; done) | (first | (simp only [Bool.not_eq_true', Bool.not_eq_false', beq_eq_false_iff_ne, beq_iff_eq, ne_eq] at h102; rw [Bool.eq_iff_iff] at h102; simp only [beq_iff_eq, decide_eq_true_eq, Bool.false_eq_true, iff_false] at h102; omega) | (simp at h102; omega)))
        rw [hX]; rfl
      replace h73 := of_decide_eq_false h73
      refine wp_skip (then_normal ?_)
      refine ⟨⟨by omega, by omega, by omega⟩, by simpa using h65, fun h0 => by first | (rw [h0] at h68; cases h68; done) | omega, ?_⟩
      exact (hs.mem_to hs.mem).cut _ ⟨rfl, rfl, rfl, trivial⟩
    replace h68 := (not_f h68)
    refine go hs (pS rfl <| pS rfl <| pS rfl <| pG rfl (fun a hs => y_pickF hs rfl rfl rfl) <| pF rfl rfl <| ?_); clear hs a; intro a hs
    refine wpList_nil (then_normal ?_)
    refine wp_cond_false (hs.ev rfl) ?_
    refine wp_skip (then_normal ?_)
    refine ⟨⟨by omega, by omega, by omega⟩, by simpa using h65, fun h0 => by first | (rw [h0] at h68; cases h68; done) | omega, ?_⟩
    exact (hs.mem_to hs.mem).cut _ ⟨rfl, rfl, rfl, trivial⟩
  clear hs
  obtain ⟨hl0, hn1, hn2, hs⟩ := hJ
  refine wp_seq_cut (fun a w1 => (v ≠ noExprB x.f2) ∧ ((x.f0 == 2) ≠ noShapeB x.f3) ∧ ((x.f0 = 5 ↔ 1 ≤ x.f4 ∧ x.f4 ≤ 4) ∧ (x.f0 ≠ 5 → x.f4 = 0)) ∧ St 155 v0 [(1, .int .i64 (left - 1)), (2, .pointer (some ⟨gx, 0, none⟩)), (6, .bool v)] [pt gx #[.int .u8 x.f0, .string x.f1, .int .u8 x.f2.f0, .int .i64 x.f2.f1, .string x.f2.f2, .slice A5 x.f2.f3.length c5, .int .i64 x.f2.f4, .int .i64 x.f2.f5, .int .u8 x.f3.f0, .string x.f3.f1, .slice A10 x.f3.f2.length c10, .slice A11 x.f3.f3.length c11, .slice A12 x.f3.f4.length c12, .int .i64 x.f3.f5, .int .i64 x.f3.f6, .int .u8 x.f4, .slice A16 x.f5.length c16, .int .i64 x.f6, .int .i64 x.f7] 45] a w1) ?_ (fun a w1 hJ => ?_)
  · refine wp_seq ?_
    refine b_enter [0] (by kernel_rfl) hs #[false, false, false, false, false, false, false, false, false, false, false, false, false, false, false, false, false, false, false, false, false, false, false, false, false, false, false, false, false, false, false, false, false, false, false, false, false, false] (by rfl) 38 (by rfl) ?_; clear hs; intro w hs
    refine b_take 0 rfl #[true, false, false, false, false, false, false, false, false, false, false, false, false, false, false, false, false, false, false, false, false, false, false, false, false, false, false, false, false, false, false, false, false, false, false, false, false, false] rfl (by kernel_rfl) hs ((hs.mem.first 1)) rfl rfl rfl (fun _ _ _ h => h) (y_move hs rfl) ?_; clear hs a; intro a hs
    refine b_take 1 rfl #[true, true, false, false, false, false, false, false, false, false, false, false, false, false, false, false, false, false, false, false, false, false, false, false, false, false, false, false, false, false, false, false, false, false, false, false, false, false] rfl (by kernel_rfl) hs ((hs.mem.first 1)) rfl rfl rfl (fun _ _ _ h => h) (y_faddr (k' := 2) 2 hs (by kernel_rfl) rfl rfl) ?_; clear hs a; intro a hs
    refine b_take 2 rfl #[true, true, true, false, false, false, false, false, false, false, false, false, false, false, false, false, false, false, false, false, false, false, false, false, false, false, false, false, false, false, false, false, false, false, false, false, false, false] rfl (by kernel_rfl) hs ((hs.mem.first 1)) rfl rfl rfl (fun _ _ _ h => h) (y_loadAgg (vs := [.int .u8 x.f2.f0, .int .i64 x.f2.f1, .string x.f2.f2, .slice A5 x.f2.f3.length c5, .int .i64 x.f2.f4, .int .i64 x.f2.f5]) hs Tryd.underlying24 rfl (by kernel_rfl) rfl (fun w hw k v hk => ((hw.to 0 rfl).cell).trans (sub_at 6 rfl hk))) ?_; clear hs a; intro a hs
    refine b_eff 3 (by kernel_rfl) rfl #[true, true, true, true, false, false, false, false, false, false, false, false, false, false, false, false, false, false, false, false, false, false, false, false, false, false, false, false, false, false, false, false, false, false, false, false, false, false] rfl hs rfl (e_callB Tryd.func71 rfl rfl hs rfl rfl (ref_NoExpr x.f2 A5 c5 _) ?_); clear hs a; intro a w hs
    refine ⟨(hs.mem.first 1), ?_⟩
    refine b_take 4 rfl #[true, true, true, true, true, false, false, false, false, false, false, false, false, false, false, false, false, false, false, false, false, false, false, false, false, false, false, false, false, false, false, false, false, false, false, false, false, false] rfl (by kernel_rfl) hs ((hs.mem.first 1)) rfl rfl rfl (fun _ _ _ h => h) (y_beqB hs Tryd.underlying4 rfl rfl rfl) ?_; clear hs a; intro a hs
    refine b_take 5 rfl #[true, true, true, true, true, true, false, false, false, false, false, false, false, false, false, false, false, false, false, false, false, false, false, false, false, false, false, false, false, false, false, false, false, false, false, false, false, false] rfl (by kernel_rfl) hs ((hs.mem.first 1)) rfl rfl rfl (fun _ _ _ h => h) (y_move hs rfl) ?_; clear hs a; intro a hs
    rcases hs.know (d := 79) rfl with ⟨h79, hs1⟩ | ⟨h79, hs1⟩ <;> replace hs := hs1 <;> clear hs1
    · refine b_skip 6 rfl #[true, true, true, true, true, true, true, false, false, false, false, false, false, false, false, false, false, false, false, false, false, false, false, false, false, false, false, false, false, false, false, false, false, false, false, false, false, false] rfl (by kernel_rfl) hs ((hs.mem.first 1)) rfl rfl rfl (fun _ _ _ h => h) ?_; clear hs a; intro a hs
      refine b_skip 7 rfl #[true, true, true, true, true, true, true, true, false, false, false, false, false, false, false, false, false, false, false, false, false, false, false, false, false, false, false, false, false, false, false, false, false, false, false, false, false, false] rfl (by kernel_rfl) hs ((hs.mem.first 1)) rfl rfl rfl (fun _ _ _ h => h) ?_; clear hs a; intro a hs
      refine b_skip 8 rfl #[true, true, true, true, true, true, true, true, true, false, false, false, false, false, false, false, false, false, false, false, false, false, false, false, false, false, false, false, false, false, false, false, false, false, false, false, false, false] rfl (by kernel_rfl) hs ((hs.mem.first 1)) rfl rfl rfl (fun _ _ _ h => h) ?_; clear hs a; intro a hs
      refine b_skip 9 rfl #[true, true, true, true, true, true, true, true, true, true, false, false, false, false, false, false, false, false, false, false, false, false, false, false, false, false, false, false, false, false, false, false, false, false, false, false, false, false] rfl (by kernel_rfl) hs ((hs.mem.first 1)) rfl rfl rfl (fun _ _ _ h => h) ?_; clear hs a; intro a hs
      refine b_skip 10 rfl #[true, true, true, true, true, true, true, true, true, true, true, false, false, false, false, false, false, false, false, false, false, false, false, false, false, false, false, false, false, false, false, false, false, false, false, false, false, false] rfl (by kernel_rfl) hs ((hs.mem.first 1)) rfl rfl rfl (fun _ _ _ h => h) ?_; clear hs a; intro a hs
      refine b_skip 11 rfl #[true, true, true, true, true, true, true, true, true, true, true, true, false, false, false, false, false, false, false, false, false, false, false, false, false, false, false, false, false, false, false, false, false, false, false, false, false, false] rfl (by kernel_rfl) hs ((hs.mem.first 1)) rfl rfl rfl (fun _ _ _ h => h) ?_; clear hs a; intro a hs
      refine b_skip 12 rfl #[true, true, true, true, true, true, true, true, true, true, true, true, true, false, false, false, false, false, false, false, false, false, false, false, false, false, false, false, false, false, false, false, false, false, false, false, false, false] rfl (by kernel_rfl) hs ((hs.mem.first 1)) rfl rfl rfl (fun _ _ _ h => h) ?_; clear hs a; intro a hs
      refine b_take 13 rfl #[true, true, true, true, true, true, true, true, true, true, true, true, true, true, false, false, false, false, false, false, false, false, false, false, false, false, false, false, false, false, false, false, false, false, false, false, false, false] rfl (by kernel_rfl) hs ((hs.mem.first 1)) rfl rfl rfl (fun _ _ _ h => h) (y_pickT hs rfl rfl rfl) ?_; clear hs a; intro a hs
      refine b_take 14 rfl #[true, true, true, true, true, true, true, true, true, true, true, true, true, true, true, false, false, false, false, false, false, false, false, false, false, false, false, false, false, false, false, false, false, false, false, false, false, false] rfl (by kernel_rfl) hs ((hs.mem.first 1)) rfl rfl rfl (fun _ _ _ h => h) (y_move hs rfl) ?_; clear hs a; intro a hs
      refine b_skip 15 rfl #[true, true, true, true, true, true, true, true, true, true, true, true, true, true, true, true, false, false, false, false, false, false, false, false, false, false, false, false, false, false, false, false, false, false, false, false, false, false] rfl (by kernel_rfl) hs ((hs.mem.first 1)) rfl rfl rfl (fun _ _ _ h => h) ?_; clear hs a; intro a hs
      refine b_skip 16 rfl #[true, true, true, true, true, true, true, true, true, true, true, true, true, true, true, true, true, false, false, false, false, false, false, false, false, false, false, false, false, false, false, false, false, false, false, false, false, false] rfl (by kernel_rfl) hs ((hs.mem.first 1)) rfl rfl rfl (fun _ _ _ h => h) ?_; clear hs a; intro a hs
      refine b_skip 17 rfl #[true, true, true, true, true, true, true, true, true, true, true, true, true, true, true, true, true, true, false, false, false, false, false, false, false, false, false, false, false, false, false, false, false, false, false, false, false, false] rfl (by kernel_rfl) hs ((hs.mem.first 1)) rfl rfl rfl (fun _ _ _ h => h) ?_; clear hs a; intro a hs
      refine b_skip 18 rfl #[true, true, true, true, true, true, true, true, true, true, true, true, true, true, true, true, true, true, true, false, false, false, false, false, false, false, false, false, false, false, false, false, false, false, false, false, false, false] rfl (by kernel_rfl) hs ((hs.mem.first 1)) rfl rfl rfl (fun _ _ _ h => h) ?_; clear hs a; intro a hs
      refine b_skip 19 rfl #[true, true, true, true, true, true, true, true, true, true, true, true, true, true, true, true, true, true, true, true, false, false, false, false, false, false, false, false, false, false, false, false, false, false, false, false, false, false] rfl (by kernel_rfl) hs ((hs.mem.first 1)) rfl rfl rfl (fun _ _ _ h => h) ?_; clear hs a; intro a hs
      refine b_skip 20 rfl #[true, true, true, true, true, true, true, true, true, true, true, true, true, true, true, true, true, true, true, true, true, false, false, false, false, false, false, false, false, false, false, false, false, false, false, false, false, false] rfl (by kernel_rfl) hs ((hs.mem.first 1)) rfl rfl rfl (fun _ _ _ h => h) ?_; clear hs a; intro a hs
      refine b_skip 21 rfl #[true, true, true, true, true, true, true, true, true, true, true, true, true, true, true, true, true, true, true, true, true, true, false, false, false, false, false, false, false, false, false, false, false, false, false, false, false, false] rfl (by kernel_rfl) hs ((hs.mem.first 1)) rfl rfl rfl (fun _ _ _ h => h) ?_; clear hs a; intro a hs
      refine b_skip 22 rfl #[true, true, true, true, true, true, true, true, true, true, true, true, true, true, true, true, true, true, true, true, true, true, true, false, false, false, false, false, false, false, false, false, false, false, false, false, false, false] rfl (by kernel_rfl) hs ((hs.mem.first 1)) rfl rfl rfl (fun _ _ _ h => h) ?_; clear hs a; intro a hs
      refine b_skip 23 rfl #[true, true, true, true, true, true, true, true, true, true, true, true, true, true, true, true, true, true, true, true, true, true, true, true, false, false, false, false, false, false, false, false, false, false, false, false, false, false] rfl (by kernel_rfl) hs ((hs.mem.first 1)) rfl rfl rfl (fun _ _ _ h => h) ?_; clear hs a; intro a hs
      refine b_skip 24 rfl #[true, true, true, true, true, true, true, true, true, true, true, true, true, true, true, true, true, true, true, true, true, true, true, true, true, false, false, false, false, false, false, false, false, false, false, false, false, false] rfl (by kernel_rfl) hs ((hs.mem.first 1)) rfl rfl rfl (fun _ _ _ h => h) ?_; clear hs a; intro a hs
      refine b_skip 25 rfl #[true, true, true, true, true, true, true, true, true, true, true, true, true, true, true, true, true, true, true, true, true, true, true, true, true, true, false, false, false, false, false, false, false, false, false, false, false, false] rfl (by kernel_rfl) hs ((hs.mem.first 1)) rfl rfl rfl (fun _ _ _ h => h) ?_; clear hs a; intro a hs
      refine b_skip 26 rfl #[true, true, true, true, true, true, true, true, true, true, true, true, true, true, true, true, true, true, true, true, true, true, true, true, true, true, true, false, false, false, false, false, false, false, false, false, false, false] rfl (by kernel_rfl) hs ((hs.mem.first 1)) rfl rfl rfl (fun _ _ _ h => h) ?_; clear hs a; intro a hs
      refine b_take 27 rfl #[true, true, true, true, true, true, true, true, true, true, true, true, true, true, true, true, true, true, true, true, true, true, true, true, true, true, true, true, false, false, false, false, false, false, false, false, false, false] rfl (by kernel_rfl) hs ((hs.mem.first 1)) rfl rfl rfl (fun _ _ _ h => h) (y_pickT hs rfl rfl rfl) ?_; clear hs a; intro a hs
      refine b_take 28 rfl #[true, true, true, true, true, true, true, true, true, true, true, true, true, true, true, true, true, true, true, true, true, true, true, true, true, true, true, true, true, false, false, false, false, false, false, false, false, false] rfl (by kernel_rfl) hs ((hs.mem.first 1)) rfl rfl rfl (fun _ _ _ h => h) (y_move hs rfl) ?_; clear hs a; intro a hs
      refine b_skip 29 rfl #[true, true, true, true, true, true, true, true, true, true, true, true, true, true, true, true, true, true, true, true, true, true, true, true, true, true, true, true, true, true, false, false, false, false, false, false, false, false] rfl (by kernel_rfl) hs ((hs.mem.first 1)) rfl rfl rfl (fun _ _ _ h => h) ?_; clear hs a; intro a hs
      refine b_skip 30 rfl #[true, true, true, true, true, true, true, true, true, true, true, true, true, true, true, true, true, true, true, true, true, true, true, true, true, true, true, true, true, true, true, false, false, false, false, false, false, false] rfl (by kernel_rfl) hs ((hs.mem.first 1)) rfl rfl rfl (fun _ _ _ h => h) ?_; clear hs a; intro a hs
      refine b_skip 31 rfl #[true, true, true, true, true, true, true, true, true, true, true, true, true, true, true, true, true, true, true, true, true, true, true, true, true, true, true, true, true, true, true, true, false, false, false, false, false, false] rfl (by kernel_rfl) hs ((hs.mem.first 1)) rfl rfl rfl (fun _ _ _ h => h) ?_; clear hs a; intro a hs
      refine b_skip 32 rfl #[true, true, true, true, true, true, true, true, true, true, true, true, true, true, true, true, true, true, true, true, true, true, true, true, true, true, true, true, true, true, true, true, true, false, false, false, false, false] rfl (by kernel_rfl) hs ((hs.mem.first 1)) rfl rfl rfl (fun _ _ _ h => h) ?_; clear hs a; intro a hs
      refine b_skip 33 rfl #[true, true, true, true, true, true, true, true, true, true, true, true, true, true, true, true, true, true, true, true, true, true, true, true, true, true, true, true, true, true, true, true, true, true, false, false, false, false] rfl (by kernel_rfl) hs ((hs.mem.first 1)) rfl rfl rfl (fun _ _ _ h => h) ?_; clear hs a; intro a hs
      refine b_skip 34 rfl #[true, true, true, true, true, true, true, true, true, true, true, true, true, true, true, true, true, true, true, true, true, true, true, true, true, true, true, true, true, true, true, true, true, true, true, false, false, false] rfl (by kernel_rfl) hs ((hs.mem.first 1)) rfl rfl rfl (fun _ _ _ h => h) ?_; clear hs a; intro a hs
      refine b_skip 35 rfl #[true, true, true, true, true, true, true, true, true, true, true, true, true, true, true, true, true, true, true, true, true, true, true, true, true, true, true, true, true, true, true, true, true, true, true, true, false, false] rfl (by kernel_rfl) hs ((hs.mem.first 1)) rfl rfl rfl (fun _ _ _ h => h) ?_; clear hs a; intro a hs
      refine b_skip 36 rfl #[true, true, true, true, true, true, true, true, true, true, true, true, true, true, true, true, true, true, true, true, true, true, true, true, true, true, true, true, true, true, true, true, true, true, true, true, true, false] rfl (by kernel_rfl) hs ((hs.mem.first 1)) rfl rfl rfl (fun _ _ _ h => h) ?_; clear hs a; intro a hs
      refine b_take 37 rfl #[true, true, true, true, true, true, true, true, true, true, true, true, true, true, true, true, true, true, true, true, true, true, true, true, true, true, true, true, true, true, true, true, true, true, true, true, true, true] rfl (by kernel_rfl) hs ((hs.mem.first 1)) rfl rfl rfl (fun _ _ _ h => h) (y_pickT hs rfl rfl rfl) ?_; clear hs a; intro a hs
      refine b_done (by kernel_rfl) (then_normal ?_)
      refine wp_cond_true (hs.ev rfl) ?_
      refine wp_seq (wp_region_lit ?_)
      refine go hs (pA rfl <| ?_); clear hs a; intro a hs
      refine wpList_nil (then_normal (wp_ret (then_ret ?_)))
      refine fin_ret hs (.tmp (hs.slots _ _ rfl) .nil) ⟨?_, hs.mem.base⟩
      have hX : refB (itemF x left) = -1 := refI_bad (by
        clear hs
        rintro ⟨a0, b0, b1, b2, b3, b4, b5, b6, b7, b8, b9⟩
        first | omega | (rw [hnm, b2] at h65; simp at h65; done) | (have hz : nm = false := (by simpa using h68); have := b3 (of_decide_eq_false (hnm.symm.trans hz)); omega) | exact b4 (hvm.symm.trans (eq_of_beq h79)) | exact b5 (Eq.trans (by rw [Bool.eq_iff_iff]; simp) (eq_of_beq h88)) | (rw [hli.trans b8] at h126; simp at h126; done) | (first | (simp only [Bool.not_eq_true', Bool.not_eq_false', beq_eq_false_iff_ne, beq_iff_eq, ne_eq] at h102; rw [Bool.eq_iff_iff] at h102; simp only [beq_iff_eq, decide_eq_true_eq, Bool.false_eq_true, iff_false] at h102; omega) | (simp at h102; omega)))
      rw [hX]; rfl
    refine b_take 6 rfl #[true, true, true, true, true, true, true, false, false, false, false, false, false, false, false, false, false, false, false, false, false, false, false, false, false, false, false, false, false, false, false, false, false, false, false, false, false, false] rfl (by kernel_rfl) hs ((hs.mem.first 1)) rfl rfl rfl (fun _ _ _ h => h) (y_faddr (k' := 0) 0 hs (by kernel_rfl) rfl rfl) ?_; clear hs a; intro a hs
    refine b_take 7 rfl #[true, true, true, true, true, true, true, true, false, false, false, false, false, false, false, false, false, false, false, false, false, false, false, false, false, false, false, false, false, false, false, false, false, false, false, false, false, false] rfl (by kernel_rfl) hs ((hs.mem.first 1)) rfl rfl rfl (fun _ _ _ h => h) (y_load hs Tryd.underlying37 rfl rfl (fun w hw => (hw.to 0 rfl).cellV rfl)) ?_; clear hs a; intro a hs
    refine b_take 8 rfl #[true, true, true, true, true, true, true, true, true, false, false, false, false, false, false, false, false, false, false, false, false, false, false, false, false, false, false, false, false, false, false, false, false, false, false, false, false, false] rfl (by kernel_rfl) hs ((hs.mem.first 1)) rfl rfl rfl (fun _ _ _ h => h) (y_cmp hs rfl rfl rfl) ?_; clear hs a; intro a hs
    refine b_take 9 rfl #[true, true, true, true, true, true, true, true, true, true, false, false, false, false, false, false, false, false, false, false, false, false, false, false, false, false, false, false, false, false, false, false, false, false, false, false, false, false] rfl (by kernel_rfl) hs ((hs.mem.first 1)) rfl rfl rfl (fun _ _ _ h => h) (y_faddr (k' := 8) 8 hs (by kernel_rfl) rfl rfl) ?_; clear hs a; intro a hs
    refine b_take 10 rfl #[true, true, true, true, true, true, true, true, true, true, true, false, false, false, false, false, false, false, false, false, false, false, false, false, false, false, false, false, false, false, false, false, false, false, false, false, false, false] rfl (by kernel_rfl) hs ((hs.mem.first 1)) rfl rfl rfl (fun _ _ _ h => h) (y_loadAgg (vs := [.int .u8 x.f3.f0, .string x.f3.f1, .slice A10 x.f3.f2.length c10, .slice A11 x.f3.f3.length c11, .slice A12 x.f3.f4.length c12, .int .i64 x.f3.f5, .int .i64 x.f3.f6]) hs Tryd.underlying41 rfl (by kernel_rfl) rfl (fun w hw k v hk => ((hw.to 0 rfl).cell).trans (sub_at 7 rfl hk))) ?_; clear hs a; intro a hs
    refine b_eff 11 (by kernel_rfl) rfl #[true, true, true, true, true, true, true, true, true, true, true, true, false, false, false, false, false, false, false, false, false, false, false, false, false, false, false, false, false, false, false, false, false, false, false, false, false, false] rfl hs rfl (e_callB Tryd.func72 rfl rfl hs rfl rfl (ref_noShape x.f3 A10 A11 A12 c10 c11 c12 _) ?_); clear hs a; intro a w hs
    refine ⟨(hs.mem.first 1), ?_⟩
    refine b_take 12 rfl #[true, true, true, true, true, true, true, true, true, true, true, true, true, false, false, false, false, false, false, false, false, false, false, false, false, false, false, false, false, false, false, false, false, false, false, false, false, false] rfl (by kernel_rfl) hs ((hs.mem.first 1)) rfl rfl rfl (fun _ _ _ h => h) (y_beqB hs Tryd.underlying4 rfl rfl rfl) ?_; clear hs a; intro a hs
    refine b_take 13 rfl #[true, true, true, true, true, true, true, true, true, true, true, true, true, true, false, false, false, false, false, false, false, false, false, false, false, false, false, false, false, false, false, false, false, false, false, false, false, false] rfl (by kernel_rfl) hs ((hs.mem.first 1)) rfl rfl rfl (fun _ _ _ h => h) (y_pickF hs rfl rfl rfl) ?_; clear hs a; intro a hs
    refine b_take 14 rfl #[true, true, true, true, true, true, true, true, true, true, true, true, true, true, true, false, false, false, false, false, false, false, false, false, false, false, false, false, false, false, false, false, false, false, false, false, false, false] rfl (by kernel_rfl) hs ((hs.mem.first 1)) rfl rfl rfl (fun _ _ _ h => h) (y_move hs rfl) ?_; clear hs a; intro a hs
    rcases hs.know (d := 88) rfl with ⟨h88, hs1⟩ | ⟨h88, hs1⟩ <;> replace hs := hs1 <;> clear hs1
    · refine b_skip 15 rfl #[true, true, true, true, true, true, true, true, true, true, true, true, true, true, true, true, false, false, false, false, false, false, false, false, false, false, false, false, false, false, false, false, false, false, false, false, false, false] rfl (by kernel_rfl) hs ((hs.mem.first 1)) rfl rfl rfl (fun _ _ _ h => h) ?_; clear hs a; intro a hs
      refine b_skip 16 rfl #[true, true, true, true, true, true, true, true, true, true, true, true, true, true, true, true, true, false, false, false, false, false, false, false, false, false, false, false, false, false, false, false, false, false, false, false, false, false] rfl (by kernel_rfl) hs ((hs.mem.first 1)) rfl rfl rfl (fun _ _ _ h => h) ?_; clear hs a; intro a hs
      refine b_skip 17 rfl #[true, true, true, true, true, true, true, true, true, true, true, true, true, true, true, true, true, true, false, false, false, false, false, false, false, false, false, false, false, false, false, false, false, false, false, false, false, false] rfl (by kernel_rfl) hs ((hs.mem.first 1)) rfl rfl rfl (fun _ _ _ h => h) ?_; clear hs a; intro a hs
      refine b_skip 18 rfl #[true, true, true, true, true, true, true, true, true, true, true, true, true, true, true, true, true, true, true, false, false, false, false, false, false, false, false, false, false, false, false, false, false, false, false, false, false, false] rfl (by kernel_rfl) hs ((hs.mem.first 1)) rfl rfl rfl (fun _ _ _ h => h) ?_; clear hs a; intro a hs
      refine b_skip 19 rfl #[true, true, true, true, true, true, true, true, true, true, true, true, true, true, true, true, true, true, true, true, false, false, false, false, false, false, false, false, false, false, false, false, false, false, false, false, false, false] rfl (by kernel_rfl) hs ((hs.mem.first 1)) rfl rfl rfl (fun _ _ _ h => h) ?_; clear hs a; intro a hs
      refine b_skip 20 rfl #[true, true, true, true, true, true, true, true, true, true, true, true, true, true, true, true, true, true, true, true, true, false, false, false, false, false, false, false, false, false, false, false, false, false, false, false, false, false] rfl (by kernel_rfl) hs ((hs.mem.first 1)) rfl rfl rfl (fun _ _ _ h => h) ?_; clear hs a; intro a hs
      refine b_skip 21 rfl #[true, true, true, true, true, true, true, true, true, true, true, true, true, true, true, true, true, true, true, true, true, true, false, false, false, false, false, false, false, false, false, false, false, false, false, false, false, false] rfl (by kernel_rfl) hs ((hs.mem.first 1)) rfl rfl rfl (fun _ _ _ h => h) ?_; clear hs a; intro a hs
      refine b_skip 22 rfl #[true, true, true, true, true, true, true, true, true, true, true, true, true, true, true, true, true, true, true, true, true, true, true, false, false, false, false, false, false, false, false, false, false, false, false, false, false, false] rfl (by kernel_rfl) hs ((hs.mem.first 1)) rfl rfl rfl (fun _ _ _ h => h) ?_; clear hs a; intro a hs
      refine b_skip 23 rfl #[true, true, true, true, true, true, true, true, true, true, true, true, true, true, true, true, true, true, true, true, true, true, true, true, false, false, false, false, false, false, false, false, false, false, false, false, false, false] rfl (by kernel_rfl) hs ((hs.mem.first 1)) rfl rfl rfl (fun _ _ _ h => h) ?_; clear hs a; intro a hs
      refine b_skip 24 rfl #[true, true, true, true, true, true, true, true, true, true, true, true, true, true, true, true, true, true, true, true, true, true, true, true, true, false, false, false, false, false, false, false, false, false, false, false, false, false] rfl (by kernel_rfl) hs ((hs.mem.first 1)) rfl rfl rfl (fun _ _ _ h => h) ?_; clear hs a; intro a hs
      refine b_skip 25 rfl #[true, true, true, true, true, true, true, true, true, true, true, true, true, true, true, true, true, true, true, true, true, true, true, true, true, true, false, false, false, false, false, false, false, false, false, false, false, false] rfl (by kernel_rfl) hs ((hs.mem.first 1)) rfl rfl rfl (fun _ _ _ h => h) ?_; clear hs a; intro a hs
      refine b_skip 26 rfl #[true, true, true, true, true, true, true, true, true, true, true, true, true, true, true, true, true, true, true, true, true, true, true, true, true, true, true, false, false, false, false, false, false, false, false, false, false, false] rfl (by kernel_rfl) hs ((hs.mem.first 1)) rfl rfl rfl (fun _ _ _ h => h) ?_; clear hs a; intro a hs
      refine b_take 27 rfl #[true, true, true, true, true, true, true, true, true, true, true, true, true, true, true, true, true, true, true, true, true, true, true, true, true, true, true, true, false, false, false, false, false, false, false, false, false, false] rfl (by kernel_rfl) hs ((hs.mem.first 1)) rfl rfl rfl (fun _ _ _ h => h) (y_pickT hs rfl rfl rfl) ?_; clear hs a; intro a hs
      refine b_take 28 rfl #[true, true, true, true, true, true, true, true, true, true, true, true, true, true, true, true, true, true, true, true, true, true, true, true, true, true, true, true, true, false, false, false, false, false, false, false, false, false] rfl (by kernel_rfl) hs ((hs.mem.first 1)) rfl rfl rfl (fun _ _ _ h => h) (y_move hs rfl) ?_; clear hs a; intro a hs
      refine b_skip 29 rfl #[true, true, true, true, true, true, true, true, true, true, true, true, true, true, true, true, true, true, true, true, true, true, true, true, true, true, true, true, true, true, false, false, false, false, false, false, false, false] rfl (by kernel_rfl) hs ((hs.mem.first 1)) rfl rfl rfl (fun _ _ _ h => h) ?_; clear hs a; intro a hs
      refine b_skip 30 rfl #[true, true, true, true, true, true, true, true, true, true, true, true, true, true, true, true, true, true, true, true, true, true, true, true, true, true, true, true, true, true, true, false, false, false, false, false, false, false] rfl (by kernel_rfl) hs ((hs.mem.first 1)) rfl rfl rfl (fun _ _ _ h => h) ?_; clear hs a; intro a hs
      refine b_skip 31 rfl #[true, true, true, true, true, true, true, true, true, true, true, true, true, true, true, true, true, true, true, true, true, true, true, true, true, true, true, true, true, true, true, true, false, false, false, false, false, false] rfl (by kernel_rfl) hs ((hs.mem.first 1)) rfl rfl rfl (fun _ _ _ h => h) ?_; clear hs a; intro a hs
      refine b_skip 32 rfl #[true, true, true, true, true, true, true, true, true, true, true, true, true, true, true, true, true, true, true, true, true, true, true, true, true, true, true, true, true, true, true, true, true, false, false, false, false, false] rfl (by kernel_rfl) hs ((hs.mem.first 1)) rfl rfl rfl (fun _ _ _ h => h) ?_; clear hs a; intro a hs
      refine b_skip 33 rfl #[true, true, true, true, true, true, true, true, true, true, true, true, true, true, true, true, true, true, true, true, true, true, true, true, true, true, true, true, true, true, true, true, true, true, false, false, false, false] rfl (by kernel_rfl) hs ((hs.mem.first 1)) rfl rfl rfl (fun _ _ _ h => h) ?_; clear hs a; intro a hs
      refine b_skip 34 rfl #[true, true, true, true, true, true, true, true, true, true, true, true, true, true, true, true, true, true, true, true, true, true, true, true, true, true, true, true, true, true, true, true, true, true, true, false, false, false] rfl (by kernel_rfl) hs ((hs.mem.first 1)) rfl rfl rfl (fun _ _ _ h => h) ?_; clear hs a; intro a hs
      refine b_skip 35 rfl #[true, true, true, true, true, true, true, true, true, true, true, true, true, true, true, true, true, true, true, true, true, true, true, true, true, true, true, true, true, true, true, true, true, true, true, true, false, false] rfl (by kernel_rfl) hs ((hs.mem.first 1)) rfl rfl rfl (fun _ _ _ h => h) ?_; clear hs a; intro a hs
      refine b_skip 36 rfl #[true, true, true, true, true, true, true, true, true, true, true, true, true, true, true, true, true, true, true, true, true, true, true, true, true, true, true, true, true, true, true, true, true, true, true, true, true, false] rfl (by kernel_rfl) hs ((hs.mem.first 1)) rfl rfl rfl (fun _ _ _ h => h) ?_; clear hs a; intro a hs
      refine b_take 37 rfl #[true, true, true, true, true, true, true, true, true, true, true, true, true, true, true, true, true, true, true, true, true, true, true, true, true, true, true, true, true, true, true, true, true, true, true, true, true, true] rfl (by kernel_rfl) hs ((hs.mem.first 1)) rfl rfl rfl (fun _ _ _ h => h) (y_pickT hs rfl rfl rfl) ?_; clear hs a; intro a hs
      refine b_done (by kernel_rfl) (then_normal ?_)
      refine wp_cond_true (hs.ev rfl) ?_
      refine wp_seq (wp_region_lit ?_)
      refine go hs (pA rfl <| ?_); clear hs a; intro a hs
      refine wpList_nil (then_normal (wp_ret (then_ret ?_)))
      refine fin_ret hs (.tmp (hs.slots _ _ rfl) .nil) ⟨?_, hs.mem.base⟩
      have hX : refB (itemF x left) = -1 := refI_bad (by
        clear hs
        rintro ⟨a0, b0, b1, b2, b3, b4, b5, b6, b7, b8, b9⟩
        first | omega | (rw [hnm, b2] at h65; simp at h65; done) | (have hz : nm = false := (by simpa using h68); have := b3 (of_decide_eq_false (hnm.symm.trans hz)); omega) | exact b4 (hvm.symm.trans (eq_of_beq h79)) | exact b5 (Eq.trans (by rw [Bool.eq_iff_iff]; simp) (eq_of_beq h88)) | (rw [hli.trans b8] at h126; simp at h126; done) | (first | (simp only [Bool.not_eq_true', Bool.not_eq_false', beq_eq_false_iff_ne, beq_iff_eq, ne_eq] at h102; rw [Bool.eq_iff_iff] at h102; simp only [beq_iff_eq, decide_eq_true_eq, Bool.false_eq_true, iff_false] at h102; omega) | (simp at h102; omega)))
      rw [hX]; rfl
    refine b_take 15 rfl #[true, true, true, true, true, true, true, true, true, true, true, true, true, true, true, true, false, false, false, false, false, false, false, false, false, false, false, false, false, false, false, false, false, false, false, false, false, false] rfl (by kernel_rfl) hs ((hs.mem.first 1)) rfl rfl rfl (fun _ _ _ h => h) (y_faddr (k' := 0) 0 hs (by kernel_rfl) rfl rfl) ?_; clear hs a; intro a hs
    refine b_take 16 rfl #[true, true, true, true, true, true, true, true, true, true, true, true, true, true, true, true, true, false, false, false, false, false, false, false, false, false, false, false, false, false, false, false, false, false, false, false, false, false] rfl (by kernel_rfl) hs ((hs.mem.first 1)) rfl rfl rfl (fun _ _ _ h => h) (y_load hs Tryd.underlying37 rfl rfl (fun w hw => (hw.to 0 rfl).cellV rfl)) ?_; clear hs a; intro a hs
    refine b_take 17 rfl #[true, true, true, true, true, true, true, true, true, true, true, true, true, true, true, true, true, true, false, false, false, false, false, false, false, false, false, false, false, false, false, false, false, false, false, false, false, false] rfl (by kernel_rfl) hs ((hs.mem.first 1)) rfl rfl rfl (fun _ _ _ h => h) (y_cmp hs rfl rfl rfl) ?_; clear hs a; intro a hs
    refine b_take 18 rfl #[true, true, true, true, true, true, true, true, true, true, true, true, true, true, true, true, true, true, true, false, false, false, false, false, false, false, false, false, false, false, false, false, false, false, false, false, false, false] rfl (by kernel_rfl) hs ((hs.mem.first 1)) rfl rfl rfl (fun _ _ _ h => h) (y_faddr (k' := 15) 15 hs (by kernel_rfl) rfl rfl) ?_; clear hs a; intro a hs
    refine b_take 19 rfl #[true, true, true, true, true, true, true, true, true, true, true, true, true, true, true, true, true, true, true, true, false, false, false, false, false, false, false, false, false, false, false, false, false, false, false, false, false, false] rfl (by kernel_rfl) hs ((hs.mem.first 1)) rfl rfl rfl (fun _ _ _ h => h) (y_load hs Tryd.underlying43 rfl rfl (fun w hw => (hw.to 0 rfl).cellV rfl)) ?_; clear hs a; intro a hs
    refine b_take 20 rfl #[true, true, true, true, true, true, true, true, true, true, true, true, true, true, true, true, true, true, true, true, true, false, false, false, false, false, false, false, false, false, false, false, false, false, false, false, false, false] rfl (by kernel_rfl) hs ((hs.mem.first 1)) rfl rfl rfl (fun _ _ _ h => h) (y_cmp hs rfl rfl rfl) ?_; clear hs a; intro a hs
    refine b_take 21 rfl #[true, true, true, true, true, true, true, true, true, true, true, true, true, true, true, true, true, true, true, true, true, true, false, false, false, false, false, false, false, false, false, false, false, false, false, false, false, false] rfl (by kernel_rfl) hs ((hs.mem.first 1)) rfl rfl rfl (fun _ _ _ h => h) (y_move hs rfl) ?_; clear hs a; intro a hs
    rcases hs.know (d := 95) rfl with ⟨h95, hs1⟩ | ⟨h95, hs1⟩ <;> replace hs := hs1 <;> clear hs1
    · replace h95 := of_decide_eq_true h95
      refine b_take 22 rfl #[true, true, true, true, true, true, true, true, true, true, true, true, true, true, true, true, true, true, true, true, true, true, true, false, false, false, false, false, false, false, false, false, false, false, false, false, false, false] rfl (by kernel_rfl) hs ((hs.mem.first 1)) rfl rfl rfl (fun _ _ _ h => h) (y_faddr (k' := 15) 15 hs (by kernel_rfl) rfl rfl) ?_; clear hs a; intro a hs
      refine b_take 23 rfl #[true, true, true, true, true, true, true, true, true, true, true, true, true, true, true, true, true, true, true, true, true, true, true, true, false, false, false, false, false, false, false, false, false, false, false, false, false, false] rfl (by kernel_rfl) hs ((hs.mem.first 1)) rfl rfl rfl (fun _ _ _ h => h) (y_load hs Tryd.underlying43 rfl rfl (fun w hw => (hw.to 0 rfl).cellV rfl)) ?_; clear hs a; intro a hs
      refine b_take 24 rfl #[true, true, true, true, true, true, true, true, true, true, true, true, true, true, true, true, true, true, true, true, true, true, true, true, true, false, false, false, false, false, false, false, false, false, false, false, false, false] rfl (by kernel_rfl) hs ((hs.mem.first 1)) rfl rfl rfl (fun _ _ _ h => h) (y_cmp hs rfl rfl rfl) ?_; clear hs a; intro a hs
      refine b_take 25 rfl #[true, true, true, true, true, true, true, true, true, true, true, true, true, true, true, true, true, true, true, true, true, true, true, true, true, true, false, false, false, false, false, false, false, false, false, false, false, false] rfl (by kernel_rfl) hs ((hs.mem.first 1)) rfl rfl rfl (fun _ _ _ h => h) (y_pickT hs rfl rfl rfl) ?_; clear hs a; intro a hs
      refine b_take 26 rfl #[true, true, true, true, true, true, true, true, true, true, true, true, true, true, true, true, true, true, true, true, true, true, true, true, true, true, true, false, false, false, false, false, false, false, false, false, false, false] rfl (by kernel_rfl) hs ((hs.mem.first 1)) rfl rfl rfl (fun _ _ _ h => h) (y_bne hs Tryd.underlying4 rfl rfl) ?_; clear hs a; intro a hs
      refine b_take 27 rfl #[true, true, true, true, true, true, true, true, true, true, true, true, true, true, true, true, true, true, true, true, true, true, true, true, true, true, true, true, false, false, false, false, false, false, false, false, false, false] rfl (by kernel_rfl) hs ((hs.mem.first 1)) rfl rfl rfl (fun _ _ _ h => h) (y_pickF hs rfl rfl rfl) ?_; clear hs a; intro a hs
      refine b_take 28 rfl #[true, true, true, true, true, true, true, true, true, true, true, true, true, true, true, true, true, true, true, true, true, true, true, true, true, true, true, true, true, false, false, false, false, false, false, false, false, false] rfl (by kernel_rfl) hs ((hs.mem.first 1)) rfl rfl rfl (fun _ _ _ h => h) (y_move hs rfl) ?_; clear hs a; intro a hs
      rcases hs.know (d := 102) rfl with ⟨h102, hs1⟩ | ⟨h102, hs1⟩ <;> replace hs := hs1 <;> clear hs1
      · refine b_skip 29 rfl #[true, true, true, true, true, true, true, true, true, true, true, true, true, true, true, true, true, true, true, true, true, true, true, true, true, true, true, true, true, true, false, false, false, false, false, false, false, false] rfl (by kernel_rfl) hs ((hs.mem.first 1)) rfl rfl rfl (fun _ _ _ h => h) ?_; clear hs a; intro a hs
        refine b_skip 30 rfl #[true, true, true, true, true, true, true, true, true, true, true, true, true, true, true, true, true, true, true, true, true, true, true, true, true, true, true, true, true, true, true, false, false, false, false, false, false, false] rfl (by kernel_rfl) hs ((hs.mem.first 1)) rfl rfl rfl (fun _ _ _ h => h) ?_; clear hs a; intro a hs
        refine b_skip 31 rfl #[true, true, true, true, true, true, true, true, true, true, true, true, true, true, true, true, true, true, true, true, true, true, true, true, true, true, true, true, true, true, true, true, false, false, false, false, false, false] rfl (by kernel_rfl) hs ((hs.mem.first 1)) rfl rfl rfl (fun _ _ _ h => h) ?_; clear hs a; intro a hs
        refine b_skip 32 rfl #[true, true, true, true, true, true, true, true, true, true, true, true, true, true, true, true, true, true, true, true, true, true, true, true, true, true, true, true, true, true, true, true, true, false, false, false, false, false] rfl (by kernel_rfl) hs ((hs.mem.first 1)) rfl rfl rfl (fun _ _ _ h => h) ?_; clear hs a; intro a hs
        refine b_skip 33 rfl #[true, true, true, true, true, true, true, true, true, true, true, true, true, true, true, true, true, true, true, true, true, true, true, true, true, true, true, true, true, true, true, true, true, true, false, false, false, false] rfl (by kernel_rfl) hs ((hs.mem.first 1)) rfl rfl rfl (fun _ _ _ h => h) ?_; clear hs a; intro a hs
        refine b_skip 34 rfl #[true, true, true, true, true, true, true, true, true, true, true, true, true, true, true, true, true, true, true, true, true, true, true, true, true, true, true, true, true, true, true, true, true, true, true, false, false, false] rfl (by kernel_rfl) hs ((hs.mem.first 1)) rfl rfl rfl (fun _ _ _ h => h) ?_; clear hs a; intro a hs
        refine b_skip 35 rfl #[true, true, true, true, true, true, true, true, true, true, true, true, true, true, true, true, true, true, true, true, true, true, true, true, true, true, true, true, true, true, true, true, true, true, true, true, false, false] rfl (by kernel_rfl) hs ((hs.mem.first 1)) rfl rfl rfl (fun _ _ _ h => h) ?_; clear hs a; intro a hs
        refine b_skip 36 rfl #[true, true, true, true, true, true, true, true, true, true, true, true, true, true, true, true, true, true, true, true, true, true, true, true, true, true, true, true, true, true, true, true, true, true, true, true, true, false] rfl (by kernel_rfl) hs ((hs.mem.first 1)) rfl rfl rfl (fun _ _ _ h => h) ?_; clear hs a; intro a hs
        refine b_take 37 rfl #[true, true, true, true, true, true, true, true, true, true, true, true, true, true, true, true, true, true, true, true, true, true, true, true, true, true, true, true, true, true, true, true, true, true, true, true, true, true] rfl (by kernel_rfl) hs ((hs.mem.first 1)) rfl rfl rfl (fun _ _ _ h => h) (y_pickT hs rfl rfl rfl) ?_; clear hs a; intro a hs
        refine b_done (by kernel_rfl) (then_normal ?_)
        refine wp_cond_true (hs.ev rfl) ?_
        refine wp_seq (wp_region_lit ?_)
        refine go hs (pA rfl <| ?_); clear hs a; intro a hs
        refine wpList_nil (then_normal (wp_ret (then_ret ?_)))
        refine fin_ret hs (.tmp (hs.slots _ _ rfl) .nil) ⟨?_, hs.mem.base⟩
        have hX : refB (itemF x left) = -1 := refI_bad (by
          clear hs
          rintro ⟨a0, b0, b1, b2, b3, b4, b5, b6, b7, b8, b9⟩
          first | omega | (rw [hnm, b2] at h65; simp at h65; done) | (have hz : nm = false := (by simpa using h68); have := b3 (of_decide_eq_false (hnm.symm.trans hz)); omega) | exact b4 (hvm.symm.trans (eq_of_beq h79)) | exact b5 (Eq.trans (by rw [Bool.eq_iff_iff]; simp) (eq_of_beq h88)) | (rw [hli.trans b8] at h126; simp at h126; done) | (first | (simp only [Bool.not_eq_true', Bool.not_eq_false', beq_eq_false_iff_ne, beq_iff_eq, ne_eq] at h102; rw [Bool.eq_iff_iff] at h102; simp only [beq_iff_eq, decide_eq_true_eq, Bool.false_eq_true, iff_false] at h102; omega) | (simp at h102; omega)))
        rw [hX]; rfl
      refine b_take 29 rfl #[true, true, true, true, true, true, true, true, true, true, true, true, true, true, true, true, true, true, true, true, true, true, true, true, true, true, true, true, true, true, false, false, false, false, false, false, false, false] rfl (by kernel_rfl) hs ((hs.mem.first 1)) rfl rfl rfl (fun _ _ _ h => h) (y_faddr (k' := 0) 0 hs (by kernel_rfl) rfl rfl) ?_; clear hs a; intro a hs
      refine b_take 30 rfl #[true, true, true, true, true, true, true, true, true, true, true, true, true, true, true, true, true, true, true, true, true, true, true, true, true, true, true, true, true, true, true, false, false, false, false, false, false, false] rfl (by kernel_rfl) hs ((hs.mem.first 1)) rfl rfl rfl (fun _ _ _ h => h) (y_load hs Tryd.underlying37 rfl rfl (fun w hw => (hw.to 0 rfl).cellV rfl)) ?_; clear hs a; intro a hs
      refine b_take 31 rfl #[true, true, true, true, true, true, true, true, true, true, true, true, true, true, true, true, true, true, true, true, true, true, true, true, true, true, true, true, true, true, true, true, false, false, false, false, false, false] rfl (by kernel_rfl) hs ((hs.mem.first 1)) rfl rfl rfl (fun _ _ _ h => h) (y_cmp hs rfl rfl rfl) ?_; clear hs a; intro a hs
      refine b_take 32 rfl #[true, true, true, true, true, true, true, true, true, true, true, true, true, true, true, true, true, true, true, true, true, true, true, true, true, true, true, true, true, true, true, true, true, false, false, false, false, false] rfl (by kernel_rfl) hs ((hs.mem.first 1)) rfl rfl rfl (fun _ _ _ h => h) (y_move hs rfl) ?_; clear hs a; intro a hs
      rcases hs.know (d := 106) rfl with ⟨h106, hs1⟩ | ⟨h106, hs1⟩ <;> replace hs := hs1 <;> clear hs1
      · replace h106 := bne_iff_ne.1 h106
        refine b_take 33 rfl #[true, true, true, true, true, true, true, true, true, true, true, true, true, true, true, true, true, true, true, true, true, true, true, true, true, true, true, true, true, true, true, true, true, true, false, false, false, false] rfl (by kernel_rfl) hs ((hs.mem.first 1)) rfl rfl rfl (fun _ _ _ h => h) (y_faddr (k' := 15) 15 hs (by kernel_rfl) rfl rfl) ?_; clear hs a; intro a hs
        refine b_take 34 rfl #[true, true, true, true, true, true, true, true, true, true, true, true, true, true, true, true, true, true, true, true, true, true, true, true, true, true, true, true, true, true, true, true, true, true, true, false, false, false] rfl (by kernel_rfl) hs ((hs.mem.first 1)) rfl rfl rfl (fun _ _ _ h => h) (y_load hs Tryd.underlying43 rfl rfl (fun w hw => (hw.to 0 rfl).cellV rfl)) ?_; clear hs a; intro a hs
        refine b_take 35 rfl #[true, true, true, true, true, true, true, true, true, true, true, true, true, true, true, true, true, true, true, true, true, true, true, true, true, true, true, true, true, true, true, true, true, true, true, true, false, false] rfl (by kernel_rfl) hs ((hs.mem.first 1)) rfl rfl rfl (fun _ _ _ h => h) (y_cmp hs rfl rfl rfl) ?_; clear hs a; intro a hs
        refine b_take 36 rfl #[true, true, true, true, true, true, true, true, true, true, true, true, true, true, true, true, true, true, true, true, true, true, true, true, true, true, true, true, true, true, true, true, true, true, true, true, true, false] rfl (by kernel_rfl) hs ((hs.mem.first 1)) rfl rfl rfl (fun _ _ _ h => h) (y_pickT hs rfl rfl rfl) ?_; clear hs a; intro a hs
        refine b_take 37 rfl #[true, true, true, true, true, true, true, true, true, true, true, true, true, true, true, true, true, true, true, true, true, true, true, true, true, true, true, true, true, true, true, true, true, true, true, true, true, true] rfl (by kernel_rfl) hs ((hs.mem.first 1)) rfl rfl rfl (fun _ _ _ h => h) (y_pickF hs rfl rfl rfl) ?_; clear hs a; intro a hs
        refine b_done (by kernel_rfl) (then_normal ?_)
        refine wp_cond_split (hs.ev rfl) (fun h111 => ?_) (fun h111 => ?_)
        · replace h111 := bne_iff_ne.1 h111
          refine wp_seq (wp_region_lit ?_)
          refine go hs (pA rfl <| ?_); clear hs a; intro a hs
          refine wpList_nil (then_normal (wp_ret (then_ret ?_)))
          refine fin_ret hs (.tmp (hs.slots _ _ rfl) .nil) ⟨?_, hs.mem.base⟩
          have hX : refB (itemF x left) = -1 := refI_bad (by
            clear hs
            rintro ⟨a0, b0, b1, b2, b3, b4, b5, b6, b7, b8, b9⟩
            first | omega | (rw [hnm, b2] at h65; simp at h65; done) | (have hz : nm = false := (by simpa using h68); have := b3 (of_decide_eq_false (hnm.symm.trans hz)); omega) | exact b4 (hvm.symm.trans (eq_of_beq h79)) | exact b5 (Eq.trans (by rw [Bool.eq_iff_iff]; simp) (eq_of_beq h88)) | (rw [hli.trans b8] at h126; simp at h126; done) | (first | (simp only [Bool.not_eq_true', Bool.not_eq_false', beq_eq_false_iff_ne, beq_iff_eq, ne_eq] at h102; rw [Bool.eq_iff_iff] at h102; simp only [beq_iff_eq, decide_eq_true_eq, Bool.false_eq_true, iff_false] at h102; omega) | (simp at h102; omega)))
          rw [hX]; rfl
        replace h111 := bne_eq_false_iff_eq.1 h111
        refine wp_skip (then_normal ?_)
        refine ⟨beq_eq_false_iff_ne.1 h79, beq_eq_false_iff_ne.1 h88, ⟨by clear hs; first | (simp only [Bool.not_eq_true', Bool.not_eq_false', beq_eq_false_iff_ne, beq_iff_eq, ne_eq] at h102; rw [Bool.eq_iff_iff] at h102; simp only [beq_iff_eq, decide_eq_true_eq, Bool.false_eq_true, iff_false] at h102; omega) | (simp at h102; omega), fun h0 => by clear hs; omega⟩, ?_⟩
        exact (hs.mem_to hs.mem).cut _ ⟨rfl, rfl, rfl, trivial⟩
      replace h106 := bne_eq_false_iff_eq.1 h106
      refine b_skip 33 rfl #[true, true, true, true, true, true, true, true, true, true, true, true, true, true, true, true, true, true, true, true, true, true, true, true, true, true, true, true, true, true, true, true, true, true, false, false, false, false] rfl (by kernel_rfl) hs ((hs.mem.first 1)) rfl rfl rfl (fun _ _ _ h => h) ?_; clear hs a; intro a hs
      refine b_skip 34 rfl #[true, true, true, true, true, true, true, true, true, true, true, true, true, true, true, true, true, true, true, true, true, true, true, true, true, true, true, true, true, true, true, true, true, true, true, false, false, false] rfl (by kernel_rfl) hs ((hs.mem.first 1)) rfl rfl rfl (fun _ _ _ h => h) ?_; clear hs a; intro a hs
      refine b_skip 35 rfl #[true, true, true, true, true, true, true, true, true, true, true, true, true, true, true, true, true, true, true, true, true, true, true, true, true, true, true, true, true, true, true, true, true, true, true, true, false, false] rfl (by kernel_rfl) hs ((hs.mem.first 1)) rfl rfl rfl (fun _ _ _ h => h) ?_; clear hs a; intro a hs
      refine b_take 36 rfl #[true, true, true, true, true, true, true, true, true, true, true, true, true, true, true, true, true, true, true, true, true, true, true, true, true, true, true, true, true, true, true, true, true, true, true, true, true, false] rfl (by kernel_rfl) hs ((hs.mem.first 1)) rfl rfl rfl (fun _ _ _ h => h) (y_pickF hs rfl rfl rfl) ?_; clear hs a; intro a hs
      refine b_take 37 rfl #[true, true, true, true, true, true, true, true, true, true, true, true, true, true, true, true, true, true, true, true, true, true, true, true, true, true, true, true, true, true, true, true, true, true, true, true, true, true] rfl (by kernel_rfl) hs ((hs.mem.first 1)) rfl rfl rfl (fun _ _ _ h => h) (y_pickF hs rfl rfl rfl) ?_; clear hs a; intro a hs
      refine b_done (by kernel_rfl) (then_normal ?_)
      refine wp_cond_false (hs.ev rfl) ?_
      refine wp_skip (then_normal ?_)
      refine ⟨beq_eq_false_iff_ne.1 h79, beq_eq_false_iff_ne.1 h88, ⟨by clear hs; first | (simp only [Bool.not_eq_true', Bool.not_eq_false', beq_eq_false_iff_ne, beq_iff_eq, ne_eq] at h102; rw [Bool.eq_iff_iff] at h102; simp only [beq_iff_eq, decide_eq_true_eq, Bool.false_eq_true, iff_false] at h102; omega) | (simp at h102; omega), fun h0 => by clear hs; omega⟩, ?_⟩
      exact (hs.mem_to hs.mem).cut _ ⟨rfl, rfl, rfl, trivial⟩
    replace h95 := of_decide_eq_false h95
    refine b_skip 22 rfl #[true, true, true, true, true, true, true, true, true, true, true, true, true, true, true, true, true, true, true, true, true, true, true, false, false, false, false, false, false, false, false, false, false, false, false, false, false, false] rfl (by kernel_rfl) hs ((hs.mem.first 1)) rfl rfl rfl (fun _ _ _ h => h) ?_; clear hs a; intro a hs
    refine b_skip 23 rfl #[true, true, true, true, true, true, true, true, true, true, true, true, true, true, true, true, true, true, true, true, true, true, true, true, false, false, false, false, false, false, false, false, false, false, false, false, false, false] rfl (by kernel_rfl) hs ((hs.mem.first 1)) rfl rfl rfl (fun _ _ _ h => h) ?_; clear hs a; intro a hs
    refine b_skip 24 rfl #[true, true, true, true, true, true, true, true, true, true, true, true, true, true, true, true, true, true, true, true, true, true, true, true, true, false, false, false, false, false, false, false, false, false, false, false, false, false] rfl (by kernel_rfl) hs ((hs.mem.first 1)) rfl rfl rfl (fun _ _ _ h => h) ?_; clear hs a; intro a hs
    refine b_take 25 rfl #[true, true, true, true, true, true, true, true, true, true, true, true, true, true, true, true, true, true, true, true, true, true, true, true, true, true, false, false, false, false, false, false, false, false, false, false, false, false] rfl (by kernel_rfl) hs ((hs.mem.first 1)) rfl rfl rfl (fun _ _ _ h => h) (y_pickF hs rfl rfl rfl) ?_; clear hs a; intro a hs
    refine b_take 26 rfl #[true, true, true, true, true, true, true, true, true, true, true, true, true, true, true, true, true, true, true, true, true, true, true, true, true, true, true, false, false, false, false, false, false, false, false, false, false, false] rfl (by kernel_rfl) hs ((hs.mem.first 1)) rfl rfl rfl (fun _ _ _ h => h) (y_bne hs Tryd.underlying4 rfl rfl) ?_; clear hs a; intro a hs
    refine b_take 27 rfl #[true, true, true, true, true, true, true, true, true, true, true, true, true, true, true, true, true, true, true, true, true, true, true, true, true, true, true, true, false, false, false, false, false, false, false, false, false, false] rfl (by kernel_rfl) hs ((hs.mem.first 1)) rfl rfl rfl (fun _ _ _ h => h) (y_pickF hs rfl rfl rfl) ?_; clear hs a; intro a hs
    refine b_take 28 rfl #[true, true, true, true, true, true, true, true, true, true, true, true, true, true, true, true, true, true, true, true, true, true, true, true, true, true, true, true, true, false, false, false, false, false, false, false, false, false] rfl (by kernel_rfl) hs ((hs.mem.first 1)) rfl rfl rfl (fun _ _ _ h => h) (y_move hs rfl) ?_; clear hs a; intro a hs
    rcases hs.know (d := 102) rfl with ⟨h102, hs1⟩ | ⟨h102, hs1⟩ <;> replace hs := hs1 <;> clear hs1
    · refine b_skip 29 rfl #[true, true, true, true, true, true, true, true, true, true, true, true, true, true, true, true, true, true, true, true, true, true, true, true, true, true, true, true, true, true, false, false, false, false, false, false, false, false] rfl (by kernel_rfl) hs ((hs.mem.first 1)) rfl rfl rfl (fun _ _ _ h => h) ?_; clear hs a; intro a hs
      refine b_skip 30 rfl #[true, true, true, true, true, true, true, true, true, true, true, true, true, true, true, true, true, true, true, true, true, true, true, true, true, true, true, true, true, true, true, false, false, false, false, false, false, false] rfl (by kernel_rfl) hs ((hs.mem.first 1)) rfl rfl rfl (fun _ _ _ h => h) ?_; clear hs a; intro a hs
      refine b_skip 31 rfl #[true, true, true, true, true, true, true, true, true, true, true, true, true, true, true, true, true, true, true, true, true, true, true, true, true, true, true, true, true, true, true, true, false, false, false, false, false, false] rfl (by kernel_rfl) hs ((hs.mem.first 1)) rfl rfl rfl (fun _ _ _ h => h) ?_; clear hs a; intro a hs
      refine b_skip 32 rfl #[true, true, true, true, true, true, true, true, true, true, true, true, true, true, true, true, true, true, true, true, true, true, true, true, true, true, true, true, true, true, true, true, true, false, false, false, false, false] rfl (by kernel_rfl) hs ((hs.mem.first 1)) rfl rfl rfl (fun _ _ _ h => h) ?_; clear hs a; intro a hs
      refine b_skip 33 rfl #[true, true, true, true, true, true, true, true, true, true, true, true, true, true, true, true, true, true, true, true, true, true, true, true, true, true, true, true, true, true, true, true, true, true, false, false, false, false] rfl (by kernel_rfl) hs ((hs.mem.first 1)) rfl rfl rfl (fun _ _ _ h => h) ?_; clear hs a; intro a hs
      refine b_skip 34 rfl #[true, true, true, true, true, true, true, true, true, true, true, true, true, true, true, true, true, true, true, true, true, true, true, true, true, true, true, true, true, true, true, true, true, true, true, false, false, false] rfl (by kernel_rfl) hs ((hs.mem.first 1)) rfl rfl rfl (fun _ _ _ h => h) ?_; clear hs a; intro a hs
      refine b_skip 35 rfl #[true, true, true, true, true, true, true, true, true, true, true, true, true, true, true, true, true, true, true, true, true, true, true, true, true, true, true, true, true, true, true, true, true, true, true, true, false, false] rfl (by kernel_rfl) hs ((hs.mem.first 1)) rfl rfl rfl (fun _ _ _ h => h) ?_; clear hs a; intro a hs
      refine b_skip 36 rfl #[true, true, true, true, true, true, true, true, true, true, true, true, true, true, true, true, true, true, true, true, true, true, true, true, true, true, true, true, true, true, true, true, true, true, true, true, true, false] rfl (by kernel_rfl) hs ((hs.mem.first 1)) rfl rfl rfl (fun _ _ _ h => h) ?_; clear hs a; intro a hs
      refine b_take 37 rfl #[true, true, true, true, true, true, true, true, true, true, true, true, true, true, true, true, true, true, true, true, true, true, true, true, true, true, true, true, true, true, true, true, true, true, true, true, true, true] rfl (by kernel_rfl) hs ((hs.mem.first 1)) rfl rfl rfl (fun _ _ _ h => h) (y_pickT hs rfl rfl rfl) ?_; clear hs a; intro a hs
      refine b_done (by kernel_rfl) (then_normal ?_)
      refine wp_cond_true (hs.ev rfl) ?_
      refine wp_seq (wp_region_lit ?_)
      refine go hs (pA rfl <| ?_); clear hs a; intro a hs
      refine wpList_nil (then_normal (wp_ret (then_ret ?_)))
      refine fin_ret hs (.tmp (hs.slots _ _ rfl) .nil) ⟨?_, hs.mem.base⟩
      have hX : refB (itemF x left) = -1 := refI_bad (by
        clear hs
        rintro ⟨a0, b0, b1, b2, b3, b4, b5, b6, b7, b8, b9⟩
        first | omega | (rw [hnm, b2] at h65; simp at h65; done) | (have hz : nm = false := (by simpa using h68); have := b3 (of_decide_eq_false (hnm.symm.trans hz)); omega) | exact b4 (hvm.symm.trans (eq_of_beq h79)) | exact b5 (Eq.trans (by rw [Bool.eq_iff_iff]; simp) (eq_of_beq h88)) | (rw [hli.trans b8] at h126; simp at h126; done) | (first | (simp only [Bool.not_eq_true', Bool.not_eq_false', beq_eq_false_iff_ne, beq_iff_eq, ne_eq] at h102; rw [Bool.eq_iff_iff] at h102; simp only [beq_iff_eq, decide_eq_true_eq, Bool.false_eq_true, iff_false] at h102; omega) | (simp at h102; omega)))
      rw [hX]; rfl
    refine b_take 29 rfl #[true, true, true, true, true, true, true, true, true, true, true, true, true, true, true, true, true, true, true, true, true, true, true, true, true, true, true, true, true, true, false, false, false, false, false, false, false, false] rfl (by kernel_rfl) hs ((hs.mem.first 1)) rfl rfl rfl (fun _ _ _ h => h) (y_faddr (k' := 0) 0 hs (by kernel_rfl) rfl rfl) ?_; clear hs a; intro a hs
    refine b_take 30 rfl #[true, true, true, true, true, true, true, true, true, true, true, true, true, true, true, true, true, true, true, true, true, true, true, true, true, true, true, true, true, true, true, false, false, false, false, false, false, false] rfl (by kernel_rfl) hs ((hs.mem.first 1)) rfl rfl rfl (fun _ _ _ h => h) (y_load hs Tryd.underlying37 rfl rfl (fun w hw => (hw.to 0 rfl).cellV rfl)) ?_; clear hs a; intro a hs
    refine b_take 31 rfl #[true, true, true, true, true, true, true, true, true, true, true, true, true, true, true, true, true, true, true, true, true, true, true, true, true, true, true, true, true, true, true, true, false, false, false, false, false, false] rfl (by kernel_rfl) hs ((hs.mem.first 1)) rfl rfl rfl (fun _ _ _ h => h) (y_cmp hs rfl rfl rfl) ?_; clear hs a; intro a hs
    refine b_take 32 rfl #[true, true, true, true, true, true, true, true, true, true, true, true, true, true, true, true, true, true, true, true, true, true, true, true, true, true, true, true, true, true, true, true, true, false, false, false, false, false] rfl (by kernel_rfl) hs ((hs.mem.first 1)) rfl rfl rfl (fun _ _ _ h => h) (y_move hs rfl) ?_; clear hs a; intro a hs
    rcases hs.know (d := 106) rfl with ⟨h106, hs1⟩ | ⟨h106, hs1⟩ <;> replace hs := hs1 <;> clear hs1
    · replace h106 := bne_iff_ne.1 h106
      refine b_take 33 rfl #[true, true, true, true, true, true, true, true, true, true, true, true, true, true, true, true, true, true, true, true, true, true, true, true, true, true, true, true, true, true, true, true, true, true, false, false, false, false] rfl (by kernel_rfl) hs ((hs.mem.first 1)) rfl rfl rfl (fun _ _ _ h => h) (y_faddr (k' := 15) 15 hs (by kernel_rfl) rfl rfl) ?_; clear hs a; intro a hs
      refine b_take 34 rfl #[true, true, true, true, true, true, true, true, true, true, true, true, true, true, true, true, true, true, true, true, true, true, true, true, true, true, true, true, true, true, true, true, true, true, true, false, false, false] rfl (by kernel_rfl) hs ((hs.mem.first 1)) rfl rfl rfl (fun _ _ _ h => h) (y_load hs Tryd.underlying43 rfl rfl (fun w hw => (hw.to 0 rfl).cellV rfl)) ?_; clear hs a; intro a hs
      refine b_take 35 rfl #[true, true, true, true, true, true, true, true, true, true, true, true, true, true, true, true, true, true, true, true, true, true, true, true, true, true, true, true, true, true, true, true, true, true, true, true, false, false] rfl (by kernel_rfl) hs ((hs.mem.first 1)) rfl rfl rfl (fun _ _ _ h => h) (y_cmp hs rfl rfl rfl) ?_; clear hs a; intro a hs
      refine b_take 36 rfl #[true, true, true, true, true, true, true, true, true, true, true, true, true, true, true, true, true, true, true, true, true, true, true, true, true, true, true, true, true, true, true, true, true, true, true, true, true, false] rfl (by kernel_rfl) hs ((hs.mem.first 1)) rfl rfl rfl (fun _ _ _ h => h) (y_pickT hs rfl rfl rfl) ?_; clear hs a; intro a hs
      refine b_take 37 rfl #[true, true, true, true, true, true, true, true, true, true, true, true, true, true, true, true, true, true, true, true, true, true, true, true, true, true, true, true, true, true, true, true, true, true, true, true, true, true] rfl (by kernel_rfl) hs ((hs.mem.first 1)) rfl rfl rfl (fun _ _ _ h => h) (y_pickF hs rfl rfl rfl) ?_; clear hs a; intro a hs
      refine b_done (by kernel_rfl) (then_normal ?_)
      refine wp_cond_split (hs.ev rfl) (fun h111 => ?_) (fun h111 => ?_)
      · replace h111 := bne_iff_ne.1 h111
        refine wp_seq (wp_region_lit ?_)
        refine go hs (pA rfl <| ?_); clear hs a; intro a hs
        refine wpList_nil (then_normal (wp_ret (then_ret ?_)))
        refine fin_ret hs (.tmp (hs.slots _ _ rfl) .nil) ⟨?_, hs.mem.base⟩
        have hX : refB (itemF x left) = -1 := refI_bad (by
          clear hs
          rintro ⟨a0, b0, b1, b2, b3, b4, b5, b6, b7, b8, b9⟩
          first | omega | (rw [hnm, b2] at h65; simp at h65; done) | (have hz : nm = false := (by simpa using h68); have := b3 (of_decide_eq_false (hnm.symm.trans hz)); omega) | exact b4 (hvm.symm.trans (eq_of_beq h79)) | exact b5 (Eq.trans (by rw [Bool.eq_iff_iff]; simp) (eq_of_beq h88)) | (rw [hli.trans b8] at h126; simp at h126; done) | (first | (simp only [Bool.not_eq_true', Bool.not_eq_false', beq_eq_false_iff_ne, beq_iff_eq, ne_eq] at h102; rw [Bool.eq_iff_iff] at h102; simp only [beq_iff_eq, decide_eq_true_eq, Bool.false_eq_true, iff_false] at h102; omega) | (simp at h102; omega)))
        rw [hX]; rfl
      replace h111 := bne_eq_false_iff_eq.1 h111
      refine wp_skip (then_normal ?_)
      refine ⟨beq_eq_false_iff_ne.1 h79, beq_eq_false_iff_ne.1 h88, ⟨by clear hs; first | (simp only [Bool.not_eq_true', Bool.not_eq_false', beq_eq_false_iff_ne, beq_iff_eq, ne_eq] at h102; rw [Bool.eq_iff_iff] at h102; simp only [beq_iff_eq, decide_eq_true_eq, Bool.false_eq_true, iff_false] at h102; omega) | (simp at h102; omega), fun h0 => by clear hs; omega⟩, ?_⟩
      exact (hs.mem_to hs.mem).cut _ ⟨rfl, rfl, rfl, trivial⟩
    replace h106 := bne_eq_false_iff_eq.1 h106
    refine b_skip 33 rfl #[true, true, true, true, true, true, true, true, true, true, true, true, true, true, true, true, true, true, true, true, true, true, true, true, true, true, true, true, true, true, true, true, true, true, false, false, false, false] rfl (by kernel_rfl) hs ((hs.mem.first 1)) rfl rfl rfl (fun _ _ _ h => h) ?_; clear hs a; intro a hs
    refine b_skip 34 rfl #[true, true, true, true, true, true, true, true, true, true, true, true, true, true, true, true, true, true, true, true, true, true, true, true, true, true, true, true, true, true, true, true, true, true, true, false, false, false] rfl (by kernel_rfl) hs ((hs.mem.first 1)) rfl rfl rfl (fun _ _ _ h => h) ?_; clear hs a; intro a hs
    refine b_skip 35 rfl #[true, true, true, true, true, true, true, true, true, true, true, true, true, true, true, true, true, true, true, true, true, true, true, true, true, true, true, true, true, true, true, true, true, true, true, true, false, false] rfl (by kernel_rfl) hs ((hs.mem.first 1)) rfl rfl rfl (fun _ _ _ h => h) ?_; clear hs a; intro a hs
    refine b_take 36 rfl #[true, true, true, true, true, true, true, true, true, true, true, true, true, true, true, true, true, true, true, true, true, true, true, true, true, true, true, true, true, true, true, true, true, true, true, true, true, false] rfl (by kernel_rfl) hs ((hs.mem.first 1)) rfl rfl rfl (fun _ _ _ h => h) (y_pickF hs rfl rfl rfl) ?_; clear hs a; intro a hs
    refine b_take 37 rfl #[true, true, true, true, true, true, true, true, true, true, true, true, true, true, true, true, true, true, true, true, true, true, true, true, true, true, true, true, true, true, true, true, true, true, true, true, true, true] rfl (by kernel_rfl) hs ((hs.mem.first 1)) rfl rfl rfl (fun _ _ _ h => h) (y_pickF hs rfl rfl rfl) ?_; clear hs a; intro a hs
    refine b_done (by kernel_rfl) (then_normal ?_)
    refine wp_cond_false (hs.ev rfl) ?_
    refine wp_skip (then_normal ?_)
    refine ⟨beq_eq_false_iff_ne.1 h79, beq_eq_false_iff_ne.1 h88, ⟨by clear hs; first | (simp only [Bool.not_eq_true', Bool.not_eq_false', beq_eq_false_iff_ne, beq_iff_eq, ne_eq] at h102; rw [Bool.eq_iff_iff] at h102; simp only [beq_iff_eq, decide_eq_true_eq, Bool.false_eq_true, iff_false] at h102; omega) | (simp at h102; omega), fun h0 => by clear hs; omega⟩, ?_⟩
    exact (hs.mem_to hs.mem).cut _ ⟨rfl, rfl, rfl, trivial⟩
  clear hs
  obtain ⟨hv1, hs1, hp, hs⟩ := hJ
  refine wp_seq ?_
  refine wp_seq_cut (fun a w1 => ∃ (li : Bool), (li = decide (x.f0 = 5 ∧ x.f4 = 4)) ∧ St 155 v0 [(1, .int .i64 (left - 1)), (2, .pointer (some ⟨gx, 0, none⟩)), (6, .bool v), (7, .bool li)] [pt gx #[.int .u8 x.f0, .string x.f1, .int .u8 x.f2.f0, .int .i64 x.f2.f1, .string x.f2.f2, .slice A5 x.f2.f3.length c5, .int .i64 x.f2.f4, .int .i64 x.f2.f5, .int .u8 x.f3.f0, .string x.f3.f1, .slice A10 x.f3.f2.length c10, .slice A11 x.f3.f3.length c11, .slice A12 x.f3.f4.length c12, .int .i64 x.f3.f5, .int .i64 x.f3.f6, .int .u8 x.f4, .slice A16 x.f5.length c16, .int .i64 x.f6, .int .i64 x.f7] 45] a w1) ?_ (fun a w1 hJ => ?_)
  · refine wp_region_lit (go hs (pV rfl (fun a hs => y_faddr (k' := 0) 0 hs (by kernel_rfl) rfl rfl) <| pV rfl (fun a hs => y_load hs Tryd.underlying37 rfl rfl (fun w hw => (hw.to 0 rfl).cellV rfl)) <| pV rfl (fun a hs => y_cmp hs rfl rfl rfl) <| pM rfl <| ?_)); clear hs a; intro a hs
    rcases hs.know (d := 115) rfl with ⟨h115, hs1⟩ | ⟨h115, hs1⟩ <;> replace hs := hs1 <;> clear hs1
    · replace h115 := eq_of_beq h115
      refine go hs (pG rfl (fun a hs => y_faddr (k' := 15) 15 hs (by kernel_rfl) rfl rfl) <| pG rfl (fun a hs => y_load hs Tryd.underlying43 rfl rfl (fun w hw => (hw.to 0 rfl).cellV rfl)) <| pG rfl (fun a hs => y_cmp hs rfl rfl rfl) <| pT rfl rfl <| pA rfl <| ?_); clear hs a; intro a hs
      refine wpList_nil (then_normal ?_)
      refine ⟨(x.f4 == 4), by rw [Bool.eq_iff_iff]; simp only [beq_iff_eq, decide_eq_true_eq]; clear hs; omega, ?_⟩
      exact (hs.mem_to hs.mem).cut _ ⟨rfl, rfl, rfl, rfl, trivial⟩
    replace h115 := ne_of_beq_false h115
    refine go hs (pS rfl <| pS rfl <| pS rfl <| pF rfl rfl <| pA rfl <| ?_); clear hs a; intro a hs
    refine wpList_nil (then_normal ?_)
    refine ⟨false, (decide_eq_false (by omega)).symm, ?_⟩
    exact (hs.mem_to hs.mem).cut _ ⟨rfl, rfl, rfl, rfl, trivial⟩
  clear hs
  obtain ⟨li, hli, hs⟩ := hJ
  refine wp_seq (wp_region_lit ?_)
  refine go hs (pM rfl <| pV rfl (fun a hs => y_faddr (k' := 16) 16 hs (by kernel_rfl) rfl rfl) <| pV rfl (fun a hs => y_load hs Tryd.underlying23 rfl rfl (fun w hw => (hw.to 0 rfl).cellV rfl)) <| pV rfl (fun a hs => y_lenL hs Tryd.underlying23 rfl) <| pV rfl (fun a hs => y_cmp hs rfl rfl rfl) <| pV rfl (fun a hs => y_bne hs Tryd.underlying4 rfl rfl) <| pM rfl <| ?_); clear hs a; intro a hs
  rcases hs.know (d := 126) rfl with ⟨h126, hs1⟩ | ⟨h126, hs1⟩ <;> replace hs := hs1 <;> clear hs1
  · refine go hs (pS rfl <| pS rfl <| pS rfl <| pS rfl <| pT rfl rfl <| ?_); clear hs a; intro a hs
    refine wpList_nil (then_normal ?_)
    refine wp_cond_true (hs.ev rfl) ?_
    refine wp_seq (wp_region_lit ?_)
    refine go hs (pA rfl <| ?_); clear hs a; intro a hs
    refine wpList_nil (then_normal (wp_ret (then_ret ?_)))
    refine fin_ret hs (.tmp (hs.slots _ _ rfl) .nil) ⟨?_, hs.mem.base⟩
    have hX : refB (itemF x left) = -1 := refI_bad (by
      clear hs
      rintro ⟨a0, b0, b1, b2, b3, b4, b5, b6, b7, b8, b9⟩
      first | omega | (rw [hnm, b2] at h65; simp at h65; done) | (have hz : nm = false := (by simpa using h68); have := b3 (of_decide_eq_false (hnm.symm.trans hz)); omega) | exact b4 (hvm.symm.trans (eq_of_beq h79)) | exact b5 (Eq.trans (by rw [Bool.eq_iff_iff]; simp) (eq_of_beq h88)) | (rw [hli.trans b8] at h126; simp at h126; done) | (first | (simp only [Bool.not_eq_true', Bool.not_eq_false', beq_eq_false_iff_ne, beq_iff_eq, ne_eq] at h102; rw [Bool.eq_iff_iff] at h102; simp only [beq_iff_eq, decide_eq_true_eq, Bool.false_eq_true, iff_false] at h102; omega) | (simp at h102; omega)))
    rw [hX]; rfl
  refine go hs (pG rfl (fun a hs => y_faddr (k' := 16) 16 hs (by kernel_rfl) rfl rfl) <| pG rfl (fun a hs => y_load hs Tryd.underlying23 rfl rfl (fun w hw => (hw.to 0 rfl).cellV rfl)) <| pG rfl (fun a hs => y_lenL hs Tryd.underlying23 rfl) <| pG rfl (fun a hs => y_cmp hs rfl rfl rfl) <| pF rfl rfl <| ?_); clear hs a; intro a hs
  refine wpList_nil (then_normal ?_)
  refine wp_cond_split (hs.ev rfl) (fun h131 => ?_) (fun h131 => ?_)
  · replace h131 := of_decide_eq_true h131
    refine wp_seq (wp_region_lit ?_)
    refine go hs (pA rfl <| ?_); clear hs a; intro a hs
    refine wpList_nil (then_normal (wp_ret (then_ret ?_)))
    refine fin_ret hs (.tmp (hs.slots _ _ rfl) .nil) ⟨?_, hs.mem.base⟩
    have hX : refB (itemF x left) = -1 := refI_bad (by
      clear hs
      rintro ⟨a0, b0, b1, b2, b3, b4, b5, b6, b7, b8, b9⟩
      first | omega | (rw [hnm, b2] at h65; simp at h65; done) | (have hz : nm = false := (by simpa using h68); have := b3 (of_decide_eq_false (hnm.symm.trans hz)); omega) | exact b4 (hvm.symm.trans (eq_of_beq h79)) | exact b5 (Eq.trans (by rw [Bool.eq_iff_iff]; simp) (eq_of_beq h88)) | (rw [hli.trans b8] at h126; simp at h126; done) | (first | (simp only [Bool.not_eq_true', Bool.not_eq_false', beq_eq_false_iff_ne, beq_iff_eq, ne_eq] at h102; rw [Bool.eq_iff_iff] at h102; simp only [beq_iff_eq, decide_eq_true_eq, Bool.false_eq_true, iff_false] at h102; omega) | (simp at h102; omega)))
    rw [hX]; rfl
  replace h131 := of_decide_eq_false h131
  refine wp_skip (then_normal ?_)
  refine wp_seq_cut (fun a w1 => ∃ (lf : Int), (-1 ≤ lf ∧ lf ≤ 8192) ∧ (0 ≤ lf → (itemF x left) = if (shI x lf).1 = true then xlist stE x.f5 (shI x lf).2 else shI x lf) ∧ (lf < 0 → (itemF x left).1 = false ∧ lf = -1) ∧ St 155 v0 [(1, .int .i64 lf), (2, .pointer (some ⟨gx, 0, none⟩))] [pt gx #[.int .u8 x.f0, .string x.f1, .int .u8 x.f2.f0, .int .i64 x.f2.f1, .string x.f2.f2, .slice A5 x.f2.f3.length c5, .int .i64 x.f2.f4, .int .i64 x.f2.f5, .int .u8 x.f3.f0, .string x.f3.f1, .slice A10 x.f3.f2.length c10, .slice A11 x.f3.f3.length c11, .slice A12 x.f3.f4.length c12, .int .i64 x.f3.f5, .int .i64 x.f3.f6, .int .u8 x.f4, .slice A16 x.f5.length c16, .int .i64 x.f6, .int .i64 x.f7] 45] a w1) ?_ (fun a w1 hJ => ?_)
  · refine wp_seq ?_
    have hR : refHead x := by
      clear hs
      refine ⟨by omega, by omega, by rw [← hn1, hnm], fun h0 => hn2 (by rw [hnm, decide_eq_false h0]), by rw [← hvm]; exact hv1, ?_, hp.1, hp.2, ?_, by omega⟩
      · intro h0; exact hs1 (by rw [← h0]; rw [Bool.eq_iff_iff]; simp)
      rw [← hli]; simpa using h126
    have hH := refHead_head hR
    have hI := itemF_ref (left := left) (by omega) hH
    refine wp_region_lit (go hs (pM rfl <| ?_)); clear hs a; intro a hs
    refine wpList_nil (then_normal ?_)
    refine wp_cond_split (hs.ev rfl) (fun h132 => ?_) (fun h132 => ?_)
    · have hV : valI x (left - 1) = stE x.f2 (left - 1) := by unfold valI; rw [if_pos (show hasV x from of_decide_eq_true (hvm.symm.trans h132))]
      have hfv := stE_falls x.f2 (left - 1) (by omega)
      have hrb := refB_bounds hfv
      refine wp_region_lit (go hs (pV rfl (fun a hs => y_faddr (k' := 2) 2 hs (by kernel_rfl) rfl rfl) <| pV rfl (fun a hs => y_loadAgg (vs := [.int .u8 x.f2.f0, .int .i64 x.f2.f1, .string x.f2.f2, .slice A5 x.f2.f3.length c5, .int .i64 x.f2.f4, .int .i64 x.f2.f5]) hs Tryd.underlying24 rfl (by kernel_rfl) rfl (fun w hw k v hk => ((hw.to 0 rfl).cell).trans (sub_at 6 rfl hk))) <| pM rfl <| ?_)); clear hs a; intro a hs
      refine a_eff rfl (e_callB Tryd.func42 rfl rfl hs rfl rfl (ref_exprB x.f2 A5 c5 (left - 1) _ (Kd.C_below hA5 hs.mem.base) hsm.2.1 (by omega)) ?_); clear hs a; intro a w hs
      refine go hs (pA rfl <| ?_); clear hs a; intro a hs
      refine wpList_nil (then_normal ?_)
      refine ⟨refB (stE x.f2 (left - 1)), by omega, fun h0 => by rw [hI, hV]; exact xb_k (k := fun l => if (shI x l).1 = true then xlist stE x.f5 (shI x l).2 else shI x l) h0, fun h0 => by rw [hI, hV]; exact xb_s (k := fun l => if (shI x l).1 = true then xlist stE x.f5 (shI x l).2 else shI x l) hfv h0, ?_⟩
      exact (hs.mem_to hs.mem).cut _ ⟨rfl, rfl, trivial⟩
    have hV : valI x (left - 1) = (true, left - 1) := by unfold valI; rw [if_neg (show ¬ hasV x from of_decide_eq_false (hvm.symm.trans h132))]
    refine wp_skip (then_normal ?_)
    refine ⟨left - 1, by omega, fun h0 => by rw [hI, hV, if_pos rfl], fun h0 => by omega, ?_⟩
    exact (hs.mem_to hs.mem).cut _ ⟨rfl, rfl, trivial⟩
  clear hs
  obtain ⟨lf, hlf, hinv, hneg, hs⟩ := hJ
  refine wp_seq_cut (fun a w1 => ∃ (lf : Int), (-1 ≤ lf ∧ lf ≤ 8192) ∧ (0 ≤ lf → (itemF x left) = xlist stE x.f5 lf) ∧ (lf < 0 → (itemF x left).1 = false ∧ lf = -1) ∧ St 155 v0 [(1, .int .i64 lf), (2, .pointer (some ⟨gx, 0, none⟩))] [pt gx #[.int .u8 x.f0, .string x.f1, .int .u8 x.f2.f0, .int .i64 x.f2.f1, .string x.f2.f2, .slice A5 x.f2.f3.length c5, .int .i64 x.f2.f4, .int .i64 x.f2.f5, .int .u8 x.f3.f0, .string x.f3.f1, .slice A10 x.f3.f2.length c10, .slice A11 x.f3.f3.length c11, .slice A12 x.f3.f4.length c12, .int .i64 x.f3.f5, .int .i64 x.f3.f6, .int .u8 x.f4, .slice A16 x.f5.length c16, .int .i64 x.f6, .int .i64 x.f7] 45] a w1) ?_ (fun a w1 hJ => ?_)
  · refine wp_seq (wp_region_lit ?_)
    refine go hs (pV rfl (fun a hs => y_faddr (k' := 0) 0 hs (by kernel_rfl) rfl rfl) <| pV rfl (fun a hs => y_load hs Tryd.underlying37 rfl rfl (fun w hw => (hw.to 0 rfl).cellV rfl)) <| pV rfl (fun a hs => y_cmp hs rfl rfl rfl) <| pM rfl <| ?_); clear hs a; intro a hs
    rcases hs.know (d := 140) rfl with ⟨h140, hs1⟩ | ⟨h140, hs1⟩ <;> replace hs := hs1 <;> clear hs1
    · replace h140 := eq_of_beq h140
      refine go hs (pG rfl (fun a hs => y_move hs rfl) <| pG rfl (fun a hs => y_cmp hs rfl rfl rfl) <| pT rfl rfl <| ?_); clear hs a; intro a hs
      refine wpList_nil (then_normal ?_)
      refine wp_cond_split (hs.ev rfl) (fun h143 => ?_) (fun h143 => ?_)
      · replace h143 := of_decide_eq_true h143
        have hSn : ∀ l, shI x l = xshape 16 x.f3 l := fun l => by unfold shI; rw [if_pos (by omega)]
        have hfs := xshape_falls 16 x.f3 lf (by omega)
        have hrb := refB_bounds hfs
        refine wp_region_lit (go hs (pV rfl (fun a hs => y_faddr (k' := 8) 8 hs (by kernel_rfl) rfl rfl) <| pV rfl (fun a hs => y_loadAgg (vs := [.int .u8 x.f3.f0, .string x.f3.f1, .slice A10 x.f3.f2.length c10, .slice A11 x.f3.f3.length c11, .slice A12 x.f3.f4.length c12, .int .i64 x.f3.f5, .int .i64 x.f3.f6]) hs Tryd.underlying41 rfl (by kernel_rfl) rfl (fun w hw k v hk => ((hw.to 0 rfl).cell).trans (sub_at 7 rfl hk))) <| pM rfl <| ?_)); clear hs a; intro a hs
        refine a_eff rfl (e_callB Tryd.func46 rfl rfl hs rfl rfl (ref_shape 16 (by decide) x.f3 A10 A11 A12 c10 c11 c12 lf _ (Kd.C_below hA10 hs.mem.base) (Kd.C_below hA11 hs.mem.base) (Kd.C_below hA12 hs.mem.base) hsm.2.2.1 (by omega)) ?_); clear hs a; intro a w hs
        refine go hs (pA rfl <| ?_); clear hs a; intro a hs
        refine wpList_nil (then_normal ?_)
        refine ⟨refB (xshape 16 x.f3 lf), by omega, fun h0 => by rw [hinv (by omega), hSn]; exact xb_k (k := fun l => xlist stE x.f5 l) h0, fun h0 => by rw [hinv (by omega), hSn]; exact xb_s (k := fun l => xlist stE x.f5 l) hfs h0, ?_⟩
        exact (hs.mem_to hs.mem).cut _ ⟨rfl, rfl, trivial⟩
      replace h143 := of_decide_eq_false h143
      refine wp_skip (then_normal ?_)
      refine ⟨lf, hlf, fun h0 => by omega, hneg, ?_⟩
      exact (hs.mem_to hs.mem).cut _ ⟨rfl, rfl, trivial⟩
    replace h140 := ne_of_beq_false h140
    have hSn : ∀ l, shI x l = (true, l) := fun l => by unfold shI; rw [if_neg (by omega)]
    refine go hs (pS rfl <| pS rfl <| pF rfl rfl <| ?_); clear hs a; intro a hs
    refine wpList_nil (then_normal ?_)
    refine wp_cond_false (hs.ev rfl) ?_
    refine wp_skip (then_normal ?_)
    refine ⟨lf, hlf, fun h0 => by have h1 := hinv h0; rw [hSn, if_pos rfl] at h1; exact h1, hneg, ?_⟩
    exact (hs.mem_to hs.mem).cut _ ⟨rfl, rfl, trivial⟩
  clear hs
  obtain ⟨lf, hlf, hinv, hneg, hs⟩ := hJ
  refine wp_seq_cut (fun a w1 => ∃ (lq : Int), (refB (itemF x left) = lq) ∧ St 155 v0 [(1, .int .i64 lq), (2, .pointer (some ⟨gx, 0, none⟩))] [pt gx #[.int .u8 x.f0, .string x.f1, .int .u8 x.f2.f0, .int .i64 x.f2.f1, .string x.f2.f2, .slice A5 x.f2.f3.length c5, .int .i64 x.f2.f4, .int .i64 x.f2.f5, .int .u8 x.f3.f0, .string x.f3.f1, .slice A10 x.f3.f2.length c10, .slice A11 x.f3.f3.length c11, .slice A12 x.f3.f4.length c12, .int .i64 x.f3.f5, .int .i64 x.f3.f6, .int .u8 x.f4, .slice A16 x.f5.length c16, .int .i64 x.f6, .int .i64 x.f7] 45] a w1) ?_ (fun a w1 hJ => ?_)
  · refine wp_seq (wp_region_lit ?_)
    refine go hs (pM rfl <| pV rfl (fun a hs => y_cmp hs rfl rfl rfl) <| ?_); clear hs a; intro a hs
    refine wpList_nil (then_normal ?_)
    refine wp_cond_split (hs.ev rfl) (fun h149 => ?_) (fun h149 => ?_)
    · replace h149 := of_decide_eq_true h149
      have hfl := xlist_left x.f5 lf (fun p _ l h => stE_falls p l h) (by omega)
      refine wp_region_lit (go hs (pV rfl (fun a hs => y_faddr (k' := 16) 16 hs (by kernel_rfl) rfl rfl) <| pV rfl (fun a hs => y_load hs Tryd.underlying23 rfl rfl (fun w hw => (hw.to 0 rfl).cellV rfl)) <| pM rfl <| ?_)); clear hs a; intro a hs
      refine a_eff rfl (e_callB Tryd.func73 rfl rfl hs rfl rfl (ref_exprs A16 c16 x.f5 lf _ (ref_expr 16 (by decide)) (Kd.C_below hA16 hs.mem.base) hsm.2.2.2 (by omega)) ?_); clear hs a; intro a w hs
      refine go hs (pA rfl <| ?_); clear hs a; intro a hs
      refine wpList_nil (then_normal ?_)
      refine ⟨refL x.f5 lf, by rw [hinv (by omega)]; rfl, ?_⟩
      exact (hs.mem_to hs.mem).cut _ ⟨rfl, rfl, trivial⟩
    replace h149 := of_decide_eq_false h149
    refine wp_skip (then_normal ?_)
    refine ⟨lf, by obtain ⟨h1, h2⟩ := hneg (by omega); unfold refB; rw [h1, h2]; rfl, ?_⟩
    exact (hs.mem_to hs.mem).cut _ ⟨rfl, rfl, trivial⟩
  clear hs
  obtain ⟨lq, hq, hs⟩ := hJ
  refine wp_seq (wp_region_lit ?_)
  refine go hs (pM rfl <| pA rfl <| ?_); clear hs a; intro a hs
  refine wpList_nil (then_normal (wp_ret ?_))
  refine fin_ret hs (.tmp (hs.slots _ _ rfl) .nil) ⟨?_, hs.mem.base⟩
  rw [hq]; rfl
set_option maxRecDepth 100000 in
theorem ref_May (A : Option Addr) (c : Nat) (l : List XI) (v0 : World) (hA : Kd.C k45 v0 A l.length l) (hsm : ∀ p ∈ l, smallI p) :
    Calls Tryd.prog 17 #[.slice A l.length c] v0 fun e w' => e = .returned (.bool (mayI l)) ∧ Below v0.heap.size v0 w' := by
  refine calls_enter (N := 28) (n := 27) (args := [.slice A l.length c]) Tryd.func17 rfl rfl rfl (H.init v0) (fun a hs => ?_)
  have hcl := C_len hA
  refine wp_seq (wp_region_lit ?_)
  refine go hs (pA rfl <| ?_); clear hs a; intro a hs
  refine wpList_nil (then_normal (wp_seq ?_))
  refine wp_region_lit (go hs (pA rfl <| ?_)); clear hs a; intro a hs
  refine wpList_nil (then_normal (wp_seq ?_))
  refine wp_seq (wp_region_lit ?_)
  refine go hs (pA rfl <| ?_); clear hs a; intro a hs
  refine wpList_nil (then_normal (wp_block ?_))
  refine wp_loopN (fun m a w1 => ∃ (i : Nat) (lf : Int), (i + m = l.length) ∧ (-1 ≤ lf ∧ lf ≤ 8192) ∧ (0 ≤ lf → (xlist itemF l 8192) = xk itemF (l.drop i) (fun l => (true, l)) lf) ∧ (lf < 0 → (xlist itemF l 8192).1 = false ∧ lf = -1) ∧ St 28 v0 [(0, .slice A l.length c), (3, .int .i64 lf), (4, .int .i64 ((i : Nat) : Int))] [] a w1) (l.length) ⟨0, 8192, by omega, by omega, fun _ => xk_true.symm, fun h => by omega, ?_⟩ (fun m a w1 hJ => ?_)
  · exact (hs.mem_to hs.mem).cut _ ⟨rfl, rfl, rfl, trivial⟩
  clear hs
  obtain ⟨i, lf, hi, hlf, hinv, hneg, hs⟩ := hJ
  refine wp_seq (wp_seq ?_)
  refine wp_region_lit (go hs (pM rfl <| pM rfl <| pV rfl (fun a hs => y_lenL hs Tryd.underlying32 rfl) <| pV rfl (fun a hs => y_cmp hs rfl rfl rfl) <| pM rfl <| ?_)); clear hs a; intro a hs
  rcases hs.know (d := 9) rfl with ⟨h9, hs1⟩ | ⟨h9, hs1⟩ <;> replace hs := hs1 <;> clear hs1
  · replace h9 := of_decide_eq_true h9
    refine go hs (pG rfl (fun a hs => y_move hs rfl) <| pG rfl (fun a hs => y_cmp hs rfl rfl rfl) <| pT rfl rfl <| ?_); clear hs a; intro a hs
    refine wpList_nil (then_normal ?_)
    refine wp_cond_split (hs.ev rfl) (fun h12 => ?_) (fun h12 => ?_)
    · replace h12 := of_decide_eq_true h12
      obtain ⟨y, hy⟩ : ∃ y, l[i]? = some y := ⟨_, List.getElem?_eq_getElem (by omega)⟩
      obtain ⟨g0, o, rfl, hcell⟩ := C_atG (show 0 < 19 by decide) hA (by omega)
      obtain ⟨cs, hK, hc⟩ := hcell i y hy
      obtain ⟨A5, c5, A10, c10, A11, c11, A12, c12, A16, c16, rfl, l5, g5, l10, g10, l11, g11, l12, g12, l16, g16⟩ := k45_open hK
      have hdrop : l.drop i = y :: l.drop (i + 1) := by
        rw [List.drop_eq_getElem_cons (by omega)]
        rw [List.getElem?_eq_getElem (by omega)] at hy
        injection hy with hy
        rw [hy]
      rw [hdrop] at hinv
      refine wp_skip (then_normal (wp_seq ?_))
      refine wp_block (wp_region_lit ?_)
      refine go hs (pM rfl <| pM rfl <| pV rfl (fun a hs => y_idxB (size := 19) (off := o + i * 19) hs Tryd.underlying32 (by kernel_rfl) rfl rfl (by omega) (by omega) (by simp)) <| pV rfl (fun a hs => y_loadAgg (vs := [.int .u8 y.f0, .string y.f1, .int .u8 y.f2.f0, .int .i64 y.f2.f1, .string y.f2.f2, .slice A5 y.f2.f3.length c5, .int .i64 y.f2.f4, .int .i64 y.f2.f5, .int .u8 y.f3.f0, .string y.f3.f1, .slice A10 y.f3.f2.length c10, .slice A11 y.f3.f3.length c11, .slice A12 y.f3.f4.length c12, .int .i64 y.f3.f5, .int .i64 y.f3.f6, .int .u8 y.f4, .slice A16 y.f5.length c16, .int .i64 y.f6, .int .i64 y.f7]) hs Tryd.underlying44 rfl (by kernel_rfl) rfl (fun w hw k v hk => hc w hw.base k v hk)) <| pM rfl <| ?_); clear hs a; intro a hs
      have hfl := itemF_falls y lf (by omega)
      have hrb := refB_bounds hfl
      refine a_eff rfl (e_callB Tryd.func41 rfl rfl hs rfl rfl (ref_Item y A5 A10 A11 A12 A16 c5 c10 c11 c12 c16 lf _ (Kd.C_below g5 hs.mem.base) (Kd.C_below g10 hs.mem.base) (Kd.C_below g11 hs.mem.base) (Kd.C_below g12 hs.mem.base) (Kd.C_below g16 hs.mem.base) (hsm y (List.mem_of_getElem? hy)) (by omega)) ?_); clear hs a; intro a w hs
      refine go hs (pA rfl <| ?_); clear hs a; intro a hs
      refine wpList_nil (in_normal (then_normal (wp_region_lit ?_)))
      refine go hs (pM rfl <| pV rfl (fun a hs => y_add hs rfl rfl (by omega)) <| pA rfl <| ?_); clear hs a; intro a hs
      refine wpList_nil (then_normal ?_)
      refine ⟨m - 1, by omega, i + 1, refB (itemF y lf), by omega, by omega, xk_next (hinv (by omega)), xk_stop (hinv (by omega)) hfl, ?_⟩
      exact (hs.mem_to hs.mem).cut _ ⟨rfl, rfl, rfl, trivial⟩
    replace h12 := of_decide_eq_false h12
    refine wp_exit (then_exit (then_exit (in_here (then_normal (wp_seq ?_)))))
    have hq : (xlist itemF l 8192).1 = decide (0 ≤ lf) := by
      by_cases h0 : 0 ≤ lf
      · have h1 := hinv h0
        rw [List.drop_eq_nil_of_le (by omega), xk_nil] at h1
        rw [h1]; exact (decide_eq_true h0).symm
      rw [(hneg (by omega)).1]; exact (decide_eq_false h0).symm
    refine wp_region_lit (go hs (pM rfl <| pV rfl (fun a hs => y_cmp hs rfl rfl rfl) <| pM rfl <| ?_)); clear hs a; intro a hs
    rcases hs.know (d := 23) rfl with ⟨h23, hs1⟩ | ⟨h23, hs1⟩ <;> replace hs := hs1 <;> clear hs1
    · replace h23 := of_decide_eq_true h23
      refine go hs (pG rfl (fun a hs => y_move hs rfl) <| pG rfl (fun a hs => y_lenL hs Tryd.underlying32 rfl) <| pG rfl (fun a hs => y_cmp hs rfl rfl rfl) <| pT rfl rfl <| pA rfl <| ?_); clear hs a; intro a hs
      refine wpList_nil (then_normal (wp_ret ?_))
      refine fin_ret hs (.tmp (hs.slots _ _ rfl) .nil) ⟨?_, hs.mem.base⟩
      first | (rw [show mayI l = false by unfold mayI; rw [hq, decide_eq_false (show ¬ 0 ≤ lf by omega), Bool.and_false]]; rfl) | (rw [show mayI l = decide ((l.length : Int) ≤ 64) by unfold mayI; rw [hq, decide_eq_true (show 0 ≤ lf by omega), Bool.and_true]; exact decide_eq_decide.2 (by omega)]; rfl)
    replace h23 := of_decide_eq_false h23
    refine go hs (pS rfl <| pS rfl <| pS rfl <| pF rfl rfl <| pA rfl <| ?_); clear hs a; intro a hs
    refine wpList_nil (then_normal (wp_ret ?_))
    refine fin_ret hs (.tmp (hs.slots _ _ rfl) .nil) ⟨?_, hs.mem.base⟩
    first | (rw [show mayI l = false by unfold mayI; rw [hq, decide_eq_false (show ¬ 0 ≤ lf by omega), Bool.and_false]]; rfl) | (rw [show mayI l = decide ((l.length : Int) ≤ 64) by unfold mayI; rw [hq, decide_eq_true (show 0 ≤ lf by omega), Bool.and_true]; exact decide_eq_decide.2 (by omega)]; rfl)
  replace h9 := of_decide_eq_false h9
  refine go hs (pS rfl <| pS rfl <| pF rfl rfl <| ?_); clear hs a; intro a hs
  refine wpList_nil (then_normal ?_)
  refine wp_cond_false (hs.ev rfl) ?_
  refine wp_exit (then_exit (then_exit (in_here (then_normal (wp_seq ?_)))))
  have hq : (xlist itemF l 8192).1 = decide (0 ≤ lf) := by
    by_cases h0 : 0 ≤ lf
    · have h1 := hinv h0
      rw [List.drop_eq_nil_of_le (by omega), xk_nil] at h1
      rw [h1]; exact (decide_eq_true h0).symm
    rw [(hneg (by omega)).1]; exact (decide_eq_false h0).symm
  refine wp_region_lit (go hs (pM rfl <| pV rfl (fun a hs => y_cmp hs rfl rfl rfl) <| pM rfl <| ?_)); clear hs a; intro a hs
  rcases hs.know (d := 23) rfl with ⟨h23, hs1⟩ | ⟨h23, hs1⟩ <;> replace hs := hs1 <;> clear hs1
  · replace h23 := of_decide_eq_true h23
    refine go hs (pG rfl (fun a hs => y_move hs rfl) <| pG rfl (fun a hs => y_lenL hs Tryd.underlying32 rfl) <| pG rfl (fun a hs => y_cmp hs rfl rfl rfl) <| pT rfl rfl <| pA rfl <| ?_); clear hs a; intro a hs
    refine wpList_nil (then_normal (wp_ret ?_))
    refine fin_ret hs (.tmp (hs.slots _ _ rfl) .nil) ⟨?_, hs.mem.base⟩
    first | (rw [show mayI l = false by unfold mayI; rw [hq, decide_eq_false (show ¬ 0 ≤ lf by omega), Bool.and_false]]; rfl) | (rw [show mayI l = decide ((l.length : Int) ≤ 64) by unfold mayI; rw [hq, decide_eq_true (show 0 ≤ lf by omega), Bool.and_true]; exact decide_eq_decide.2 (by omega)]; rfl)
  replace h23 := of_decide_eq_false h23
  refine go hs (pS rfl <| pS rfl <| pS rfl <| pF rfl rfl <| pA rfl <| ?_); clear hs a; intro a hs
  refine wpList_nil (then_normal (wp_ret ?_))
  refine fin_ret hs (.tmp (hs.slots _ _ rfl) .nil) ⟨?_, hs.mem.base⟩
  first | (rw [show mayI l = false by unfold mayI; rw [hq, decide_eq_false (show ¬ 0 ≤ lf by omega), Bool.and_false]]; rfl) | (rw [show mayI l = decide ((l.length : Int) ≤ 64) by unfold mayI; rw [hq, decide_eq_true (show 0 ≤ lf by omega), Bool.and_true]; exact decide_eq_decide.2 (by omega)]; rfl)
end Go.Proofs.YtibaidddhmdafaaDoor.E
end
section
namespace Go.Proofs.YtibaidddhmdafaaDoor.E
open Go Go.RowKit Go.Proofs.YtibaidddhmdafaaDoorW.PrintWords Go.Proofs.YtibaidddhmdafaaDoorW.PrintLast Go.Proofs.YtibaidddhmdafaaDoorW.PrintMore Go.Proofs.YtibaidddhmdafaaDoor.PA
set_option linter.unusedVariables false
set_option linter.unusedSimpArgs false
section
variable {P : Program} {N : Nat} {w0 w : World} {σ : List (Nat × Value)} {bs : List Res} {a : Act} {K : Act → World → Prop} {Q : Exit → Act → World → Prop}
variable {x y : Operand} {t ty : TypeId} {ps : String} {af : Array Edge} {gd : Option (Nat × Bool)} {v : Value}
/-- A store into a block whose cells are one array. -/
theorem e_storeP {g j : Nat} {cur : Array Value} {tt : TypeId} {bs' : List Res} (kk : Nat) (hm : takeAt bs kk = some (pt g cur tt, bs')) (hs : St N w0 σ bs a w) (hx : ev σ x = some (.pointer (some ⟨g, j, Option.none⟩))) (hy : ev σ y = some v) (hi : (P.info? t).map (·.size) = some v.cells.size)
    (ho : v.cells.toList.all (·.oneCell') = true) (hj : j + v.cells.size ≤ cur.size) (k : ∀ (cur' : Array Value) a w, cur'.size = cur.size → (∀ q, j + v.cells.size ≤ q → cur'[q]? = cur[q]?) → St N w0 σ (pt g cur' tt :: bs') a w → K a w) : (Oper.mk Option.none (.store t x y) ty ps af gd).wp P a w K Q := by
  refine e_store (cl := overL cur.toList j v.cells.toList) kk hm hs hx hy hi ho (by simpa using hj) rfl (fun a w h => k _ a w ?_ (fun q hq => ?_) h)
  · rw [List.size_toArray, overL_len, Array.length_toList]
  · rw [← Array.getElem?_toList, ← Array.getElem?_toList, List.toList_toArray, overL_at, if_neg (by rw [Array.length_toList]; omega)]
end
theorem made_res {w0 w w1 : World} {bs : List Res} {ok : Nat → Prop} {A : Option Addr} {c : Nat} {xs : List XI} (h : H w0 bs w) (hb : Below w.heap.size w w1) (h0 : 0 < xs.length) (hR : Kd.R k45 45 w1 w.heap.size ok (.slice A xs.length c) xs) :
    ∃ D R cur gI, A = some ⟨gI, 0, none⟩ ∧ xs.length * 19 ≤ cur.size ∧ H w0 (pt gI cur 45 :: zone D R cur xs.length :: bs) w1 := by
  obtain ⟨gI, cur, e, hlo, hhi, hI, hsz, hZ⟩ := made_zone h0 hR
  refine ⟨fun g => w.heap.size ≤ g ∧ g < w1.heap.size ∧ g ≠ gI, cellsAt w1, cur, gI, e, hsz, ?_⟩
  have h1 := h.add (r := resBoth (pt gI cur 45) (zone (fun g => w.heap.size ≤ g ∧ g < w1.heap.size ∧ g ≠ gI) (cellsAt w1) cur xs.length)) hb ⟨hI, hZ⟩ (fun g hg => hg.elim (fun e => by obtain rfl : g = gI := e; exact ⟨hlo, hhi⟩) (fun e => ⟨e.1, e.2.1⟩))
  exact h1.split2 hI hZ (fun _ h => .inl h) (fun _ h => .inr h) (fun g h h2 => h2.2.2 h)
theorem way3 (l : List XI) : (mayI l = true ∧ l.length = 0) ∨ (mayI l = true ∧ 0 < l.length) ∨ mayI l = false := by
  cases h : mayI l with
  | false => exact .inr (.inr rfl)
  | true => rcases Nat.eq_zero_or_pos l.length with h1 | h1
            · exact .inl ⟨rfl, h1⟩
            · exact .inr (.inl ⟨rfl, h1⟩)
theorem zone_cell {D : Nat → Prop} {R : Nat → Array Value} {cur : Array Value} {n j g nb cb k : Nat} {v : Value} {w : World} (h : ZP D R cur n w) (hj : j < n) (hq : cur[j * 19 + 12]? = some (.slice (some ⟨g, 0, none⟩) nb cb)) (hk : k < nb) (hv : (R g)[k]? = some v) : w.cell? ⟨g, k, none⟩ = some v := by
  obtain ⟨B, nb', cb', _, h1, h2⟩ := (h j hj).2.2.2
  rw [hq] at h1
  injection h1 with h1
  injection h1 with e1 e2 e3
  subst e2
  rcases h2 with h2 | ⟨g', a, b, c, d⟩
  · omega
  · rw [← e1] at a
    obtain rfl : g = g' := by simpa using a
    simpa [World.cell?, c] using hv
set_option maxRecDepth 100000 in
theorem law_spoil (A : Option Addr) (n c : Nat) (hn : n ≤ 9223372036854775807) (bs : List Res) (w0 w : World) (h : H w0 (rowX 25 6 (.slice A n c) n :: bs) w) :
    Calls Tryd.prog 16 #[.slice A n c] w fun e w' => e = .returned (.tuple #[]) ∧ H w0 (rowX 25 6 (.slice A n c) n :: bs) w' := by
  refine calls_enter (N := 13) (n := 12) (args := [.slice A n c]) Tryd.func16 rfl rfl rfl (h) (fun a hs => ?_)
  refine wp_seq (wp_region_lit ?_)
  refine go hs (pA rfl <| ?_); clear hs a; intro a hs
  refine wpList_nil (then_normal (wp_block ?_))
  refine wp_loopN (fun m a w1 => ∃ (i : Nat), (i + m = n) ∧ St 13 w0 [(0, .slice A n c), (2, .int .i64 ((i : Nat) : Int))] (rowX 25 6 (.slice A n c) n :: bs) a w1) (n) ⟨0, by omega, ?_⟩ (fun m a w1 hJ => ?_)
  · exact (hs.mem_to hs.mem).cut _ ⟨rfl, rfl, trivial⟩
  clear hs
  obtain ⟨i, hi, hs⟩ := hJ
  refine wp_seq (wp_seq ?_)
  refine wp_region_lit (go hs (pM rfl <| pM rfl <| pV rfl (fun a hs => y_lenL hs Tryd.underlying23 rfl) <| pV rfl (fun a hs => y_cmp hs rfl rfl rfl) <| ?_)); clear hs a; intro a hs
  refine wpList_nil (then_normal ?_)
  refine wp_cond_split (hs.ev rfl) (fun h6 => ?_) (fun h6 => ?_)
  · replace h6 := of_decide_eq_true h6
    obtain ⟨g, rfl⟩ : ∃ g, A = some ⟨g, 0, none⟩ := by
      obtain ⟨xs, hx⟩ := (hs.mem.to 0 rfl).rowTold
      exact hx.rowAddr (by omega)
    refine wp_skip (then_normal (wp_seq ?_))
    refine wp_block (wp_region_lit ?_)
    refine go hs (pM rfl <| pM rfl <| pV rfl (fun a hs => y_struct (zc := #[.int .u8 0, .int .i64 0, .string ⟨#[]⟩, .slice none 0 0, .int .i64 0, .int .i64 0]) (pl := [(0, 1), (1, 1), (2, 1), (3, 1), (4, 1), (5, 1)]) (cl := [_, _, .string ⟨#[]⟩, .slice none 0 0, .int .i64 0, .int .i64 0]) hs (by kernel_rfl) rfl (by rfl) rfl) <| pV rfl (fun a hs => y_idxA (size := 6) (off := i * 6) hs Tryd.underlying23 (by kernel_rfl) rfl rfl (by omega) (by omega) (by simp)) <| ?_); clear hs a; intro a hs
    refine a_eff rfl (e_storeX 0 rfl hs rfl rfl (by kernel_rfl) rfl (by show i * 6 + 6 ≤ n * 6; omega) ?_); clear hs a; intro a w hs
    refine wpList_nil (in_normal (then_normal (wp_region_lit ?_)))
    refine go hs (pM rfl <| pV rfl (fun a hs => y_add hs rfl rfl (by omega)) <| pA rfl <| ?_); clear hs a; intro a hs
    refine wpList_nil (then_normal ?_)
    refine ⟨m - 1, by omega, i + 1, by omega, ?_⟩
    exact (hs.mem_to hs.mem).cut _ ⟨rfl, rfl, trivial⟩
  replace h6 := of_decide_eq_false h6
  refine wp_exit (then_exit (then_exit (in_here ?_)))
  refine fin_end hs .nil ⟨rfl, hs.mem⟩
theorem okS_len {D : Nat → Prop} {e size n : Nat} {w : World} {v : Value} (h : okS D e size w v n) : n ≤ 9223372036854775807 := by
  rcases h with ⟨_, rfl⟩ | ⟨_, cap, _, _, _, _, h1, h2, _⟩
  · omega
  · unfold maxLen at h2; omega
set_option maxHeartbeats 400000 in
set_option maxRecDepth 100000 in
theorem law_TreeFresh (A : Option Addr) (c : Nat) (l : List XI) (v0 : World) (hA : Kd.C k45 v0 A l.length l) (hsl : ∀ p ∈ l, smallI p) (hP : Pow10 v0) :
    Calls Tryd.prog 4 #[.slice A l.length c] v0 fun e w' => e = .returned (.bool true) ∧ Below v0.heap.size v0 w' := by
  refine calls_enter (N := 95) (n := 94) (args := [.slice A l.length c]) Tryd.func4 rfl rfl rfl (H.init v0) (fun a hs => ?_)
  have hcl := C_len hA
  refine wp_seq (wp_region_lit ?_)
  refine go hs (pA rfl <| ?_); clear hs a; intro a hs
  refine wpList_nil (then_normal (wp_seq ?_))
  rcases way3 l with ⟨hm, hne⟩ | ⟨hm, hne⟩ | hm
  · have hlm : (l.map bareI).length = l.length := List.length_map _
    refine wp_region_lit (go hs (pM rfl <| ?_)); clear hs a; intro a hs
    refine a_eff rfl (e_callX Tryd.func14 rfl rfl hs rfl rfl (tree_Strip A c l _ (Kd.C_below hA hs.mem.base) hsl) (fun e w1 ⟨hb, _, h2⟩ => let ⟨A1, c1, he, hR⟩ := h2 hm; ⟨_, he, _, hs.mem.grow hb, ?_⟩)); clear hs a; intro a hs
    refine go hs (pM rfl <| pV rfl (fun a hs => y_extract hs rfl rfl) <| pV rfl (fun a hs => y_extract hs rfl rfl) <| pA rfl <| pA rfl <| ?_); clear hs a; intro a hs
    refine wpList_nil (then_normal (wp_seq ?_))
    refine wp_region_lit (go hs (pM rfl <| ?_)); clear hs a; intro a hs
    refine a_eff rfl (e_callB Tryd.func15 rfl rfl hs rfl rfl (tree_Text A c l _ (Kd.C_below hA hs.mem.base) hsl (varKeep hs.mem.base hP)) ?_); clear hs a; intro a w hs
    refine go hs (pM rfl <| pV rfl (fun a hs => y_extract hs rfl rfl) <| pV rfl (fun a hs => y_extract hs rfl rfl) <| pA rfl <| pA rfl <| ?_); clear hs a; intro a hs
    refine wpList_nil (then_normal (wp_seq ?_))
    refine wp_seq (wp_region_lit ?_)
    refine go hs (pA rfl <| ?_); clear hs a; intro a hs
    refine wpList_nil (then_normal (wp_block ?_))
    refine wp_loopN (fun m a w1 => St 95 v0 [(0, .slice A l.length c), (3, .slice A1 (l.map bareI).length c1), (4, .int .i64 0), (5, .string (textsI l).1), (6, .int .i64 (textsI l).2), (7, .int .i64 0)] [] a w1) (0) ?_ (fun m a w1 hJ => ?_)
    · exact (hs.mem_to hs.mem).cut _ ⟨rfl, rfl, rfl, rfl, rfl, rfl, trivial⟩
    clear hs
    have hs := hJ
    clear hJ
    refine wp_seq (wp_seq ?_)
    refine wp_region_lit (go hs (pM rfl <| pM rfl <| pV rfl (fun a hs => y_lenL hs Tryd.underlying32 rfl) <| pV rfl (fun a hs => y_cmp (b := false) hs rfl rfl (congrArg some (decide_eq_false (by omega)))) <| ?_)); clear hs a; intro a hs
    refine wpList_nil (then_normal ?_)
    refine wp_cond_false (hs.ev rfl) ?_
    refine wp_exit (then_exit (then_exit (in_here (then_normal (wp_seq ?_)))))
    refine wp_region_lit (go hs (pM rfl <| ?_)); clear hs a; intro a hs
    refine a_eff rfl (e_callB Tryd.func15 rfl rfl hs rfl rfl (tree_Text A c l _ (Kd.C_below hA hs.mem.base) hsl (varKeep hs.mem.base hP)) ?_); clear hs a; intro a w hs
    refine go hs (pM rfl <| pV rfl (fun a hs => y_extract hs rfl rfl) <| pV rfl (fun a hs => y_extract hs rfl rfl) <| pA rfl <| pA rfl <| ?_); clear hs a; intro a hs
    refine wpList_nil (then_normal (wp_seq ?_))
    refine wp_region_lit ?_
    refine a_eff rfl (e_callB Tryd.func12 rfl rfl hs rfl rfl (law_anchored _ (varKeep hs.mem.base hP)) ?_); clear hs a; intro a w hs
    refine go hs (pM rfl <| pG rfl (fun a hs => y_move hs rfl) <| pG rfl (fun a hs => y_move hs rfl) <| pG rfl (fun a hs => y_seqB (b := true) hs rfl rfl (beq_self_eq_true _)) <| pT rfl rfl <| pM rfl <| pG rfl (fun a hs => y_move hs rfl) <| pG rfl (fun a hs => y_move hs rfl) <| pG rfl (fun a hs => y_cmp (b := true) hs rfl rfl (congrArg some (beq_iff_eq.2 rfl))) <| pT rfl rfl <| pM rfl <| pG rfl (fun a hs => y_move hs rfl) <| pG rfl (fun a hs => y_cmp (b := true) hs rfl rfl (congrArg some (rfl))) <| pG rfl (fun a hs => y_move hs rfl) <| ?_); clear hs a; intro a hs
    refine a_effG hs rfl (e_callB Tryd.func17 rfl rfl hs rfl rfl (by have h := ref_May A c l _ (Kd.C_below hA hs.mem.base) hsl; rw [hm] at h; exact h) ?_); clear hs a; intro a w hs
    refine go hs (pG rfl (fun a hs => y_beqB (c := true) hs Tryd.underlying4 rfl rfl rfl) <| pT rfl rfl <| pA rfl <| ?_); clear hs a; intro a hs
    refine wpList_nil (then_normal (wp_ret ?_))
    refine fin_ret hs (.tmp (hs.slots _ _ rfl) .nil) ⟨rfl, hs.mem.base⟩
  · refine wp_region_lit (go hs (pM rfl <| ?_)); clear hs a; intro a hs
    refine a_eff rfl (e_callX Tryd.func14 rfl rfl hs rfl rfl (tree_Strip A c l _ (Kd.C_below hA hs.mem.base) hsl) (fun e w1 ⟨hb, _, h2⟩ => let ⟨A1, c1, he, hR⟩ := h2 hm; let ⟨D, RR, cur0, gI, hAI, hsz, hm2⟩ := made_res hs.mem hb (by rw [List.length_map]; exact hne) hR; ⟨_, he, _, hm2, ?_⟩)); clear hs a; intro a hs
    subst hAI
    refine go hs (pM rfl <| pV rfl (fun a hs => y_extract hs rfl rfl) <| pV rfl (fun a hs => y_extract hs rfl rfl) <| pA rfl <| pA rfl <| ?_); clear hs a; intro a hs
    refine wpList_nil (then_normal (wp_seq ?_))
    refine wp_region_lit (go hs (pM rfl <| ?_)); clear hs a; intro a hs
    refine a_eff rfl (e_callB Tryd.func15 rfl rfl hs rfl rfl (tree_Text A c l _ (Kd.C_below hA hs.mem.base) hsl (varKeep hs.mem.base hP)) ?_); clear hs a; intro a w hs
    refine go hs (pM rfl <| pV rfl (fun a hs => y_extract hs rfl rfl) <| pV rfl (fun a hs => y_extract hs rfl rfl) <| pA rfl <| pA rfl <| ?_); clear hs a; intro a hs
    refine wpList_nil (then_normal (wp_seq ?_))
    refine wp_seq (wp_region_lit ?_)
    refine go hs (pA rfl <| ?_); clear hs a; intro a hs
    refine wpList_nil (then_normal (wp_block ?_))
    have hlm : (l.map bareI).length = l.length := List.length_map _
    have hlm2 := hlm
    refine wp_loopN (fun m a w1 => ∃ (i : Nat) (cur : Array Value), (i + m = (l.map bareI).length) ∧ (cur.size = cur0.size) ∧ (∀ q, i * 19 ≤ q → cur[q]? = cur0[q]?) ∧ St 95 v0 [(0, .slice A l.length c), (3, .slice (some ⟨gI, 0, none⟩) (l.map bareI).length c1), (4, .int .i64 0), (5, .string (textsI l).1), (6, .int .i64 (textsI l).2), (7, .int .i64 ((i : Nat) : Int))] [pt gI cur 45, zone D RR cur0 (l.map bareI).length] a w1) ((l.map bareI).length) ⟨0, cur0, by omega, rfl, fun _ _ => rfl, ?_⟩ (fun m a w1 hJ => ?_)
    · exact (hs.mem_to ((hs.mem.to 1 rfl).to 1 rfl)).cut _ ⟨rfl, rfl, rfl, rfl, rfl, rfl, trivial⟩
    clear hs
    obtain ⟨i, cur, hi, hcs, hcu, hs⟩ := hJ
    refine wp_seq (wp_seq ?_)
    refine wp_region_lit (go hs (pM rfl <| pM rfl <| pV rfl (fun a hs => y_lenL hs Tryd.underlying32 rfl) <| pV rfl (fun a hs => y_cmp hs rfl rfl rfl) <| ?_)); clear hs a; intro a hs
    refine wpList_nil (then_normal ?_)
    refine wp_cond_split (hs.ev rfl) (fun h24 => ?_) (fun h24 => ?_)
    · replace h24 := of_decide_eq_true h24
      have hin : i < (l.map bareI).length := by omega
      refine wp_skip (then_normal (wp_seq ?_))
      refine wp_block (wp_seq ?_)
      have hz := ((hs.mem.to 1 rfl).own _ (.head _)).1
      obtain ⟨B5, n5, b5, hd5, ho5⟩ := (hz i hin).1
      have hc5 : cur[i * 19 + 5]? = _ := (hcu _ (by omega)).trans hd5
      clear hz
      refine wp_region_lit (go hs (pM rfl <| pM rfl <| pV rfl (fun a hs => y_idxA (size := 19) (off := i * 19) hs Tryd.underlying32 (by kernel_rfl) rfl rfl (by omega) (by omega) (by simp)) <| pV rfl (fun a hs => y_faddr (k' := i * 19 + 2) 2 hs (by kernel_rfl) rfl rfl) <| pV rfl (fun a hs => y_faddr (k' := i * 19 + 5) 3 hs (by kernel_rfl) rfl rfl) <| pV rfl (fun a hs => y_load (v := .slice B5 n5 b5) hs Tryd.underlying23 rfl rfl (fun w hw => ((hw.to 0 rfl).cell).trans hc5)) <| ?_)); clear hs a; intro a hs
      refine a_eff rfl (e_callX Tryd.func16 rfl rfl hs rfl rfl (reg_call (e := 25) (size := 6) (fun g0 w w' hD h hz => ZP_same _ _ _ _ g0 w w' hD h hz) (fun bs w h => law_spoil B5 n5 b5 (okS_len ho5) bs v0 w h) ho5 (hs.mem.to 1 rfl)) (fun e w1 ⟨he, hm1⟩ => ⟨_, he, _, hm1, ?_⟩)); clear hs a; intro a hs
      refine wpList_nil (then_normal (wp_seq ?_))
      have hz := ((hs.mem.to 0 rfl).own _ (.head _)).1
      obtain ⟨B10, n10, b10, hd10, ho10⟩ := (hz i hin).2.1
      have hc10 : cur[i * 19 + 10]? = _ := (hcu _ (by omega)).trans hd10
      clear hz
      refine wp_region_lit (go hs (pM rfl <| pM rfl <| pV rfl (fun a hs => y_idxA (size := 19) (off := i * 19) hs Tryd.underlying32 (by kernel_rfl) rfl rfl (by omega) (by omega) (by simp)) <| pV rfl (fun a hs => y_faddr (k' := i * 19 + 8) 8 hs (by kernel_rfl) rfl rfl) <| pV rfl (fun a hs => y_faddr (k' := i * 19 + 10) 2 hs (by kernel_rfl) rfl rfl) <| pV rfl (fun a hs => y_load (v := .slice B10 n10 b10) hs Tryd.underlying23 rfl rfl (fun w hw => ((hw.to 1 rfl).cell).trans hc10)) <| ?_)); clear hs a; intro a hs
      refine a_eff rfl (e_callX Tryd.func16 rfl rfl hs rfl rfl (reg_call (e := 25) (size := 6) (fun g0 w w' hD h hz => ZP_same _ _ _ _ g0 w w' hD h hz) (fun bs w h => law_spoil B10 n10 b10 (okS_len ho10) bs v0 w h) ho10 hs.mem) (fun e w1 ⟨he, hm1⟩ => ⟨_, he, _, hm1, ?_⟩)); clear hs a; intro a hs
      refine wpList_nil (then_normal (wp_seq ?_))
      have hz := ((hs.mem.to 0 rfl).own _ (.head _)).1
      obtain ⟨B16, n16, b16, hd16, ho16⟩ := (hz i hin).2.2.1
      have hc16 : cur[i * 19 + 16]? = _ := (hcu _ (by omega)).trans hd16
      clear hz
      refine wp_region_lit (go hs (pM rfl <| pM rfl <| pV rfl (fun a hs => y_idxA (size := 19) (off := i * 19) hs Tryd.underlying32 (by kernel_rfl) rfl rfl (by omega) (by omega) (by simp)) <| pV rfl (fun a hs => y_faddr (k' := i * 19 + 16) 16 hs (by kernel_rfl) rfl rfl) <| pV rfl (fun a hs => y_load (v := .slice B16 n16 b16) hs Tryd.underlying23 rfl rfl (fun w hw => ((hw.to 1 rfl).cell).trans hc16)) <| ?_)); clear hs a; intro a hs
      refine a_eff rfl (e_callX Tryd.func16 rfl rfl hs rfl rfl (reg_call (e := 25) (size := 6) (fun g0 w w' hD h hz => ZP_same _ _ _ _ g0 w w' hD h hz) (fun bs w h => law_spoil B16 n16 b16 (okS_len ho16) bs v0 w h) ho16 hs.mem) (fun e w1 ⟨he, hm1⟩ => ⟨_, he, _, hm1, ?_⟩)); clear hs a; intro a hs
      refine wpList_nil (then_normal (wp_seq ?_))
      refine wp_seq ?_
      have hz := ((hs.mem.to 0 rfl).own _ (.head _)).1
      obtain ⟨B12, n12, b12, hb12, hd12, _⟩ := (hz i hin).2.2.2
      have hc12 : cur[i * 19 + 12]? = _ := (hcu _ (by omega)).trans hd12
      clear hz
      refine wp_region_lit (go hs (pA rfl <| ?_)); clear hs a; intro a hs
      refine wpList_nil (then_normal (wp_block ?_))
      refine wp_loopN (fun m2 a w1 => ∃ (k : Nat), (k + m2 = n12) ∧ St 95 v0 [(0, .slice A l.length c), (3, .slice (some ⟨gI, 0, none⟩) (l.map bareI).length c1), (4, .int .i64 0), (5, .string (textsI l).1), (6, .int .i64 (textsI l).2), (7, .int .i64 ((i : Nat) : Int)), (8, .int .i64 ((k : Nat) : Int))] [pt gI cur 45, zone D RR cur0 (l.map bareI).length] a w1) (n12) ⟨0, by omega, ?_⟩ (fun m2 a w1 hJ => ?_)
      · exact (hs.mem_to (hs.mem.to 1 rfl)).cut _ ⟨rfl, rfl, rfl, rfl, rfl, rfl, rfl, trivial⟩
      clear hs
      obtain ⟨k, hkk, hs⟩ := hJ
      refine wp_seq (wp_seq ?_)
      refine wp_region_lit (go hs (pM rfl <| pM rfl <| pM rfl <| pV rfl (fun a hs => y_idxA (size := 19) (off := i * 19) hs Tryd.underlying32 (by kernel_rfl) rfl rfl (by omega) (by omega) (by simp)) <| pV rfl (fun a hs => y_faddr (k' := i * 19 + 8) 8 hs (by kernel_rfl) rfl rfl) <| pV rfl (fun a hs => y_faddr (k' := i * 19 + 12) 4 hs (by kernel_rfl) rfl rfl) <| pV rfl (fun a hs => y_load (v := .slice B12 n12 b12) hs Tryd.underlying40 rfl rfl (fun w hw => ((hw.to 0 rfl).cell).trans hc12)) <| pV rfl (fun a hs => y_lenL hs Tryd.underlying40 rfl) <| pV rfl (fun a hs => y_cmp hs rfl rfl rfl) <| ?_)); clear hs a; intro a hs
      refine wpList_nil (then_normal ?_)
      refine wp_cond_split (hs.ev rfl) (fun h55 => ?_) (fun h55 => ?_)
      · replace h55 := of_decide_eq_true h55
        refine wp_skip (then_normal (wp_seq ?_))
        refine wp_block ?_
        have hz := ((hs.mem.to 1 rfl).own _ (.head _)).1
        obtain ⟨Bq, nq, bq, _, hdq, hq⟩ := (hz i hin).2.2.2
        rw [hd12] at hdq
        injection hdq with hdq
        injection hdq with q1 q2 q3
        subst q1 q2 q3
        obtain ⟨g12, rfl, _, _, hrow⟩ := hq.resolve_left (by omega)
        obtain ⟨B, nb, cb, hv, ho⟩ := hrow k (by omega)
        have hk2 : k < n12 := by omega
        have hc0 := hd12
        clear hz hq
        refine wp_region_lit (go hs (pM rfl <| pM rfl <| pV rfl (fun a hs => y_idxA (size := 19) (off := i * 19) hs Tryd.underlying32 (by kernel_rfl) rfl rfl (by omega) (by omega) (by simp)) <| pV rfl (fun a hs => y_faddr (k' := i * 19 + 8) 8 hs (by kernel_rfl) rfl rfl) <| pV rfl (fun a hs => y_faddr (k' := i * 19 + 12) 4 hs (by kernel_rfl) rfl rfl) <| pV rfl (fun a hs => y_load (v := .slice (some ⟨g12, 0, none⟩) n12 b12) hs Tryd.underlying40 rfl rfl (fun w hw => ((hw.to 0 rfl).cell).trans hc12)) <| pM rfl <| pV rfl (fun a hs => y_idxA (size := 1) (off := k) hs Tryd.underlying40 (by kernel_rfl) rfl rfl (by omega) (by omega) (by simp)) <| pV rfl (fun a hs => y_load (v := .slice B nb cb) hs Tryd.underlying23 rfl rfl (fun w hw => zone_cell ((hw.to 1 rfl).own _ (.head _)).1 hin hc0 hk2 hv)) <| ?_)); clear hs a; intro a hs
        refine a_eff rfl (e_callX Tryd.func16 rfl rfl hs rfl rfl (reg_call (e := 25) (size := 6) (fun g0 w w' hD h hz => ZP_same _ _ _ _ g0 w w' hD h hz) (fun bs w h => law_spoil B nb cb (okS_len ho) bs v0 w h) ho (hs.mem.to 1 rfl)) (fun e w1 ⟨he, hm1⟩ => ⟨_, he, _, hm1, ?_⟩)); clear hs a; intro a hs
        refine wpList_nil (in_normal (then_normal (wp_region_lit ?_)))
        refine go hs (pM rfl <| pV rfl (fun a hs => y_add hs rfl rfl (by omega)) <| pA rfl <| ?_); clear hs a; intro a hs
        refine wpList_nil (then_normal ?_)
        refine ⟨m2 - 1, by omega, k + 1, by omega, ?_⟩
        exact (hs.mem_to (hs.mem.to 1 rfl)).cut _ ⟨rfl, rfl, rfl, rfl, rfl, rfl, rfl, trivial⟩
      replace h55 := of_decide_eq_false h55
      refine wp_exit (then_exit (then_exit (in_here (then_normal (wp_region_lit ?_)))))
      refine go hs (pM rfl <| pM rfl <| pV rfl (fun a hs => y_struct (zc := #[.int .u8 0, .string ⟨#[]⟩, .int .u8 0, .int .i64 0, .string ⟨#[]⟩, .slice none 0 0, .int .i64 0, .int .i64 0, .int .u8 0, .string ⟨#[]⟩, .slice none 0 0, .slice none 0 0, .slice none 0 0, .int .i64 0, .int .i64 0, .int .u8 0, .slice none 0 0, .int .i64 0, .int .i64 0]) (pl := [(0, 1), (1, 1), (2, 6), (8, 7), (15, 1), (16, 1), (17, 1), (18, 1)]) (cl := [.int .u8 0, .string ⟨#[]⟩, .int .u8 0, .int .i64 0, .string ⟨#[]⟩, .slice none 0 0, .int .i64 0, .int .i64 0, .int .u8 0, .string ⟨#[]⟩, .slice none 0 0, .slice none 0 0, .slice none 0 0, .int .i64 0, .int .i64 0, .int .u8 0, .slice none 0 0, .int .i64 0, .int .i64 0]) hs (by kernel_rfl) rfl (by rfl) rfl) <| pV rfl (fun a hs => y_idxA (size := 19) (off := i * 19) hs Tryd.underlying32 (by kernel_rfl) rfl rfl (by omega) (by omega) (by simp)) <| ?_); clear hs a; intro a hs
      refine a_eff rfl (e_storeP 0 rfl hs rfl rfl (by kernel_rfl) rfl (by show i * 19 + 19 ≤ cur.size; omega) ?_); clear hs a; intro cur2 a w hc1 hc2 hs
      refine wpList_nil (in_normal (then_normal (wp_region_lit ?_)))
      refine go hs (pM rfl <| pV rfl (fun a hs => y_add hs rfl rfl (by omega)) <| pA rfl <| ?_); clear hs a; intro a hs
      refine wpList_nil (then_normal ?_)
      refine ⟨m - 1, by omega, i + 1, cur2, by omega, hc1.trans hcs, fun q hq => (hc2 q (by show i * 19 + 19 ≤ q; omega)).trans (hcu q (by omega)), ?_⟩
      exact (hs.mem_to ((hs.mem.to 1 rfl).to 1 rfl)).cut _ ⟨rfl, rfl, rfl, rfl, rfl, rfl, trivial⟩
    replace h24 := of_decide_eq_false h24
    refine wp_exit (then_exit (then_exit (in_here (then_normal (wp_seq ?_)))))
    refine wp_region_lit (go hs (pM rfl <| ?_)); clear hs a; intro a hs
    refine a_eff rfl (e_callB Tryd.func15 rfl rfl hs rfl rfl (tree_Text A c l _ (Kd.C_below hA hs.mem.base) hsl (varKeep hs.mem.base hP)) ?_); clear hs a; intro a w hs
    refine go hs (pM rfl <| pV rfl (fun a hs => y_extract hs rfl rfl) <| pV rfl (fun a hs => y_extract hs rfl rfl) <| pA rfl <| pA rfl <| ?_); clear hs a; intro a hs
    refine wpList_nil (then_normal (wp_seq ?_))
    refine wp_region_lit ?_
    refine a_eff rfl (e_callB Tryd.func12 rfl rfl hs rfl rfl (law_anchored _ (varKeep hs.mem.base hP)) ?_); clear hs a; intro a w hs
    refine go hs (pM rfl <| pG rfl (fun a hs => y_move hs rfl) <| pG rfl (fun a hs => y_move hs rfl) <| pG rfl (fun a hs => y_seqB (b := true) hs rfl rfl (beq_self_eq_true _)) <| pT rfl rfl <| pM rfl <| pG rfl (fun a hs => y_move hs rfl) <| pG rfl (fun a hs => y_move hs rfl) <| pG rfl (fun a hs => y_cmp (b := true) hs rfl rfl (congrArg some (beq_iff_eq.2 rfl))) <| pT rfl rfl <| pM rfl <| pG rfl (fun a hs => y_move hs rfl) <| pG rfl (fun a hs => y_cmp (b := true) hs rfl rfl (congrArg some (rfl))) <| pG rfl (fun a hs => y_move hs rfl) <| ?_); clear hs a; intro a hs
    refine a_effG hs rfl (e_callB Tryd.func17 rfl rfl hs rfl rfl (by have h := ref_May A c l _ (Kd.C_below hA hs.mem.base) hsl; rw [hm] at h; exact h) ?_); clear hs a; intro a w hs
    refine go hs (pG rfl (fun a hs => y_beqB (c := true) hs Tryd.underlying4 rfl rfl rfl) <| pT rfl rfl <| pA rfl <| ?_); clear hs a; intro a hs
    refine wpList_nil (then_normal (wp_ret ?_))
    refine fin_ret hs (.tmp (hs.slots _ _ rfl) .nil) ⟨rfl, hs.mem.base⟩
  refine wp_region_lit (go hs (pM rfl <| ?_)); clear hs a; intro a hs
  refine a_eff rfl (e_callX Tryd.func14 rfl rfl hs rfl rfl (tree_Strip A c l _ (Kd.C_below hA hs.mem.base) hsl) (fun e w1 ⟨hb, h1, _⟩ => ⟨_, h1 hm, _, hs.mem.grow hb, ?_⟩)); clear hs a; intro a hs
  refine go hs (pM rfl <| pV rfl (fun a hs => y_extract hs rfl rfl) <| pV rfl (fun a hs => y_extract hs rfl rfl) <| pA rfl <| pA rfl <| ?_); clear hs a; intro a hs
  refine wpList_nil (then_normal (wp_seq ?_))
  refine wp_region_lit (go hs (pM rfl <| ?_)); clear hs a; intro a hs
  refine a_eff rfl (e_callB Tryd.func15 rfl rfl hs rfl rfl (tree_Text A c l _ (Kd.C_below hA hs.mem.base) hsl (varKeep hs.mem.base hP)) ?_); clear hs a; intro a w hs
  refine go hs (pM rfl <| pV rfl (fun a hs => y_extract hs rfl rfl) <| pV rfl (fun a hs => y_extract hs rfl rfl) <| pA rfl <| pA rfl <| ?_); clear hs a; intro a hs
  refine wpList_nil (then_normal (wp_seq ?_))
  refine wp_seq (wp_region_lit ?_)
  refine go hs (pA rfl <| ?_); clear hs a; intro a hs
  refine wpList_nil (then_normal (wp_block ?_))
  refine wp_loopN (fun m a w1 => St 95 v0 [(0, .slice A l.length c), (3, .slice none 0 0), (4, .int .i64 2), (5, .string (textsI l).1), (6, .int .i64 (textsI l).2), (7, .int .i64 0)] [] a w1) (0) ?_ (fun m a w1 hJ => ?_)
  · exact (hs.mem_to hs.mem).cut _ ⟨rfl, rfl, rfl, rfl, rfl, rfl, trivial⟩
  clear hs
  have hs := hJ
  clear hJ
  refine wp_seq (wp_seq ?_)
  refine wp_region_lit (go hs (pM rfl <| pM rfl <| pV rfl (fun a hs => y_lenL hs Tryd.underlying32 rfl) <| pV rfl (fun a hs => y_cmp (b := false) hs rfl rfl (congrArg some (decide_eq_false (by omega)))) <| ?_)); clear hs a; intro a hs
  refine wpList_nil (then_normal ?_)
  refine wp_cond_false (hs.ev rfl) ?_
  refine wp_exit (then_exit (then_exit (in_here (then_normal (wp_seq ?_)))))
  refine wp_region_lit (go hs (pM rfl <| ?_)); clear hs a; intro a hs
  refine a_eff rfl (e_callB Tryd.func15 rfl rfl hs rfl rfl (tree_Text A c l _ (Kd.C_below hA hs.mem.base) hsl (varKeep hs.mem.base hP)) ?_); clear hs a; intro a w hs
  refine go hs (pM rfl <| pV rfl (fun a hs => y_extract hs rfl rfl) <| pV rfl (fun a hs => y_extract hs rfl rfl) <| pA rfl <| pA rfl <| ?_); clear hs a; intro a hs
  refine wpList_nil (then_normal (wp_seq ?_))
  refine wp_region_lit ?_
  refine a_eff rfl (e_callB Tryd.func12 rfl rfl hs rfl rfl (law_anchored _ (varKeep hs.mem.base hP)) ?_); clear hs a; intro a w hs
  refine go hs (pM rfl <| pG rfl (fun a hs => y_move hs rfl) <| pG rfl (fun a hs => y_move hs rfl) <| pG rfl (fun a hs => y_seqB (b := true) hs rfl rfl (beq_self_eq_true _)) <| pT rfl rfl <| pM rfl <| pG rfl (fun a hs => y_move hs rfl) <| pG rfl (fun a hs => y_move hs rfl) <| pG rfl (fun a hs => y_cmp (b := true) hs rfl rfl (congrArg some (beq_iff_eq.2 rfl))) <| pT rfl rfl <| pM rfl <| pG rfl (fun a hs => y_move hs rfl) <| pG rfl (fun a hs => y_cmp (b := false) hs rfl rfl (congrArg some (rfl))) <| pG rfl (fun a hs => y_move hs rfl) <| ?_); clear hs a; intro a hs
  refine a_effG hs rfl (e_callB Tryd.func17 rfl rfl hs rfl rfl (by have h := ref_May A c l _ (Kd.C_below hA hs.mem.base) hsl; rw [hm] at h; exact h) ?_); clear hs a; intro a w hs
  refine go hs (pG rfl (fun a hs => y_beqB (c := true) hs Tryd.underlying4 rfl rfl rfl) <| pT rfl rfl <| pA rfl <| ?_); clear hs a; intro a hs
  refine wpList_nil (then_normal (wp_ret ?_))
  refine fin_ret hs (.tmp (hs.slots _ _ rfl) .nil) ⟨rfl, hs.mem.base⟩
end Go.Proofs.YtibaidddhmdafaaDoor.E
end
