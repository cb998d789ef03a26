/- What YtibaidddhmdafaaDoorRTreeMays's proof reaches of its texts, part 16. Conditions: as each says. -/
import Derived.ArgAppend
import Derived.Below
import Derived.BigCall
import Derived.BigQuiet
import Derived.Deep.AppendLies
import Derived.Deep.CutBlock
import Derived.Deep.DeepCutAuto
import Derived.Deep.Draws
import Derived.Deep.LoopGhost
import Derived.Deep.OwnRows
import Derived.Deep.QuietTactic
import Derived.Deep.RegionHeld3
import Derived.Deep.WholeRow
import Derived.KernelRfl
import Derived.Laws.AppendOwn
import Derived.Laws.BitsLemmas
import Derived.Laws.BytesArg
import Derived.Laws.CopyRow
import Derived.Laws.Externs
import Derived.Laws.IdiomCopy
import Derived.Laws.MakeOwn
import Derived.Laws.OwnMore
import Derived.Laws.Rows
import Derived.Laws.Slices
import Derived.Laws.StructEq
import Derived.Laws.Tables
import Derived.Lib.AppendStr
import Derived.Lib.Builder
import Derived.Lib.Bytealg
import Derived.Lib.ConvBytes
import Derived.Lib.ItoaLen
import Derived.Lib.ItoaMem
import Derived.Lib.LaidTab
import Derived.Lib.Strings
import Derived.Lib.Walk
import Derived.Maps.AppendAt
import Derived.OrdersHeld
import Derived.OwnWalk
import Derived.RowKit
import Derived.RowKit3
import Derived.ScopeJumps
import Derived.Shelf.LaysM
import Derived.Shelf.Strconv.Itoa3
import Derived.Shelf.Strings.Builder1
import Derived.Sort.Grow
import Derived.Tactics
import Derived.Test.YtibaidddhmdafaaDoorProg
import Derived.WalkKit
import Derived.WideLaws
import Derived.Test.YtibaidddhmdafaaDoorZTreeMays15
section
namespace Go.Proofs.YtibaidddhmdafaaDoor.E
open Go Go.RowKit Go.Proofs.YtibaidddhmdafaaDoorW.PrintWords Go.Proofs.YtibaidddhmdafaaDoorW.PrintLast Go.Proofs.YtibaidddhmdafaaDoorW.PrintMore Go.Proofs.YtibaidddhmdafaaDoor.PA
set_option linter.unusedVariables false
set_option linter.unusedSimpArgs false
set_option maxRecDepth 100000 in
theorem tree_side (n : Nat) (v0 : World) :
    Calls Tryd.prog 81 #[.int .i64 ((n : Nat) : Int)] v0 fun e w' => e = .returned (.bool (decide (1 ≤ n ∧ n ≤ 64))) ∧ Below v0.heap.size v0 w' := by
  refine calls_enter (N := 9) (n := 8) (args := [.int .i64 ((n : Nat) : Int)]) Tryd.func81 rfl rfl rfl (H.init v0) (fun a hs => ?_)
  refine wp_seq ?_
  refine wp_region_lit ?_
  refine a_val hs rfl rfl rfl (y_assign hs rfl) ?_; clear hs a; intro a hs
  refine wpList_nil (then_normal ?_)
  refine wp_seq ?_
  refine wp_region_lit ?_
  refine a_val hs rfl rfl rfl (y_move hs rfl) ?_; clear hs a; intro a hs
  refine a_val hs rfl rfl rfl (y_cmp hs rfl rfl rfl) ?_; clear hs a; intro a hs
  refine a_val hs rfl rfl rfl (y_move hs rfl) ?_; clear hs a; intro a hs
  rcases hs.know (d := 5) rfl with ⟨h5, hs1⟩ | ⟨h5, hs1⟩ <;> replace hs := hs1 <;> clear hs1
  · replace h5 := of_decide_eq_true h5
    refine a_valG hs rfl rfl rfl (y_move hs rfl) ?_; clear hs a; intro a hs
    refine a_valG hs rfl rfl rfl (y_cmp hs rfl rfl rfl) ?_; clear hs a; intro a hs
    refine a_val hs rfl rfl rfl (y_pickT hs rfl rfl rfl) ?_; clear hs a; intro a hs
    refine a_val hs rfl rfl rfl (y_assign hs rfl) ?_; clear hs a; intro a hs
    refine wpList_nil (then_normal ?_)
    refine wp_ret ?_
    refine fin_ret hs (.tmp (hs.slots _ _ rfl) .nil) ⟨?_, hs.mem.base⟩
    first | (rw [decide_eq_false (show ¬ (1 ≤ n ∧ n ≤ 64) by omega)]; rfl) | (rw [← decide_eq_decide.2 (show (n : Int) ≤ 64 ↔ (1 ≤ n ∧ n ≤ 64) by omega)]; rfl)
  · replace h5 := of_decide_eq_false h5
    refine a_skip hs rfl rfl rfl ?_; clear hs a; intro a hs
    refine a_skip hs rfl rfl rfl ?_; clear hs a; intro a hs
    refine a_val hs rfl rfl rfl (y_pickF hs rfl rfl rfl) ?_; clear hs a; intro a hs
    refine a_val hs rfl rfl rfl (y_assign hs rfl) ?_; clear hs a; intro a hs
    refine wpList_nil (then_normal ?_)
    refine wp_ret ?_
    refine fin_ret hs (.tmp (hs.slots _ _ rfl) .nil) ⟨?_, hs.mem.base⟩
    first | (rw [decide_eq_false (show ¬ (1 ≤ n ∧ n ≤ 64) by omega)]; rfl) | (rw [← decide_eq_decide.2 (show (n : Int) ≤ 64 ↔ (1 ≤ n ∧ n ≤ 64) by omega)]; rfl)
set_option maxRecDepth 100000 in
theorem walk_rows (g : Nat) (A : Option Addr) (c : Nat) (l : List (List XE)) (left : Int) (bs : List Res) (w0 w : World) (hA : Kd.C (Kd.slice 25 k25) w0 A l.length l) (hsm : ∀ r ∈ l, ∀ p ∈ r, smallX 16 p) (hl : 0 ≤ left ∧ left ≤ 8192) (h : H w0 (pt g #[.int .i64 (left)] 102 :: bs) w) :
    Calls Tryd.prog 76 #[.pointer (some ⟨g, 0, none⟩), .slice A l.length c] w fun e w' => e = .returned (.bool (rowsF l left).1) ∧ H w0 (pt g #[.int .i64 ((rowsF l left).2)] 102 :: bs) w' := by
  refine calls_enter (N := 28) (n := 26) (args := [.pointer (some ⟨g, 0, none⟩), .slice A l.length c]) Tryd.func76 rfl rfl rfl (h) (fun a hs => ?_)
  have hcl := C_len hA
  refine wp_seq ?_
  refine wp_region_lit ?_
  refine a_val hs rfl rfl rfl (y_assign hs rfl) ?_; clear hs a; intro a hs
  refine wpList_nil (then_normal ?_)
  refine wp_seq ?_
  refine wp_seq ?_
  refine wp_region_lit ?_
  refine a_val hs rfl rfl rfl (y_move hs rfl) ?_; clear hs a; intro a hs
  refine a_val hs rfl rfl rfl (y_lenL hs Tryd.underlying40 rfl) ?_; clear hs a; intro a hs
  refine a_eff rfl (e_callB Tryd.func81 rfl rfl hs rfl rfl (tree_side l.length _) ?_); clear hs a; intro a w hs
  refine a_val hs rfl rfl rfl (y_not hs rfl) ?_; clear hs a; intro a hs
  refine wpList_nil (then_normal ?_)
  refine wp_cond_split (hs.ev rfl) (fun h10 => ?_) (fun h10 => ?_)
  · replace h10 := of_decide_eq_false (not_t h10)
    refine wp_seq ?_
    refine wp_region_lit ?_
    refine a_val hs rfl rfl rfl (y_assign hs rfl) ?_; clear hs a; intro a hs
    refine wpList_nil (then_normal ?_)
    refine wp_ret (then_ret ?_)
    have hX : rowsF l left = (false, left) := by unfold rowsF; rw [if_neg (by omega)]
    refine fin_ret hs (.tmp (hs.slots _ _ rfl) .nil) ⟨?_, ?_⟩
    · rw [hX]; rfl
    · rw [hX]; exact hs.mem
  · replace h10 := of_decide_eq_true (not_f h10)
    refine wp_skip (then_normal ?_)
    refine wp_seq ?_
    refine wp_seq ?_
    refine wp_region_lit ?_
    refine a_val hs rfl rfl rfl (y_move hs rfl) ?_; clear hs a; intro a hs
    refine a_val hs rfl rfl rfl (y_lenL hs Tryd.underlying40 rfl) ?_; clear hs a; intro a hs
    refine a_val hs rfl rfl rfl (y_move hs rfl) ?_; clear hs a; intro a hs
    refine wpList_nil (then_normal ?_)
    refine wp_block ?_
    refine wp_loopN (fun m a w1 => ∃ (i : Nat) (lf : Int), (i + m = l.length) ∧ (0 ≤ lf ∧ lf ≤ 8192) ∧ (xlist stR (l.drop i) lf = xlist stR l left) ∧ St 28 w0 [(0, .pointer (some ⟨g, 0, none⟩)), (11, .slice A l.length c), (12, .int .i64 (l.length : Int)), (13, .int .i64 ((i : Nat) : Int))] (pt g #[.int .i64 (lf)] 102 :: bs) a w1) (l.length) ⟨0, left, by omega, hl, rfl, ?_⟩ (fun m a w1 hJ => ?_)
    · exact (hs.mem_to hs.mem).cut _ ⟨rfl, rfl, rfl, rfl, trivial⟩
    · clear hs
      obtain ⟨i, lf, hi, hlf, hinv, hs⟩ := hJ
      refine wp_seq ?_
      refine wp_region_lit ?_
      refine a_val hs rfl rfl rfl (y_cmp hs rfl rfl rfl) ?_; clear hs a; intro a hs
      refine wpList_nil (then_normal ?_)
      refine wp_seq ?_
      refine wp_cond_split (hs.ev rfl) (fun h14 => ?_) (fun h14 => ?_)
      · replace h14 := of_decide_eq_true h14
        obtain ⟨r, hr⟩ : ∃ r, l[i]? = some r := ⟨_, List.getElem?_eq_getElem (by omega)⟩
        obtain ⟨g0, o, rfl, hcell⟩ := C_atH (show 0 < 1 by decide) hA (by omega)
        obtain ⟨cs, hK, hlen, hc⟩ := hcell i r hr
        obtain ⟨A0, c0, rfl, hlc, hC⟩ := hK
        have hdrop : l.drop i = r :: l.drop (i + 1) := by
          rw [List.drop_eq_getElem_cons (by omega)]
          rw [List.getElem?_eq_getElem (by omega)] at hr
          injection hr with hr
          rw [hr]
        refine wp_skip (then_normal ?_)
        refine wp_seq ?_
        refine wp_block ?_
        refine wp_seq ?_
        refine wp_region_lit ?_
        refine a_val hs rfl rfl rfl (y_idxB (size := 1) (off := o + i * 1) hs Tryd.underlying40 (by kernel_rfl) rfl rfl (by omega) (by omega) (by simp)) ?_; clear hs a; intro a hs
        refine a_val hs rfl rfl rfl (y_load (v := .slice A0 r.length c0) hs Tryd.underlying23 rfl rfl (fun w hw => hc w hw.base 0 _ rfl)) ?_; clear hs a; intro a hs
        refine a_val hs rfl rfl rfl (y_assign hs rfl) ?_; clear hs a; intro a hs
        refine wpList_nil (then_normal ?_)
        refine wp_seq ?_
        refine wp_region_lit ?_
        refine a_val hs rfl rfl rfl (y_move hs rfl) ?_; clear hs a; intro a hs
        refine a_val hs rfl rfl rfl (y_lenL hs Tryd.underlying23 rfl) ?_; clear hs a; intro a hs
        refine a_eff rfl (e_callB Tryd.func81 rfl rfl hs rfl rfl (tree_side r.length _) ?_); clear hs a; intro a w hs
        refine a_val hs rfl rfl rfl (y_not hs rfl) ?_; clear hs a; intro a hs
        refine a_val hs rfl rfl rfl (y_move hs rfl) ?_; clear hs a; intro a hs
        rcases hs.know (d := 21) rfl with ⟨h21, hs1⟩ | ⟨h21, hs1⟩ <;> replace hs := hs1 <;> clear hs1
        · replace h21 := of_decide_eq_false (not_t h21)
          refine a_skip hs rfl rfl rfl ?_; clear hs a; intro a hs
          refine a_skip hs rfl rfl rfl ?_; clear hs a; intro a hs
          refine a_skip hs rfl rfl rfl ?_; clear hs a; intro a hs
          refine a_skip hs rfl rfl rfl ?_; clear hs a; intro a hs
          refine a_val hs rfl rfl rfl (y_pickT hs rfl rfl rfl) ?_; clear hs a; intro a hs
          refine wpList_nil (then_normal ?_)
          refine wp_cond_true (hs.ev rfl) ?_
          refine wp_seq ?_
          refine wp_region_lit ?_
          refine a_val hs rfl rfl rfl (y_assign hs rfl) ?_; clear hs a; intro a hs
          refine wpList_nil (then_normal ?_)
          refine wp_ret (in_ret (then_ret (then_ret (in_ret (then_ret ?_)))))
          have hX : rowsF l left = (false, lf) := by unfold rowsF; rw [if_pos (by omega), ← hinv, hdrop, xlist]; have h1 : stR r lf = (false, lf) := (by unfold stR; rw [if_neg (by omega)]); rw [h1]; rfl
          refine fin_ret hs (.tmp (hs.slots _ _ rfl) .nil) ⟨?_, ?_⟩
          · rw [hX]; rfl
          · rw [hX]; exact hs.mem
        · replace h21 := of_decide_eq_true (not_f h21)
          refine a_valG hs rfl rfl rfl (y_move hs rfl) ?_; clear hs a; intro a hs
          refine a_valG hs rfl rfl rfl (y_move hs rfl) ?_; clear hs a; intro a hs
          refine a_effG hs rfl (e_callX Tryd.func77 rfl rfl hs rfl rfl (walk_exprs g A0 c0 r lf _ w0 _ hC (hsm r (List.mem_of_getElem? hr)) hlf hs.mem) (fun e w1 ⟨he, hm⟩ => ⟨_, he, _, hm, ?_⟩)); clear hs a; intro a hs
          refine a_valG hs rfl rfl rfl (y_not hs rfl) ?_; clear hs a; intro a hs
          refine a_val hs rfl rfl rfl (y_pickF hs rfl rfl rfl) ?_; clear hs a; intro a hs
          refine wpList_nil (then_normal ?_)
          refine wp_cond_split (hs.ev rfl) (fun h26 => ?_) (fun h26 => ?_)
          · replace h26 := (not_t h26)
            refine wp_seq ?_
            refine wp_region_lit ?_
            refine a_val hs rfl rfl rfl (y_assign hs rfl) ?_; clear hs a; intro a hs
            refine wpList_nil (then_normal ?_)
            refine wp_ret (in_ret (then_ret (then_ret (in_ret (then_ret ?_)))))
            have hX : rowsF l left = (false, (xlist stE r lf).2) := by unfold rowsF; rw [if_pos (by omega), ← hinv, hdrop, xlist]; have h1 : stR r lf = xlist stE r lf := (by unfold stR; rw [if_pos (by omega)]); rw [h1, h26]; rfl
            refine fin_ret hs (.tmp (hs.slots _ _ rfl) .nil) ⟨?_, ?_⟩
            · rw [hX]; rfl
            · rw [hX]; exact hs.mem
          · replace h26 := (not_f h26)
            have h1 : stR r lf = xlist stE r lf := by unfold stR; rw [if_pos (by omega)]
            have hfl := stR_falls r lf hlf.1
            rw [h1] at hfl
            refine wp_skip (in_normal (then_normal ?_))
            refine wp_region_lit ?_
            refine a_val hs rfl rfl rfl (y_add hs rfl rfl (by omega)) ?_; clear hs a; intro a hs
            refine a_val hs rfl rfl rfl (y_move hs rfl) ?_; clear hs a; intro a hs
            refine wpList_nil (then_normal ?_)
            refine ⟨m - 1, by omega, i + 1, (xlist stE r lf).2, by omega, ⟨hfl.2.2 h26, by have := hfl.2.1; omega⟩, by rw [← hinv, hdrop, xlist, h1, if_pos h26], ?_⟩
            exact (hs.mem_to hs.mem).cut _ ⟨rfl, rfl, rfl, rfl, trivial⟩
      · replace h14 := of_decide_eq_false h14
        refine wp_exit (then_exit (then_exit (in_here (then_normal ?_))))
        refine wp_seq ?_
        refine wp_region_lit ?_
        refine a_val hs rfl rfl rfl (y_assign hs rfl) ?_; clear hs a; intro a hs
        refine wpList_nil (then_normal ?_)
        refine wp_ret ?_
        have hX : rowsF l left = (true, lf) := by unfold rowsF; rw [if_pos (by omega), ← hinv, List.drop_eq_nil_of_le (by omega), xlist]
        refine fin_ret hs (.tmp (hs.slots _ _ rfl) .nil) ⟨?_, ?_⟩
        · rw [hX]; rfl
        · rw [hX]; exact hs.mem
theorem parts_cases {k : Int} {nm r : Bool} {a p : Nat} (h : shapeParts k = some (nm, a, p, r)) : (nm = true ∧ a = 0 ∧ p = 0 ∧ r = false ∧ k = 1) ∨ (nm = false ∧ a = 2 ∧ p = 0 ∧ r = false ∧ (k = 2 ∨ k = 3)) ∨ (nm = false ∧ a = 3 ∧ p = 0 ∧ r = false ∧ (k = 4 ∨ k = 5)) ∨ (nm = false ∧ a = 0 ∧ p = 2 ∧ r = false ∧ (k = 6 ∨ k = 7)) ∨ (nm = false ∧ a = 0 ∧ p = 0 ∧ r = true ∧ k = 8) := by
  unfold shapeParts at h
  repeat' split at h
  all_goals first | (simp only [Option.some.injEq, Prod.mk.injEq] at h; obtain ⟨rfl, rfl, rfl, rfl⟩ := h; simp_all) | cases h
def ShapeOk (n : Nat) : Prop := ∀ (s : XS) (A2 A3 A4 : Option Addr) (c2 c3 c4 g : Nat) (left : Int) (bs : List Res) (w0 w : World), Kd.C k25 w0 A2 s.f2.length s.f2 → Kd.C k42 w0 A3 s.f3.length s.f3 → Kd.C (Kd.slice 25 k25) w0 A4 s.f4.length s.f4 → smallS n s → 0 ≤ left ∧ left ≤ 8192 → H w0 (pt g #[.int .i64 (left)] 102 :: bs) w → Calls Tryd.prog 45 #[.pointer (some ⟨g, 0, none⟩), .agg #[.int .u8 s.f0, .string s.f1, .slice A2 s.f2.length c2, .slice A3 s.f3.length c3, .slice A4 s.f4.length c4, .int .i64 s.f5, .int .i64 s.f6], .int .i64 ((n : Nat) : Int)] w fun e w' => e = .returned (.bool (xshape n s left).1) ∧ H w0 (pt g #[.int .i64 ((xshape n s left).2)] 102 :: bs) w'
set_option maxRecDepth 100000 in
theorem shape_one (q : Nat) (hn : q + 1 ≤ 1000) (ih : ShapeOk q) (g gc gv : Nat) (p : XS) (B2 B3 B4 : Option Addr) (d2 d3 d4 : Nat) (lf : Int) (X : Res) (bs : List Res) (w0 w : World) (hB2 : Kd.C k25 w0 B2 p.f2.length p.f2) (hB3 : Kd.C k42 w0 B3 p.f3.length p.f3) (hB4 : Kd.C (Kd.slice 25 k25) w0 B4 p.f4.length p.f4) (hsm : smallS q p) (hlf : 0 ≤ lf ∧ lf ≤ 8192) (h : H w0 (pt g #[.int .i64 (lf)] 102 :: pt gv #[.int .i64 ((q + 1 : Nat) : Int)] 3 :: X :: pt gc #[.pointer (some ⟨g, 0, none⟩)] 72 :: bs) w) :
    Calls Tryd.prog 79 #[.agg #[.int .u8 p.f0, .string p.f1, .slice B2 p.f2.length d2, .slice B3 p.f3.length d3, .slice B4 p.f4.length d4, .int .i64 p.f5, .int .i64 p.f6], .pointer (some ⟨gc, 0, none⟩), .pointer (some ⟨gv, 0, none⟩)] w fun e w' => e = .returned (.bool (!(xshape q p lf).1)) ∧ H w0 (pt g #[.int .i64 ((xshape q p lf).2)] 102 :: pt gv #[.int .i64 ((q + 1 : Nat) : Int)] 3 :: X :: pt gc #[.pointer (some ⟨g, 0, none⟩)] 72 :: bs) w' := by
  refine calls_enter (N := 11) (n := 8) (args := [.agg #[.int .u8 p.f0, .string p.f1, .slice B2 p.f2.length d2, .slice B3 p.f3.length d3, .slice B4 p.f4.length d4, .int .i64 p.f5, .int .i64 p.f6], .pointer (some ⟨gc, 0, none⟩), .pointer (some ⟨gv, 0, none⟩)]) Tryd.func79 rfl rfl rfl (h) (fun a hs => ?_)
  refine wp_seq ?_
  refine wp_region_lit ?_
  refine a_eff rfl (e_box (cs := #[_, _, _, _, _, _, _]) hs rfl rfl rfl ?_); clear hs a; intro gy a w hs
  refine a_val hs rfl rfl rfl (y_assign hs rfl) ?_; clear hs a; intro a hs
  refine wpList_nil (then_normal ?_)
  refine wp_seq ?_
  refine wp_region_lit ?_
  refine a_val hs rfl rfl rfl (y_load hs Tryd.underlying72 rfl rfl (fun w hw => (hw.to 4 rfl).cellV rfl)) ?_; clear hs a; intro a hs
  refine a_val hs rfl rfl rfl (y_loadPt 0 rfl hs Tryd.underlying42 rfl (by kernel_rfl) rfl) ?_; clear hs a; intro a hs
  refine a_val hs rfl rfl rfl (y_load hs Tryd.underlying3 rfl rfl (fun w hw => (hw.to 2 rfl).cellV rfl)) ?_; clear hs a; intro a hs
  refine a_val hs rfl rfl rfl (y_sub hs rfl rfl (by omega)) ?_; clear hs a; intro a hs
  replace hs := hs.say 8 rfl (congrArg (Value.int IntKind.i64) (show (((q + 1 : Nat) : Int) - 1) = ((q : Nat) : Int) by omega))
  refine a_eff rfl (e_callX Tryd.func45 rfl rfl hs rfl rfl (ih p B2 B3 B4 d2 d3 d4 g lf _ w0 _ hB2 hB3 hB4 hsm hlf (hs.mem.to 1 rfl)) (fun e w1 ⟨he, hm⟩ => ⟨_, he, _, hm, ?_⟩)); clear hs a; intro a hs
  refine a_val hs rfl rfl rfl (y_not hs rfl) ?_; clear hs a; intro a hs
  refine a_val hs rfl rfl rfl (y_assign hs rfl) ?_; clear hs a; intro a hs
  refine wpList_nil (then_normal ?_)
  refine wp_ret ?_
  refine fin_ret hs (.tmp (hs.slots _ _ rfl) .nil) ⟨rfl, (((((hs.mem.to 1 rfl).drop.to 3 rfl).to 3 rfl).to 3 rfl).to 3 rfl)⟩
set_option maxRecDepth 100000 in
theorem walk_shape_step (n : Nat) (hn : n ≤ 1000) (ih : ∀ q, q + 1 = n → ShapeOk q) (s : XS) (A2 A3 A4 : Option Addr) (c2 c3 c4 g : Nat) (left : Int) (bs : List Res) (w0 w : World) (hA2 : Kd.C k25 w0 A2 s.f2.length s.f2) (hA3 : Kd.C k42 w0 A3 s.f3.length s.f3) (hA4 : Kd.C (Kd.slice 25 k25) w0 A4 s.f4.length s.f4) (hsm : smallS n s) (hl : 0 ≤ left ∧ left ≤ 8192) (h : H w0 (pt g #[.int .i64 (left)] 102 :: bs) w) :
    Calls Tryd.prog 45 #[.pointer (some ⟨g, 0, none⟩), .agg #[.int .u8 s.f0, .string s.f1, .slice A2 s.f2.length c2, .slice A3 s.f3.length c3, .slice A4 s.f4.length c4, .int .i64 s.f5, .int .i64 s.f6], .int .i64 ((n : Nat) : Int)] w fun e w' => e = .returned (.bool (xshape n s left).1) ∧ H w0 (pt g #[.int .i64 ((xshape n s left).2)] 102 :: bs) w' := by
  refine calls_enter (N := 95) (n := 92) (args := [.pointer (some ⟨g, 0, none⟩), .agg #[.int .u8 s.f0, .string s.f1, .slice A2 s.f2.length c2, .slice A3 s.f3.length c3, .slice A4 s.f4.length c4, .int .i64 s.f5, .int .i64 s.f6], .int .i64 ((n : Nat) : Int)]) Tryd.func45 rfl rfl rfl (h) (fun a hs => ?_)
  refine wp_seq ?_
  refine wp_region_lit ?_
  refine a_eff rfl (e_box (cs := #[_]) hs rfl rfl rfl ?_); clear hs a; intro gc a w hs
  refine a_eff rfl (e_box (cs := #[_, _, _, _, _, _, _]) hs rfl rfl rfl ?_); clear hs a; intro gx a w hs
  refine a_eff rfl (e_box (cs := #[_]) hs rfl rfl rfl ?_); clear hs a; intro gv a w hs
  refine a_val hs rfl rfl rfl (y_assign hs rfl) ?_; clear hs a; intro a hs
  refine wpList_nil (then_normal ?_)
  refine wp_seq ?_
  refine wp_seq ?_
  refine wp_region_lit ?_
  refine a_val hs rfl rfl rfl (y_load hs Tryd.underlying3 rfl rfl (fun w hw => (hw.to 0 rfl).cellV rfl)) ?_; clear hs a; intro a hs
  refine a_val hs rfl rfl rfl (y_cmp hs rfl rfl rfl) ?_; clear hs a; intro a hs
  refine a_val hs rfl rfl rfl (y_move hs rfl) ?_; clear hs a; intro a hs
  rcases hs.know (d := 13) rfl with ⟨h13, hs1⟩ | ⟨h13, hs1⟩ <;> replace hs := hs1 <;> clear hs1
  · replace h13 := eq_of_beq h13
    refine a_skip hs rfl rfl rfl ?_; clear hs a; intro a hs
    refine a_skip hs rfl rfl rfl ?_; clear hs a; intro a hs
    refine a_skip hs rfl rfl rfl ?_; clear hs a; intro a hs
    refine a_val hs rfl rfl rfl (y_pickT hs rfl rfl rfl) ?_; clear hs a; intro a hs
    refine wpList_nil (then_normal ?_)
    refine wp_cond_true (hs.ev rfl) ?_
    refine wp_seq ?_
    refine wp_region_lit ?_
    refine a_val hs rfl rfl rfl (y_assign hs rfl) ?_; clear hs a; intro a hs
    refine wpList_nil (then_normal ?_)
    refine wp_ret (then_ret ?_)
    obtain rfl : n = 0 := by omega
    have hX : xshape 0 s left = (false, left) := by rw [xshape]
    refine fin_ret hs (.tmp (hs.slots _ _ rfl) .nil) ⟨?_, ?_⟩
    · rw [hX]; first | rfl | simp [tell]
    · rw [hX]; exact (((hs.mem.to 0 rfl).drop.to 0 rfl).drop.to 0 rfl).drop
  · replace h13 := ne_of_beq_false h13
    obtain ⟨q, rfl⟩ : ∃ q, n = q + 1 := ⟨n - 1, by omega⟩
    refine a_valG hs rfl rfl rfl (y_load hs Tryd.underlying72 rfl rfl (fun w hw => (hw.to 2 rfl).cellV rfl)) ?_; clear hs a; intro a hs
    refine a_effG hs rfl (e_callX Tryd.func74 rfl rfl hs rfl rfl (walk_node g left hl _ w0 _ (hs.mem.to 3 rfl)) (fun e w1 ⟨he, hm⟩ => ⟨_, he, _, hm, ?_⟩)); clear hs a; intro a hs
    refine a_valG hs rfl rfl rfl (y_not hs rfl) ?_; clear hs a; intro a hs
    refine a_val hs rfl rfl rfl (y_pickF hs rfl rfl rfl) ?_; clear hs a; intro a hs
    refine wpList_nil (then_normal ?_)
    refine wp_cond_split (hs.ev rfl) (fun h17 => ?_) (fun h17 => ?_)
    · replace h17 := of_decide_eq_false (not_t h17)
      refine wp_seq ?_
      refine wp_region_lit ?_
      refine a_val hs rfl rfl rfl (y_assign hs rfl) ?_; clear hs a; intro a hs
      refine wpList_nil (then_normal ?_)
      refine wp_ret (then_ret ?_)
      have hX : xshape (q + 1) s left = (false, left - 1) := by rw [xshape, if_pos (by omega)]
      refine fin_ret hs (.tmp (hs.slots _ _ rfl) .nil) ⟨?_, ?_⟩
      · rw [hX]; first | rfl | simp [tell]
      · rw [hX]; exact (((hs.mem.to 1 rfl).drop.to 1 rfl).drop.to 1 rfl).drop
    · replace h17 := of_decide_eq_true (not_f h17)
      refine wp_skip (then_normal ?_)
      refine wp_seq ?_
      refine wp_region_lit ?_
      refine a_val hs rfl rfl rfl (y_assign hs rfl) ?_; clear hs a; intro a hs
      refine a_val hs rfl rfl rfl (y_assign hs rfl) ?_; clear hs a; intro a hs
      refine a_val hs rfl rfl rfl (y_assign hs rfl) ?_; clear hs a; intro a hs
      refine a_val hs rfl rfl rfl (y_assign hs rfl) ?_; clear hs a; intro a hs
      refine wpList_nil (then_normal ?_)
      refine wp_seq_cut (fun a w1 => ∃ (nm : Bool) (na np : Nat) (r : Bool), (shapeParts s.f0 = some (nm, na, np, r)) ∧ St 95 w0 [(3, .pointer (some ⟨gc, 0, none⟩)), (4, .pointer (some ⟨gx, 0, none⟩)), (5, .pointer (some ⟨gv, 0, none⟩)), (7, .bool nm), (8, .int .i64 ((na : Nat) : Int)), (9, .int .i64 ((np : Nat) : Int)), (10, .bool r)] (pt g #[.int .i64 (left - 1)] 102 :: pt gv #[.int .i64 ((q + 1 : Nat) : Int)] 3 :: pt gx #[.int .u8 s.f0, .string s.f1, .slice A2 s.f2.length c2, .slice A3 s.f3.length c3, .slice A4 s.f4.length c4, .int .i64 s.f5, .int .i64 s.f6] 42 :: pt gc #[.pointer (some ⟨g, 0, none⟩)] 72 :: bs) a w1) ?_ (fun a w1 hJ => ?_)
      · refine wp_seq ?_
        refine wp_region_lit ?_
        refine a_val hs rfl rfl rfl (y_faddr (k' := 0) 0 hs (by kernel_rfl) rfl rfl) ?_; clear hs a; intro a hs
        refine a_val hs rfl rfl rfl (y_load hs Tryd.underlying38 rfl rfl (fun w hw => (hw.to 2 rfl).cellV rfl)) ?_; clear hs a; intro a hs
        refine wpList_nil (then_normal ?_)
        refine wp_block ?_
        refine wp_seq ?_
        refine wp_block ?_
        refine wp_seq ?_
        refine wp_block ?_
        refine wp_seq ?_
        refine wp_block ?_
        refine wp_seq ?_
        refine wp_block ?_
        refine wp_seq ?_
        refine wp_block ?_
        refine wp_seq ?_
        refine wp_block ?_
        refine wp_seq ?_
        refine wp_seq ?_
        refine wp_seq ?_
        refine wp_region_lit ?_
        refine a_val hs rfl rfl rfl (y_cmp hs rfl rfl rfl) ?_; clear hs a; intro a hs
        refine a_val hs rfl rfl rfl (y_assign hs rfl) ?_; clear hs a; intro a hs
        refine wpList_nil (then_normal ?_)
        refine wp_cond_split (hs.ev rfl) (fun h20 => ?_) (fun h20 => ?_)
        · replace h20 := eq_of_beq h20
          refine wp_exit (then_exit (then_exit (in_here (then_normal ?_))))
          refine wp_seq ?_
          refine wp_region_lit ?_
          refine a_val hs rfl rfl rfl (y_assign hs rfl) ?_; clear hs a; intro a hs
          refine wpList_nil (then_normal ?_)
          refine wp_exit (in_other rfl (then_exit (in_other rfl (then_exit (in_other rfl (then_exit (in_other rfl (then_exit (in_other rfl (then_exit (in_here (then_normal ?_))))))))))))
          refine ⟨true, 0, 0, false, by clear hs; unfold shapeParts; (repeat' split) <;> first | rfl | (exfalso; omega), ?_⟩
          exact (hs.mem_to ((((hs.mem.to 3 rfl).to 3 rfl).to 3 rfl).to 3 rfl)).cut _ ⟨rfl, rfl, rfl, rfl, rfl, rfl, rfl, trivial⟩
        · replace h20 := ne_of_beq_false h20
          refine wp_skip (then_normal ?_)
          refine wp_seq ?_
          refine wp_seq ?_
          refine wp_seq ?_
          refine wp_region_lit ?_
          refine a_val hs rfl rfl rfl (y_cmp hs rfl rfl rfl) ?_; clear hs a; intro a hs
          refine a_val hs rfl rfl rfl (y_assign hs rfl) ?_; clear hs a; intro a hs
          refine wpList_nil (then_normal ?_)
          refine wp_cond_split (hs.ev rfl) (fun h22 => ?_) (fun h22 => ?_)
          · replace h22 := eq_of_beq h22
            replace hs := hs.say 22 rfl (congrArg Value.bool (beq_iff_eq.2 h22))
            refine wp_skip (then_normal ?_)
            refine wp_cond_true (hs.ev rfl) ?_
            refine wp_exit (then_exit (then_exit (in_other rfl (then_exit (in_here (then_normal ?_))))))
            refine wp_region_lit ?_
            refine a_val hs rfl rfl rfl (y_move hs rfl) ?_; clear hs a; intro a hs
            refine a_val hs rfl rfl rfl (y_add hs rfl rfl (by omega)) ?_; clear hs a; intro a hs
            refine a_val hs rfl rfl rfl (y_assign hs rfl) ?_; clear hs a; intro a hs
            refine wpList_nil (in_normal (then_normal ?_))
            refine wp_seq ?_
            refine wp_region_lit ?_
            refine a_val hs rfl rfl rfl (y_move hs rfl) ?_; clear hs a; intro a hs
            refine a_val hs rfl rfl rfl (y_add hs rfl rfl (by omega)) ?_; clear hs a; intro a hs
            refine a_val hs rfl rfl rfl (y_assign hs rfl) ?_; clear hs a; intro a hs
            refine wpList_nil (then_normal ?_)
            refine wp_exit (in_other rfl (then_exit (in_other rfl (then_exit (in_other rfl (then_exit (in_here (then_normal ?_))))))))
            refine ⟨false, 3, 0, false, by clear hs; unfold shapeParts; (repeat' split) <;> first | rfl | (exfalso; omega), ?_⟩
            exact (hs.mem_to ((((hs.mem.to 3 rfl).to 3 rfl).to 3 rfl).to 3 rfl)).cut _ ⟨rfl, rfl, rfl, rfl, rfl, rfl, rfl, trivial⟩
          · replace h22 := ne_of_beq_false h22
            replace hs := hs.say 22 rfl (congrArg Value.bool (beq_eq_false_iff_ne.2 h22))
            refine wp_region_lit ?_
            refine a_val hs rfl rfl rfl (y_cmp hs rfl rfl rfl) ?_; clear hs a; intro a hs
            refine a_val hs rfl rfl rfl (y_assign hs rfl) ?_; clear hs a; intro a hs
            refine wpList_nil (then_normal ?_)
            refine wp_cond_split (hs.ev rfl) (fun h22 => ?_) (fun h22 => ?_)
            · replace h22 := eq_of_beq h22
              replace hs := hs.say 22 rfl (congrArg Value.bool (beq_iff_eq.2 h22))
              refine wp_exit (then_exit (then_exit (in_other rfl (then_exit (in_here (then_normal ?_))))))
              refine wp_region_lit ?_
              refine a_val hs rfl rfl rfl (y_move hs rfl) ?_; clear hs a; intro a hs
              refine a_val hs rfl rfl rfl (y_add hs rfl rfl (by omega)) ?_; clear hs a; intro a hs
              refine a_val hs rfl rfl rfl (y_assign hs rfl) ?_; clear hs a; intro a hs
              refine wpList_nil (in_normal (then_normal ?_))
              refine wp_seq ?_
              refine wp_region_lit ?_
              refine a_val hs rfl rfl rfl (y_move hs rfl) ?_; clear hs a; intro a hs
              refine a_val hs rfl rfl rfl (y_add hs rfl rfl (by omega)) ?_; clear hs a; intro a hs
              refine a_val hs rfl rfl rfl (y_assign hs rfl) ?_; clear hs a; intro a hs
              refine wpList_nil (then_normal ?_)
              refine wp_exit (in_other rfl (then_exit (in_other rfl (then_exit (in_other rfl (then_exit (in_here (then_normal ?_))))))))
              refine ⟨false, 3, 0, false, by clear hs; unfold shapeParts; (repeat' split) <;> first | rfl | (exfalso; omega), ?_⟩
              exact (hs.mem_to ((((hs.mem.to 3 rfl).to 3 rfl).to 3 rfl).to 3 rfl)).cut _ ⟨rfl, rfl, rfl, rfl, rfl, rfl, rfl, trivial⟩
            · replace h22 := ne_of_beq_false h22
              replace hs := hs.say 22 rfl (congrArg Value.bool (beq_eq_false_iff_ne.2 h22))
              refine wp_skip (then_normal ?_)
              refine wp_seq ?_
              refine wp_seq ?_
              refine wp_seq ?_
              refine wp_region_lit ?_
              refine a_val hs rfl rfl rfl (y_cmp hs rfl rfl rfl) ?_; clear hs a; intro a hs
              refine a_val hs rfl rfl rfl (y_assign hs rfl) ?_; clear hs a; intro a hs
              refine wpList_nil (then_normal ?_)
              refine wp_cond_split (hs.ev rfl) (fun h25 => ?_) (fun h25 => ?_)
              · replace h25 := eq_of_beq h25
                replace hs := hs.say 25 rfl (congrArg Value.bool (beq_iff_eq.2 h25))
                refine wp_skip (then_normal ?_)
                refine wp_cond_true (hs.ev rfl) ?_
                refine wp_exit (then_exit (then_exit (in_other rfl (then_exit (in_other rfl (then_exit (in_here (then_normal ?_))))))))
                refine wp_seq ?_
                refine wp_region_lit ?_
                refine a_val hs rfl rfl rfl (y_move hs rfl) ?_; clear hs a; intro a hs
                refine a_val hs rfl rfl rfl (y_add hs rfl rfl (by omega)) ?_; clear hs a; intro a hs
                refine a_val hs rfl rfl rfl (y_assign hs rfl) ?_; clear hs a; intro a hs
                refine wpList_nil (then_normal ?_)
                refine wp_exit (in_other rfl (then_exit (in_other rfl (then_exit (in_other rfl (then_exit (in_here (then_normal ?_))))))))
                refine ⟨false, 2, 0, false, by clear hs; unfold shapeParts; (repeat' split) <;> first | rfl | (exfalso; omega), ?_⟩
                exact (hs.mem_to ((((hs.mem.to 3 rfl).to 3 rfl).to 3 rfl).to 3 rfl)).cut _ ⟨rfl, rfl, rfl, rfl, rfl, rfl, rfl, trivial⟩
              · replace h25 := ne_of_beq_false h25
                replace hs := hs.say 25 rfl (congrArg Value.bool (beq_eq_false_iff_ne.2 h25))
                refine wp_region_lit ?_
                refine a_val hs rfl rfl rfl (y_cmp hs rfl rfl rfl) ?_; clear hs a; intro a hs
                refine a_val hs rfl rfl rfl (y_assign hs rfl) ?_; clear hs a; intro a hs
                refine wpList_nil (then_normal ?_)
                refine wp_cond_split (hs.ev rfl) (fun h25 => ?_) (fun h25 => ?_)
                · replace h25 := eq_of_beq h25
                  replace hs := hs.say 25 rfl (congrArg Value.bool (beq_iff_eq.2 h25))
                  refine wp_exit (then_exit (then_exit (in_other rfl (then_exit (in_other rfl (then_exit (in_here (then_normal ?_))))))))
                  refine wp_seq ?_
                  refine wp_region_lit ?_
                  refine a_val hs rfl rfl rfl (y_move hs rfl) ?_; clear hs a; intro a hs
                  refine a_val hs rfl rfl rfl (y_add hs rfl rfl (by omega)) ?_; clear hs a; intro a hs
                  refine a_val hs rfl rfl rfl (y_assign hs rfl) ?_; clear hs a; intro a hs
                  refine wpList_nil (then_normal ?_)
                  refine wp_exit (in_other rfl (then_exit (in_other rfl (then_exit (in_other rfl (then_exit (in_here (then_normal ?_))))))))
                  refine ⟨false, 2, 0, false, by clear hs; unfold shapeParts; (repeat' split) <;> first | rfl | (exfalso; omega), ?_⟩
                  exact (hs.mem_to ((((hs.mem.to 3 rfl).to 3 rfl).to 3 rfl).to 3 rfl)).cut _ ⟨rfl, rfl, rfl, rfl, rfl, rfl, rfl, trivial⟩
                · replace h25 := ne_of_beq_false h25
                  replace hs := hs.say 25 rfl (congrArg Value.bool (beq_eq_false_iff_ne.2 h25))
                  refine wp_skip (then_normal ?_)
                  refine wp_seq ?_
                  refine wp_seq ?_
                  refine wp_seq ?_
                  refine wp_region_lit ?_
                  refine a_val hs rfl rfl rfl (y_cmp hs rfl rfl rfl) ?_; clear hs a; intro a hs
                  refine a_val hs rfl rfl rfl (y_assign hs rfl) ?_; clear hs a; intro a hs
                  refine wpList_nil (then_normal ?_)
                  refine wp_cond_split (hs.ev rfl) (fun h28 => ?_) (fun h28 => ?_)
                  · replace h28 := eq_of_beq h28
                    replace hs := hs.say 28 rfl (congrArg Value.bool (beq_iff_eq.2 h28))
                    refine wp_skip (then_normal ?_)
                    refine wp_cond_true (hs.ev rfl) ?_
                    refine wp_exit (then_exit (then_exit (in_other rfl (then_exit (in_other rfl (then_exit (in_other rfl (then_exit (in_here (then_normal ?_))))))))))
                    refine wp_seq ?_
                    refine wp_region_lit ?_
                    refine a_val hs rfl rfl rfl (y_assign hs rfl) ?_; clear hs a; intro a hs
                    refine wpList_nil (then_normal ?_)
                    refine wp_exit (in_other rfl (then_exit (in_other rfl (then_exit (in_here (then_normal ?_))))))
                    refine ⟨false, 0, 2, false, by clear hs; unfold shapeParts; (repeat' split) <;> first | rfl | (exfalso; omega), ?_⟩
                    exact (hs.mem_to ((((hs.mem.to 3 rfl).to 3 rfl).to 3 rfl).to 3 rfl)).cut _ ⟨rfl, rfl, rfl, rfl, rfl, rfl, rfl, trivial⟩
                  · replace h28 := ne_of_beq_false h28
                    replace hs := hs.say 28 rfl (congrArg Value.bool (beq_eq_false_iff_ne.2 h28))
                    refine wp_region_lit ?_
                    refine a_val hs rfl rfl rfl (y_cmp hs rfl rfl rfl) ?_; clear hs a; intro a hs
                    refine a_val hs rfl rfl rfl (y_assign hs rfl) ?_; clear hs a; intro a hs
                    refine wpList_nil (then_normal ?_)
                    refine wp_cond_split (hs.ev rfl) (fun h28 => ?_) (fun h28 => ?_)
                    · replace h28 := eq_of_beq h28
                      replace hs := hs.say 28 rfl (congrArg Value.bool (beq_iff_eq.2 h28))
                      refine wp_exit (then_exit (then_exit (in_other rfl (then_exit (in_other rfl (then_exit (in_other rfl (then_exit (in_here (then_normal ?_))))))))))
                      refine wp_seq ?_
                      refine wp_region_lit ?_
                      refine a_val hs rfl rfl rfl (y_assign hs rfl) ?_; clear hs a; intro a hs
                      refine wpList_nil (then_normal ?_)
                      refine wp_exit (in_other rfl (then_exit (in_other rfl (then_exit (in_here (then_normal ?_))))))
                      refine ⟨false, 0, 2, false, by clear hs; unfold shapeParts; (repeat' split) <;> first | rfl | (exfalso; omega), ?_⟩
                      exact (hs.mem_to ((((hs.mem.to 3 rfl).to 3 rfl).to 3 rfl).to 3 rfl)).cut _ ⟨rfl, rfl, rfl, rfl, rfl, rfl, rfl, trivial⟩
                    · replace h28 := ne_of_beq_false h28
                      replace hs := hs.say 28 rfl (congrArg Value.bool (beq_eq_false_iff_ne.2 h28))
                      refine wp_skip (then_normal ?_)
                      refine wp_seq ?_
                      refine wp_region_lit ?_
                      refine a_val hs rfl rfl rfl (y_cmp hs rfl rfl rfl) ?_; clear hs a; intro a hs
                      refine a_val hs rfl rfl rfl (y_assign hs rfl) ?_; clear hs a; intro a hs
                      refine wpList_nil (then_normal ?_)
                      refine wp_cond_split (hs.ev rfl) (fun h31 => ?_) (fun h31 => ?_)
                      · replace h31 := eq_of_beq h31
                        refine wp_exit (then_exit (in_other rfl (then_exit (in_other rfl (then_exit (in_other rfl (then_exit (in_other rfl (then_exit (in_here (then_normal ?_)))))))))))
                        refine wp_seq ?_
                        refine wp_region_lit ?_
                        refine a_val hs rfl rfl rfl (y_assign hs rfl) ?_; clear hs a; intro a hs
                        refine wpList_nil (then_normal ?_)
                        refine wp_exit (in_other rfl (then_exit (in_here (then_normal ?_))))
                        refine ⟨false, 0, 0, true, by clear hs; unfold shapeParts; (repeat' split) <;> first | rfl | (exfalso; omega), ?_⟩
                        exact (hs.mem_to ((((hs.mem.to 3 rfl).to 3 rfl).to 3 rfl).to 3 rfl)).cut _ ⟨rfl, rfl, rfl, rfl, rfl, rfl, rfl, trivial⟩
                      · replace h31 := ne_of_beq_false h31
                        refine wp_skip (then_normal ?_)
                        refine wp_exit (in_other rfl (then_exit (in_other rfl (then_exit (in_other rfl (then_exit (in_other rfl (then_exit (in_other rfl (then_exit (in_here (then_normal ?_))))))))))))
                        refine wp_seq ?_
                        refine wp_seq ?_
                        refine wp_region_lit ?_
                        refine a_val hs rfl rfl rfl (y_assign hs rfl) ?_; clear hs a; intro a hs
                        refine wpList_nil (then_normal ?_)
                        refine wp_ret (then_ret (in_ret (then_ret ?_)))
                        have hP : shapeParts s.f0 = none := by clear hs; unfold shapeParts; (repeat' split) <;> first | rfl | (exfalso; omega)
                        have hH : ¬ headS s := by rintro ⟨nm, a, p, r, h1, _⟩; rw [hP] at h1; cases h1
                        have hX : xshape (q + 1) s left = (false, left - 1) := by rw [xshape, if_neg (by omega), if_neg hH]
                        refine fin_ret hs (.tmp (hs.slots _ _ rfl) .nil) ⟨?_, ?_⟩
                        · rw [hX]; first | rfl | simp [tell]
                        · rw [hX]; exact (((hs.mem.to 1 rfl).drop.to 1 rfl).drop.to 1 rfl).drop
      · clear hs
        obtain ⟨nm, na, np, r, hsp, hs⟩ := hJ
        refine wp_seq ?_
        refine wp_seq ?_
        rcases parts_cases hsp with ⟨rfl, rfl, rfl, rfl, hk⟩ | ⟨rfl, rfl, rfl, rfl, hk⟩ | ⟨rfl, rfl, rfl, rfl, hk⟩ | ⟨rfl, rfl, rfl, rfl, hk⟩ | ⟨rfl, rfl, rfl, rfl, hk⟩
        · refine wp_region_lit ?_
          refine a_val hs rfl rfl rfl (y_move hs rfl) ?_; clear hs a; intro a hs
          refine a_val hs rfl rfl rfl (y_faddr (k' := 1) 1 hs (by kernel_rfl) rfl rfl) ?_; clear hs a; intro a hs
          refine a_val hs rfl rfl rfl (y_load hs Tryd.underlying9 rfl rfl (fun w hw => (hw.to 2 rfl).cellV rfl)) ?_; clear hs a; intro a hs
          refine a_eff rfl (e_callB Tryd.func75 rfl rfl hs rfl rfl (tree_named.calls _ s.f1 (nameOk s.f1) _ (tnamed_ok s.f1 hsm.1)) ?_); clear hs a; intro a w hs
          refine a_val hs rfl rfl rfl (y_bneB hs Tryd.underlying4 rfl rfl rfl) ?_; clear hs a; intro a hs
          refine a_val hs rfl rfl rfl (y_move hs rfl) ?_; clear hs a; intro a hs
          rcases hs.know (d := 42) rfl with ⟨h42, hs1⟩ | ⟨h42, hs1⟩ <;> replace hs := hs1 <;> clear hs1
          · refine a_skip hs rfl rfl rfl ?_; clear hs a; intro a hs
            refine a_skip hs rfl rfl rfl ?_; clear hs a; intro a hs
            refine a_skip hs rfl rfl rfl ?_; clear hs a; intro a hs
            refine a_skip hs rfl rfl rfl ?_; clear hs a; intro a hs
            refine a_skip hs rfl rfl rfl ?_; clear hs a; intro a hs
            refine a_skip hs rfl rfl rfl ?_; clear hs a; intro a hs
            refine a_skip hs rfl rfl rfl ?_; clear hs a; intro a hs
            refine a_val hs rfl rfl rfl (y_pickT hs rfl rfl rfl) ?_; clear hs a; intro a hs
            refine a_val hs rfl rfl rfl (y_move hs rfl) ?_; clear hs a; intro a hs
            refine a_skip hs rfl rfl rfl ?_; clear hs a; intro a hs
            refine a_skip hs rfl rfl rfl ?_; clear hs a; intro a hs
            refine a_skip hs rfl rfl rfl ?_; clear hs a; intro a hs
            refine a_skip hs rfl rfl rfl ?_; clear hs a; intro a hs
            refine a_skip hs rfl rfl rfl ?_; clear hs a; intro a hs
            refine a_val hs rfl rfl rfl (y_pickT hs rfl rfl rfl) ?_; clear hs a; intro a hs
            refine a_val hs rfl rfl rfl (y_move hs rfl) ?_; clear hs a; intro a hs
            refine a_skip hs rfl rfl rfl ?_; clear hs a; intro a hs
            refine a_skip hs rfl rfl rfl ?_; clear hs a; intro a hs
            refine a_skip hs rfl rfl rfl ?_; clear hs a; intro a hs
            refine a_skip hs rfl rfl rfl ?_; clear hs a; intro a hs
            refine a_skip hs rfl rfl rfl ?_; clear hs a; intro a hs
            refine a_val hs rfl rfl rfl (y_pickT hs rfl rfl rfl) ?_; clear hs a; intro a hs
            refine a_val hs rfl rfl rfl (y_move hs rfl) ?_; clear hs a; intro a hs
            refine a_skip hs rfl rfl rfl ?_; clear hs a; intro a hs
            refine a_skip hs rfl rfl rfl ?_; clear hs a; intro a hs
            refine a_skip hs rfl rfl rfl ?_; clear hs a; intro a hs
            refine a_skip hs rfl rfl rfl ?_; clear hs a; intro a hs
            refine a_skip hs rfl rfl rfl ?_; clear hs a; intro a hs
            refine a_skip hs rfl rfl rfl ?_; clear hs a; intro a hs
            refine a_skip hs rfl rfl rfl ?_; clear hs a; intro a hs
            refine a_skip hs rfl rfl rfl ?_; clear hs a; intro a hs
            refine a_val hs rfl rfl rfl (y_pickT hs rfl rfl rfl) ?_; clear hs a; intro a hs
            refine wpList_nil (then_normal ?_)
            refine wp_cond_true (hs.ev rfl) ?_
            refine wp_seq ?_
            refine wp_region_lit ?_
            refine a_val hs rfl rfl rfl (y_assign hs rfl) ?_; clear hs a; intro a hs
            refine wpList_nil (then_normal ?_)
            refine wp_ret (then_ret ?_)
            have hH : ¬ headS s := by
              rintro ⟨nm, a, p, r, h1, h2, h3, h4, h5, h6⟩
              rw [hsp] at h1
              simp only [Option.some.injEq, Prod.mk.injEq] at h1
              obtain ⟨rfl, rfl, rfl, rfl⟩ := h1
              first | omega | (have := h3 rfl; omega) | (have := h6 rfl; omega) | (rw [h2] at h42; cases h42)
            have hX : xshape (q + 1) s left = (false, left - 1) := by rw [xshape, if_neg (by omega), if_neg hH]
            refine fin_ret hs (.tmp (hs.slots _ _ rfl) .nil) ⟨?_, ?_⟩
            · rw [hX]; first | rfl | simp [tell]
            · rw [hX]; exact (((hs.mem.to 1 rfl).drop.to 1 rfl).drop.to 1 rfl).drop
          · refine a_valG hs rfl rfl rfl (y_move hs rfl) ?_; clear hs a; intro a hs
            refine a_valG hs rfl rfl rfl (y_not hs rfl) ?_; clear hs a; intro a hs
            refine a_valG hs rfl rfl rfl (y_move hs rfl) ?_; clear hs a; intro a hs
            refine a_skip hs rfl rfl rfl ?_; clear hs a; intro a hs
            refine a_skip hs rfl rfl rfl ?_; clear hs a; intro a hs
            refine a_skip hs rfl rfl rfl ?_; clear hs a; intro a hs
            refine a_valG hs rfl rfl rfl (y_pickF hs rfl rfl rfl) ?_; clear hs a; intro a hs
            refine a_val hs rfl rfl rfl (y_pickF hs rfl rfl rfl) ?_; clear hs a; intro a hs
            refine a_val hs rfl rfl rfl (y_move hs rfl) ?_; clear hs a; intro a hs
            refine a_valG hs rfl rfl rfl (y_faddr (k' := 2) 2 hs (by kernel_rfl) rfl rfl) ?_; clear hs a; intro a hs
            refine a_valG hs rfl rfl rfl (y_load hs Tryd.underlying23 rfl rfl (fun w hw => (hw.to 2 rfl).cellV rfl)) ?_; clear hs a; intro a hs
            refine a_valG hs rfl rfl rfl (y_lenL hs Tryd.underlying23 rfl) ?_; clear hs a; intro a hs
            refine a_valG hs rfl rfl rfl (y_move hs rfl) ?_; clear hs a; intro a hs
            refine a_valG hs rfl rfl rfl (y_cmp hs rfl rfl rfl) ?_; clear hs a; intro a hs
            refine a_val hs rfl rfl rfl (y_pickF hs rfl rfl rfl) ?_; clear hs a; intro a hs
            refine a_val hs rfl rfl rfl (y_move hs rfl) ?_; clear hs a; intro a hs
            rcases hs.know (d := 58) rfl with ⟨h58, hs1⟩ | ⟨h58, hs1⟩ <;> replace hs := hs1 <;> clear hs1
            · replace h58 := bne_iff_ne.1 h58
              refine a_skip hs rfl rfl rfl ?_; clear hs a; intro a hs
              refine a_skip hs rfl rfl rfl ?_; clear hs a; intro a hs
              refine a_skip hs rfl rfl rfl ?_; clear hs a; intro a hs
              refine a_skip hs rfl rfl rfl ?_; clear hs a; intro a hs
              refine a_skip hs rfl rfl rfl ?_; clear hs a; intro a hs
              refine a_val hs rfl rfl rfl (y_pickT hs rfl rfl rfl) ?_; clear hs a; intro a hs
              refine a_val hs rfl rfl rfl (y_move hs rfl) ?_; clear hs a; intro a hs
              refine a_skip hs rfl rfl rfl ?_; clear hs a; intro a hs
              refine a_skip hs rfl rfl rfl ?_; clear hs a; intro a hs
              refine a_skip hs rfl rfl rfl ?_; clear hs a; intro a hs
              refine a_skip hs rfl rfl rfl ?_; clear hs a; intro a hs
              refine a_skip hs rfl rfl rfl ?_; clear hs a; intro a hs
              refine a_skip hs rfl rfl rfl ?_; clear hs a; intro a hs
              refine a_skip hs rfl rfl rfl ?_; clear hs a; intro a hs
              refine a_skip hs rfl rfl rfl ?_; clear hs a; intro a hs
              refine a_val hs rfl rfl rfl (y_pickT hs rfl rfl rfl) ?_; clear hs a; intro a hs
              refine wpList_nil (then_normal ?_)
              refine wp_cond_true (hs.ev rfl) ?_
              refine wp_seq ?_
              refine wp_region_lit ?_
              refine a_val hs rfl rfl rfl (y_assign hs rfl) ?_; clear hs a; intro a hs
              refine wpList_nil (then_normal ?_)
              refine wp_ret (then_ret ?_)
              have hH : ¬ headS s := by
                rintro ⟨nm, a, p, r, h1, h2, h3, h4, h5, h6⟩
                rw [hsp] at h1
                simp only [Option.some.injEq, Prod.mk.injEq] at h1
                obtain ⟨rfl, rfl, rfl, rfl⟩ := h1
                first | omega | (have := h3 rfl; omega) | (have := h6 rfl; omega) | (rw [h2] at h42; cases h42)
              have hX : xshape (q + 1) s left = (false, left - 1) := by rw [xshape, if_neg (by omega), if_neg hH]
              refine fin_ret hs (.tmp (hs.slots _ _ rfl) .nil) ⟨?_, ?_⟩
              · rw [hX]; first | rfl | simp [tell]
              · rw [hX]; exact (((hs.mem.to 1 rfl).drop.to 1 rfl).drop.to 1 rfl).drop
            · replace h58 := bne_eq_false_iff_eq.1 h58
              refine a_valG hs rfl rfl rfl (y_faddr (k' := 3) 3 hs (by kernel_rfl) rfl rfl) ?_; clear hs a; intro a hs
              refine a_valG hs rfl rfl rfl (y_load hs Tryd.underlying39 rfl rfl (fun w hw => (hw.to 2 rfl).cellV rfl)) ?_; clear hs a; intro a hs
              refine a_valG hs rfl rfl rfl (y_lenL hs Tryd.underlying39 rfl) ?_; clear hs a; intro a hs
              refine a_valG hs rfl rfl rfl (y_move hs rfl) ?_; clear hs a; intro a hs
              refine a_valG hs rfl rfl rfl (y_cmp hs rfl rfl rfl) ?_; clear hs a; intro a hs
              refine a_val hs rfl rfl rfl (y_pickF hs rfl rfl rfl) ?_; clear hs a; intro a hs
              refine a_val hs rfl rfl rfl (y_move hs rfl) ?_; clear hs a; intro a hs
              rcases hs.know (d := 65) rfl with ⟨h65, hs1⟩ | ⟨h65, hs1⟩ <;> replace hs := hs1 <;> clear hs1
              · replace h65 := bne_iff_ne.1 h65
                refine a_skip hs rfl rfl rfl ?_; clear hs a; intro a hs
                refine a_skip hs rfl rfl rfl ?_; clear hs a; intro a hs
                refine a_skip hs rfl rfl rfl ?_; clear hs a; intro a hs
                refine a_skip hs rfl rfl rfl ?_; clear hs a; intro a hs
                refine a_skip hs rfl rfl rfl ?_; clear hs a; intro a hs
                refine a_skip hs rfl rfl rfl ?_; clear hs a; intro a hs
                refine a_skip hs rfl rfl rfl ?_; clear hs a; intro a hs
                refine a_skip hs rfl rfl rfl ?_; clear hs a; intro a hs
                refine a_val hs rfl rfl rfl (y_pickT hs rfl rfl rfl) ?_; clear hs a; intro a hs
                refine wpList_nil (then_normal ?_)
                refine wp_cond_true (hs.ev rfl) ?_
                refine wp_seq ?_
                refine wp_region_lit ?_
                refine a_val hs rfl rfl rfl (y_assign hs rfl) ?_; clear hs a; intro a hs
                refine wpList_nil (then_normal ?_)
                refine wp_ret (then_ret ?_)
                have hH : ¬ headS s := by
                  rintro ⟨nm, a, p, r, h1, h2, h3, h4, h5, h6⟩
                  rw [hsp] at h1
                  simp only [Option.some.injEq, Prod.mk.injEq] at h1
                  obtain ⟨rfl, rfl, rfl, rfl⟩ := h1
                  first | omega | (have := h3 rfl; omega) | (have := h6 rfl; omega) | (rw [h2] at h42; cases h42)
                have hX : xshape (q + 1) s left = (false, left - 1) := by rw [xshape, if_neg (by omega), if_neg hH]
                refine fin_ret hs (.tmp (hs.slots _ _ rfl) .nil) ⟨?_, ?_⟩
                · rw [hX]; first | rfl | simp [tell]
                · rw [hX]; exact (((hs.mem.to 1 rfl).drop.to 1 rfl).drop.to 1 rfl).drop
              · replace h65 := bne_eq_false_iff_eq.1 h65
                refine a_valG hs rfl rfl rfl (y_move hs rfl) ?_; clear hs a; intro a hs
                refine a_valG hs rfl rfl rfl (y_not hs rfl) ?_; clear hs a; intro a hs
                refine a_valG hs rfl rfl rfl (y_move hs rfl) ?_; clear hs a; intro a hs
                refine a_valG hs rfl rfl rfl (y_faddr (k' := 4) 4 hs (by kernel_rfl) rfl rfl) ?_; clear hs a; intro a hs
                refine a_valG hs rfl rfl rfl (y_load hs Tryd.underlying40 rfl rfl (fun w hw => (hw.to 2 rfl).cellV rfl)) ?_; clear hs a; intro a hs
                refine a_valG hs rfl rfl rfl (y_lenL hs Tryd.underlying40 rfl) ?_; clear hs a; intro a hs
                refine a_valG hs rfl rfl rfl (y_cmp hs rfl rfl rfl) ?_; clear hs a; intro a hs
                refine a_valG hs rfl rfl rfl (y_pickT hs rfl rfl rfl) ?_; clear hs a; intro a hs
                refine a_val hs rfl rfl rfl (y_pickF hs rfl rfl rfl) ?_; clear hs a; intro a hs
                refine wpList_nil (then_normal ?_)
                refine wp_cond_split (hs.ev rfl) (fun h74 => ?_) (fun h74 => ?_)
                · replace h74 := of_decide_eq_true h74
                  refine wp_seq ?_
                  refine wp_region_lit ?_
                  refine a_val hs rfl rfl rfl (y_assign hs rfl) ?_; clear hs a; intro a hs
                  refine wpList_nil (then_normal ?_)
                  refine wp_ret (then_ret ?_)
                  have hH : ¬ headS s := by
                    rintro ⟨nm, a, p, r, h1, h2, h3, h4, h5, h6⟩
                    rw [hsp] at h1
                    simp only [Option.some.injEq, Prod.mk.injEq] at h1
                    obtain ⟨rfl, rfl, rfl, rfl⟩ := h1
                    first | omega | (have := h3 rfl; omega) | (have := h6 rfl; omega) | (rw [h2] at h42; cases h42)
                  have hX : xshape (q + 1) s left = (false, left - 1) := by rw [xshape, if_neg (by omega), if_neg hH]
                  refine fin_ret hs (.tmp (hs.slots _ _ rfl) .nil) ⟨?_, ?_⟩
                  · rw [hX]; first | rfl | simp [tell]
                  · rw [hX]; exact (((hs.mem.to 1 rfl).drop.to 1 rfl).drop.to 1 rfl).drop
                · replace h74 := of_decide_eq_false h74
                  have hH : headS s := ⟨_, _, _, _, hsp, (by simpa using h42), (fun h => by cases h), by omega, by omega, (fun _ => by omega)⟩
                  obtain ⟨RR, hRR0⟩ : ∃ RR : Bool × Int, RR = (true, left - 1) := ⟨_, rfl⟩
                  have hR : rowsS s (left - 1) = RR := by unfold rowsS; rw [if_neg (by omega), hRR0]
                  have hR1 : RR.1 = true := by rw [hRR0]
                  have hRR : 0 ≤ RR.2 ∧ RR.2 ≤ 8192 := by rw [hRR0]; exact ⟨by show 0 ≤ left - 1; omega, by show left - 1 ≤ 8192; omega⟩
                  rw [show left - 1 = RR.2 by rw [hRR0]] at hs
                  refine wp_skip (then_normal ?_)
                  refine wp_seq ?_
                  refine wp_seq ?_
                  refine wp_region_lit ?_
                  refine a_val hs rfl rfl rfl (y_move hs rfl) ?_; clear hs a; intro a hs
                  refine a_val hs rfl rfl rfl (y_move hs rfl) ?_; clear hs a; intro a hs
                  refine a_skip hs rfl rfl rfl ?_; clear hs a; intro a hs
                  refine a_skip hs rfl rfl rfl ?_; clear hs a; intro a hs
                  refine a_skip hs rfl rfl rfl ?_; clear hs a; intro a hs
                  refine a_skip hs rfl rfl rfl ?_; clear hs a; intro a hs
                  refine a_skip hs rfl rfl rfl ?_; clear hs a; intro a hs
                  refine a_val hs rfl rfl rfl (y_pickF hs rfl rfl rfl) ?_; clear hs a; intro a hs
                  refine a_val hs rfl rfl rfl (y_move hs rfl) ?_; clear hs a; intro a hs
                  refine a_valG hs rfl rfl rfl (y_load hs Tryd.underlying72 rfl rfl (fun w hw => (hw.to 3 rfl).cellV rfl)) ?_; clear hs a; intro a hs
                  refine a_valG hs rfl rfl rfl (y_faddr (k' := 2) 2 hs (by kernel_rfl) rfl rfl) ?_; clear hs a; intro a hs
                  refine a_valG hs rfl rfl rfl (y_load hs Tryd.underlying23 rfl rfl (fun w hw => (hw.to 2 rfl).cellV rfl)) ?_; clear hs a; intro a hs
                  refine a_effG hs rfl (e_callX Tryd.func77 rfl rfl hs rfl rfl (walk_exprs g A2 c2 s.f2 RR.2 _ w0 _ hA2 hsm.2.1 hRR hs.mem) (fun e w1 ⟨he, hm⟩ => ⟨_, he, _, hm, ?_⟩)); clear hs a; intro a hs
                  refine a_valG hs rfl rfl rfl (y_not hs rfl) ?_; clear hs a; intro a hs
                  refine a_val hs rfl rfl rfl (y_pickF hs rfl rfl rfl) ?_; clear hs a; intro a hs
                  refine wpList_nil (then_normal ?_)
                  refine wp_cond_split (hs.ev rfl) (fun h89 => ?_) (fun h89 => ?_)
                  · replace h89 := (not_t h89)
                    refine wp_seq ?_
                    refine wp_region_lit ?_
                    refine a_val hs rfl rfl rfl (y_assign hs rfl) ?_; clear hs a; intro a hs
                    refine wpList_nil (then_normal ?_)
                    refine wp_ret (then_ret ?_)
                    have hX : xshape (q + 1) s left = (false, (xlist stE s.f2 RR.2).2) := by rw [xshape, if_neg (by omega), if_pos hH, hR, if_pos hR1, if_neg (by rw [h89]; exact Bool.false_ne_true), ← h89]
                    refine fin_ret hs (.tmp (hs.slots _ _ rfl) .nil) ⟨?_, ?_⟩
                    · rw [hX]; first | rfl | simp [tell]
                    · rw [hX]; exact (((hs.mem.to 1 rfl).drop.to 1 rfl).drop.to 1 rfl).drop
                  · replace h89 := (not_f h89)
                    have hxf := xlist_left s.f2 RR.2 (fun p _ l h => stE_falls p l h) hRR.1
                    have hRE : 0 ≤ (xlist stE s.f2 RR.2).2 ∧ (xlist stE s.f2 RR.2).2 ≤ 8192 := ⟨hxf.2.2 h89, by have := hxf.2.1; omega⟩
                    refine wp_skip (then_normal ?_)
                    refine wp_seq ?_
                    refine wp_region_lit ?_
                    refine a_val hs rfl rfl rfl (y_faddr (k' := 3) 3 hs (by kernel_rfl) rfl rfl) ?_; clear hs a; intro a hs
                    refine a_val hs rfl rfl rfl (y_load hs Tryd.underlying39 rfl rfl (fun w hw => (hw.to 2 rfl).cellV rfl)) ?_; clear hs a; intro a hs
                    refine a_val hs rfl rfl rfl (y_func hs rfl rfl) ?_; clear hs a; intro a hs
                    refine a_eff rfl (e_callX Tryd.func78 rfl rfl hs rfl rfl (contains_S g 79 _ [.pointer (some ⟨gc, 0, none⟩), .pointer (some ⟨gv, 0, none⟩)] (xshape q) A3 c3 s.f3 (xlist stE s.f2 RR.2).2 (pt gv #[.int .i64 ((q + 1 : Nat) : Int)] 3 :: pt gx #[.int .u8 s.f0, .string s.f1, .slice A2 s.f2.length c2, .slice A3 s.f3.length c3, .slice A4 s.f4.length c4, .int .i64 s.f5, .int .i64 s.f6] 42 :: pt gc #[.pointer (some ⟨g, 0, none⟩)] 72 :: bs) w0 _ Tryd.func79 rfl rfl hA3 (fun p hp cs lf w1 hK hlen hlf h => by obtain ⟨B2, d2, B3, d3, B4, d4, rfl, e2, C2, e3, C3, e4, C4⟩ := k42_open hK; exact shape_one q hn (ih q rfl) g gc gv p B2 B3 B4 d2 d3 d4 lf _ bs w0 w1 C2 C3 C4 (hsm.2.2.1 p hp) hlf h) (fun p hp lf h => xshape_falls q p lf h) hRE hs.mem) (fun e w1 ⟨he, hm⟩ => ⟨_, he, _, hm, ?_⟩)); clear hs a; intro a hs
                    refine a_val hs rfl rfl rfl (y_not hs rfl) ?_; clear hs a; intro a hs
                    refine a_val hs rfl rfl rfl (y_assign hs rfl) ?_; clear hs a; intro a hs
                    refine wpList_nil (then_normal ?_)
                    refine wp_ret ?_
                    have hX : xshape (q + 1) s left = xlist (xshape q) s.f3 (xlist stE s.f2 RR.2).2 := by rw [xshape, if_neg (by omega), if_pos hH, hR, if_pos hR1, if_pos h89]
                    refine fin_ret hs (.tmp (hs.slots _ _ rfl) .nil) ⟨?_, ?_⟩
                    · rw [hX]; first | rfl | simp [tell]
                    · rw [hX]; exact (((hs.mem.to 1 rfl).drop.to 1 rfl).drop.to 1 rfl).drop
        · refine wp_region_lit ?_
          refine a_val hs rfl rfl rfl (y_move hs rfl) ?_; clear hs a; intro a hs
          refine a_val hs rfl rfl rfl (y_faddr (k' := 1) 1 hs (by kernel_rfl) rfl rfl) ?_; clear hs a; intro a hs
          refine a_val hs rfl rfl rfl (y_load hs Tryd.underlying9 rfl rfl (fun w hw => (hw.to 2 rfl).cellV rfl)) ?_; clear hs a; intro a hs
          refine a_eff rfl (e_callB Tryd.func75 rfl rfl hs rfl rfl (tree_named.calls _ s.f1 (nameOk s.f1) _ (tnamed_ok s.f1 hsm.1)) ?_); clear hs a; intro a w hs
          refine a_val hs rfl rfl rfl (y_bneB hs Tryd.underlying4 rfl rfl rfl) ?_; clear hs a; intro a hs
          refine a_val hs rfl rfl rfl (y_move hs rfl) ?_; clear hs a; intro a hs
          rcases hs.know (d := 42) rfl with ⟨h42, hs1⟩ | ⟨h42, hs1⟩ <;> replace hs := hs1 <;> clear hs1
          · refine a_skip hs rfl rfl rfl ?_; clear hs a; intro a hs
            refine a_skip hs rfl rfl rfl ?_; clear hs a; intro a hs
            refine a_skip hs rfl rfl rfl ?_; clear hs a; intro a hs
            refine a_skip hs rfl rfl rfl ?_; clear hs a; intro a hs
            refine a_skip hs rfl rfl rfl ?_; clear hs a; intro a hs
            refine a_skip hs rfl rfl rfl ?_; clear hs a; intro a hs
            refine a_skip hs rfl rfl rfl ?_; clear hs a; intro a hs
            refine a_val hs rfl rfl rfl (y_pickT hs rfl rfl rfl) ?_; clear hs a; intro a hs
            refine a_val hs rfl rfl rfl (y_move hs rfl) ?_; clear hs a; intro a hs
            refine a_skip hs rfl rfl rfl ?_; clear hs a; intro a hs
            refine a_skip hs rfl rfl rfl ?_; clear hs a; intro a hs
            refine a_skip hs rfl rfl rfl ?_; clear hs a; intro a hs
            refine a_skip hs rfl rfl rfl ?_; clear hs a; intro a hs
            refine a_skip hs rfl rfl rfl ?_; clear hs a; intro a hs
            refine a_val hs rfl rfl rfl (y_pickT hs rfl rfl rfl) ?_; clear hs a; intro a hs
            refine a_val hs rfl rfl rfl (y_move hs rfl) ?_; clear hs a; intro a hs
            refine a_skip hs rfl rfl rfl ?_; clear hs a; intro a hs
            refine a_skip hs rfl rfl rfl ?_; clear hs a; intro a hs
            refine a_skip hs rfl rfl rfl ?_; clear hs a; intro a hs
            refine a_skip hs rfl rfl rfl ?_; clear hs a; intro a hs
            refine a_skip hs rfl rfl rfl ?_; clear hs a; intro a hs
            refine a_val hs rfl rfl rfl (y_pickT hs rfl rfl rfl) ?_; clear hs a; intro a hs
            refine a_val hs rfl rfl rfl (y_move hs rfl) ?_; clear hs a; intro a hs
            refine a_skip hs rfl rfl rfl ?_; clear hs a; intro a hs
            refine a_skip hs rfl rfl rfl ?_; clear hs a; intro a hs
            refine a_skip hs rfl rfl rfl ?_; clear hs a; intro a hs
            refine a_skip hs rfl rfl rfl ?_; clear hs a; intro a hs
            refine a_skip hs rfl rfl rfl ?_; clear hs a; intro a hs
            refine a_skip hs rfl rfl rfl ?_; clear hs a; intro a hs
            refine a_skip hs rfl rfl rfl ?_; clear hs a; intro a hs
            refine a_skip hs rfl rfl rfl ?_; clear hs a; intro a hs
            refine a_val hs rfl rfl rfl (y_pickT hs rfl rfl rfl) ?_; clear hs a; intro a hs
            refine wpList_nil (then_normal ?_)
            refine wp_cond_true (hs.ev rfl) ?_
            refine wp_seq ?_
            refine wp_region_lit ?_
            refine a_val hs rfl rfl rfl (y_assign hs rfl) ?_; clear hs a; intro a hs
            refine wpList_nil (then_normal ?_)
            refine wp_ret (then_ret ?_)
            have hH : ¬ headS s := by
              rintro ⟨nm, a, p, r, h1, h2, h3, h4, h5, h6⟩
              rw [hsp] at h1
              simp only [Option.some.injEq, Prod.mk.injEq] at h1
              obtain ⟨rfl, rfl, rfl, rfl⟩ := h1
              first | omega | (have := h3 rfl; omega) | (have := h6 rfl; omega) | (rw [h2] at h42; cases h42)
            have hX : xshape (q + 1) s left = (false, left - 1) := by rw [xshape, if_neg (by omega), if_neg hH]
            refine fin_ret hs (.tmp (hs.slots _ _ rfl) .nil) ⟨?_, ?_⟩
            · rw [hX]; first | rfl | simp [tell]
            · rw [hX]; exact (((hs.mem.to 1 rfl).drop.to 1 rfl).drop.to 1 rfl).drop
          · refine a_valG hs rfl rfl rfl (y_move hs rfl) ?_; clear hs a; intro a hs
            refine a_valG hs rfl rfl rfl (y_not hs rfl) ?_; clear hs a; intro a hs
            refine a_valG hs rfl rfl rfl (y_move hs rfl) ?_; clear hs a; intro a hs
            refine a_valG hs rfl rfl rfl (y_faddr (k' := 1) 1 hs (by kernel_rfl) rfl rfl) ?_; clear hs a; intro a hs
            refine a_valG hs rfl rfl rfl (y_load hs Tryd.underlying9 rfl rfl (fun w hw => (hw.to 2 rfl).cellV rfl)) ?_; clear hs a; intro a hs
            refine a_valG hs rfl rfl rfl (y_sneE hs rfl rfl) ?_; clear hs a; intro a hs
            refine a_valG hs rfl rfl rfl (y_pickT hs rfl rfl rfl) ?_; clear hs a; intro a hs
            refine a_val hs rfl rfl rfl (y_pickF hs rfl rfl rfl) ?_; clear hs a; intro a hs
            refine a_val hs rfl rfl rfl (y_move hs rfl) ?_; clear hs a; intro a hs
            rcases hs.know (d := 51) rfl with ⟨h51, hs1⟩ | ⟨h51, hs1⟩ <;> replace hs := hs1 <;> clear hs1
            · replace h51 := of_decide_eq_true h51
              refine a_skip hs rfl rfl rfl ?_; clear hs a; intro a hs
              refine a_skip hs rfl rfl rfl ?_; clear hs a; intro a hs
              refine a_skip hs rfl rfl rfl ?_; clear hs a; intro a hs
              refine a_skip hs rfl rfl rfl ?_; clear hs a; intro a hs
              refine a_skip hs rfl rfl rfl ?_; clear hs a; intro a hs
              refine a_val hs rfl rfl rfl (y_pickT hs rfl rfl rfl) ?_; clear hs a; intro a hs
              refine a_val hs rfl rfl rfl (y_move hs rfl) ?_; clear hs a; intro a hs
              refine a_skip hs rfl rfl rfl ?_; clear hs a; intro a hs
              refine a_skip hs rfl rfl rfl ?_; clear hs a; intro a hs
              refine a_skip hs rfl rfl rfl ?_; clear hs a; intro a hs
              refine a_skip hs rfl rfl rfl ?_; clear hs a; intro a hs
              refine a_skip hs rfl rfl rfl ?_; clear hs a; intro a hs
              refine a_val hs rfl rfl rfl (y_pickT hs rfl rfl rfl) ?_; clear hs a; intro a hs
              refine a_val hs rfl rfl rfl (y_move hs rfl) ?_; clear hs a; intro a hs
              refine a_skip hs rfl rfl rfl ?_; clear hs a; intro a hs
              refine a_skip hs rfl rfl rfl ?_; clear hs a; intro a hs
              refine a_skip hs rfl rfl rfl ?_; clear hs a; intro a hs
              refine a_skip hs rfl rfl rfl ?_; clear hs a; intro a hs
              refine a_skip hs rfl rfl rfl ?_; clear hs a; intro a hs
              refine a_skip hs rfl rfl rfl ?_; clear hs a; intro a hs
              refine a_skip hs rfl rfl rfl ?_; clear hs a; intro a hs
              refine a_skip hs rfl rfl rfl ?_; clear hs a; intro a hs
              refine a_val hs rfl rfl rfl (y_pickT hs rfl rfl rfl) ?_; clear hs a; intro a hs
              refine wpList_nil (then_normal ?_)
              refine wp_cond_true (hs.ev rfl) ?_
              refine wp_seq ?_
              refine wp_region_lit ?_
              refine a_val hs rfl rfl rfl (y_assign hs rfl) ?_; clear hs a; intro a hs
              refine wpList_nil (then_normal ?_)
              refine wp_ret (then_ret ?_)
              have hH : ¬ headS s := by
                rintro ⟨nm, a, p, r, h1, h2, h3, h4, h5, h6⟩
                rw [hsp] at h1
                simp only [Option.some.injEq, Prod.mk.injEq] at h1
                obtain ⟨rfl, rfl, rfl, rfl⟩ := h1
                first | omega | (have := h3 rfl; omega) | (have := h6 rfl; omega) | (rw [h2] at h42; cases h42)
              have hX : xshape (q + 1) s left = (false, left - 1) := by rw [xshape, if_neg (by omega), if_neg hH]
              refine fin_ret hs (.tmp (hs.slots _ _ rfl) .nil) ⟨?_, ?_⟩
              · rw [hX]; first | rfl | simp [tell]
              · rw [hX]; exact (((hs.mem.to 1 rfl).drop.to 1 rfl).drop.to 1 rfl).drop
            · replace h51 := of_decide_eq_false h51
              refine a_valG hs rfl rfl rfl (y_faddr (k' := 2) 2 hs (by kernel_rfl) rfl rfl) ?_; clear hs a; intro a hs
              refine a_valG hs rfl rfl rfl (y_load hs Tryd.underlying23 rfl rfl (fun w hw => (hw.to 2 rfl).cellV rfl)) ?_; clear hs a; intro a hs
              refine a_valG hs rfl rfl rfl (y_lenL hs Tryd.underlying23 rfl) ?_; clear hs a; intro a hs
              refine a_valG hs rfl rfl rfl (y_move hs rfl) ?_; clear hs a; intro a hs
              refine a_valG hs rfl rfl rfl (y_cmp hs rfl rfl rfl) ?_; clear hs a; intro a hs
              refine a_val hs rfl rfl rfl (y_pickF hs rfl rfl rfl) ?_; clear hs a; intro a hs
              refine a_val hs rfl rfl rfl (y_move hs rfl) ?_; clear hs a; intro a hs
              rcases hs.know (d := 58) rfl with ⟨h58, hs1⟩ | ⟨h58, hs1⟩ <;> replace hs := hs1 <;> clear hs1
              · replace h58 := bne_iff_ne.1 h58
                refine a_skip hs rfl rfl rfl ?_; clear hs a; intro a hs
                refine a_skip hs rfl rfl rfl ?_; clear hs a; intro a hs
                refine a_skip hs rfl rfl rfl ?_; clear hs a; intro a hs
                refine a_skip hs rfl rfl rfl ?_; clear hs a; intro a hs
                refine a_skip hs rfl rfl rfl ?_; clear hs a; intro a hs
                refine a_val hs rfl rfl rfl (y_pickT hs rfl rfl rfl) ?_; clear hs a; intro a hs
                refine a_val hs rfl rfl rfl (y_move hs rfl) ?_; clear hs a; intro a hs
                refine a_skip hs rfl rfl rfl ?_; clear hs a; intro a hs
                refine a_skip hs rfl rfl rfl ?_; clear hs a; intro a hs
                refine a_skip hs rfl rfl rfl ?_; clear hs a; intro a hs
                refine a_skip hs rfl rfl rfl ?_; clear hs a; intro a hs
                refine a_skip hs rfl rfl rfl ?_; clear hs a; intro a hs
                refine a_skip hs rfl rfl rfl ?_; clear hs a; intro a hs
                refine a_skip hs rfl rfl rfl ?_; clear hs a; intro a hs
                refine a_skip hs rfl rfl rfl ?_; clear hs a; intro a hs
                refine a_val hs rfl rfl rfl (y_pickT hs rfl rfl rfl) ?_; clear hs a; intro a hs
                refine wpList_nil (then_normal ?_)
                refine wp_cond_true (hs.ev rfl) ?_
                refine wp_seq ?_
                refine wp_region_lit ?_
                refine a_val hs rfl rfl rfl (y_assign hs rfl) ?_; clear hs a; intro a hs
                refine wpList_nil (then_normal ?_)
                refine wp_ret (then_ret ?_)
                have hH : ¬ headS s := by
                  rintro ⟨nm, a, p, r, h1, h2, h3, h4, h5, h6⟩
                  rw [hsp] at h1
                  simp only [Option.some.injEq, Prod.mk.injEq] at h1
                  obtain ⟨rfl, rfl, rfl, rfl⟩ := h1
                  first | omega | (have := h3 rfl; omega) | (have := h6 rfl; omega) | (rw [h2] at h42; cases h42)
                have hX : xshape (q + 1) s left = (false, left - 1) := by rw [xshape, if_neg (by omega), if_neg hH]
                refine fin_ret hs (.tmp (hs.slots _ _ rfl) .nil) ⟨?_, ?_⟩
                · rw [hX]; first | rfl | simp [tell]
                · rw [hX]; exact (((hs.mem.to 1 rfl).drop.to 1 rfl).drop.to 1 rfl).drop
              · replace h58 := bne_eq_false_iff_eq.1 h58
                refine a_valG hs rfl rfl rfl (y_faddr (k' := 3) 3 hs (by kernel_rfl) rfl rfl) ?_; clear hs a; intro a hs
                refine a_valG hs rfl rfl rfl (y_load hs Tryd.underlying39 rfl rfl (fun w hw => (hw.to 2 rfl).cellV rfl)) ?_; clear hs a; intro a hs
                refine a_valG hs rfl rfl rfl (y_lenL hs Tryd.underlying39 rfl) ?_; clear hs a; intro a hs
                refine a_valG hs rfl rfl rfl (y_move hs rfl) ?_; clear hs a; intro a hs
                refine a_valG hs rfl rfl rfl (y_cmp hs rfl rfl rfl) ?_; clear hs a; intro a hs
                refine a_val hs rfl rfl rfl (y_pickF hs rfl rfl rfl) ?_; clear hs a; intro a hs
                refine a_val hs rfl rfl rfl (y_move hs rfl) ?_; clear hs a; intro a hs
                rcases hs.know (d := 65) rfl with ⟨h65, hs1⟩ | ⟨h65, hs1⟩ <;> replace hs := hs1 <;> clear hs1
                · replace h65 := bne_iff_ne.1 h65
                  refine a_skip hs rfl rfl rfl ?_; clear hs a; intro a hs
                  refine a_skip hs rfl rfl rfl ?_; clear hs a; intro a hs
                  refine a_skip hs rfl rfl rfl ?_; clear hs a; intro a hs
                  refine a_skip hs rfl rfl rfl ?_; clear hs a; intro a hs
                  refine a_skip hs rfl rfl rfl ?_; clear hs a; intro a hs
                  refine a_skip hs rfl rfl rfl ?_; clear hs a; intro a hs
                  refine a_skip hs rfl rfl rfl ?_; clear hs a; intro a hs
                  refine a_skip hs rfl rfl rfl ?_; clear hs a; intro a hs
                  refine a_val hs rfl rfl rfl (y_pickT hs rfl rfl rfl) ?_; clear hs a; intro a hs
                  refine wpList_nil (then_normal ?_)
                  refine wp_cond_true (hs.ev rfl) ?_
                  refine wp_seq ?_
                  refine wp_region_lit ?_
                  refine a_val hs rfl rfl rfl (y_assign hs rfl) ?_; clear hs a; intro a hs
                  refine wpList_nil (then_normal ?_)
                  refine wp_ret (then_ret ?_)
                  have hH : ¬ headS s := by
                    rintro ⟨nm, a, p, r, h1, h2, h3, h4, h5, h6⟩
                    rw [hsp] at h1
                    simp only [Option.some.injEq, Prod.mk.injEq] at h1
                    obtain ⟨rfl, rfl, rfl, rfl⟩ := h1
                    first | omega | (have := h3 rfl; omega) | (have := h6 rfl; omega) | (rw [h2] at h42; cases h42)
                  have hX : xshape (q + 1) s left = (false, left - 1) := by rw [xshape, if_neg (by omega), if_neg hH]
                  refine fin_ret hs (.tmp (hs.slots _ _ rfl) .nil) ⟨?_, ?_⟩
                  · rw [hX]; first | rfl | simp [tell]
                  · rw [hX]; exact (((hs.mem.to 1 rfl).drop.to 1 rfl).drop.to 1 rfl).drop
                · replace h65 := bne_eq_false_iff_eq.1 h65
                  refine a_valG hs rfl rfl rfl (y_move hs rfl) ?_; clear hs a; intro a hs
                  refine a_valG hs rfl rfl rfl (y_not hs rfl) ?_; clear hs a; intro a hs
                  refine a_valG hs rfl rfl rfl (y_move hs rfl) ?_; clear hs a; intro a hs
                  refine a_valG hs rfl rfl rfl (y_faddr (k' := 4) 4 hs (by kernel_rfl) rfl rfl) ?_; clear hs a; intro a hs
                  refine a_valG hs rfl rfl rfl (y_load hs Tryd.underlying40 rfl rfl (fun w hw => (hw.to 2 rfl).cellV rfl)) ?_; clear hs a; intro a hs
                  refine a_valG hs rfl rfl rfl (y_lenL hs Tryd.underlying40 rfl) ?_; clear hs a; intro a hs
                  refine a_valG hs rfl rfl rfl (y_cmp hs rfl rfl rfl) ?_; clear hs a; intro a hs
                  refine a_valG hs rfl rfl rfl (y_pickT hs rfl rfl rfl) ?_; clear hs a; intro a hs
                  refine a_val hs rfl rfl rfl (y_pickF hs rfl rfl rfl) ?_; clear hs a; intro a hs
                  refine wpList_nil (then_normal ?_)
                  refine wp_cond_split (hs.ev rfl) (fun h74 => ?_) (fun h74 => ?_)
                  · replace h74 := of_decide_eq_true h74
                    refine wp_seq ?_
                    refine wp_region_lit ?_
                    refine a_val hs rfl rfl rfl (y_assign hs rfl) ?_; clear hs a; intro a hs
                    refine wpList_nil (then_normal ?_)
                    refine wp_ret (then_ret ?_)
                    have hH : ¬ headS s := by
                      rintro ⟨nm, a, p, r, h1, h2, h3, h4, h5, h6⟩
                      rw [hsp] at h1
                      simp only [Option.some.injEq, Prod.mk.injEq] at h1
                      obtain ⟨rfl, rfl, rfl, rfl⟩ := h1
                      first | omega | (have := h3 rfl; omega) | (have := h6 rfl; omega) | (rw [h2] at h42; cases h42)
                    have hX : xshape (q + 1) s left = (false, left - 1) := by rw [xshape, if_neg (by omega), if_neg hH]
                    refine fin_ret hs (.tmp (hs.slots _ _ rfl) .nil) ⟨?_, ?_⟩
                    · rw [hX]; first | rfl | simp [tell]
                    · rw [hX]; exact (((hs.mem.to 1 rfl).drop.to 1 rfl).drop.to 1 rfl).drop
                  · replace h74 := of_decide_eq_false h74
                    have hH : headS s := ⟨_, _, _, _, hsp, (by simpa using h42), (fun _ => by omega), by omega, by omega, (fun _ => by omega)⟩
                    obtain ⟨RR, hRR0⟩ : ∃ RR : Bool × Int, RR = (true, left - 1) := ⟨_, rfl⟩
                    have hR : rowsS s (left - 1) = RR := by unfold rowsS; rw [if_neg (by omega), hRR0]
                    have hR1 : RR.1 = true := by rw [hRR0]
                    have hRR : 0 ≤ RR.2 ∧ RR.2 ≤ 8192 := by rw [hRR0]; exact ⟨by show 0 ≤ left - 1; omega, by show left - 1 ≤ 8192; omega⟩
                    rw [show left - 1 = RR.2 by rw [hRR0]] at hs
                    refine wp_skip (then_normal ?_)
                    refine wp_seq ?_
                    refine wp_seq ?_
                    refine wp_region_lit ?_
                    refine a_val hs rfl rfl rfl (y_move hs rfl) ?_; clear hs a; intro a hs
                    refine a_val hs rfl rfl rfl (y_move hs rfl) ?_; clear hs a; intro a hs
                    refine a_skip hs rfl rfl rfl ?_; clear hs a; intro a hs
                    refine a_skip hs rfl rfl rfl ?_; clear hs a; intro a hs
                    refine a_skip hs rfl rfl rfl ?_; clear hs a; intro a hs
                    refine a_skip hs rfl rfl rfl ?_; clear hs a; intro a hs
                    refine a_skip hs rfl rfl rfl ?_; clear hs a; intro a hs
                    refine a_val hs rfl rfl rfl (y_pickF hs rfl rfl rfl) ?_; clear hs a; intro a hs
                    refine a_val hs rfl rfl rfl (y_move hs rfl) ?_; clear hs a; intro a hs
                    refine a_valG hs rfl rfl rfl (y_load hs Tryd.underlying72 rfl rfl (fun w hw => (hw.to 3 rfl).cellV rfl)) ?_; clear hs a; intro a hs
                    refine a_valG hs rfl rfl rfl (y_faddr (k' := 2) 2 hs (by kernel_rfl) rfl rfl) ?_; clear hs a; intro a hs
                    refine a_valG hs rfl rfl rfl (y_load hs Tryd.underlying23 rfl rfl (fun w hw => (hw.to 2 rfl).cellV rfl)) ?_; clear hs a; intro a hs
                    refine a_effG hs rfl (e_callX Tryd.func77 rfl rfl hs rfl rfl (walk_exprs g A2 c2 s.f2 RR.2 _ w0 _ hA2 hsm.2.1 hRR hs.mem) (fun e w1 ⟨he, hm⟩ => ⟨_, he, _, hm, ?_⟩)); clear hs a; intro a hs
                    refine a_valG hs rfl rfl rfl (y_not hs rfl) ?_; clear hs a; intro a hs
                    refine a_val hs rfl rfl rfl (y_pickF hs rfl rfl rfl) ?_; clear hs a; intro a hs
                    refine wpList_nil (then_normal ?_)
                    refine wp_cond_split (hs.ev rfl) (fun h89 => ?_) (fun h89 => ?_)
                    · replace h89 := (not_t h89)
                      refine wp_seq ?_
                      refine wp_region_lit ?_
                      refine a_val hs rfl rfl rfl (y_assign hs rfl) ?_; clear hs a; intro a hs
                      refine wpList_nil (then_normal ?_)
                      refine wp_ret (then_ret ?_)
                      have hX : xshape (q + 1) s left = (false, (xlist stE s.f2 RR.2).2) := by rw [xshape, if_neg (by omega), if_pos hH, hR, if_pos hR1, if_neg (by rw [h89]; exact Bool.false_ne_true), ← h89]
                      refine fin_ret hs (.tmp (hs.slots _ _ rfl) .nil) ⟨?_, ?_⟩
                      · rw [hX]; first | rfl | simp [tell]
                      · rw [hX]; exact (((hs.mem.to 1 rfl).drop.to 1 rfl).drop.to 1 rfl).drop
                    · replace h89 := (not_f h89)
                      have hxf := xlist_left s.f2 RR.2 (fun p _ l h => stE_falls p l h) hRR.1
                      have hRE : 0 ≤ (xlist stE s.f2 RR.2).2 ∧ (xlist stE s.f2 RR.2).2 ≤ 8192 := ⟨hxf.2.2 h89, by have := hxf.2.1; omega⟩
                      refine wp_skip (then_normal ?_)
                      refine wp_seq ?_
                      refine wp_region_lit ?_
                      refine a_val hs rfl rfl rfl (y_faddr (k' := 3) 3 hs (by kernel_rfl) rfl rfl) ?_; clear hs a; intro a hs
                      refine a_val hs rfl rfl rfl (y_load hs Tryd.underlying39 rfl rfl (fun w hw => (hw.to 2 rfl).cellV rfl)) ?_; clear hs a; intro a hs
                      refine a_val hs rfl rfl rfl (y_func hs rfl rfl) ?_; clear hs a; intro a hs
                      refine a_eff rfl (e_callX Tryd.func78 rfl rfl hs rfl rfl (contains_S g 79 _ [.pointer (some ⟨gc, 0, none⟩), .pointer (some ⟨gv, 0, none⟩)] (xshape q) A3 c3 s.f3 (xlist stE s.f2 RR.2).2 (pt gv #[.int .i64 ((q + 1 : Nat) : Int)] 3 :: pt gx #[.int .u8 s.f0, .string s.f1, .slice A2 s.f2.length c2, .slice A3 s.f3.length c3, .slice A4 s.f4.length c4, .int .i64 s.f5, .int .i64 s.f6] 42 :: pt gc #[.pointer (some ⟨g, 0, none⟩)] 72 :: bs) w0 _ Tryd.func79 rfl rfl hA3 (fun p hp cs lf w1 hK hlen hlf h => by obtain ⟨B2, d2, B3, d3, B4, d4, rfl, e2, C2, e3, C3, e4, C4⟩ := k42_open hK; exact shape_one q hn (ih q rfl) g gc gv p B2 B3 B4 d2 d3 d4 lf _ bs w0 w1 C2 C3 C4 (hsm.2.2.1 p hp) hlf h) (fun p hp lf h => xshape_falls q p lf h) hRE hs.mem) (fun e w1 ⟨he, hm⟩ => ⟨_, he, _, hm, ?_⟩)); clear hs a; intro a hs
                      refine a_val hs rfl rfl rfl (y_not hs rfl) ?_; clear hs a; intro a hs
                      refine a_val hs rfl rfl rfl (y_assign hs rfl) ?_; clear hs a; intro a hs
                      refine wpList_nil (then_normal ?_)
                      refine wp_ret ?_
                      have hX : xshape (q + 1) s left = xlist (xshape q) s.f3 (xlist stE s.f2 RR.2).2 := by rw [xshape, if_neg (by omega), if_pos hH, hR, if_pos hR1, if_pos h89]
                      refine fin_ret hs (.tmp (hs.slots _ _ rfl) .nil) ⟨?_, ?_⟩
                      · rw [hX]; first | rfl | simp [tell]
                      · rw [hX]; exact (((hs.mem.to 1 rfl).drop.to 1 rfl).drop.to 1 rfl).drop
        · refine wp_region_lit ?_
          refine a_val hs rfl rfl rfl (y_move hs rfl) ?_; clear hs a; intro a hs
          refine a_val hs rfl rfl rfl (y_faddr (k' := 1) 1 hs (by kernel_rfl) rfl rfl) ?_; clear hs a; intro a hs
          refine a_val hs rfl rfl rfl (y_load hs Tryd.underlying9 rfl rfl (fun w hw => (hw.to 2 rfl).cellV rfl)) ?_; clear hs a; intro a hs
          refine a_eff rfl (e_callB Tryd.func75 rfl rfl hs rfl rfl (tree_named.calls _ s.f1 (nameOk s.f1) _ (tnamed_ok s.f1 hsm.1)) ?_); clear hs a; intro a w hs
          refine a_val hs rfl rfl rfl (y_bneB hs Tryd.underlying4 rfl rfl rfl) ?_; clear hs a; intro a hs
          refine a_val hs rfl rfl rfl (y_move hs rfl) ?_; clear hs a; intro a hs
          rcases hs.know (d := 42) rfl with ⟨h42, hs1⟩ | ⟨h42, hs1⟩ <;> replace hs := hs1 <;> clear hs1
          · refine a_skip hs rfl rfl rfl ?_; clear hs a; intro a hs
            refine a_skip hs rfl rfl rfl ?_; clear hs a; intro a hs
            refine a_skip hs rfl rfl rfl ?_; clear hs a; intro a hs
            refine a_skip hs rfl rfl rfl ?_; clear hs a; intro a hs
            refine a_skip hs rfl rfl rfl ?_; clear hs a; intro a hs
            refine a_skip hs rfl rfl rfl ?_; clear hs a; intro a hs
            refine a_skip hs rfl rfl rfl ?_; clear hs a; intro a hs
            refine a_val hs rfl rfl rfl (y_pickT hs rfl rfl rfl) ?_; clear hs a; intro a hs
            refine a_val hs rfl rfl rfl (y_move hs rfl) ?_; clear hs a; intro a hs
            refine a_skip hs rfl rfl rfl ?_; clear hs a; intro a hs
            refine a_skip hs rfl rfl rfl ?_; clear hs a; intro a hs
            refine a_skip hs rfl rfl rfl ?_; clear hs a; intro a hs
            refine a_skip hs rfl rfl rfl ?_; clear hs a; intro a hs
            refine a_skip hs rfl rfl rfl ?_; clear hs a; intro a hs
            refine a_val hs rfl rfl rfl (y_pickT hs rfl rfl rfl) ?_; clear hs a; intro a hs
            refine a_val hs rfl rfl rfl (y_move hs rfl) ?_; clear hs a; intro a hs
            refine a_skip hs rfl rfl rfl ?_; clear hs a; intro a hs
            refine a_skip hs rfl rfl rfl ?_; clear hs a; intro a hs
            refine a_skip hs rfl rfl rfl ?_; clear hs a; intro a hs
            refine a_skip hs rfl rfl rfl ?_; clear hs a; intro a hs
            refine a_skip hs rfl rfl rfl ?_; clear hs a; intro a hs
            refine a_val hs rfl rfl rfl (y_pickT hs rfl rfl rfl) ?_; clear hs a; intro a hs
            refine a_val hs rfl rfl rfl (y_move hs rfl) ?_; clear hs a; intro a hs
            refine a_skip hs rfl rfl rfl ?_; clear hs a; intro a hs
            refine a_skip hs rfl rfl rfl ?_; clear hs a; intro a hs
            refine a_skip hs rfl rfl rfl ?_; clear hs a; intro a hs
            refine a_skip hs rfl rfl rfl ?_; clear hs a; intro a hs
            refine a_skip hs rfl rfl rfl ?_; clear hs a; intro a hs
            refine a_skip hs rfl rfl rfl ?_; clear hs a; intro a hs
            refine a_skip hs rfl rfl rfl ?_; clear hs a; intro a hs
            refine a_skip hs rfl rfl rfl ?_; clear hs a; intro a hs
            refine a_val hs rfl rfl rfl (y_pickT hs rfl rfl rfl) ?_; clear hs a; intro a hs
            refine wpList_nil (then_normal ?_)
            refine wp_cond_true (hs.ev rfl) ?_
            refine wp_seq ?_
            refine wp_region_lit ?_
            refine a_val hs rfl rfl rfl (y_assign hs rfl) ?_; clear hs a; intro a hs
            refine wpList_nil (then_normal ?_)
            refine wp_ret (then_ret ?_)
            have hH : ¬ headS s := by
              rintro ⟨nm, a, p, r, h1, h2, h3, h4, h5, h6⟩
              rw [hsp] at h1
              simp only [Option.some.injEq, Prod.mk.injEq] at h1
              obtain ⟨rfl, rfl, rfl, rfl⟩ := h1
              first | omega | (have := h3 rfl; omega) | (have := h6 rfl; omega) | (rw [h2] at h42; cases h42)
            have hX : xshape (q + 1) s left = (false, left - 1) := by rw [xshape, if_neg (by omega), if_neg hH]
            refine fin_ret hs (.tmp (hs.slots _ _ rfl) .nil) ⟨?_, ?_⟩
            · rw [hX]; first | rfl | simp [tell]
            · rw [hX]; exact (((hs.mem.to 1 rfl).drop.to 1 rfl).drop.to 1 rfl).drop
          · refine a_valG hs rfl rfl rfl (y_move hs rfl) ?_; clear hs a; intro a hs
            refine a_valG hs rfl rfl rfl (y_not hs rfl) ?_; clear hs a; intro a hs
            refine a_valG hs rfl rfl rfl (y_move hs rfl) ?_; clear hs a; intro a hs
            refine a_valG hs rfl rfl rfl (y_faddr (k' := 1) 1 hs (by kernel_rfl) rfl rfl) ?_; clear hs a; intro a hs
            refine a_valG hs rfl rfl rfl (y_load hs Tryd.underlying9 rfl rfl (fun w hw => (hw.to 2 rfl).cellV rfl)) ?_; clear hs a; intro a hs
            refine a_valG hs rfl rfl rfl (y_sneE hs rfl rfl) ?_; clear hs a; intro a hs
            refine a_valG hs rfl rfl rfl (y_pickT hs rfl rfl rfl) ?_; clear hs a; intro a hs
            refine a_val hs rfl rfl rfl (y_pickF hs rfl rfl rfl) ?_; clear hs a; intro a hs
            refine a_val hs rfl rfl rfl (y_move hs rfl) ?_; clear hs a; intro a hs
            rcases hs.know (d := 51) rfl with ⟨h51, hs1⟩ | ⟨h51, hs1⟩ <;> replace hs := hs1 <;> clear hs1
            · replace h51 := of_decide_eq_true h51
              refine a_skip hs rfl rfl rfl ?_; clear hs a; intro a hs
              refine a_skip hs rfl rfl rfl ?_; clear hs a; intro a hs
              refine a_skip hs rfl rfl rfl ?_; clear hs a; intro a hs
              refine a_skip hs rfl rfl rfl ?_; clear hs a; intro a hs
              refine a_skip hs rfl rfl rfl ?_; clear hs a; intro a hs
              refine a_val hs rfl rfl rfl (y_pickT hs rfl rfl rfl) ?_; clear hs a; intro a hs
              refine a_val hs rfl rfl rfl (y_move hs rfl) ?_; clear hs a; intro a hs
              refine a_skip hs rfl rfl rfl ?_; clear hs a; intro a hs
              refine a_skip hs rfl rfl rfl ?_; clear hs a; intro a hs
              refine a_skip hs rfl rfl rfl ?_; clear hs a; intro a hs
              refine a_skip hs rfl rfl rfl ?_; clear hs a; intro a hs
              refine a_skip hs rfl rfl rfl ?_; clear hs a; intro a hs
              refine a_val hs rfl rfl rfl (y_pickT hs rfl rfl rfl) ?_; clear hs a; intro a hs
              refine a_val hs rfl rfl rfl (y_move hs rfl) ?_; clear hs a; intro a hs
              refine a_skip hs rfl rfl rfl ?_; clear hs a; intro a hs
              refine a_skip hs rfl rfl rfl ?_; clear hs a; intro a hs
              refine a_skip hs rfl rfl rfl ?_; clear hs a; intro a hs
              refine a_skip hs rfl rfl rfl ?_; clear hs a; intro a hs
              refine a_skip hs rfl rfl rfl ?_; clear hs a; intro a hs
              refine a_skip hs rfl rfl rfl ?_; clear hs a; intro a hs
              refine a_skip hs rfl rfl rfl ?_; clear hs a; intro a hs
              refine a_skip hs rfl rfl rfl ?_; clear hs a; intro a hs
              refine a_val hs rfl rfl rfl (y_pickT hs rfl rfl rfl) ?_; clear hs a; intro a hs
              refine wpList_nil (then_normal ?_)
              refine wp_cond_true (hs.ev rfl) ?_
              refine wp_seq ?_
              refine wp_region_lit ?_
              refine a_val hs rfl rfl rfl (y_assign hs rfl) ?_; clear hs a; intro a hs
              refine wpList_nil (then_normal ?_)
              refine wp_ret (then_ret ?_)
              have hH : ¬ headS s := by
                rintro ⟨nm, a, p, r, h1, h2, h3, h4, h5, h6⟩
                rw [hsp] at h1
                simp only [Option.some.injEq, Prod.mk.injEq] at h1
                obtain ⟨rfl, rfl, rfl, rfl⟩ := h1
                first | omega | (have := h3 rfl; omega) | (have := h6 rfl; omega) | (rw [h2] at h42; cases h42)
              have hX : xshape (q + 1) s left = (false, left - 1) := by rw [xshape, if_neg (by omega), if_neg hH]
              refine fin_ret hs (.tmp (hs.slots _ _ rfl) .nil) ⟨?_, ?_⟩
              · rw [hX]; first | rfl | simp [tell]
              · rw [hX]; exact (((hs.mem.to 1 rfl).drop.to 1 rfl).drop.to 1 rfl).drop
            · replace h51 := of_decide_eq_false h51
              refine a_valG hs rfl rfl rfl (y_faddr (k' := 2) 2 hs (by kernel_rfl) rfl rfl) ?_; clear hs a; intro a hs
              refine a_valG hs rfl rfl rfl (y_load hs Tryd.underlying23 rfl rfl (fun w hw => (hw.to 2 rfl).cellV rfl)) ?_; clear hs a; intro a hs
              refine a_valG hs rfl rfl rfl (y_lenL hs Tryd.underlying23 rfl) ?_; clear hs a; intro a hs
              refine a_valG hs rfl rfl rfl (y_move hs rfl) ?_; clear hs a; intro a hs
              refine a_valG hs rfl rfl rfl (y_cmp hs rfl rfl rfl) ?_; clear hs a; intro a hs
              refine a_val hs rfl rfl rfl (y_pickF hs rfl rfl rfl) ?_; clear hs a; intro a hs
              refine a_val hs rfl rfl rfl (y_move hs rfl) ?_; clear hs a; intro a hs
              rcases hs.know (d := 58) rfl with ⟨h58, hs1⟩ | ⟨h58, hs1⟩ <;> replace hs := hs1 <;> clear hs1
              · replace h58 := bne_iff_ne.1 h58
                refine a_skip hs rfl rfl rfl ?_; clear hs a; intro a hs
                refine a_skip hs rfl rfl rfl ?_; clear hs a; intro a hs
                refine a_skip hs rfl rfl rfl ?_; clear hs a; intro a hs
                refine a_skip hs rfl rfl rfl ?_; clear hs a; intro a hs
                refine a_skip hs rfl rfl rfl ?_; clear hs a; intro a hs
                refine a_val hs rfl rfl rfl (y_pickT hs rfl rfl rfl) ?_; clear hs a; intro a hs
                refine a_val hs rfl rfl rfl (y_move hs rfl) ?_; clear hs a; intro a hs
                refine a_skip hs rfl rfl rfl ?_; clear hs a; intro a hs
                refine a_skip hs rfl rfl rfl ?_; clear hs a; intro a hs
                refine a_skip hs rfl rfl rfl ?_; clear hs a; intro a hs
                refine a_skip hs rfl rfl rfl ?_; clear hs a; intro a hs
                refine a_skip hs rfl rfl rfl ?_; clear hs a; intro a hs
                refine a_skip hs rfl rfl rfl ?_; clear hs a; intro a hs
                refine a_skip hs rfl rfl rfl ?_; clear hs a; intro a hs
                refine a_skip hs rfl rfl rfl ?_; clear hs a; intro a hs
                refine a_val hs rfl rfl rfl (y_pickT hs rfl rfl rfl) ?_; clear hs a; intro a hs
                refine wpList_nil (then_normal ?_)
                refine wp_cond_true (hs.ev rfl) ?_
                refine wp_seq ?_
                refine wp_region_lit ?_
                refine a_val hs rfl rfl rfl (y_assign hs rfl) ?_; clear hs a; intro a hs
                refine wpList_nil (then_normal ?_)
                refine wp_ret (then_ret ?_)
                have hH : ¬ headS s := by
                  rintro ⟨nm, a, p, r, h1, h2, h3, h4, h5, h6⟩
                  rw [hsp] at h1
                  simp only [Option.some.injEq, Prod.mk.injEq] at h1
                  obtain ⟨rfl, rfl, rfl, rfl⟩ := h1
                  first | omega | (have := h3 rfl; omega) | (have := h6 rfl; omega) | (rw [h2] at h42; cases h42)
                have hX : xshape (q + 1) s left = (false, left - 1) := by rw [xshape, if_neg (by omega), if_neg hH]
                refine fin_ret hs (.tmp (hs.slots _ _ rfl) .nil) ⟨?_, ?_⟩
                · rw [hX]; first | rfl | simp [tell]
                · rw [hX]; exact (((hs.mem.to 1 rfl).drop.to 1 rfl).drop.to 1 rfl).drop
              · replace h58 := bne_eq_false_iff_eq.1 h58
                refine a_valG hs rfl rfl rfl (y_faddr (k' := 3) 3 hs (by kernel_rfl) rfl rfl) ?_; clear hs a; intro a hs
                refine a_valG hs rfl rfl rfl (y_load hs Tryd.underlying39 rfl rfl (fun w hw => (hw.to 2 rfl).cellV rfl)) ?_; clear hs a; intro a hs
                refine a_valG hs rfl rfl rfl (y_lenL hs Tryd.underlying39 rfl) ?_; clear hs a; intro a hs
                refine a_valG hs rfl rfl rfl (y_move hs rfl) ?_; clear hs a; intro a hs
                refine a_valG hs rfl rfl rfl (y_cmp hs rfl rfl rfl) ?_; clear hs a; intro a hs
                refine a_val hs rfl rfl rfl (y_pickF hs rfl rfl rfl) ?_; clear hs a; intro a hs
                refine a_val hs rfl rfl rfl (y_move hs rfl) ?_; clear hs a; intro a hs
                rcases hs.know (d := 65) rfl with ⟨h65, hs1⟩ | ⟨h65, hs1⟩ <;> replace hs := hs1 <;> clear hs1
                · replace h65 := bne_iff_ne.1 h65
                  refine a_skip hs rfl rfl rfl ?_; clear hs a; intro a hs
                  refine a_skip hs rfl rfl rfl ?_; clear hs a; intro a hs
                  refine a_skip hs rfl rfl rfl ?_; clear hs a; intro a hs
                  refine a_skip hs rfl rfl rfl ?_; clear hs a; intro a hs
                  refine a_skip hs rfl rfl rfl ?_; clear hs a; intro a hs
                  refine a_skip hs rfl rfl rfl ?_; clear hs a; intro a hs
                  refine a_skip hs rfl rfl rfl ?_; clear hs a; intro a hs
                  refine a_skip hs rfl rfl rfl ?_; clear hs a; intro a hs
                  refine a_val hs rfl rfl rfl (y_pickT hs rfl rfl rfl) ?_; clear hs a; intro a hs
                  refine wpList_nil (then_normal ?_)
                  refine wp_cond_true (hs.ev rfl) ?_
                  refine wp_seq ?_
                  refine wp_region_lit ?_
                  refine a_val hs rfl rfl rfl (y_assign hs rfl) ?_; clear hs a; intro a hs
                  refine wpList_nil (then_normal ?_)
                  refine wp_ret (then_ret ?_)
                  have hH : ¬ headS s := by
                    rintro ⟨nm, a, p, r, h1, h2, h3, h4, h5, h6⟩
                    rw [hsp] at h1
                    simp only [Option.some.injEq, Prod.mk.injEq] at h1
                    obtain ⟨rfl, rfl, rfl, rfl⟩ := h1
                    first | omega | (have := h3 rfl; omega) | (have := h6 rfl; omega) | (rw [h2] at h42; cases h42)
                  have hX : xshape (q + 1) s left = (false, left - 1) := by rw [xshape, if_neg (by omega), if_neg hH]
                  refine fin_ret hs (.tmp (hs.slots _ _ rfl) .nil) ⟨?_, ?_⟩
                  · rw [hX]; first | rfl | simp [tell]
                  · rw [hX]; exact (((hs.mem.to 1 rfl).drop.to 1 rfl).drop.to 1 rfl).drop
                · replace h65 := bne_eq_false_iff_eq.1 h65
                  refine a_valG hs rfl rfl rfl (y_move hs rfl) ?_; clear hs a; intro a hs
                  refine a_valG hs rfl rfl rfl (y_not hs rfl) ?_; clear hs a; intro a hs
                  refine a_valG hs rfl rfl rfl (y_move hs rfl) ?_; clear hs a; intro a hs
                  refine a_valG hs rfl rfl rfl (y_faddr (k' := 4) 4 hs (by kernel_rfl) rfl rfl) ?_; clear hs a; intro a hs
                  refine a_valG hs rfl rfl rfl (y_load hs Tryd.underlying40 rfl rfl (fun w hw => (hw.to 2 rfl).cellV rfl)) ?_; clear hs a; intro a hs
                  refine a_valG hs rfl rfl rfl (y_lenL hs Tryd.underlying40 rfl) ?_; clear hs a; intro a hs
                  refine a_valG hs rfl rfl rfl (y_cmp hs rfl rfl rfl) ?_; clear hs a; intro a hs
                  refine a_valG hs rfl rfl rfl (y_pickT hs rfl rfl rfl) ?_; clear hs a; intro a hs
                  refine a_val hs rfl rfl rfl (y_pickF hs rfl rfl rfl) ?_; clear hs a; intro a hs
                  refine wpList_nil (then_normal ?_)
                  refine wp_cond_split (hs.ev rfl) (fun h74 => ?_) (fun h74 => ?_)
                  · replace h74 := of_decide_eq_true h74
                    refine wp_seq ?_
                    refine wp_region_lit ?_
                    refine a_val hs rfl rfl rfl (y_assign hs rfl) ?_; clear hs a; intro a hs
                    refine wpList_nil (then_normal ?_)
                    refine wp_ret (then_ret ?_)
                    have hH : ¬ headS s := by
                      rintro ⟨nm, a, p, r, h1, h2, h3, h4, h5, h6⟩
                      rw [hsp] at h1
                      simp only [Option.some.injEq, Prod.mk.injEq] at h1
                      obtain ⟨rfl, rfl, rfl, rfl⟩ := h1
                      first | omega | (have := h3 rfl; omega) | (have := h6 rfl; omega) | (rw [h2] at h42; cases h42)
                    have hX : xshape (q + 1) s left = (false, left - 1) := by rw [xshape, if_neg (by omega), if_neg hH]
                    refine fin_ret hs (.tmp (hs.slots _ _ rfl) .nil) ⟨?_, ?_⟩
                    · rw [hX]; first | rfl | simp [tell]
                    · rw [hX]; exact (((hs.mem.to 1 rfl).drop.to 1 rfl).drop.to 1 rfl).drop
                  · replace h74 := of_decide_eq_false h74
                    have hH : headS s := ⟨_, _, _, _, hsp, (by simpa using h42), (fun _ => by omega), by omega, by omega, (fun _ => by omega)⟩
                    obtain ⟨RR, hRR0⟩ : ∃ RR : Bool × Int, RR = (true, left - 1) := ⟨_, rfl⟩
                    have hR : rowsS s (left - 1) = RR := by unfold rowsS; rw [if_neg (by omega), hRR0]
                    have hR1 : RR.1 = true := by rw [hRR0]
                    have hRR : 0 ≤ RR.2 ∧ RR.2 ≤ 8192 := by rw [hRR0]; exact ⟨by show 0 ≤ left - 1; omega, by show left - 1 ≤ 8192; omega⟩
                    rw [show left - 1 = RR.2 by rw [hRR0]] at hs
                    refine wp_skip (then_normal ?_)
                    refine wp_seq ?_
                    refine wp_seq ?_
                    refine wp_region_lit ?_
                    refine a_val hs rfl rfl rfl (y_move hs rfl) ?_; clear hs a; intro a hs
                    refine a_val hs rfl rfl rfl (y_move hs rfl) ?_; clear hs a; intro a hs
                    refine a_skip hs rfl rfl rfl ?_; clear hs a; intro a hs
                    refine a_skip hs rfl rfl rfl ?_; clear hs a; intro a hs
                    refine a_skip hs rfl rfl rfl ?_; clear hs a; intro a hs
                    refine a_skip hs rfl rfl rfl ?_; clear hs a; intro a hs
                    refine a_skip hs rfl rfl rfl ?_; clear hs a; intro a hs
                    refine a_val hs rfl rfl rfl (y_pickF hs rfl rfl rfl) ?_; clear hs a; intro a hs
                    refine a_val hs rfl rfl rfl (y_move hs rfl) ?_; clear hs a; intro a hs
                    refine a_valG hs rfl rfl rfl (y_load hs Tryd.underlying72 rfl rfl (fun w hw => (hw.to 3 rfl).cellV rfl)) ?_; clear hs a; intro a hs
                    refine a_valG hs rfl rfl rfl (y_faddr (k' := 2) 2 hs (by kernel_rfl) rfl rfl) ?_; clear hs a; intro a hs
                    refine a_valG hs rfl rfl rfl (y_load hs Tryd.underlying23 rfl rfl (fun w hw => (hw.to 2 rfl).cellV rfl)) ?_; clear hs a; intro a hs
                    refine a_effG hs rfl (e_callX Tryd.func77 rfl rfl hs rfl rfl (walk_exprs g A2 c2 s.f2 RR.2 _ w0 _ hA2 hsm.2.1 hRR hs.mem) (fun e w1 ⟨he, hm⟩ => ⟨_, he, _, hm, ?_⟩)); clear hs a; intro a hs
                    refine a_valG hs rfl rfl rfl (y_not hs rfl) ?_; clear hs a; intro a hs
                    refine a_val hs rfl rfl rfl (y_pickF hs rfl rfl rfl) ?_; clear hs a; intro a hs
                    refine wpList_nil (then_normal ?_)
                    refine wp_cond_split (hs.ev rfl) (fun h89 => ?_) (fun h89 => ?_)
                    · replace h89 := (not_t h89)
                      refine wp_seq ?_
                      refine wp_region_lit ?_
                      refine a_val hs rfl rfl rfl (y_assign hs rfl) ?_; clear hs a; intro a hs
                      refine wpList_nil (then_normal ?_)
                      refine wp_ret (then_ret ?_)
                      have hX : xshape (q + 1) s left = (false, (xlist stE s.f2 RR.2).2) := by rw [xshape, if_neg (by omega), if_pos hH, hR, if_pos hR1, if_neg (by rw [h89]; exact Bool.false_ne_true), ← h89]
                      refine fin_ret hs (.tmp (hs.slots _ _ rfl) .nil) ⟨?_, ?_⟩
                      · rw [hX]; first | rfl | simp [tell]
                      · rw [hX]; exact (((hs.mem.to 1 rfl).drop.to 1 rfl).drop.to 1 rfl).drop
                    · replace h89 := (not_f h89)
                      have hxf := xlist_left s.f2 RR.2 (fun p _ l h => stE_falls p l h) hRR.1
                      have hRE : 0 ≤ (xlist stE s.f2 RR.2).2 ∧ (xlist stE s.f2 RR.2).2 ≤ 8192 := ⟨hxf.2.2 h89, by have := hxf.2.1; omega⟩
                      refine wp_skip (then_normal ?_)
                      refine wp_seq ?_
                      refine wp_region_lit ?_
                      refine a_val hs rfl rfl rfl (y_faddr (k' := 3) 3 hs (by kernel_rfl) rfl rfl) ?_; clear hs a; intro a hs
                      refine a_val hs rfl rfl rfl (y_load hs Tryd.underlying39 rfl rfl (fun w hw => (hw.to 2 rfl).cellV rfl)) ?_; clear hs a; intro a hs
                      refine a_val hs rfl rfl rfl (y_func hs rfl rfl) ?_; clear hs a; intro a hs
                      refine a_eff rfl (e_callX Tryd.func78 rfl rfl hs rfl rfl (contains_S g 79 _ [.pointer (some ⟨gc, 0, none⟩), .pointer (some ⟨gv, 0, none⟩)] (xshape q) A3 c3 s.f3 (xlist stE s.f2 RR.2).2 (pt gv #[.int .i64 ((q + 1 : Nat) : Int)] 3 :: pt gx #[.int .u8 s.f0, .string s.f1, .slice A2 s.f2.length c2, .slice A3 s.f3.length c3, .slice A4 s.f4.length c4, .int .i64 s.f5, .int .i64 s.f6] 42 :: pt gc #[.pointer (some ⟨g, 0, none⟩)] 72 :: bs) w0 _ Tryd.func79 rfl rfl hA3 (fun p hp cs lf w1 hK hlen hlf h => by obtain ⟨B2, d2, B3, d3, B4, d4, rfl, e2, C2, e3, C3, e4, C4⟩ := k42_open hK; exact shape_one q hn (ih q rfl) g gc gv p B2 B3 B4 d2 d3 d4 lf _ bs w0 w1 C2 C3 C4 (hsm.2.2.1 p hp) hlf h) (fun p hp lf h => xshape_falls q p lf h) hRE hs.mem) (fun e w1 ⟨he, hm⟩ => ⟨_, he, _, hm, ?_⟩)); clear hs a; intro a hs
                      refine a_val hs rfl rfl rfl (y_not hs rfl) ?_; clear hs a; intro a hs
                      refine a_val hs rfl rfl rfl (y_assign hs rfl) ?_; clear hs a; intro a hs
                      refine wpList_nil (then_normal ?_)
                      refine wp_ret ?_
                      have hX : xshape (q + 1) s left = xlist (xshape q) s.f3 (xlist stE s.f2 RR.2).2 := by rw [xshape, if_neg (by omega), if_pos hH, hR, if_pos hR1, if_pos h89]
                      refine fin_ret hs (.tmp (hs.slots _ _ rfl) .nil) ⟨?_, ?_⟩
                      · rw [hX]; first | rfl | simp [tell]
                      · rw [hX]; exact (((hs.mem.to 1 rfl).drop.to 1 rfl).drop.to 1 rfl).drop
        · refine wp_region_lit ?_
          refine a_val hs rfl rfl rfl (y_move hs rfl) ?_; clear hs a; intro a hs
          refine a_val hs rfl rfl rfl (y_faddr (k' := 1) 1 hs (by kernel_rfl) rfl rfl) ?_; clear hs a; intro a hs
          refine a_val hs rfl rfl rfl (y_load hs Tryd.underlying9 rfl rfl (fun w hw => (hw.to 2 rfl).cellV rfl)) ?_; clear hs a; intro a hs
          refine a_eff rfl (e_callB Tryd.func75 rfl rfl hs rfl rfl (tree_named.calls _ s.f1 (nameOk s.f1) _ (tnamed_ok s.f1 hsm.1)) ?_); clear hs a; intro a w hs
          refine a_val hs rfl rfl rfl (y_bneB hs Tryd.underlying4 rfl rfl rfl) ?_; clear hs a; intro a hs
          refine a_val hs rfl rfl rfl (y_move hs rfl) ?_; clear hs a; intro a hs
          rcases hs.know (d := 42) rfl with ⟨h42, hs1⟩ | ⟨h42, hs1⟩ <;> replace hs := hs1 <;> clear hs1
          · refine a_skip hs rfl rfl rfl ?_; clear hs a; intro a hs
            refine a_skip hs rfl rfl rfl ?_; clear hs a; intro a hs
            refine a_skip hs rfl rfl rfl ?_; clear hs a; intro a hs
            refine a_skip hs rfl rfl rfl ?_; clear hs a; intro a hs
            refine a_skip hs rfl rfl rfl ?_; clear hs a; intro a hs
            refine a_skip hs rfl rfl rfl ?_; clear hs a; intro a hs
            refine a_skip hs rfl rfl rfl ?_; clear hs a; intro a hs
            refine a_val hs rfl rfl rfl (y_pickT hs rfl rfl rfl) ?_; clear hs a; intro a hs
            refine a_val hs rfl rfl rfl (y_move hs rfl) ?_; clear hs a; intro a hs
            refine a_skip hs rfl rfl rfl ?_; clear hs a; intro a hs
            refine a_skip hs rfl rfl rfl ?_; clear hs a; intro a hs
            refine a_skip hs rfl rfl rfl ?_; clear hs a; intro a hs
            refine a_skip hs rfl rfl rfl ?_; clear hs a; intro a hs
            refine a_skip hs rfl rfl rfl ?_; clear hs a; intro a hs
            refine a_val hs rfl rfl rfl (y_pickT hs rfl rfl rfl) ?_; clear hs a; intro a hs
            refine a_val hs rfl rfl rfl (y_move hs rfl) ?_; clear hs a; intro a hs
            refine a_skip hs rfl rfl rfl ?_; clear hs a; intro a hs
            refine a_skip hs rfl rfl rfl ?_; clear hs a; intro a hs
            refine a_skip hs rfl rfl rfl ?_; clear hs a; intro a hs
            refine a_skip hs rfl rfl rfl ?_; clear hs a; intro a hs
            refine a_skip hs rfl rfl rfl ?_; clear hs a; intro a hs
            refine a_val hs rfl rfl rfl (y_pickT hs rfl rfl rfl) ?_; clear hs a; intro a hs
            refine a_val hs rfl rfl rfl (y_move hs rfl) ?_; clear hs a; intro a hs
            refine a_skip hs rfl rfl rfl ?_; clear hs a; intro a hs
            refine a_skip hs rfl rfl rfl ?_; clear hs a; intro a hs
            refine a_skip hs rfl rfl rfl ?_; clear hs a; intro a hs
            refine a_skip hs rfl rfl rfl ?_; clear hs a; intro a hs
            refine a_skip hs rfl rfl rfl ?_; clear hs a; intro a hs
            refine a_skip hs rfl rfl rfl ?_; clear hs a; intro a hs
            refine a_skip hs rfl rfl rfl ?_; clear hs a; intro a hs
            refine a_skip hs rfl rfl rfl ?_; clear hs a; intro a hs
            refine a_val hs rfl rfl rfl (y_pickT hs rfl rfl rfl) ?_; clear hs a; intro a hs
            refine wpList_nil (then_normal ?_)
            refine wp_cond_true (hs.ev rfl) ?_
            refine wp_seq ?_
            refine wp_region_lit ?_
            refine a_val hs rfl rfl rfl (y_assign hs rfl) ?_; clear hs a; intro a hs
            refine wpList_nil (then_normal ?_)
            refine wp_ret (then_ret ?_)
            have hH : ¬ headS s := by
              rintro ⟨nm, a, p, r, h1, h2, h3, h4, h5, h6⟩
              rw [hsp] at h1
              simp only [Option.some.injEq, Prod.mk.injEq] at h1
              obtain ⟨rfl, rfl, rfl, rfl⟩ := h1
              first | omega | (have := h3 rfl; omega) | (have := h6 rfl; omega) | (rw [h2] at h42; cases h42)
            have hX : xshape (q + 1) s left = (false, left - 1) := by rw [xshape, if_neg (by omega), if_neg hH]
            refine fin_ret hs (.tmp (hs.slots _ _ rfl) .nil) ⟨?_, ?_⟩
            · rw [hX]; first | rfl | simp [tell]
            · rw [hX]; exact (((hs.mem.to 1 rfl).drop.to 1 rfl).drop.to 1 rfl).drop
          · refine a_valG hs rfl rfl rfl (y_move hs rfl) ?_; clear hs a; intro a hs
            refine a_valG hs rfl rfl rfl (y_not hs rfl) ?_; clear hs a; intro a hs
            refine a_valG hs rfl rfl rfl (y_move hs rfl) ?_; clear hs a; intro a hs
            refine a_valG hs rfl rfl rfl (y_faddr (k' := 1) 1 hs (by kernel_rfl) rfl rfl) ?_; clear hs a; intro a hs
            refine a_valG hs rfl rfl rfl (y_load hs Tryd.underlying9 rfl rfl (fun w hw => (hw.to 2 rfl).cellV rfl)) ?_; clear hs a; intro a hs
            refine a_valG hs rfl rfl rfl (y_sneE hs rfl rfl) ?_; clear hs a; intro a hs
            refine a_valG hs rfl rfl rfl (y_pickT hs rfl rfl rfl) ?_; clear hs a; intro a hs
            refine a_val hs rfl rfl rfl (y_pickF hs rfl rfl rfl) ?_; clear hs a; intro a hs
            refine a_val hs rfl rfl rfl (y_move hs rfl) ?_; clear hs a; intro a hs
            rcases hs.know (d := 51) rfl with ⟨h51, hs1⟩ | ⟨h51, hs1⟩ <;> replace hs := hs1 <;> clear hs1
            · replace h51 := of_decide_eq_true h51
              refine a_skip hs rfl rfl rfl ?_; clear hs a; intro a hs
              refine a_skip hs rfl rfl rfl ?_; clear hs a; intro a hs
              refine a_skip hs rfl rfl rfl ?_; clear hs a; intro a hs
              refine a_skip hs rfl rfl rfl ?_; clear hs a; intro a hs
              refine a_skip hs rfl rfl rfl ?_; clear hs a; intro a hs
              refine a_val hs rfl rfl rfl (y_pickT hs rfl rfl rfl) ?_; clear hs a; intro a hs
              refine a_val hs rfl rfl rfl (y_move hs rfl) ?_; clear hs a; intro a hs
              refine a_skip hs rfl rfl rfl ?_; clear hs a; intro a hs
              refine a_skip hs rfl rfl rfl ?_; clear hs a; intro a hs
              refine a_skip hs rfl rfl rfl ?_; clear hs a; intro a hs
              refine a_skip hs rfl rfl rfl ?_; clear hs a; intro a hs
              refine a_skip hs rfl rfl rfl ?_; clear hs a; intro a hs
              refine a_val hs rfl rfl rfl (y_pickT hs rfl rfl rfl) ?_; clear hs a; intro a hs
              refine a_val hs rfl rfl rfl (y_move hs rfl) ?_; clear hs a; intro a hs
              refine a_skip hs rfl rfl rfl ?_; clear hs a; intro a hs
              refine a_skip hs rfl rfl rfl ?_; clear hs a; intro a hs
              refine a_skip hs rfl rfl rfl ?_; clear hs a; intro a hs
              refine a_skip hs rfl rfl rfl ?_; clear hs a; intro a hs
              refine a_skip hs rfl rfl rfl ?_; clear hs a; intro a hs
              refine a_skip hs rfl rfl rfl ?_; clear hs a; intro a hs
              refine a_skip hs rfl rfl rfl ?_; clear hs a; intro a hs
              refine a_skip hs rfl rfl rfl ?_; clear hs a; intro a hs
              refine a_val hs rfl rfl rfl (y_pickT hs rfl rfl rfl) ?_; clear hs a; intro a hs
              refine wpList_nil (then_normal ?_)
              refine wp_cond_true (hs.ev rfl) ?_
              refine wp_seq ?_
              refine wp_region_lit ?_
              refine a_val hs rfl rfl rfl (y_assign hs rfl) ?_; clear hs a; intro a hs
              refine wpList_nil (then_normal ?_)
              refine wp_ret (then_ret ?_)
              have hH : ¬ headS s := by
                rintro ⟨nm, a, p, r, h1, h2, h3, h4, h5, h6⟩
                rw [hsp] at h1
                simp only [Option.some.injEq, Prod.mk.injEq] at h1
                obtain ⟨rfl, rfl, rfl, rfl⟩ := h1
                first | omega | (have := h3 rfl; omega) | (have := h6 rfl; omega) | (rw [h2] at h42; cases h42)
              have hX : xshape (q + 1) s left = (false, left - 1) := by rw [xshape, if_neg (by omega), if_neg hH]
              refine fin_ret hs (.tmp (hs.slots _ _ rfl) .nil) ⟨?_, ?_⟩
              · rw [hX]; first | rfl | simp [tell]
              · rw [hX]; exact (((hs.mem.to 1 rfl).drop.to 1 rfl).drop.to 1 rfl).drop
            · replace h51 := of_decide_eq_false h51
              refine a_valG hs rfl rfl rfl (y_faddr (k' := 2) 2 hs (by kernel_rfl) rfl rfl) ?_; clear hs a; intro a hs
              refine a_valG hs rfl rfl rfl (y_load hs Tryd.underlying23 rfl rfl (fun w hw => (hw.to 2 rfl).cellV rfl)) ?_; clear hs a; intro a hs
              refine a_valG hs rfl rfl rfl (y_lenL hs Tryd.underlying23 rfl) ?_; clear hs a; intro a hs
              refine a_valG hs rfl rfl rfl (y_move hs rfl) ?_; clear hs a; intro a hs
              refine a_valG hs rfl rfl rfl (y_cmp hs rfl rfl rfl) ?_; clear hs a; intro a hs
              refine a_val hs rfl rfl rfl (y_pickF hs rfl rfl rfl) ?_; clear hs a; intro a hs
              refine a_val hs rfl rfl rfl (y_move hs rfl) ?_; clear hs a; intro a hs
              rcases hs.know (d := 58) rfl with ⟨h58, hs1⟩ | ⟨h58, hs1⟩ <;> replace hs := hs1 <;> clear hs1
              · replace h58 := bne_iff_ne.1 h58
                refine a_skip hs rfl rfl rfl ?_; clear hs a; intro a hs
                refine a_skip hs rfl rfl rfl ?_; clear hs a; intro a hs
                refine a_skip hs rfl rfl rfl ?_; clear hs a; intro a hs
                refine a_skip hs rfl rfl rfl ?_; clear hs a; intro a hs
                refine a_skip hs rfl rfl rfl ?_; clear hs a; intro a hs
                refine a_val hs rfl rfl rfl (y_pickT hs rfl rfl rfl) ?_; clear hs a; intro a hs
                refine a_val hs rfl rfl rfl (y_move hs rfl) ?_; clear hs a; intro a hs
                refine a_skip hs rfl rfl rfl ?_; clear hs a; intro a hs
                refine a_skip hs rfl rfl rfl ?_; clear hs a; intro a hs
                refine a_skip hs rfl rfl rfl ?_; clear hs a; intro a hs
                refine a_skip hs rfl rfl rfl ?_; clear hs a; intro a hs
                refine a_skip hs rfl rfl rfl ?_; clear hs a; intro a hs
                refine a_skip hs rfl rfl rfl ?_; clear hs a; intro a hs
                refine a_skip hs rfl rfl rfl ?_; clear hs a; intro a hs
                refine a_skip hs rfl rfl rfl ?_; clear hs a; intro a hs
                refine a_val hs rfl rfl rfl (y_pickT hs rfl rfl rfl) ?_; clear hs a; intro a hs
                refine wpList_nil (then_normal ?_)
                refine wp_cond_true (hs.ev rfl) ?_
                refine wp_seq ?_
                refine wp_region_lit ?_
                refine a_val hs rfl rfl rfl (y_assign hs rfl) ?_; clear hs a; intro a hs
                refine wpList_nil (then_normal ?_)
                refine wp_ret (then_ret ?_)
                have hH : ¬ headS s := by
                  rintro ⟨nm, a, p, r, h1, h2, h3, h4, h5, h6⟩
                  rw [hsp] at h1
                  simp only [Option.some.injEq, Prod.mk.injEq] at h1
                  obtain ⟨rfl, rfl, rfl, rfl⟩ := h1
                  first | omega | (have := h3 rfl; omega) | (have := h6 rfl; omega) | (rw [h2] at h42; cases h42)
                have hX : xshape (q + 1) s left = (false, left - 1) := by rw [xshape, if_neg (by omega), if_neg hH]
                refine fin_ret hs (.tmp (hs.slots _ _ rfl) .nil) ⟨?_, ?_⟩
                · rw [hX]; first | rfl | simp [tell]
                · rw [hX]; exact (((hs.mem.to 1 rfl).drop.to 1 rfl).drop.to 1 rfl).drop
              · replace h58 := bne_eq_false_iff_eq.1 h58
                refine a_valG hs rfl rfl rfl (y_faddr (k' := 3) 3 hs (by kernel_rfl) rfl rfl) ?_; clear hs a; intro a hs
                refine a_valG hs rfl rfl rfl (y_load hs Tryd.underlying39 rfl rfl (fun w hw => (hw.to 2 rfl).cellV rfl)) ?_; clear hs a; intro a hs
                refine a_valG hs rfl rfl rfl (y_lenL hs Tryd.underlying39 rfl) ?_; clear hs a; intro a hs
                refine a_valG hs rfl rfl rfl (y_move hs rfl) ?_; clear hs a; intro a hs
                refine a_valG hs rfl rfl rfl (y_cmp hs rfl rfl rfl) ?_; clear hs a; intro a hs
                refine a_val hs rfl rfl rfl (y_pickF hs rfl rfl rfl) ?_; clear hs a; intro a hs
                refine a_val hs rfl rfl rfl (y_move hs rfl) ?_; clear hs a; intro a hs
                rcases hs.know (d := 65) rfl with ⟨h65, hs1⟩ | ⟨h65, hs1⟩ <;> replace hs := hs1 <;> clear hs1
                · replace h65 := bne_iff_ne.1 h65
                  refine a_skip hs rfl rfl rfl ?_; clear hs a; intro a hs
                  refine a_skip hs rfl rfl rfl ?_; clear hs a; intro a hs
                  refine a_skip hs rfl rfl rfl ?_; clear hs a; intro a hs
                  refine a_skip hs rfl rfl rfl ?_; clear hs a; intro a hs
                  refine a_skip hs rfl rfl rfl ?_; clear hs a; intro a hs
                  refine a_skip hs rfl rfl rfl ?_; clear hs a; intro a hs
                  refine a_skip hs rfl rfl rfl ?_; clear hs a; intro a hs
                  refine a_skip hs rfl rfl rfl ?_; clear hs a; intro a hs
                  refine a_val hs rfl rfl rfl (y_pickT hs rfl rfl rfl) ?_; clear hs a; intro a hs
                  refine wpList_nil (then_normal ?_)
                  refine wp_cond_true (hs.ev rfl) ?_
                  refine wp_seq ?_
                  refine wp_region_lit ?_
                  refine a_val hs rfl rfl rfl (y_assign hs rfl) ?_; clear hs a; intro a hs
                  refine wpList_nil (then_normal ?_)
                  refine wp_ret (then_ret ?_)
                  have hH : ¬ headS s := by
                    rintro ⟨nm, a, p, r, h1, h2, h3, h4, h5, h6⟩
                    rw [hsp] at h1
                    simp only [Option.some.injEq, Prod.mk.injEq] at h1
                    obtain ⟨rfl, rfl, rfl, rfl⟩ := h1
                    first | omega | (have := h3 rfl; omega) | (have := h6 rfl; omega) | (rw [h2] at h42; cases h42)
                  have hX : xshape (q + 1) s left = (false, left - 1) := by rw [xshape, if_neg (by omega), if_neg hH]
                  refine fin_ret hs (.tmp (hs.slots _ _ rfl) .nil) ⟨?_, ?_⟩
                  · rw [hX]; first | rfl | simp [tell]
                  · rw [hX]; exact (((hs.mem.to 1 rfl).drop.to 1 rfl).drop.to 1 rfl).drop
                · replace h65 := bne_eq_false_iff_eq.1 h65
                  refine a_valG hs rfl rfl rfl (y_move hs rfl) ?_; clear hs a; intro a hs
                  refine a_valG hs rfl rfl rfl (y_not hs rfl) ?_; clear hs a; intro a hs
                  refine a_valG hs rfl rfl rfl (y_move hs rfl) ?_; clear hs a; intro a hs
                  refine a_valG hs rfl rfl rfl (y_faddr (k' := 4) 4 hs (by kernel_rfl) rfl rfl) ?_; clear hs a; intro a hs
                  refine a_valG hs rfl rfl rfl (y_load hs Tryd.underlying40 rfl rfl (fun w hw => (hw.to 2 rfl).cellV rfl)) ?_; clear hs a; intro a hs
                  refine a_valG hs rfl rfl rfl (y_lenL hs Tryd.underlying40 rfl) ?_; clear hs a; intro a hs
                  refine a_valG hs rfl rfl rfl (y_cmp hs rfl rfl rfl) ?_; clear hs a; intro a hs
                  refine a_valG hs rfl rfl rfl (y_pickT hs rfl rfl rfl) ?_; clear hs a; intro a hs
                  refine a_val hs rfl rfl rfl (y_pickF hs rfl rfl rfl) ?_; clear hs a; intro a hs
                  refine wpList_nil (then_normal ?_)
                  refine wp_cond_split (hs.ev rfl) (fun h74 => ?_) (fun h74 => ?_)
                  · replace h74 := of_decide_eq_true h74
                    refine wp_seq ?_
                    refine wp_region_lit ?_
                    refine a_val hs rfl rfl rfl (y_assign hs rfl) ?_; clear hs a; intro a hs
                    refine wpList_nil (then_normal ?_)
                    refine wp_ret (then_ret ?_)
                    have hH : ¬ headS s := by
                      rintro ⟨nm, a, p, r, h1, h2, h3, h4, h5, h6⟩
                      rw [hsp] at h1
                      simp only [Option.some.injEq, Prod.mk.injEq] at h1
                      obtain ⟨rfl, rfl, rfl, rfl⟩ := h1
                      first | omega | (have := h3 rfl; omega) | (have := h6 rfl; omega) | (rw [h2] at h42; cases h42)
                    have hX : xshape (q + 1) s left = (false, left - 1) := by rw [xshape, if_neg (by omega), if_neg hH]
                    refine fin_ret hs (.tmp (hs.slots _ _ rfl) .nil) ⟨?_, ?_⟩
                    · rw [hX]; first | rfl | simp [tell]
                    · rw [hX]; exact (((hs.mem.to 1 rfl).drop.to 1 rfl).drop.to 1 rfl).drop
                  · replace h74 := of_decide_eq_false h74
                    have hH : headS s := ⟨_, _, _, _, hsp, (by simpa using h42), (fun _ => by omega), by omega, by omega, (fun _ => by omega)⟩
                    obtain ⟨RR, hRR0⟩ : ∃ RR : Bool × Int, RR = (true, left - 1) := ⟨_, rfl⟩
                    have hR : rowsS s (left - 1) = RR := by unfold rowsS; rw [if_neg (by omega), hRR0]
                    have hR1 : RR.1 = true := by rw [hRR0]
                    have hRR : 0 ≤ RR.2 ∧ RR.2 ≤ 8192 := by rw [hRR0]; exact ⟨by show 0 ≤ left - 1; omega, by show left - 1 ≤ 8192; omega⟩
                    rw [show left - 1 = RR.2 by rw [hRR0]] at hs
                    refine wp_skip (then_normal ?_)
                    refine wp_seq ?_
                    refine wp_seq ?_
                    refine wp_region_lit ?_
                    refine a_val hs rfl rfl rfl (y_move hs rfl) ?_; clear hs a; intro a hs
                    refine a_val hs rfl rfl rfl (y_move hs rfl) ?_; clear hs a; intro a hs
                    refine a_skip hs rfl rfl rfl ?_; clear hs a; intro a hs
                    refine a_skip hs rfl rfl rfl ?_; clear hs a; intro a hs
                    refine a_skip hs rfl rfl rfl ?_; clear hs a; intro a hs
                    refine a_skip hs rfl rfl rfl ?_; clear hs a; intro a hs
                    refine a_skip hs rfl rfl rfl ?_; clear hs a; intro a hs
                    refine a_val hs rfl rfl rfl (y_pickF hs rfl rfl rfl) ?_; clear hs a; intro a hs
                    refine a_val hs rfl rfl rfl (y_move hs rfl) ?_; clear hs a; intro a hs
                    refine a_valG hs rfl rfl rfl (y_load hs Tryd.underlying72 rfl rfl (fun w hw => (hw.to 3 rfl).cellV rfl)) ?_; clear hs a; intro a hs
                    refine a_valG hs rfl rfl rfl (y_faddr (k' := 2) 2 hs (by kernel_rfl) rfl rfl) ?_; clear hs a; intro a hs
                    refine a_valG hs rfl rfl rfl (y_load hs Tryd.underlying23 rfl rfl (fun w hw => (hw.to 2 rfl).cellV rfl)) ?_; clear hs a; intro a hs
                    refine a_effG hs rfl (e_callX Tryd.func77 rfl rfl hs rfl rfl (walk_exprs g A2 c2 s.f2 RR.2 _ w0 _ hA2 hsm.2.1 hRR hs.mem) (fun e w1 ⟨he, hm⟩ => ⟨_, he, _, hm, ?_⟩)); clear hs a; intro a hs
                    refine a_valG hs rfl rfl rfl (y_not hs rfl) ?_; clear hs a; intro a hs
                    refine a_val hs rfl rfl rfl (y_pickF hs rfl rfl rfl) ?_; clear hs a; intro a hs
                    refine wpList_nil (then_normal ?_)
                    refine wp_cond_split (hs.ev rfl) (fun h89 => ?_) (fun h89 => ?_)
                    · replace h89 := (not_t h89)
                      refine wp_seq ?_
                      refine wp_region_lit ?_
                      refine a_val hs rfl rfl rfl (y_assign hs rfl) ?_; clear hs a; intro a hs
                      refine wpList_nil (then_normal ?_)
                      refine wp_ret (then_ret ?_)
                      have hX : xshape (q + 1) s left = (false, (xlist stE s.f2 RR.2).2) := by rw [xshape, if_neg (by omega), if_pos hH, hR, if_pos hR1, if_neg (by rw [h89]; exact Bool.false_ne_true), ← h89]
                      refine fin_ret hs (.tmp (hs.slots _ _ rfl) .nil) ⟨?_, ?_⟩
                      · rw [hX]; first | rfl | simp [tell]
                      · rw [hX]; exact (((hs.mem.to 1 rfl).drop.to 1 rfl).drop.to 1 rfl).drop
                    · replace h89 := (not_f h89)
                      have hxf := xlist_left s.f2 RR.2 (fun p _ l h => stE_falls p l h) hRR.1
                      have hRE : 0 ≤ (xlist stE s.f2 RR.2).2 ∧ (xlist stE s.f2 RR.2).2 ≤ 8192 := ⟨hxf.2.2 h89, by have := hxf.2.1; omega⟩
                      refine wp_skip (then_normal ?_)
                      refine wp_seq ?_
                      refine wp_region_lit ?_
                      refine a_val hs rfl rfl rfl (y_faddr (k' := 3) 3 hs (by kernel_rfl) rfl rfl) ?_; clear hs a; intro a hs
                      refine a_val hs rfl rfl rfl (y_load hs Tryd.underlying39 rfl rfl (fun w hw => (hw.to 2 rfl).cellV rfl)) ?_; clear hs a; intro a hs
                      refine a_val hs rfl rfl rfl (y_func hs rfl rfl) ?_; clear hs a; intro a hs
                      refine a_eff rfl (e_callX Tryd.func78 rfl rfl hs rfl rfl (contains_S g 79 _ [.pointer (some ⟨gc, 0, none⟩), .pointer (some ⟨gv, 0, none⟩)] (xshape q) A3 c3 s.f3 (xlist stE s.f2 RR.2).2 (pt gv #[.int .i64 ((q + 1 : Nat) : Int)] 3 :: pt gx #[.int .u8 s.f0, .string s.f1, .slice A2 s.f2.length c2, .slice A3 s.f3.length c3, .slice A4 s.f4.length c4, .int .i64 s.f5, .int .i64 s.f6] 42 :: pt gc #[.pointer (some ⟨g, 0, none⟩)] 72 :: bs) w0 _ Tryd.func79 rfl rfl hA3 (fun p hp cs lf w1 hK hlen hlf h => by obtain ⟨B2, d2, B3, d3, B4, d4, rfl, e2, C2, e3, C3, e4, C4⟩ := k42_open hK; exact shape_one q hn (ih q rfl) g gc gv p B2 B3 B4 d2 d3 d4 lf _ bs w0 w1 C2 C3 C4 (hsm.2.2.1 p hp) hlf h) (fun p hp lf h => xshape_falls q p lf h) hRE hs.mem) (fun e w1 ⟨he, hm⟩ => ⟨_, he, _, hm, ?_⟩)); clear hs a; intro a hs
                      refine a_val hs rfl rfl rfl (y_not hs rfl) ?_; clear hs a; intro a hs
                      refine a_val hs rfl rfl rfl (y_assign hs rfl) ?_; clear hs a; intro a hs
                      refine wpList_nil (then_normal ?_)
                      refine wp_ret ?_
                      have hX : xshape (q + 1) s left = xlist (xshape q) s.f3 (xlist stE s.f2 RR.2).2 := by rw [xshape, if_neg (by omega), if_pos hH, hR, if_pos hR1, if_pos h89]
                      refine fin_ret hs (.tmp (hs.slots _ _ rfl) .nil) ⟨?_, ?_⟩
                      · rw [hX]; first | rfl | simp [tell]
                      · rw [hX]; exact (((hs.mem.to 1 rfl).drop.to 1 rfl).drop.to 1 rfl).drop
        · refine wp_region_lit ?_
          refine a_val hs rfl rfl rfl (y_move hs rfl) ?_; clear hs a; intro a hs
          refine a_val hs rfl rfl rfl (y_faddr (k' := 1) 1 hs (by kernel_rfl) rfl rfl) ?_; clear hs a; intro a hs
          refine a_val hs rfl rfl rfl (y_load hs Tryd.underlying9 rfl rfl (fun w hw => (hw.to 2 rfl).cellV rfl)) ?_; clear hs a; intro a hs
          refine a_eff rfl (e_callB Tryd.func75 rfl rfl hs rfl rfl (tree_named.calls _ s.f1 (nameOk s.f1) _ (tnamed_ok s.f1 hsm.1)) ?_); clear hs a; intro a w hs
          refine a_val hs rfl rfl rfl (y_bneB hs Tryd.underlying4 rfl rfl rfl) ?_; clear hs a; intro a hs
          refine a_val hs rfl rfl rfl (y_move hs rfl) ?_; clear hs a; intro a hs
          rcases hs.know (d := 42) rfl with ⟨h42, hs1⟩ | ⟨h42, hs1⟩ <;> replace hs := hs1 <;> clear hs1
          · refine a_skip hs rfl rfl rfl ?_; clear hs a; intro a hs
            refine a_skip hs rfl rfl rfl ?_; clear hs a; intro a hs
            refine a_skip hs rfl rfl rfl ?_; clear hs a; intro a hs
            refine a_skip hs rfl rfl rfl ?_; clear hs a; intro a hs
            refine a_skip hs rfl rfl rfl ?_; clear hs a; intro a hs
            refine a_skip hs rfl rfl rfl ?_; clear hs a; intro a hs
            refine a_skip hs rfl rfl rfl ?_; clear hs a; intro a hs
            refine a_val hs rfl rfl rfl (y_pickT hs rfl rfl rfl) ?_; clear hs a; intro a hs
            refine a_val hs rfl rfl rfl (y_move hs rfl) ?_; clear hs a; intro a hs
            refine a_skip hs rfl rfl rfl ?_; clear hs a; intro a hs
            refine a_skip hs rfl rfl rfl ?_; clear hs a; intro a hs
            refine a_skip hs rfl rfl rfl ?_; clear hs a; intro a hs
            refine a_skip hs rfl rfl rfl ?_; clear hs a; intro a hs
            refine a_skip hs rfl rfl rfl ?_; clear hs a; intro a hs
            refine a_val hs rfl rfl rfl (y_pickT hs rfl rfl rfl) ?_; clear hs a; intro a hs
            refine a_val hs rfl rfl rfl (y_move hs rfl) ?_; clear hs a; intro a hs
            refine a_skip hs rfl rfl rfl ?_; clear hs a; intro a hs
            refine a_skip hs rfl rfl rfl ?_; clear hs a; intro a hs
            refine a_skip hs rfl rfl rfl ?_; clear hs a; intro a hs
            refine a_skip hs rfl rfl rfl ?_; clear hs a; intro a hs
            refine a_skip hs rfl rfl rfl ?_; clear hs a; intro a hs
            refine a_val hs rfl rfl rfl (y_pickT hs rfl rfl rfl) ?_; clear hs a; intro a hs
            refine a_val hs rfl rfl rfl (y_move hs rfl) ?_; clear hs a; intro a hs
            refine a_skip hs rfl rfl rfl ?_; clear hs a; intro a hs
            refine a_skip hs rfl rfl rfl ?_; clear hs a; intro a hs
            refine a_skip hs rfl rfl rfl ?_; clear hs a; intro a hs
            refine a_skip hs rfl rfl rfl ?_; clear hs a; intro a hs
            refine a_skip hs rfl rfl rfl ?_; clear hs a; intro a hs
            refine a_skip hs rfl rfl rfl ?_; clear hs a; intro a hs
            refine a_skip hs rfl rfl rfl ?_; clear hs a; intro a hs
            refine a_skip hs rfl rfl rfl ?_; clear hs a; intro a hs
            refine a_val hs rfl rfl rfl (y_pickT hs rfl rfl rfl) ?_; clear hs a; intro a hs
            refine wpList_nil (then_normal ?_)
            refine wp_cond_true (hs.ev rfl) ?_
            refine wp_seq ?_
            refine wp_region_lit ?_
            refine a_val hs rfl rfl rfl (y_assign hs rfl) ?_; clear hs a; intro a hs
            refine wpList_nil (then_normal ?_)
            refine wp_ret (then_ret ?_)
            have hH : ¬ headS s := by
              rintro ⟨nm, a, p, r, h1, h2, h3, h4, h5, h6⟩
              rw [hsp] at h1
              simp only [Option.some.injEq, Prod.mk.injEq] at h1
              obtain ⟨rfl, rfl, rfl, rfl⟩ := h1
              first | omega | (have := h3 rfl; omega) | (have := h6 rfl; omega) | (rw [h2] at h42; cases h42)
            have hX : xshape (q + 1) s left = (false, left - 1) := by rw [xshape, if_neg (by omega), if_neg hH]
            refine fin_ret hs (.tmp (hs.slots _ _ rfl) .nil) ⟨?_, ?_⟩
            · rw [hX]; first | rfl | simp [tell]
            · rw [hX]; exact (((hs.mem.to 1 rfl).drop.to 1 rfl).drop.to 1 rfl).drop
          · refine a_valG hs rfl rfl rfl (y_move hs rfl) ?_; clear hs a; intro a hs
            refine a_valG hs rfl rfl rfl (y_not hs rfl) ?_; clear hs a; intro a hs
            refine a_valG hs rfl rfl rfl (y_move hs rfl) ?_; clear hs a; intro a hs
            refine a_valG hs rfl rfl rfl (y_faddr (k' := 1) 1 hs (by kernel_rfl) rfl rfl) ?_; clear hs a; intro a hs
            refine a_valG hs rfl rfl rfl (y_load hs Tryd.underlying9 rfl rfl (fun w hw => (hw.to 2 rfl).cellV rfl)) ?_; clear hs a; intro a hs
            refine a_valG hs rfl rfl rfl (y_sneE hs rfl rfl) ?_; clear hs a; intro a hs
            refine a_valG hs rfl rfl rfl (y_pickT hs rfl rfl rfl) ?_; clear hs a; intro a hs
            refine a_val hs rfl rfl rfl (y_pickF hs rfl rfl rfl) ?_; clear hs a; intro a hs
            refine a_val hs rfl rfl rfl (y_move hs rfl) ?_; clear hs a; intro a hs
            rcases hs.know (d := 51) rfl with ⟨h51, hs1⟩ | ⟨h51, hs1⟩ <;> replace hs := hs1 <;> clear hs1
            · replace h51 := of_decide_eq_true h51
              refine a_skip hs rfl rfl rfl ?_; clear hs a; intro a hs
              refine a_skip hs rfl rfl rfl ?_; clear hs a; intro a hs
              refine a_skip hs rfl rfl rfl ?_; clear hs a; intro a hs
              refine a_skip hs rfl rfl rfl ?_; clear hs a; intro a hs
              refine a_skip hs rfl rfl rfl ?_; clear hs a; intro a hs
              refine a_val hs rfl rfl rfl (y_pickT hs rfl rfl rfl) ?_; clear hs a; intro a hs
              refine a_val hs rfl rfl rfl (y_move hs rfl) ?_; clear hs a; intro a hs
              refine a_skip hs rfl rfl rfl ?_; clear hs a; intro a hs
              refine a_skip hs rfl rfl rfl ?_; clear hs a; intro a hs
              refine a_skip hs rfl rfl rfl ?_; clear hs a; intro a hs
              refine a_skip hs rfl rfl rfl ?_; clear hs a; intro a hs
              refine a_skip hs rfl rfl rfl ?_; clear hs a; intro a hs
              refine a_val hs rfl rfl rfl (y_pickT hs rfl rfl rfl) ?_; clear hs a; intro a hs
              refine a_val hs rfl rfl rfl (y_move hs rfl) ?_; clear hs a; intro a hs
              refine a_skip hs rfl rfl rfl ?_; clear hs a; intro a hs
              refine a_skip hs rfl rfl rfl ?_; clear hs a; intro a hs
              refine a_skip hs rfl rfl rfl ?_; clear hs a; intro a hs
              refine a_skip hs rfl rfl rfl ?_; clear hs a; intro a hs
              refine a_skip hs rfl rfl rfl ?_; clear hs a; intro a hs
              refine a_skip hs rfl rfl rfl ?_; clear hs a; intro a hs
              refine a_skip hs rfl rfl rfl ?_; clear hs a; intro a hs
              refine a_skip hs rfl rfl rfl ?_; clear hs a; intro a hs
              refine a_val hs rfl rfl rfl (y_pickT hs rfl rfl rfl) ?_; clear hs a; intro a hs
              refine wpList_nil (then_normal ?_)
              refine wp_cond_true (hs.ev rfl) ?_
              refine wp_seq ?_
              refine wp_region_lit ?_
              refine a_val hs rfl rfl rfl (y_assign hs rfl) ?_; clear hs a; intro a hs
              refine wpList_nil (then_normal ?_)
              refine wp_ret (then_ret ?_)
              have hH : ¬ headS s := by
                rintro ⟨nm, a, p, r, h1, h2, h3, h4, h5, h6⟩
                rw [hsp] at h1
                simp only [Option.some.injEq, Prod.mk.injEq] at h1
                obtain ⟨rfl, rfl, rfl, rfl⟩ := h1
                first | omega | (have := h3 rfl; omega) | (have := h6 rfl; omega) | (rw [h2] at h42; cases h42)
              have hX : xshape (q + 1) s left = (false, left - 1) := by rw [xshape, if_neg (by omega), if_neg hH]
              refine fin_ret hs (.tmp (hs.slots _ _ rfl) .nil) ⟨?_, ?_⟩
              · rw [hX]; first | rfl | simp [tell]
              · rw [hX]; exact (((hs.mem.to 1 rfl).drop.to 1 rfl).drop.to 1 rfl).drop
            · replace h51 := of_decide_eq_false h51
              refine a_valG hs rfl rfl rfl (y_faddr (k' := 2) 2 hs (by kernel_rfl) rfl rfl) ?_; clear hs a; intro a hs
              refine a_valG hs rfl rfl rfl (y_load hs Tryd.underlying23 rfl rfl (fun w hw => (hw.to 2 rfl).cellV rfl)) ?_; clear hs a; intro a hs
              refine a_valG hs rfl rfl rfl (y_lenL hs Tryd.underlying23 rfl) ?_; clear hs a; intro a hs
              refine a_valG hs rfl rfl rfl (y_move hs rfl) ?_; clear hs a; intro a hs
              refine a_valG hs rfl rfl rfl (y_cmp hs rfl rfl rfl) ?_; clear hs a; intro a hs
              refine a_val hs rfl rfl rfl (y_pickF hs rfl rfl rfl) ?_; clear hs a; intro a hs
              refine a_val hs rfl rfl rfl (y_move hs rfl) ?_; clear hs a; intro a hs
              rcases hs.know (d := 58) rfl with ⟨h58, hs1⟩ | ⟨h58, hs1⟩ <;> replace hs := hs1 <;> clear hs1
              · replace h58 := bne_iff_ne.1 h58
                refine a_skip hs rfl rfl rfl ?_; clear hs a; intro a hs
                refine a_skip hs rfl rfl rfl ?_; clear hs a; intro a hs
                refine a_skip hs rfl rfl rfl ?_; clear hs a; intro a hs
                refine a_skip hs rfl rfl rfl ?_; clear hs a; intro a hs
                refine a_skip hs rfl rfl rfl ?_; clear hs a; intro a hs
                refine a_val hs rfl rfl rfl (y_pickT hs rfl rfl rfl) ?_; clear hs a; intro a hs
                refine a_val hs rfl rfl rfl (y_move hs rfl) ?_; clear hs a; intro a hs
                refine a_skip hs rfl rfl rfl ?_; clear hs a; intro a hs
                refine a_skip hs rfl rfl rfl ?_; clear hs a; intro a hs
                refine a_skip hs rfl rfl rfl ?_; clear hs a; intro a hs
                refine a_skip hs rfl rfl rfl ?_; clear hs a; intro a hs
                refine a_skip hs rfl rfl rfl ?_; clear hs a; intro a hs
                refine a_skip hs rfl rfl rfl ?_; clear hs a; intro a hs
                refine a_skip hs rfl rfl rfl ?_; clear hs a; intro a hs
                refine a_skip hs rfl rfl rfl ?_; clear hs a; intro a hs
                refine a_val hs rfl rfl rfl (y_pickT hs rfl rfl rfl) ?_; clear hs a; intro a hs
                refine wpList_nil (then_normal ?_)
                refine wp_cond_true (hs.ev rfl) ?_
                refine wp_seq ?_
                refine wp_region_lit ?_
                refine a_val hs rfl rfl rfl (y_assign hs rfl) ?_; clear hs a; intro a hs
                refine wpList_nil (then_normal ?_)
                refine wp_ret (then_ret ?_)
                have hH : ¬ headS s := by
                  rintro ⟨nm, a, p, r, h1, h2, h3, h4, h5, h6⟩
                  rw [hsp] at h1
                  simp only [Option.some.injEq, Prod.mk.injEq] at h1
                  obtain ⟨rfl, rfl, rfl, rfl⟩ := h1
                  first | omega | (have := h3 rfl; omega) | (have := h6 rfl; omega) | (rw [h2] at h42; cases h42)
                have hX : xshape (q + 1) s left = (false, left - 1) := by rw [xshape, if_neg (by omega), if_neg hH]
                refine fin_ret hs (.tmp (hs.slots _ _ rfl) .nil) ⟨?_, ?_⟩
                · rw [hX]; first | rfl | simp [tell]
                · rw [hX]; exact (((hs.mem.to 1 rfl).drop.to 1 rfl).drop.to 1 rfl).drop
              · replace h58 := bne_eq_false_iff_eq.1 h58
                refine a_valG hs rfl rfl rfl (y_faddr (k' := 3) 3 hs (by kernel_rfl) rfl rfl) ?_; clear hs a; intro a hs
                refine a_valG hs rfl rfl rfl (y_load hs Tryd.underlying39 rfl rfl (fun w hw => (hw.to 2 rfl).cellV rfl)) ?_; clear hs a; intro a hs
                refine a_valG hs rfl rfl rfl (y_lenL hs Tryd.underlying39 rfl) ?_; clear hs a; intro a hs
                refine a_valG hs rfl rfl rfl (y_move hs rfl) ?_; clear hs a; intro a hs
                refine a_valG hs rfl rfl rfl (y_cmp hs rfl rfl rfl) ?_; clear hs a; intro a hs
                refine a_val hs rfl rfl rfl (y_pickF hs rfl rfl rfl) ?_; clear hs a; intro a hs
                refine a_val hs rfl rfl rfl (y_move hs rfl) ?_; clear hs a; intro a hs
                rcases hs.know (d := 65) rfl with ⟨h65, hs1⟩ | ⟨h65, hs1⟩ <;> replace hs := hs1 <;> clear hs1
                · replace h65 := bne_iff_ne.1 h65
                  refine a_skip hs rfl rfl rfl ?_; clear hs a; intro a hs
                  refine a_skip hs rfl rfl rfl ?_; clear hs a; intro a hs
                  refine a_skip hs rfl rfl rfl ?_; clear hs a; intro a hs
                  refine a_skip hs rfl rfl rfl ?_; clear hs a; intro a hs
                  refine a_skip hs rfl rfl rfl ?_; clear hs a; intro a hs
                  refine a_skip hs rfl rfl rfl ?_; clear hs a; intro a hs
                  refine a_skip hs rfl rfl rfl ?_; clear hs a; intro a hs
                  refine a_skip hs rfl rfl rfl ?_; clear hs a; intro a hs
                  refine a_val hs rfl rfl rfl (y_pickT hs rfl rfl rfl) ?_; clear hs a; intro a hs
                  refine wpList_nil (then_normal ?_)
                  refine wp_cond_true (hs.ev rfl) ?_
                  refine wp_seq ?_
                  refine wp_region_lit ?_
                  refine a_val hs rfl rfl rfl (y_assign hs rfl) ?_; clear hs a; intro a hs
                  refine wpList_nil (then_normal ?_)
                  refine wp_ret (then_ret ?_)
                  have hH : ¬ headS s := by
                    rintro ⟨nm, a, p, r, h1, h2, h3, h4, h5, h6⟩
                    rw [hsp] at h1
                    simp only [Option.some.injEq, Prod.mk.injEq] at h1
                    obtain ⟨rfl, rfl, rfl, rfl⟩ := h1
                    first | omega | (have := h3 rfl; omega) | (have := h6 rfl; omega) | (rw [h2] at h42; cases h42)
                  have hX : xshape (q + 1) s left = (false, left - 1) := by rw [xshape, if_neg (by omega), if_neg hH]
                  refine fin_ret hs (.tmp (hs.slots _ _ rfl) .nil) ⟨?_, ?_⟩
                  · rw [hX]; first | rfl | simp [tell]
                  · rw [hX]; exact (((hs.mem.to 1 rfl).drop.to 1 rfl).drop.to 1 rfl).drop
                · replace h65 := bne_eq_false_iff_eq.1 h65
                  refine a_valG hs rfl rfl rfl (y_move hs rfl) ?_; clear hs a; intro a hs
                  refine a_valG hs rfl rfl rfl (y_not hs rfl) ?_; clear hs a; intro a hs
                  refine a_valG hs rfl rfl rfl (y_move hs rfl) ?_; clear hs a; intro a hs
                  refine a_skip hs rfl rfl rfl ?_; clear hs a; intro a hs
                  refine a_skip hs rfl rfl rfl ?_; clear hs a; intro a hs
                  refine a_skip hs rfl rfl rfl ?_; clear hs a; intro a hs
                  refine a_skip hs rfl rfl rfl ?_; clear hs a; intro a hs
                  refine a_valG hs rfl rfl rfl (y_pickF hs rfl rfl rfl) ?_; clear hs a; intro a hs
                  refine a_val hs rfl rfl rfl (y_pickF hs rfl rfl rfl) ?_; clear hs a; intro a hs
                  refine wpList_nil (then_normal ?_)
                  refine wp_cond_false (hs.ev rfl) ?_
                  refine wp_skip (then_normal ?_)
                  refine wp_seq ?_
                  refine wp_seq ?_
                  have hH : headS s := ⟨_, _, _, _, hsp, (by simpa using h42), (fun _ => by omega), by omega, by omega, (fun h => by cases h)⟩
                  obtain ⟨RR, hRR0⟩ : ∃ RR, RR = rowsF s.f4 (left - 1) := ⟨_, rfl⟩
                  have hR : rowsS s (left - 1) = RR := by unfold rowsS; rw [if_pos (by omega), hRR0]
                  refine wp_region_lit ?_
                  refine a_val hs rfl rfl rfl (y_move hs rfl) ?_; clear hs a; intro a hs
                  refine a_val hs rfl rfl rfl (y_move hs rfl) ?_; clear hs a; intro a hs
                  refine a_valG hs rfl rfl rfl (y_load hs Tryd.underlying72 rfl rfl (fun w hw => (hw.to 3 rfl).cellV rfl)) ?_; clear hs a; intro a hs
                  refine a_valG hs rfl rfl rfl (y_faddr (k' := 4) 4 hs (by kernel_rfl) rfl rfl) ?_; clear hs a; intro a hs
                  refine a_valG hs rfl rfl rfl (y_load hs Tryd.underlying40 rfl rfl (fun w hw => (hw.to 2 rfl).cellV rfl)) ?_; clear hs a; intro a hs
                  refine a_effG hs rfl (e_callX Tryd.func76 rfl rfl hs rfl rfl (walk_rows g A4 c4 s.f4 (left - 1) _ w0 _ hA4 hsm.2.2.2 (by omega) hs.mem) (fun e w1 ⟨he, hm⟩ => ⟨_, he, _, hm, ?_⟩)); clear hs a; intro a hs
                  refine a_valG hs rfl rfl rfl (y_not hs rfl) ?_; clear hs a; intro a hs
                  refine a_val hs rfl rfl rfl (y_pickT hs rfl rfl rfl) ?_; clear hs a; intro a hs
                  refine a_val hs rfl rfl rfl (y_move hs rfl) ?_; clear hs a; intro a hs
                  rcases hs.know (d := 83) rfl with ⟨h83, hs1⟩ | ⟨h83, hs1⟩ <;> replace hs := hs1 <;> clear hs1
                  · replace h83 := (not_t h83)
                    refine a_skip hs rfl rfl rfl ?_; clear hs a; intro a hs
                    refine a_skip hs rfl rfl rfl ?_; clear hs a; intro a hs
                    refine a_skip hs rfl rfl rfl ?_; clear hs a; intro a hs
                    refine a_skip hs rfl rfl rfl ?_; clear hs a; intro a hs
                    refine a_skip hs rfl rfl rfl ?_; clear hs a; intro a hs
                    refine a_val hs rfl rfl rfl (y_pickT hs rfl rfl rfl) ?_; clear hs a; intro a hs
                    refine wpList_nil (then_normal ?_)
                    refine wp_cond_true (hs.ev rfl) ?_
                    refine wp_seq ?_
                    refine wp_region_lit ?_
                    refine a_val hs rfl rfl rfl (y_assign hs rfl) ?_; clear hs a; intro a hs
                    refine wpList_nil (then_normal ?_)
                    refine wp_ret (then_ret ?_)
                    have hX : xshape (q + 1) s left = (false, (rowsF s.f4 (left - 1)).2) := by rw [xshape, if_neg (by omega), if_pos hH, hR, if_neg (by rw [hRR0, h83]; exact Bool.false_ne_true), hRR0, ← h83]
                    refine fin_ret hs (.tmp (hs.slots _ _ rfl) .nil) ⟨?_, ?_⟩
                    · rw [hX]; first | rfl | simp [tell]
                    · rw [hX]; exact (((hs.mem.to 1 rfl).drop.to 1 rfl).drop.to 1 rfl).drop
                  · replace h83 := (not_f h83)
                    have hR1 : RR.1 = true := by rw [hRR0]; exact h83
                    have hrf := rowsF_falls s.f4 (left - 1) (by omega)
                    have hRR : 0 ≤ RR.2 ∧ RR.2 ≤ 8192 := by rw [hRR0]; exact ⟨hrf.2.2 h83, by have := hrf.2.1; omega⟩
                    rw [show (rowsF s.f4 (left - 1)).2 = RR.2 by rw [hRR0]] at hs
                    refine a_valG hs rfl rfl rfl (y_load hs Tryd.underlying72 rfl rfl (fun w hw => (hw.to 3 rfl).cellV rfl)) ?_; clear hs a; intro a hs
                    refine a_valG hs rfl rfl rfl (y_faddr (k' := 2) 2 hs (by kernel_rfl) rfl rfl) ?_; clear hs a; intro a hs
                    refine a_valG hs rfl rfl rfl (y_load hs Tryd.underlying23 rfl rfl (fun w hw => (hw.to 2 rfl).cellV rfl)) ?_; clear hs a; intro a hs
                    refine a_effG hs rfl (e_callX Tryd.func77 rfl rfl hs rfl rfl (walk_exprs g A2 c2 s.f2 RR.2 _ w0 _ hA2 hsm.2.1 hRR hs.mem) (fun e w1 ⟨he, hm⟩ => ⟨_, he, _, hm, ?_⟩)); clear hs a; intro a hs
                    refine a_valG hs rfl rfl rfl (y_not hs rfl) ?_; clear hs a; intro a hs
                    refine a_val hs rfl rfl rfl (y_pickF hs rfl rfl rfl) ?_; clear hs a; intro a hs
                    refine wpList_nil (then_normal ?_)
                    refine wp_cond_split (hs.ev rfl) (fun h89 => ?_) (fun h89 => ?_)
                    · replace h89 := (not_t h89)
                      refine wp_seq ?_
                      refine wp_region_lit ?_
                      refine a_val hs rfl rfl rfl (y_assign hs rfl) ?_; clear hs a; intro a hs
                      refine wpList_nil (then_normal ?_)
                      refine wp_ret (then_ret ?_)
                      have hX : xshape (q + 1) s left = (false, (xlist stE s.f2 RR.2).2) := by rw [xshape, if_neg (by omega), if_pos hH, hR, if_pos hR1, if_neg (by rw [h89]; exact Bool.false_ne_true), ← h89]
                      refine fin_ret hs (.tmp (hs.slots _ _ rfl) .nil) ⟨?_, ?_⟩
                      · rw [hX]; first | rfl | simp [tell]
                      · rw [hX]; exact (((hs.mem.to 1 rfl).drop.to 1 rfl).drop.to 1 rfl).drop
                    · replace h89 := (not_f h89)
                      have hxf := xlist_left s.f2 RR.2 (fun p _ l h => stE_falls p l h) hRR.1
                      have hRE : 0 ≤ (xlist stE s.f2 RR.2).2 ∧ (xlist stE s.f2 RR.2).2 ≤ 8192 := ⟨hxf.2.2 h89, by have := hxf.2.1; omega⟩
                      refine wp_skip (then_normal ?_)
                      refine wp_seq ?_
                      refine wp_region_lit ?_
                      refine a_val hs rfl rfl rfl (y_faddr (k' := 3) 3 hs (by kernel_rfl) rfl rfl) ?_; clear hs a; intro a hs
                      refine a_val hs rfl rfl rfl (y_load hs Tryd.underlying39 rfl rfl (fun w hw => (hw.to 2 rfl).cellV rfl)) ?_; clear hs a; intro a hs
                      refine a_val hs rfl rfl rfl (y_func hs rfl rfl) ?_; clear hs a; intro a hs
                      refine a_eff rfl (e_callX Tryd.func78 rfl rfl hs rfl rfl (contains_S g 79 _ [.pointer (some ⟨gc, 0, none⟩), .pointer (some ⟨gv, 0, none⟩)] (xshape q) A3 c3 s.f3 (xlist stE s.f2 RR.2).2 (pt gv #[.int .i64 ((q + 1 : Nat) : Int)] 3 :: pt gx #[.int .u8 s.f0, .string s.f1, .slice A2 s.f2.length c2, .slice A3 s.f3.length c3, .slice A4 s.f4.length c4, .int .i64 s.f5, .int .i64 s.f6] 42 :: pt gc #[.pointer (some ⟨g, 0, none⟩)] 72 :: bs) w0 _ Tryd.func79 rfl rfl hA3 (fun p hp cs lf w1 hK hlen hlf h => by obtain ⟨B2, d2, B3, d3, B4, d4, rfl, e2, C2, e3, C3, e4, C4⟩ := k42_open hK; exact shape_one q hn (ih q rfl) g gc gv p B2 B3 B4 d2 d3 d4 lf _ bs w0 w1 C2 C3 C4 (hsm.2.2.1 p hp) hlf h) (fun p hp lf h => xshape_falls q p lf h) hRE hs.mem) (fun e w1 ⟨he, hm⟩ => ⟨_, he, _, hm, ?_⟩)); clear hs a; intro a hs
                      refine a_val hs rfl rfl rfl (y_not hs rfl) ?_; clear hs a; intro a hs
                      refine a_val hs rfl rfl rfl (y_assign hs rfl) ?_; clear hs a; intro a hs
                      refine wpList_nil (then_normal ?_)
                      refine wp_ret ?_
                      have hX : xshape (q + 1) s left = xlist (xshape q) s.f3 (xlist stE s.f2 RR.2).2 := by rw [xshape, if_neg (by omega), if_pos hH, hR, if_pos hR1, if_pos h89]
                      refine fin_ret hs (.tmp (hs.slots _ _ rfl) .nil) ⟨?_, ?_⟩
                      · rw [hX]; first | rfl | simp [tell]
                      · rw [hX]; exact (((hs.mem.to 1 rfl).drop.to 1 rfl).drop.to 1 rfl).drop
theorem walk_shape : ∀ n : Nat, n ≤ 1000 → ShapeOk n := fun n => by
  induction n using Nat.strongRecOn with
  | _ n ih => exact fun hn s A2 A3 A4 c2 c3 c4 g left bs w0 w hA2 hA3 hA4 hsm hl h => walk_shape_step n hn (fun q hq => ih q (by omega) (by omega)) s A2 A3 A4 c2 c3 c4 g left bs w0 w hA2 hA3 hA4 hsm hl h
end Go.Proofs.YtibaidddhmdafaaDoor.E
end
section
namespace Go.Proofs.YtibaidddhmdafaaDoor.E
open Go Go.RowKit Go.Proofs.YtibaidddhmdafaaDoorW.PrintWords Go.Proofs.YtibaidddhmdafaaDoorW.PrintLast Go.Proofs.YtibaidddhmdafaaDoorW.PrintMore Go.Proofs.YtibaidddhmdafaaDoor.PA
set_option linter.unusedVariables false
set_option linter.unusedSimpArgs false
def noExprB (x : XE) : Bool := decide (x.f0 = 0 ∧ x.f1 = 0 ∧ x.f2.size = 0 ∧ x.f3.length = 0 ∧ x.f4 = 0 ∧ x.f5 = 0)
def noShapeB (s : XS) : Bool := decide (s.f0 = 0 ∧ s.f1.size = 0 ∧ s.f2.length = 0 ∧ s.f3.length = 0 ∧ s.f4.length = 0 ∧ s.f5 = 0 ∧ s.f6 = 0)
theorem sub_at {cs : Array Value} {vs : List Value} {off k : Nat} {v : Value} (n : Nat) (h : (cs.toList.drop off).take n = vs) (hk : vs[k]? = some v) : cs[off + k]? = some v := by
  subst h
  rw [List.getElem?_take] at hk
  split at hk
  · rw [List.getElem?_drop] at hk
    rw [← Array.getElem?_toList]; exact hk
  · cases hk
def smallI (x : XI) : Prop := x.f1.size ≤ 9223372036854775807 ∧ smallX 16 x.f2 ∧ smallS 16 x.f3 ∧ ∀ p ∈ x.f5, smallX 16 p
/-- What an item of its kind and placement has: a name, a value, a shape, a list. -/
def itemParts (k p : Int) : Option (Bool × Bool × Bool × Bool) :=
  if k = 1 then some (true, true, false, false) else if k = 3 then some (true, false, false, false) else if k = 2 then some (true, false, true, false)
  else if k = 4 ∨ k = 6 then some (false, true, false, false)
  else if k = 5 then (if p = 3 then some (false, true, false, false) else if p = 4 then some (false, false, false, true) else if p = 1 ∨ p = 2 then some (false, false, false, false) else none) else none
theorem items_cases {k p : Int} {nm v sh li : Bool} (h : itemParts k p = some (nm, v, sh, li)) : (nm = true ∧ v = true ∧ sh = false ∧ li = false ∧ k = 1) ∨ (nm = true ∧ v = false ∧ sh = false ∧ li = false ∧ k = 3) ∨ (nm = true ∧ v = false ∧ sh = true ∧ li = false ∧ k = 2) ∨ (nm = false ∧ v = true ∧ sh = false ∧ li = false ∧ (k = 4 ∨ k = 6 ∨ k = 5 ∧ p = 3)) ∨ (nm = false ∧ v = false ∧ sh = false ∧ li = true ∧ k = 5 ∧ p = 4) ∨ (nm = false ∧ v = false ∧ sh = false ∧ li = false ∧ k = 5 ∧ (p = 1 ∨ p = 2)) := by
  unfold itemParts at h
  repeat' split at h
  all_goals first | (simp only [Option.some.injEq, Prod.mk.injEq] at h; obtain ⟨rfl, rfl, rfl, rfl⟩ := h; simp; omega) | (simp only [Option.some.injEq, Prod.mk.injEq] at h; obtain ⟨rfl, rfl, rfl, rfl⟩ := h; simp_all) | cases h
/-- Is an item's head well? -/
def headI (x : XI) : Prop := ∃ nm v sh li, itemParts x.f0 x.f4 = some (nm, v, sh, li) ∧ (nm = true → nameOk x.f1 = true) ∧ (nm = false → x.f1.size = 0) ∧ (x.f0 ≠ 5 → x.f4 = 0) ∧ (li = true → 1 ≤ x.f5.length ∧ x.f5.length ≤ 64) ∧ (li = false → x.f5.length = 0) ∧ (v = false → noExprB x.f2 = true) ∧ (sh = false → noShapeB x.f3 = true)
def hasV (x : XI) : Prop := x.f0 = 1 ∨ x.f0 = 4 ∨ x.f0 = 6 ∨ x.f0 = 5 ∧ x.f4 = 3
instance (x : XI) : Decidable (hasV x) := by unfold hasV; infer_instance
def valI (x : XI) (left : Int) : Bool × Int := if hasV x then stE x.f2 left else (true, left)
noncomputable def shI (x : XI) (left : Int) : Bool × Int := if x.f0 = 2 then xshape 16 x.f3 left else (true, left)
open Classical in
noncomputable def itemF (x : XI) (left : Int) : Bool × Int := if left - 1 < 0 then (false, left - 1) else if headI x then
    (if (valI x (left - 1)).1 = true then (if (shI x (valI x (left - 1)).2).1 = true then xlist stE x.f5 (shI x (valI x (left - 1)).2).2 else shI x (valI x (left - 1)).2) else valI x (left - 1))
  else (false, left - 1)
theorem valI_falls (x : XI) (lf : Int) (h : 0 ≤ lf) : fallsB (valI x lf) lf := by
  unfold valI
  split
  · exact stE_falls _ _ h
  · exact ⟨by show -1 ≤ lf; omega, Int.le_refl _, fun _ => h⟩
theorem shI_falls (x : XI) (lf : Int) (h : 0 ≤ lf) : fallsB (shI x lf) lf := by
  unfold shI
  split
  · exact xshape_falls _ _ _ h
  · exact ⟨by show -1 ≤ lf; omega, Int.le_refl _, fun _ => h⟩
theorem itemF_falls (x : XI) (lf : Int) (h : 0 ≤ lf) : fallsB (itemF x lf) lf := by
  have h0 : fallsB (false, lf - 1) lf := ⟨by show -1 ≤ lf - 1; omega, by show lf - 1 ≤ lf; omega, fun h => by cases h⟩
  unfold itemF
  split
  · exact h0
  · split
    · have h1 := valI_falls x (lf - 1) (by omega)
      split
      · rename_i c1
        have h2 := shI_falls x _ (h1.2.2 c1)
        split
        · rename_i c2
          have h3 := xlist_left x.f5 _ (fun p _ l h => stE_falls p l h) (h2.2.2 c2)
          exact ⟨h3.1, by have := h1.2.1; have := h2.2.1; have := h3.2.1; omega, h3.2.2⟩
        · exact ⟨h2.1, by have := h1.2.1; have := h2.2.1; omega, h2.2.2⟩
      · exact ⟨h1.1, by have := h1.2.1; omega, h1.2.2⟩
    · exact h0
end Go.Proofs.YtibaidddhmdafaaDoor.E
end
section
namespace Go.Proofs.YtibaidddhmdafaaDoor.E
open Go Go.RowKit Go.Proofs.YtibaidddhmdafaaDoorW.PrintWords Go.Proofs.YtibaidddhmdafaaDoorW.PrintLast Go.Proofs.YtibaidddhmdafaaDoorW.PrintMore Go.Proofs.YtibaidddhmdafaaDoor.PA
set_option linter.unusedVariables false
set_option linter.unusedSimpArgs false
set_option maxRecDepth 100000 in
theorem tree_noExpr (x : XE) (A : Option Addr) (C : Nat) (v0 : World) :
    Calls Tryd.prog 82 #[.agg #[.int .u8 x.f0, .int .i64 x.f1, .string x.f2, .slice A x.f3.length C, .int .i64 x.f4, .int .i64 x.f5]] v0 fun e w' => e = .returned (.bool (noExprB x)) ∧ Below v0.heap.size v0 w' := by
  refine calls_enter (N := 32) (n := 31) (args := [.agg #[.int .u8 x.f0, .int .i64 x.f1, .string x.f2, .slice A x.f3.length C, .int .i64 x.f4, .int .i64 x.f5]]) Tryd.func82 rfl rfl rfl (H.init v0) (fun a hs => ?_)
  refine wp_seq ?_
  refine wp_region_lit ?_
  refine a_eff rfl (e_box (cs := #[_, _, _, _, _, _]) hs rfl rfl rfl ?_); clear hs a; intro gx a w hs
  refine a_val hs rfl rfl rfl (y_assign hs rfl) ?_; clear hs a; intro a hs
  refine wpList_nil (then_normal ?_)
  refine wp_seq ?_
  refine wp_region_lit ?_
  refine a_val hs rfl rfl rfl (y_faddr (k' := 0) 0 hs (by kernel_rfl) rfl rfl) ?_; clear hs a; intro a hs
  refine a_val hs rfl rfl rfl (y_load hs Tryd.underlying22 rfl rfl (fun w hw => (hw.to 0 rfl).cellV rfl)) ?_; clear hs a; intro a hs
  refine a_val hs rfl rfl rfl (y_cmp hs rfl rfl rfl) ?_; clear hs a; intro a hs
  refine a_val hs rfl rfl rfl (y_move hs rfl) ?_; clear hs a; intro a hs
  rcases hs.know (d := 6) rfl with ⟨h6, hs1⟩ | ⟨h6, hs1⟩ <;> replace hs := hs1 <;> clear hs1
  · replace h6 := eq_of_beq h6
    refine a_valG hs rfl rfl rfl (y_faddr (k' := 1) 1 hs (by kernel_rfl) rfl rfl) ?_; clear hs a; intro a hs
    refine a_valG hs rfl rfl rfl (y_load hs Tryd.underlying3 rfl rfl (fun w hw => (hw.to 0 rfl).cellV rfl)) ?_; clear hs a; intro a hs
    refine a_valG hs rfl rfl rfl (y_cmp hs rfl rfl rfl) ?_; clear hs a; intro a hs
    refine a_val hs rfl rfl rfl (y_pickT hs rfl rfl rfl) ?_; clear hs a; intro a hs
    refine a_val hs rfl rfl rfl (y_move hs rfl) ?_; clear hs a; intro a hs
    rcases hs.know (d := 11) rfl with ⟨h11, hs1⟩ | ⟨h11, hs1⟩ <;> replace hs := hs1 <;> clear hs1
    · replace h11 := eq_of_beq h11
      refine a_valG hs rfl rfl rfl (y_faddr (k' := 2) 2 hs (by kernel_rfl) rfl rfl) ?_; clear hs a; intro a hs
      refine a_valG hs rfl rfl rfl (y_load hs Tryd.underlying9 rfl rfl (fun w hw => (hw.to 0 rfl).cellV rfl)) ?_; clear hs a; intro a hs
      refine a_valG hs rfl rfl rfl (y_seqE hs rfl rfl) ?_; clear hs a; intro a hs
      refine a_val hs rfl rfl rfl (y_pickT hs rfl rfl rfl) ?_; clear hs a; intro a hs
      refine a_val hs rfl rfl rfl (y_move hs rfl) ?_; clear hs a; intro a hs
      rcases hs.know (d := 16) rfl with ⟨h16, hs1⟩ | ⟨h16, hs1⟩ <;> replace hs := hs1 <;> clear hs1
      · replace h16 := of_decide_eq_true h16
        refine a_valG hs rfl rfl rfl (y_faddr (k' := 3) 3 hs (by kernel_rfl) rfl rfl) ?_; clear hs a; intro a hs
        refine a_valG hs rfl rfl rfl (y_load hs Tryd.underlying23 rfl rfl (fun w hw => (hw.to 0 rfl).cellV rfl)) ?_; clear hs a; intro a hs
        refine a_valG hs rfl rfl rfl (y_lenL hs Tryd.underlying23 rfl) ?_; clear hs a; intro a hs
        refine a_valG hs rfl rfl rfl (y_cmp hs rfl rfl rfl) ?_; clear hs a; intro a hs
        refine a_val hs rfl rfl rfl (y_pickT hs rfl rfl rfl) ?_; clear hs a; intro a hs
        refine a_val hs rfl rfl rfl (y_move hs rfl) ?_; clear hs a; intro a hs
        rcases hs.know (d := 22) rfl with ⟨h22, hs1⟩ | ⟨h22, hs1⟩ <;> replace hs := hs1 <;> clear hs1
        · replace h22 := eq_of_beq h22
          refine a_valG hs rfl rfl rfl (y_faddr (k' := 4) 4 hs (by kernel_rfl) rfl rfl) ?_; clear hs a; intro a hs
          refine a_valG hs rfl rfl rfl (y_load hs Tryd.underlying3 rfl rfl (fun w hw => (hw.to 0 rfl).cellV rfl)) ?_; clear hs a; intro a hs
          refine a_valG hs rfl rfl rfl (y_cmp hs rfl rfl rfl) ?_; clear hs a; intro a hs
          refine a_val hs rfl rfl rfl (y_pickT hs rfl rfl rfl) ?_; clear hs a; intro a hs
          refine a_val hs rfl rfl rfl (y_move hs rfl) ?_; clear hs a; intro a hs
          rcases hs.know (d := 27) rfl with ⟨h27, hs1⟩ | ⟨h27, hs1⟩ <;> replace hs := hs1 <;> clear hs1
          · replace h27 := eq_of_beq h27
            refine a_valG hs rfl rfl rfl (y_faddr (k' := 5) 5 hs (by kernel_rfl) rfl rfl) ?_; clear hs a; intro a hs
            refine a_valG hs rfl rfl rfl (y_load hs Tryd.underlying3 rfl rfl (fun w hw => (hw.to 0 rfl).cellV rfl)) ?_; clear hs a; intro a hs
            refine a_valG hs rfl rfl rfl (y_cmp hs rfl rfl rfl) ?_; clear hs a; intro a hs
            refine a_val hs rfl rfl rfl (y_pickT hs rfl rfl rfl) ?_; clear hs a; intro a hs
            refine a_val hs rfl rfl rfl (y_assign hs rfl) ?_; clear hs a; intro a hs
            refine wpList_nil (then_normal ?_)
            refine wp_ret ?_
            refine fin_ret hs (.tmp (hs.slots _ _ rfl) .nil) ⟨?_, hs.mem.base⟩
            first | (rw [show noExprB x = false from decide_eq_false (by omega)]; rfl) | (rw [show noExprB x = (x.f5 == 0) from by unfold noExprB; rw [Bool.eq_iff_iff]; simp only [decide_eq_true_eq, beq_iff_eq]; omega]; rfl)
          · replace h27 := ne_of_beq_false h27
            refine a_skip hs rfl rfl rfl ?_; clear hs a; intro a hs
            refine a_skip hs rfl rfl rfl ?_; clear hs a; intro a hs
            refine a_skip hs rfl rfl rfl ?_; clear hs a; intro a hs
            refine a_val hs rfl rfl rfl (y_pickF hs rfl rfl rfl) ?_; clear hs a; intro a hs
            refine a_val hs rfl rfl rfl (y_assign hs rfl) ?_; clear hs a; intro a hs
            refine wpList_nil (then_normal ?_)
            refine wp_ret ?_
            refine fin_ret hs (.tmp (hs.slots _ _ rfl) .nil) ⟨?_, hs.mem.base⟩
            first | (rw [show noExprB x = false from decide_eq_false (by omega)]; rfl) | (rw [show noExprB x = (x.f5 == 0) from by unfold noExprB; rw [Bool.eq_iff_iff]; simp only [decide_eq_true_eq, beq_iff_eq]; omega]; rfl)
        · replace h22 := ne_of_beq_false h22
          refine a_skip hs rfl rfl rfl ?_; clear hs a; intro a hs
          refine a_skip hs rfl rfl rfl ?_; clear hs a; intro a hs
          refine a_skip hs rfl rfl rfl ?_; clear hs a; intro a hs
          refine a_val hs rfl rfl rfl (y_pickF hs rfl rfl rfl) ?_; clear hs a; intro a hs
          refine a_val hs rfl rfl rfl (y_move hs rfl) ?_; clear hs a; intro a hs
          refine a_skip hs rfl rfl rfl ?_; clear hs a; intro a hs
          refine a_skip hs rfl rfl rfl ?_; clear hs a; intro a hs
          refine a_skip hs rfl rfl rfl ?_; clear hs a; intro a hs
          refine a_val hs rfl rfl rfl (y_pickF hs rfl rfl rfl) ?_; clear hs a; intro a hs
          refine a_val hs rfl rfl rfl (y_assign hs rfl) ?_; clear hs a; intro a hs
          refine wpList_nil (then_normal ?_)
          refine wp_ret ?_
          refine fin_ret hs (.tmp (hs.slots _ _ rfl) .nil) ⟨?_, hs.mem.base⟩
          first | (rw [show noExprB x = false from decide_eq_false (by omega)]; rfl) | (rw [show noExprB x = (x.f5 == 0) from by unfold noExprB; rw [Bool.eq_iff_iff]; simp only [decide_eq_true_eq, beq_iff_eq]; omega]; rfl)
      · replace h16 := of_decide_eq_false h16
        refine a_skip hs rfl rfl rfl ?_; clear hs a; intro a hs
        refine a_skip hs rfl rfl rfl ?_; clear hs a; intro a hs
        refine a_skip hs rfl rfl rfl ?_; clear hs a; intro a hs
        refine a_skip hs rfl rfl rfl ?_; clear hs a; intro a hs
        refine a_val hs rfl rfl rfl (y_pickF hs rfl rfl rfl) ?_; clear hs a; intro a hs
        refine a_val hs rfl rfl rfl (y_move hs rfl) ?_; clear hs a; intro a hs
        refine a_skip hs rfl rfl rfl ?_; clear hs a; intro a hs
        refine a_skip hs rfl rfl rfl ?_; clear hs a; intro a hs
        refine a_skip hs rfl rfl rfl ?_; clear hs a; intro a hs
        refine a_val hs rfl rfl rfl (y_pickF hs rfl rfl rfl) ?_; clear hs a; intro a hs
        refine a_val hs rfl rfl rfl (y_move hs rfl) ?_; clear hs a; intro a hs
        refine a_skip hs rfl rfl rfl ?_; clear hs a; intro a hs
        refine a_skip hs rfl rfl rfl ?_; clear hs a; intro a hs
        refine a_skip hs rfl rfl rfl ?_; clear hs a; intro a hs
        refine a_val hs rfl rfl rfl (y_pickF hs rfl rfl rfl) ?_; clear hs a; intro a hs
        refine a_val hs rfl rfl rfl (y_assign hs rfl) ?_; clear hs a; intro a hs
        refine wpList_nil (then_normal ?_)
        refine wp_ret ?_
        refine fin_ret hs (.tmp (hs.slots _ _ rfl) .nil) ⟨?_, hs.mem.base⟩
        first | (rw [show noExprB x = false from decide_eq_false (by omega)]; rfl) | (rw [show noExprB x = (x.f5 == 0) from by unfold noExprB; rw [Bool.eq_iff_iff]; simp only [decide_eq_true_eq, beq_iff_eq]; omega]; rfl)
    · replace h11 := ne_of_beq_false h11
      refine a_skip hs rfl rfl rfl ?_; clear hs a; intro a hs
      refine a_skip hs rfl rfl rfl ?_; clear hs a; intro a hs
      refine a_skip hs rfl rfl rfl ?_; clear hs a; intro a hs
      refine a_val hs rfl rfl rfl (y_pickF hs rfl rfl rfl) ?_; clear hs a; intro a hs
      refine a_val hs rfl rfl rfl (y_move hs rfl) ?_; clear hs a; intro a hs
      refine a_skip hs rfl rfl rfl ?_; clear hs a; intro a hs
      refine a_skip hs rfl rfl rfl ?_; clear hs a; intro a hs
      refine a_skip hs rfl rfl rfl ?_; clear hs a; intro a hs
      refine a_skip hs rfl rfl rfl ?_; clear hs a; intro a hs
      refine a_val hs rfl rfl rfl (y_pickF hs rfl rfl rfl) ?_; clear hs a; intro a hs
      refine a_val hs rfl rfl rfl (y_move hs rfl) ?_; clear hs a; intro a hs
      refine a_skip hs rfl rfl rfl ?_; clear hs a; intro a hs
      refine a_skip hs rfl rfl rfl ?_; clear hs a; intro a hs
      refine a_skip hs rfl rfl rfl ?_; clear hs a; intro a hs
      refine a_val hs rfl rfl rfl (y_pickF hs rfl rfl rfl) ?_; clear hs a; intro a hs
      refine a_val hs rfl rfl rfl (y_move hs rfl) ?_; clear hs a; intro a hs
      refine a_skip hs rfl rfl rfl ?_; clear hs a; intro a hs
      refine a_skip hs rfl rfl rfl ?_; clear hs a; intro a hs
      refine a_skip hs rfl rfl rfl ?_; clear hs a; intro a hs
      refine a_val hs rfl rfl rfl (y_pickF hs rfl rfl rfl) ?_; clear hs a; intro a hs
      refine a_val hs rfl rfl rfl (y_assign hs rfl) ?_; clear hs a; intro a hs
      refine wpList_nil (then_normal ?_)
      refine wp_ret ?_
      refine fin_ret hs (.tmp (hs.slots _ _ rfl) .nil) ⟨?_, hs.mem.base⟩
      first | (rw [show noExprB x = false from decide_eq_false (by omega)]; rfl) | (rw [show noExprB x = (x.f5 == 0) from by unfold noExprB; rw [Bool.eq_iff_iff]; simp only [decide_eq_true_eq, beq_iff_eq]; omega]; rfl)
  · replace h6 := ne_of_beq_false h6
    refine a_skip hs rfl rfl rfl ?_; clear hs a; intro a hs
    refine a_skip hs rfl rfl rfl ?_; clear hs a; intro a hs
    refine a_skip hs rfl rfl rfl ?_; clear hs a; intro a hs
    refine a_val hs rfl rfl rfl (y_pickF hs rfl rfl rfl) ?_; clear hs a; intro a hs
    refine a_val hs rfl rfl rfl (y_move hs rfl) ?_; clear hs a; intro a hs
    refine a_skip hs rfl rfl rfl ?_; clear hs a; intro a hs
    refine a_skip hs rfl rfl rfl ?_; clear hs a; intro a hs
    refine a_skip hs rfl rfl rfl ?_; clear hs a; intro a hs
    refine a_val hs rfl rfl rfl (y_pickF hs rfl rfl rfl) ?_; clear hs a; intro a hs
    refine a_val hs rfl rfl rfl (y_move hs rfl) ?_; clear hs a; intro a hs
    refine a_skip hs rfl rfl rfl ?_; clear hs a; intro a hs
    refine a_skip hs rfl rfl rfl ?_; clear hs a; intro a hs
    refine a_skip hs rfl rfl rfl ?_; clear hs a; intro a hs
    refine a_skip hs rfl rfl rfl ?_; clear hs a; intro a hs
    refine a_val hs rfl rfl rfl (y_pickF hs rfl rfl rfl) ?_; clear hs a; intro a hs
    refine a_val hs rfl rfl rfl (y_move hs rfl) ?_; clear hs a; intro a hs
    refine a_skip hs rfl rfl rfl ?_; clear hs a; intro a hs
    refine a_skip hs rfl rfl rfl ?_; clear hs a; intro a hs
    refine a_skip hs rfl rfl rfl ?_; clear hs a; intro a hs
    refine a_val hs rfl rfl rfl (y_pickF hs rfl rfl rfl) ?_; clear hs a; intro a hs
    refine a_val hs rfl rfl rfl (y_move hs rfl) ?_; clear hs a; intro a hs
    refine a_skip hs rfl rfl rfl ?_; clear hs a; intro a hs
    refine a_skip hs rfl rfl rfl ?_; clear hs a; intro a hs
    refine a_skip hs rfl rfl rfl ?_; clear hs a; intro a hs
    refine a_val hs rfl rfl rfl (y_pickF hs rfl rfl rfl) ?_; clear hs a; intro a hs
    refine a_val hs rfl rfl rfl (y_assign hs rfl) ?_; clear hs a; intro a hs
    refine wpList_nil (then_normal ?_)
    refine wp_ret ?_
    refine fin_ret hs (.tmp (hs.slots _ _ rfl) .nil) ⟨?_, hs.mem.base⟩
    first | (rw [show noExprB x = false from decide_eq_false (by omega)]; rfl) | (rw [show noExprB x = (x.f5 == 0) from by unfold noExprB; rw [Bool.eq_iff_iff]; simp only [decide_eq_true_eq, beq_iff_eq]; omega]; rfl)
set_option maxRecDepth 100000 in
theorem tree_noShape (s : XS) (A2 A3 A4 : Option Addr) (c2 c3 c4 : Nat) (v0 : World) :
    Calls Tryd.prog 83 #[.agg #[.int .u8 s.f0, .string s.f1, .slice A2 s.f2.length c2, .slice A3 s.f3.length c3, .slice A4 s.f4.length c4, .int .i64 s.f5, .int .i64 s.f6]] v0 fun e w' => e = .returned (.bool (noShapeB s)) ∧ Below v0.heap.size v0 w' := by
  refine calls_enter (N := 39) (n := 38) (args := [.agg #[.int .u8 s.f0, .string s.f1, .slice A2 s.f2.length c2, .slice A3 s.f3.length c3, .slice A4 s.f4.length c4, .int .i64 s.f5, .int .i64 s.f6]]) Tryd.func83 rfl rfl rfl (H.init v0) (fun a hs => ?_)
  refine wp_seq ?_
  refine wp_region_lit ?_
  refine a_eff rfl (e_box (cs := #[_, _, _, _, _, _, _]) hs rfl rfl rfl ?_); clear hs a; intro gx a w hs
  refine a_val hs rfl rfl rfl (y_assign hs rfl) ?_; clear hs a; intro a hs
  refine wpList_nil (then_normal ?_)
  refine wp_seq ?_
  refine wp_region_lit ?_
  refine a_val hs rfl rfl rfl (y_faddr (k' := 0) 0 hs (by kernel_rfl) rfl rfl) ?_; clear hs a; intro a hs
  refine a_val hs rfl rfl rfl (y_load hs Tryd.underlying38 rfl rfl (fun w hw => (hw.to 0 rfl).cellV rfl)) ?_; clear hs a; intro a hs
  refine a_val hs rfl rfl rfl (y_cmp hs rfl rfl rfl) ?_; clear hs a; intro a hs
  refine a_val hs rfl rfl rfl (y_move hs rfl) ?_; clear hs a; intro a hs
  rcases hs.know (d := 6) rfl with ⟨h6, hs1⟩ | ⟨h6, hs1⟩ <;> replace hs := hs1 <;> clear hs1
  · replace h6 := eq_of_beq h6
    refine a_valG hs rfl rfl rfl (y_faddr (k' := 1) 1 hs (by kernel_rfl) rfl rfl) ?_; clear hs a; intro a hs
    refine a_valG hs rfl rfl rfl (y_load hs Tryd.underlying9 rfl rfl (fun w hw => (hw.to 0 rfl).cellV rfl)) ?_; clear hs a; intro a hs
    refine a_valG hs rfl rfl rfl (y_seqE hs rfl rfl) ?_; clear hs a; intro a hs
    refine a_val hs rfl rfl rfl (y_pickT hs rfl rfl rfl) ?_; clear hs a; intro a hs
    refine a_val hs rfl rfl rfl (y_move hs rfl) ?_; clear hs a; intro a hs
    rcases hs.know (d := 11) rfl with ⟨h11, hs1⟩ | ⟨h11, hs1⟩ <;> replace hs := hs1 <;> clear hs1
    · replace h11 := of_decide_eq_true h11
      refine a_valG hs rfl rfl rfl (y_faddr (k' := 2) 2 hs (by kernel_rfl) rfl rfl) ?_; clear hs a; intro a hs
      refine a_valG hs rfl rfl rfl (y_load hs Tryd.underlying23 rfl rfl (fun w hw => (hw.to 0 rfl).cellV rfl)) ?_; clear hs a; intro a hs
      refine a_valG hs rfl rfl rfl (y_lenL hs Tryd.underlying23 rfl) ?_; clear hs a; intro a hs
      refine a_valG hs rfl rfl rfl (y_cmp hs rfl rfl rfl) ?_; clear hs a; intro a hs
      refine a_val hs rfl rfl rfl (y_pickT hs rfl rfl rfl) ?_; clear hs a; intro a hs
      refine a_val hs rfl rfl rfl (y_move hs rfl) ?_; clear hs a; intro a hs
      rcases hs.know (d := 17) rfl with ⟨h17, hs1⟩ | ⟨h17, hs1⟩ <;> replace hs := hs1 <;> clear hs1
      · replace h17 := eq_of_beq h17
        refine a_valG hs rfl rfl rfl (y_faddr (k' := 3) 3 hs (by kernel_rfl) rfl rfl) ?_; clear hs a; intro a hs
        refine a_valG hs rfl rfl rfl (y_load hs Tryd.underlying39 rfl rfl (fun w hw => (hw.to 0 rfl).cellV rfl)) ?_; clear hs a; intro a hs
        refine a_valG hs rfl rfl rfl (y_lenL hs Tryd.underlying39 rfl) ?_; clear hs a; intro a hs
        refine a_valG hs rfl rfl rfl (y_cmp hs rfl rfl rfl) ?_; clear hs a; intro a hs
        refine a_val hs rfl rfl rfl (y_pickT hs rfl rfl rfl) ?_; clear hs a; intro a hs
        refine a_val hs rfl rfl rfl (y_move hs rfl) ?_; clear hs a; intro a hs
        rcases hs.know (d := 23) rfl with ⟨h23, hs1⟩ | ⟨h23, hs1⟩ <;> replace hs := hs1 <;> clear hs1
        · replace h23 := eq_of_beq h23
          refine a_valG hs rfl rfl rfl (y_faddr (k' := 4) 4 hs (by kernel_rfl) rfl rfl) ?_; clear hs a; intro a hs
          refine a_valG hs rfl rfl rfl (y_load hs Tryd.underlying40 rfl rfl (fun w hw => (hw.to 0 rfl).cellV rfl)) ?_; clear hs a; intro a hs
          refine a_valG hs rfl rfl rfl (y_lenL hs Tryd.underlying40 rfl) ?_; clear hs a; intro a hs
          refine a_valG hs rfl rfl rfl (y_cmp hs rfl rfl rfl) ?_; clear hs a; intro a hs
          refine a_val hs rfl rfl rfl (y_pickT hs rfl rfl rfl) ?_; clear hs a; intro a hs
          refine a_val hs rfl rfl rfl (y_move hs rfl) ?_; clear hs a; intro a hs
          rcases hs.know (d := 29) rfl with ⟨h29, hs1⟩ | ⟨h29, hs1⟩ <;> replace hs := hs1 <;> clear hs1
          · replace h29 := eq_of_beq h29
            refine a_valG hs rfl rfl rfl (y_faddr (k' := 5) 5 hs (by kernel_rfl) rfl rfl) ?_; clear hs a; intro a hs
            refine a_valG hs rfl rfl rfl (y_load hs Tryd.underlying3 rfl rfl (fun w hw => (hw.to 0 rfl).cellV rfl)) ?_; clear hs a; intro a hs
            refine a_valG hs rfl rfl rfl (y_cmp hs rfl rfl rfl) ?_; clear hs a; intro a hs
            refine a_val hs rfl rfl rfl (y_pickT hs rfl rfl rfl) ?_; clear hs a; intro a hs
            refine a_val hs rfl rfl rfl (y_move hs rfl) ?_; clear hs a; intro a hs
            rcases hs.know (d := 34) rfl with ⟨h34, hs1⟩ | ⟨h34, hs1⟩ <;> replace hs := hs1 <;> clear hs1
            · replace h34 := eq_of_beq h34
              refine a_valG hs rfl rfl rfl (y_faddr (k' := 6) 6 hs (by kernel_rfl) rfl rfl) ?_; clear hs a; intro a hs
              refine a_valG hs rfl rfl rfl (y_load hs Tryd.underlying3 rfl rfl (fun w hw => (hw.to 0 rfl).cellV rfl)) ?_; clear hs a; intro a hs
              refine a_valG hs rfl rfl rfl (y_cmp hs rfl rfl rfl) ?_; clear hs a; intro a hs
              refine a_val hs rfl rfl rfl (y_pickT hs rfl rfl rfl) ?_; clear hs a; intro a hs
              refine a_val hs rfl rfl rfl (y_assign hs rfl) ?_; clear hs a; intro a hs
              refine wpList_nil (then_normal ?_)
              refine wp_ret ?_
              refine fin_ret hs (.tmp (hs.slots _ _ rfl) .nil) ⟨?_, hs.mem.base⟩
              first | (rw [show noShapeB s = false from decide_eq_false (by omega)]; rfl) | (rw [show noShapeB s = (s.f6 == 0) from by unfold noShapeB; rw [Bool.eq_iff_iff]; simp only [decide_eq_true_eq, beq_iff_eq]; omega]; rfl)
            · replace h34 := ne_of_beq_false h34
              refine a_skip hs rfl rfl rfl ?_; clear hs a; intro a hs
              refine a_skip hs rfl rfl rfl ?_; clear hs a; intro a hs
              refine a_skip hs rfl rfl rfl ?_; clear hs a; intro a hs
              refine a_val hs rfl rfl rfl (y_pickF hs rfl rfl rfl) ?_; clear hs a; intro a hs
              refine a_val hs rfl rfl rfl (y_assign hs rfl) ?_; clear hs a; intro a hs
              refine wpList_nil (then_normal ?_)
              refine wp_ret ?_
              refine fin_ret hs (.tmp (hs.slots _ _ rfl) .nil) ⟨?_, hs.mem.base⟩
              first | (rw [show noShapeB s = false from decide_eq_false (by omega)]; rfl) | (rw [show noShapeB s = (s.f6 == 0) from by unfold noShapeB; rw [Bool.eq_iff_iff]; simp only [decide_eq_true_eq, beq_iff_eq]; omega]; rfl)
          · replace h29 := ne_of_beq_false h29
            refine a_skip hs rfl rfl rfl ?_; clear hs a; intro a hs
            refine a_skip hs rfl rfl rfl ?_; clear hs a; intro a hs
            refine a_skip hs rfl rfl rfl ?_; clear hs a; intro a hs
            refine a_val hs rfl rfl rfl (y_pickF hs rfl rfl rfl) ?_; clear hs a; intro a hs
            refine a_val hs rfl rfl rfl (y_move hs rfl) ?_; clear hs a; intro a hs
            refine a_skip hs rfl rfl rfl ?_; clear hs a; intro a hs
            refine a_skip hs rfl rfl rfl ?_; clear hs a; intro a hs
            refine a_skip hs rfl rfl rfl ?_; clear hs a; intro a hs
            refine a_val hs rfl rfl rfl (y_pickF hs rfl rfl rfl) ?_; clear hs a; intro a hs
            refine a_val hs rfl rfl rfl (y_assign hs rfl) ?_; clear hs a; intro a hs
            refine wpList_nil (then_normal ?_)
            refine wp_ret ?_
            refine fin_ret hs (.tmp (hs.slots _ _ rfl) .nil) ⟨?_, hs.mem.base⟩
            first | (rw [show noShapeB s = false from decide_eq_false (by omega)]; rfl) | (rw [show noShapeB s = (s.f6 == 0) from by unfold noShapeB; rw [Bool.eq_iff_iff]; simp only [decide_eq_true_eq, beq_iff_eq]; omega]; rfl)
        · replace h23 := ne_of_beq_false h23
          refine a_skip hs rfl rfl rfl ?_; clear hs a; intro a hs
          refine a_skip hs rfl rfl rfl ?_; clear hs a; intro a hs
          refine a_skip hs rfl rfl rfl ?_; clear hs a; intro a hs
          refine a_skip hs rfl rfl rfl ?_; clear hs a; intro a hs
          refine a_val hs rfl rfl rfl (y_pickF hs rfl rfl rfl) ?_; clear hs a; intro a hs
          refine a_val hs rfl rfl rfl (y_move hs rfl) ?_; clear hs a; intro a hs
          refine a_skip hs rfl rfl rfl ?_; clear hs a; intro a hs
          refine a_skip hs rfl rfl rfl ?_; clear hs a; intro a hs
          refine a_skip hs rfl rfl rfl ?_; clear hs a; intro a hs
          refine a_val hs rfl rfl rfl (y_pickF hs rfl rfl rfl) ?_; clear hs a; intro a hs
          refine a_val hs rfl rfl rfl (y_move hs rfl) ?_; clear hs a; intro a hs
          refine a_skip hs rfl rfl rfl ?_; clear hs a; intro a hs
          refine a_skip hs rfl rfl rfl ?_; clear hs a; intro a hs
          refine a_skip hs rfl rfl rfl ?_; clear hs a; intro a hs
          refine a_val hs rfl rfl rfl (y_pickF hs rfl rfl rfl) ?_; clear hs a; intro a hs
          refine a_val hs rfl rfl rfl (y_assign hs rfl) ?_; clear hs a; intro a hs
          refine wpList_nil (then_normal ?_)
          refine wp_ret ?_
          refine fin_ret hs (.tmp (hs.slots _ _ rfl) .nil) ⟨?_, hs.mem.base⟩
          first | (rw [show noShapeB s = false from decide_eq_false (by omega)]; rfl) | (rw [show noShapeB s = (s.f6 == 0) from by unfold noShapeB; rw [Bool.eq_iff_iff]; simp only [decide_eq_true_eq, beq_iff_eq]; omega]; rfl)
      · replace h17 := ne_of_beq_false h17
        refine a_skip hs rfl rfl rfl ?_; clear hs a; intro a hs
        refine a_skip hs rfl rfl rfl ?_; clear hs a; intro a hs
        refine a_skip hs rfl rfl rfl ?_; clear hs a; intro a hs
        refine a_skip hs rfl rfl rfl ?_; clear hs a; intro a hs
        refine a_val hs rfl rfl rfl (y_pickF hs rfl rfl rfl) ?_; clear hs a; intro a hs
        refine a_val hs rfl rfl rfl (y_move hs rfl) ?_; clear hs a; intro a hs
        refine a_skip hs rfl rfl rfl ?_; clear hs a; intro a hs
        refine a_skip hs rfl rfl rfl ?_; clear hs a; intro a hs
        refine a_skip hs rfl rfl rfl ?_; clear hs a; intro a hs
        refine a_skip hs rfl rfl rfl ?_; clear hs a; intro a hs
        refine a_val hs rfl rfl rfl (y_pickF hs rfl rfl rfl) ?_; clear hs a; intro a hs
        refine a_val hs rfl rfl rfl (y_move hs rfl) ?_; clear hs a; intro a hs
        refine a_skip hs rfl rfl rfl ?_; clear hs a; intro a hs
        refine a_skip hs rfl rfl rfl ?_; clear hs a; intro a hs
        refine a_skip hs rfl rfl rfl ?_; clear hs a; intro a hs
        refine a_val hs rfl rfl rfl (y_pickF hs rfl rfl rfl) ?_; clear hs a; intro a hs
        refine a_val hs rfl rfl rfl (y_move hs rfl) ?_; clear hs a; intro a hs
        refine a_skip hs rfl rfl rfl ?_; clear hs a; intro a hs
        refine a_skip hs rfl rfl rfl ?_; clear hs a; intro a hs
        refine a_skip hs rfl rfl rfl ?_; clear hs a; intro a hs
        refine a_val hs rfl rfl rfl (y_pickF hs rfl rfl rfl) ?_; clear hs a; intro a hs
        refine a_val hs rfl rfl rfl (y_assign hs rfl) ?_; clear hs a; intro a hs
        refine wpList_nil (then_normal ?_)
        refine wp_ret ?_
        refine fin_ret hs (.tmp (hs.slots _ _ rfl) .nil) ⟨?_, hs.mem.base⟩
        first | (rw [show noShapeB s = false from decide_eq_false (by omega)]; rfl) | (rw [show noShapeB s = (s.f6 == 0) from by unfold noShapeB; rw [Bool.eq_iff_iff]; simp only [decide_eq_true_eq, beq_iff_eq]; omega]; rfl)
    · replace h11 := of_decide_eq_false h11
      refine a_skip hs rfl rfl rfl ?_; clear hs a; intro a hs
      refine a_skip hs rfl rfl rfl ?_; clear hs a; intro a hs
      refine a_skip hs rfl rfl rfl ?_; clear hs a; intro a hs
      refine a_skip hs rfl rfl rfl ?_; clear hs a; intro a hs
      refine a_val hs rfl rfl rfl (y_pickF hs rfl rfl rfl) ?_; clear hs a; intro a hs
      refine a_val hs rfl rfl rfl (y_move hs rfl) ?_; clear hs a; intro a hs
      refine a_skip hs rfl rfl rfl ?_; clear hs a; intro a hs
      refine a_skip hs rfl rfl rfl ?_; clear hs a; intro a hs
      refine a_skip hs rfl rfl rfl ?_; clear hs a; intro a hs
      refine a_skip hs rfl rfl rfl ?_; clear hs a; intro a hs
      refine a_val hs rfl rfl rfl (y_pickF hs rfl rfl rfl) ?_; clear hs a; intro a hs
      refine a_val hs rfl rfl rfl (y_move hs rfl) ?_; clear hs a; intro a hs
      refine a_skip hs rfl rfl rfl ?_; clear hs a; intro a hs
      refine a_skip hs rfl rfl rfl ?_; clear hs a; intro a hs
      refine a_skip hs rfl rfl rfl ?_; clear hs a; intro a hs
      refine a_skip hs rfl rfl rfl ?_; clear hs a; intro a hs
      refine a_val hs rfl rfl rfl (y_pickF hs rfl rfl rfl) ?_; clear hs a; intro a hs
      refine a_val hs rfl rfl rfl (y_move hs rfl) ?_; clear hs a; intro a hs
      refine a_skip hs rfl rfl rfl ?_; clear hs a; intro a hs
      refine a_skip hs rfl rfl rfl ?_; clear hs a; intro a hs
      refine a_skip hs rfl rfl rfl ?_; clear hs a; intro a hs
      refine a_val hs rfl rfl rfl (y_pickF hs rfl rfl rfl) ?_; clear hs a; intro a hs
      refine a_val hs rfl rfl rfl (y_move hs rfl) ?_; clear hs a; intro a hs
      refine a_skip hs rfl rfl rfl ?_; clear hs a; intro a hs
      refine a_skip hs rfl rfl rfl ?_; clear hs a; intro a hs
      refine a_skip hs rfl rfl rfl ?_; clear hs a; intro a hs
      refine a_val hs rfl rfl rfl (y_pickF hs rfl rfl rfl) ?_; clear hs a; intro a hs
      refine a_val hs rfl rfl rfl (y_assign hs rfl) ?_; clear hs a; intro a hs
      refine wpList_nil (then_normal ?_)
      refine wp_ret ?_
      refine fin_ret hs (.tmp (hs.slots _ _ rfl) .nil) ⟨?_, hs.mem.base⟩
      first | (rw [show noShapeB s = false from decide_eq_false (by omega)]; rfl) | (rw [show noShapeB s = (s.f6 == 0) from by unfold noShapeB; rw [Bool.eq_iff_iff]; simp only [decide_eq_true_eq, beq_iff_eq]; omega]; rfl)
  · replace h6 := ne_of_beq_false h6
    refine a_skip hs rfl rfl rfl ?_; clear hs a; intro a hs
    refine a_skip hs rfl rfl rfl ?_; clear hs a; intro a hs
    refine a_skip hs rfl rfl rfl ?_; clear hs a; intro a hs
    refine a_val hs rfl rfl rfl (y_pickF hs rfl rfl rfl) ?_; clear hs a; intro a hs
    refine a_val hs rfl rfl rfl (y_move hs rfl) ?_; clear hs a; intro a hs
    refine a_skip hs rfl rfl rfl ?_; clear hs a; intro a hs
    refine a_skip hs rfl rfl rfl ?_; clear hs a; intro a hs
    refine a_skip hs rfl rfl rfl ?_; clear hs a; intro a hs
    refine a_skip hs rfl rfl rfl ?_; clear hs a; intro a hs
    refine a_val hs rfl rfl rfl (y_pickF hs rfl rfl rfl) ?_; clear hs a; intro a hs
    refine a_val hs rfl rfl rfl (y_move hs rfl) ?_; clear hs a; intro a hs
    refine a_skip hs rfl rfl rfl ?_; clear hs a; intro a hs
    refine a_skip hs rfl rfl rfl ?_; clear hs a; intro a hs
    refine a_skip hs rfl rfl rfl ?_; clear hs a; intro a hs
    refine a_skip hs rfl rfl rfl ?_; clear hs a; intro a hs
    refine a_val hs rfl rfl rfl (y_pickF hs rfl rfl rfl) ?_; clear hs a; intro a hs
    refine a_val hs rfl rfl rfl (y_move hs rfl) ?_; clear hs a; intro a hs
    refine a_skip hs rfl rfl rfl ?_; clear hs a; intro a hs
    refine a_skip hs rfl rfl rfl ?_; clear hs a; intro a hs
    refine a_skip hs rfl rfl rfl ?_; clear hs a; intro a hs
    refine a_skip hs rfl rfl rfl ?_; clear hs a; intro a hs
    refine a_val hs rfl rfl rfl (y_pickF hs rfl rfl rfl) ?_; clear hs a; intro a hs
    refine a_val hs rfl rfl rfl (y_move hs rfl) ?_; clear hs a; intro a hs
    refine a_skip hs rfl rfl rfl ?_; clear hs a; intro a hs
    refine a_skip hs rfl rfl rfl ?_; clear hs a; intro a hs
    refine a_skip hs rfl rfl rfl ?_; clear hs a; intro a hs
    refine a_val hs rfl rfl rfl (y_pickF hs rfl rfl rfl) ?_; clear hs a; intro a hs
    refine a_val hs rfl rfl rfl (y_move hs rfl) ?_; clear hs a; intro a hs
    refine a_skip hs rfl rfl rfl ?_; clear hs a; intro a hs
    refine a_skip hs rfl rfl rfl ?_; clear hs a; intro a hs
    refine a_skip hs rfl rfl rfl ?_; clear hs a; intro a hs
    refine a_val hs rfl rfl rfl (y_pickF hs rfl rfl rfl) ?_; clear hs a; intro a hs
    refine a_val hs rfl rfl rfl (y_assign hs rfl) ?_; clear hs a; intro a hs
    refine wpList_nil (then_normal ?_)
    refine wp_ret ?_
    refine fin_ret hs (.tmp (hs.slots _ _ rfl) .nil) ⟨?_, hs.mem.base⟩
    first | (rw [show noShapeB s = false from decide_eq_false (by omega)]; rfl) | (rw [show noShapeB s = (s.f6 == 0) from by unfold noShapeB; rw [Bool.eq_iff_iff]; simp only [decide_eq_true_eq, beq_iff_eq]; omega]; rfl)
set_option maxRecDepth 100000 in
theorem tree_MayShape (s : XS) (A2 A3 A4 : Option Addr) (c2 c3 c4 : Nat) (v0 : World) (hA2 : Kd.C k25 v0 A2 s.f2.length s.f2) (hA3 : Kd.C k42 v0 A3 s.f3.length s.f3) (hA4 : Kd.C (Kd.slice 25 k25) v0 A4 s.f4.length s.f4) (hsm : smallS 16 s) :
    Calls Tryd.prog 21 #[.agg #[.int .u8 s.f0, .string s.f1, .slice A2 s.f2.length c2, .slice A3 s.f3.length c3, .slice A4 s.f4.length c4, .int .i64 s.f5, .int .i64 s.f6]] v0 fun e w' => e = .returned (.bool (xshape 16 s 8192).1) ∧ Below v0.heap.size v0 w' := by
  refine calls_enter (N := 6) (n := 5) (args := [.agg #[.int .u8 s.f0, .string s.f1, .slice A2 s.f2.length c2, .slice A3 s.f3.length c3, .slice A4 s.f4.length c4, .int .i64 s.f5, .int .i64 s.f6]]) Tryd.func21 rfl rfl rfl (H.init v0) (fun a hs => ?_)
  refine wp_seq ?_
  refine wp_region_lit ?_
  refine a_eff rfl (e_box (cs := #[_, _, _, _, _, _, _]) hs rfl rfl rfl ?_); clear hs a; intro gx a w hs
  refine a_val hs rfl rfl rfl (y_assign hs rfl) ?_; clear hs a; intro a hs
  refine wpList_nil (then_normal ?_)
  refine wp_seq ?_
  refine b_enter [0] (by kernel_rfl) hs #[false, false, false, false] (by rfl) 4 (by rfl) ?_; clear hs; intro w hs
  refine b_take 1 rfl #[false, true, false, false] rfl (by kernel_rfl) hs ((hs.mem.first 1)) rfl rfl rfl (fun _ _ _ h => h) (y_loadPt 0 rfl hs Tryd.underlying42 rfl (by kernel_rfl) rfl) ?_; clear hs a; intro a hs
  refine b_eff 0 (by kernel_rfl) rfl #[true, true, false, false] rfl hs rfl (e_callX Tryd.func43 rfl rfl hs rfl rfl (tree_all _) (fun e w1 ⟨ga, he, hm⟩ => ⟨_, he, _, hs.mem.more hm, ?_⟩)); clear hs a; intro a hs
  refine ⟨((hs.mem.to 1 rfl).first 1), ?_⟩
  refine b_eff 2 (by kernel_rfl) rfl #[true, true, true, false] rfl hs rfl (e_callX Tryd.func45 rfl rfl hs rfl rfl (walk_shape 16 (by decide) s A2 A3 A4 c2 c3 c4 ga 8192 _ v0 _ hA2 hA3 hA4 hsm (by omega) hs.mem) (fun e w1 ⟨he, hm⟩ => ⟨_, he, _, hm, ?_⟩)); clear hs a; intro a hs
  refine ⟨((hs.mem.to 1 rfl).first 1), ?_⟩
  refine b_take 3 rfl #[true, true, true, true] rfl (by kernel_rfl) hs (((hs.mem.to 1 rfl).first 1)) rfl rfl rfl (fun _ _ _ h => h) (y_assign hs rfl) ?_; clear hs a; intro a hs
  refine b_done (by kernel_rfl) (then_normal ?_)
  refine wp_ret ?_
  refine fin_ret hs (.tmp (hs.slots _ _ rfl) .nil) ⟨rfl, hs.mem.base⟩
end Go.Proofs.YtibaidddhmdafaaDoor.E
end
