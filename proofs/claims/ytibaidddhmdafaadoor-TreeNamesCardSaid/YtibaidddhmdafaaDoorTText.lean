/- ExprText. Conditions: strconv's table stands in its variable. -/
import Derived.Test.YtibaidddhmdafaaDoorTWrite
namespace Go.Proofs.YtibaidddhmdafaaDoor.E
open Go Go.RowKit Go.Proofs.YtibaidddhmdafaaDoorW.PrintWords Go.Proofs.YtibaidddhmdafaaDoorW.PrintLast Go.Proofs.YtibaidddhmdafaaDoorW.PrintMore Go.Proofs.YtibaidddhmdafaaDoor.PA
set_option linter.unusedVariables false
set_option linter.unusedSimpArgs false
set_option maxRecDepth 100000 in
theorem expr_put (g gx : Nat) (x : XE) (A : Option Addr) (C : Nat) (bs : List Res) (w0 w : World) (hA : Kd.C k25 w0 A x.f3.length x.f3) (hS : shapeX 16 x) (h : H w0 (pt g #[.slice none 0 0] 90 :: row 94 5 (.slice none 0 0) 0 [] :: pt gx #[.int .u8 x.f0, .int .i64 x.f1, .string x.f2, .slice A x.f3.length C, .int .i64 x.f4, .int .i64 x.f5] 25 :: bs) w) :
    Calls Tryd.prog 31 #[.pointer (some ⟨g, 0, none⟩), .pointer (some ⟨gx, 0, none⟩)] w fun e w' => ∃ A2 c2, e = .returned (.tuple #[]) ∧ H w0 (pt g #[.slice A2 (toksX 16 x).length c2] 90 :: row 94 5 (.slice A2 (toksX 16 x).length c2) (toksX 16 x).length ((toksX 16 x).flatMap tokC) :: pt gx #[.int .u8 x.f0, .int .i64 x.f1, .string x.f2, .slice A x.f3.length C, .int .i64 x.f4, .int .i64 x.f5] 25 :: bs) w' := by
  refine calls_enter (N := 6) (n := 4) (args := [.pointer (some ⟨g, 0, none⟩), .pointer (some ⟨gx, 0, none⟩)]) Tryd.func31 rfl rfl rfl (h) (fun a hs => ?_)
  refine wp_region_lit ?_
  refine a_val hs rfl rfl rfl (y_move hs rfl) ?_; clear hs a; intro a hs
  refine a_val hs rfl rfl rfl (y_loadPt 2 rfl hs Tryd.underlying25 rfl (by kernel_rfl) rfl) ?_; clear hs a; intro a hs
  refine a_eff rfl (e_callX Tryd.func32 rfl rfl hs rfl rfl (w_expr 16 (by decide) x A C g [] none 0 _ w0 _ hA hS (by decide) ((hs.mem.to 1 rfl).to 1 rfl)) (fun e w1 ⟨A2, c2, he, hm⟩ => ⟨_, he, _, hm, ?_⟩)); clear hs a; intro a hs
  refine wpList_nil ?_
  refine fin_end hs .nil ⟨A2, c2, rfl, (((hs.mem.to 2 rfl).to 2 rfl).to 2 rfl)⟩


set_option maxRecDepth 100000 in
theorem text_expr (gx : Nat) (x : XE) (A : Option Addr) (C : Nat) (bs : List Res) (w0 w : World) (hA : Kd.C k25 w0 A x.f3.length x.f3) (hS : shapeX 16 x) (hP : Pow10 w0) (h : H w0 (pt gx #[.int .u8 x.f0, .int .i64 x.f1, .string x.f2, .slice A x.f3.length C, .int .i64 x.f4, .int .i64 x.f5] 25 :: bs) w) :
    Calls Tryd.prog 30 #[.func (.func 31) #[] #[.pointer (some ⟨gx, 0, none⟩)]] w fun e w' => e = .returned (.tuple #[.string (joinF (toksX 16 x)).1, .int .i64 (joinF (toksX 16 x)).2]) ∧ H w0 (pt gx #[.int .u8 x.f0, .int .i64 x.f1, .string x.f2, .slice A x.f3.length C, .int .i64 x.f4, .int .i64 x.f5] 25 :: bs) w' := by
  refine calls_enter (N := 12) (n := 11) (args := [.func (.func 31) #[] #[.pointer (some ⟨gx, 0, none⟩)]]) Tryd.func30 rfl rfl rfl (h) (fun a hs => ?_)
  refine wp_seq ?_
  refine wp_region_lit ?_
  refine a_val hs rfl rfl rfl (y_assign hs rfl) ?_; clear hs a; intro a hs
  refine a_val hs rfl rfl rfl (y_assign hs rfl) ?_; clear hs a; intro a hs
  refine wpList_nil (then_normal ?_)
  refine wp_seq ?_
  refine wp_region_lit ?_
  refine a_eff rfl (e_alloc (z := .agg #[.slice none 0 0]) (cs := #[.slice none 0 0]) hs rfl (by kernel_rfl) rfl ?_); clear hs a; intro gw a w hs
  refine wpList_nil (then_normal ?_)
  refine wp_seq ?_
  refine wp_region_lit ?_
  refine a_val hs rfl rfl rfl (y_move hs rfl) ?_; clear hs a; intro a hs
  refine a_eff rfl (e_callF Tryd.func31 rfl rfl hs rfl rfl rfl (expr_put gw gx x A C _ w0 _ hA hS ((hs.mem.nilRow 94 5).to 1 rfl)) (fun e w1 ⟨A2, c2, he, hm⟩ => ⟨_, he, _, hm, ?_⟩)); clear hs a; intro a hs
  refine wpList_nil (then_normal ?_)
  refine wp_seq ?_
  refine wp_region_lit ?_
  refine a_val hs rfl rfl rfl (y_faddr (k' := 0) 0 hs (by kernel_rfl) rfl rfl) ?_; clear hs a; intro a hs
  refine a_val hs rfl rfl rfl (y_load hs Tryd.underlying88 rfl rfl (fun w hw => (hw.to 0 rfl).cellV rfl)) ?_; clear hs a; intro a hs
  have htl := toks_len 16 x
  refine a_eff rfl (e_callB Tryd.func64 rfl rfl hs rfl rfl (token_Join A2 c2 (toksX 16 x) _ ((hs.mem.to 1 rfl).rowC tokC_K tokC_len rfl rfl (by omega)).1 (by omega) (toks_size 16 x hS) (varKeep hs.mem.base hP)) ?_); clear hs a; intro a w hs
  refine a_val hs rfl rfl rfl (y_extract hs rfl rfl) ?_; clear hs a; intro a hs
  refine a_val hs rfl rfl rfl (y_extract hs rfl rfl) ?_; clear hs a; intro a hs
  refine a_val hs rfl rfl rfl (y_assign hs rfl) ?_; clear hs a; intro a hs
  refine a_val hs rfl rfl rfl (y_assign hs rfl) ?_; clear hs a; intro a hs
  refine wpList_nil (then_normal ?_)
  refine wp_ret ?_
  refine fin_ret hs (.tmp (hs.slots _ _ rfl) (.tmp (hs.slots _ _ rfl) .nil)) ⟨rfl, ((hs.mem.to 0 rfl).drop.to 0 rfl).drop⟩

/-- An expression's text, or the error. -/
def textX (x : XE) : ByteArray × Int := if deepX x = 0 then (⟨#[]⟩, 2) else joinF (toksX 16 x)

set_option maxRecDepth 100000 in
theorem tree_ExprText (x : XE) (A : Option Addr) (C : Nat) (v0 : World) (hA : Kd.C k25 v0 A x.f3.length x.f3) (hsm : smallX 16 x) (hP : Pow10 v0) :
    Calls Tryd.prog 10 #[.agg #[.int .u8 x.f0, .int .i64 x.f1, .string x.f2, .slice A x.f3.length C, .int .i64 x.f4, .int .i64 x.f5]] v0 fun e w' => e = .returned (.tuple #[.string (textX x).1, .int .i64 (textX x).2]) ∧ Below v0.heap.size v0 w' := by
  refine calls_enter (N := 11) (n := 10) (args := [.agg #[.int .u8 x.f0, .int .i64 x.f1, .string x.f2, .slice A x.f3.length C, .int .i64 x.f4, .int .i64 x.f5]]) Tryd.func10 rfl rfl rfl (H.init v0) (fun a hs => ?_)
  refine wp_seq ?_
  refine wp_region_lit ?_
  refine a_eff rfl (e_box (cs := #[_, _, _, _, _, _]) hs rfl rfl rfl ?_); clear hs a; intro gx a w hs
  refine a_val hs rfl rfl rfl (y_assign hs rfl) ?_; clear hs a; intro a hs
  refine a_val hs rfl rfl rfl (y_assign hs rfl) ?_; clear hs a; intro a hs
  refine wpList_nil (then_normal ?_)
  refine wp_seq ?_
  refine wp_seq ?_
  refine wp_region_lit ?_
  refine a_val hs rfl rfl rfl (y_loadPt 0 rfl hs Tryd.underlying25 rfl (by kernel_rfl) rfl) ?_; clear hs a; intro a hs
  refine a_eff rfl (e_callB Tryd.func11 rfl rfl hs rfl rfl (tree_MayExpr x A C _ (Kd.C_below hA hs.mem.base) hsm) ?_); clear hs a; intro a w hs
  refine a_val hs rfl rfl rfl (y_not hs rfl) ?_; clear hs a; intro a hs
  refine wpList_nil (then_normal ?_)
  refine wp_cond_split (hs.ev rfl) (fun h6 => ?_) (fun h6 => ?_)
  · replace h6 := of_decide_eq_false (not_t h6)
    refine wp_seq ?_
    refine wp_region_lit ?_
    refine a_val hs rfl rfl rfl (y_assign hs rfl) ?_; clear hs a; intro a hs
    refine a_val hs rfl rfl rfl (y_assign hs rfl) ?_; clear hs a; intro a hs
    refine wpList_nil (then_normal ?_)
    refine wp_ret (then_ret ?_)
    refine fin_ret hs (.tmp (hs.slots _ _ rfl) (.tmp (hs.slots _ _ rfl) .nil)) ⟨?_, hs.mem.base⟩
    unfold textX; rw [if_pos (by omega)]; rfl
  · replace h6 := of_decide_eq_true (not_f h6)
    refine wp_skip (then_normal ?_)
    refine wp_seq ?_
    refine wp_region_lit ?_
    refine a_val hs rfl rfl rfl (y_func hs rfl rfl) ?_; clear hs a; intro a hs
    refine a_eff rfl (e_callX Tryd.func30 rfl rfl hs rfl rfl (text_expr gx x A C _ v0 _ hA (shape_of 16 x 8192 (by unfold deepX at h6; omega)) hP hs.mem) (fun e w1 ⟨he, hm⟩ => ⟨_, he, _, hm, ?_⟩)); clear hs a; intro a hs
    refine a_val hs rfl rfl rfl (y_extract hs rfl rfl) ?_; clear hs a; intro a hs
    refine a_val hs rfl rfl rfl (y_extract hs rfl rfl) ?_; clear hs a; intro a hs
    refine a_val hs rfl rfl rfl (y_assign hs rfl) ?_; clear hs a; intro a hs
    refine a_val hs rfl rfl rfl (y_assign hs rfl) ?_; clear hs a; intro a hs
    refine wpList_nil (then_normal ?_)
    refine wp_ret ?_
    refine fin_ret hs (.tmp (hs.slots _ _ rfl) (.tmp (hs.slots _ _ rfl) .nil)) ⟨?_, hs.mem.base⟩
    unfold textX; rw [if_neg (by omega)]; rfl
end Go.Proofs.YtibaidddhmdafaaDoor.E
