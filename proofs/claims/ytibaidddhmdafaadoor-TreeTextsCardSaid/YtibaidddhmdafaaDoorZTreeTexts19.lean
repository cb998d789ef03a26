/- What YtibaidddhmdafaaDoorRTreeTexts's proof reaches of its texts, part 19. Conditions: as each says. -/
import Derived.ArgAppend
import Derived.Below
import Derived.BigCall
import Derived.BigQuiet
import Derived.Deep.AppendLies
import Derived.Deep.CutBlock
import Derived.Deep.DeepCutAuto
import Derived.Deep.Draws
import Derived.Deep.LoopGhost
import Derived.Deep.OwnRows
import Derived.Deep.QuietTactic
import Derived.Deep.RegionHeld3
import Derived.Deep.WholeRow
import Derived.KernelRfl
import Derived.Laws.AppendOwn
import Derived.Laws.BitsLemmas
import Derived.Laws.BytesArg
import Derived.Laws.CopyRow
import Derived.Laws.Externs
import Derived.Laws.IdiomCopy
import Derived.Laws.MakeOwn
import Derived.Laws.OwnMore
import Derived.Laws.Rows
import Derived.Laws.Slices
import Derived.Laws.StructEq
import Derived.Laws.Tables
import Derived.Lib.AppendStr
import Derived.Lib.Builder
import Derived.Lib.Bytealg
import Derived.Lib.ConvBytes
import Derived.Lib.ItoaLen
import Derived.Lib.ItoaMem
import Derived.Lib.LaidTab
import Derived.Lib.Strings
import Derived.Lib.Walk
import Derived.Maps.AppendAt
import Derived.OrdersHeld
import Derived.OwnWalk
import Derived.RowKit
import Derived.RowKit3
import Derived.ScopeJumps
import Derived.Shelf.LaysM
import Derived.Shelf.Strconv.Itoa3
import Derived.Shelf.Strings.Builder1
import Derived.Sort.Grow
import Derived.Tactics
import Derived.Test.YtibaidddhmdafaaDoorProg
import Derived.WalkKit
import Derived.WideLaws
import Derived.Test.YtibaidddhmdafaaDoorZTreeTexts17
import Derived.Test.YtibaidddhmdafaaDoorZTreeTexts18
section
namespace Go.Proofs.YtibaidddhmdafaaDoor.E
open Go Go.RowKit Go.Proofs.YtibaidddhmdafaaDoorW.PrintWords Go.Proofs.YtibaidddhmdafaaDoorW.PrintLast Go.Proofs.YtibaidddhmdafaaDoorW.PrintMore Go.Proofs.YtibaidddhmdafaaDoor.PA
set_option linter.unusedVariables false
set_option linter.unusedSimpArgs false
theorem mk_size (a : Array UInt8) : (⟨a⟩ : ByteArray).size = a.size := rfl
theorem bl_mk (a : Array UInt8) : bl ⟨a⟩ = a.toList := rfl
theorem form_num (n : Int) : formT (⟨3, ⟨#[]⟩, n, 0, 0⟩ : XT) = ⟨(Lib.itoa n).toArray⟩ := rfl
section
variable {P : Program} {N : Nat} {w0 w : World} {σ : List (Nat × Value)} {bs bs1 : List Res} {a : Act} {x y : Operand}
variable {t t' ty : TypeId} {ps : String} {af : Array Edge} {gd : Option (Nat × Bool)} {od : Option Nat} {kk : IntKind} {m n : Int}
theorem y_subU8 (hs : St N w0 σ bs1 a w) (hx : ev σ x = some (.int .u8 m)) (hy : ev σ y = some (.int .u8 n)) (h : 0 ≤ m - n ∧ m - n ≤ 255) : Y P w0 bs a (Oper.mk od (.binOp .sub t x y t') ty ps af gd) (.int .u8 (m - n)) :=
  y_arith hs hx hy (by simp only [arith, Option.some.injEq]; exact u8_in h)
theorem y_intS {src dst : TypeId} {e1 : TypeDesc} {s : ByteArray} (hs : St N w0 σ bs1 a w) (h1 : P.underlying src = some e1) (h2 : P.underlying dst = some .string) (hx : ev σ x = some (.int kk m)) (hr : Utf8.encode m = s) : Y P w0 bs a (Oper.mk od (.convert src dst x) ty ps af gd) (.string s) :=
  fun w _ => by subst hr; simp [execOp, hs.ev hx, convert, run_underlying h1, run_underlying h2, Conv.intToString]
end
def opB (k : Int) : UInt8 := if k = 4 then 43 else if k = 5 then 45 else if k = 6 then 42 else if k = 7 then 47 else 37
theorem opB_enc {k : Int} (h : 4 ≤ k ∧ k ≤ 8) : Utf8.encode ((opB k).toNat : Int) = opS k := by
  rcases (show k = 4 ∨ k = 5 ∨ k = 6 ∨ k = 7 ∨ k = 8 by omega) with rfl | rfl | rfl | rfl | rfl <;> decide +kernel
theorem opB_at {k : Int} (h : 4 ≤ k ∧ k ≤ 8) : (⟨#[43, 45, 42, 47, 37]⟩ : ByteArray)[(k - 4).toNat]? = some (opB k) := by
  rcases (show k = 4 ∨ k = 5 ∨ k = 6 ∨ k = 7 ∨ k = 8 by omega) with rfl | rfl | rfl | rfl | rfl <;> rfl
def TextOk (n : Nat) : Prop := ∀ (x : XE) (A : Option Addr) (C : Nat) (v0 : World), Kd.C k25 v0 A x.f3.length x.f3 → shapeX n x → Pow10 v0 → Calls Tryd.prog 61 #[.agg #[.int .u8 x.f0, .int .i64 x.f1, .string x.f2, .slice A x.f3.length C, .int .i64 x.f4, .int .i64 x.f5]] v0 fun e w' => e = .returned (.string (jb (toksX n x))) ∧ Below v0.heap.size v0 w'
set_option maxRecDepth 100000 in
theorem refT_expr_step (n : Nat) (hn : n ≤ 16) (ih : ∀ q, q + 1 = n → TextOk q) (x : XE) (A : Option Addr) (C : Nat) (v0 : World) (hA : Kd.C k25 v0 A x.f3.length x.f3) (hS : shapeX n x) (hP : Pow10 v0) :
    Calls Tryd.prog 61 #[.agg #[.int .u8 x.f0, .int .i64 x.f1, .string x.f2, .slice A x.f3.length C, .int .i64 x.f4, .int .i64 x.f5]] v0 fun e w' => e = .returned (.string (jb (toksX n x))) ∧ Below v0.heap.size v0 w' := by
  refine calls_enter (N := 43) (n := 42) (args := [.agg #[.int .u8 x.f0, .int .i64 x.f1, .string x.f2, .slice A x.f3.length C, .int .i64 x.f4, .int .i64 x.f5]]) Tryd.func61 rfl rfl rfl (H.init v0) (fun a hs => ?_)
  obtain ⟨q, rfl⟩ : ∃ q, n = q + 1 := by cases n with | zero => exact hS.elim | succ q => exact ⟨q, rfl⟩
  obtain ⟨hp, hq⟩ := hS
  have hk := parts_kind hp
  have h2q : 2 ^ q ≤ 65536 := Nat.le_trans (Nat.pow_le_pow_right (by decide) (show q ≤ 16 by omega)) (by decide)
  refine wp_seq (wp_region_lit ?_)
  refine a_eff rfl (e_box (cs := #[_, _, _, _, _, _]) hs rfl rfl rfl ?_); clear hs a; intro gx a w hs
  refine go hs (pA rfl <| ?_); clear hs a; intro a hs
  refine wpList_nil (then_normal (wp_seq ?_))
  refine wp_seq (wp_region_lit ?_)
  refine go hs (pV rfl (fun a hs => y_faddr (k' := 0) 0 hs (by kernel_rfl) rfl rfl) <| pV rfl (fun a hs => y_load hs Tryd.underlying22 rfl rfl (fun w hw => (hw.to 0 rfl).cellV rfl)) <| ?_); clear hs a; intro a hs
  refine wpList_nil (then_normal (wp_block ?_))
  refine wp_seq (wp_region_lit ?_)
  refine go hs (pV rfl (fun a hs => y_cmp hs rfl rfl rfl) <| pA rfl <| ?_); clear hs a; intro a hs
  refine wpList_nil (then_normal ?_)
  refine wp_cond_split (hs.ev rfl) (fun h5 => ?_) (fun h5 => ?_)
  · replace h5 := eq_of_beq h5
    replace hk : x.f0 = 1 ∧ 0 ≤ x.f1 ∧ x.f1 ≤ 2147483647 := by omega
    refine wp_seq (wp_region_lit ?_)
    refine go hs (pV rfl (fun a hs => y_faddr (k' := 1) 1 hs (by kernel_rfl) rfl rfl) <| pV rfl (fun a hs => y_load hs Tryd.underlying3 rfl rfl (fun w hw => (hw.to 0 rfl).cellV rfl)) <| ?_); clear hs a; intro a hs
    refine a_eff rfl (e_callB Tryd.func88 rfl rfl hs rfl rfl ((Tryd.strconv_Itoa x.f1 (by omega) (by omega) _ (varKeep hs.mem.base hP)).mono (by rintro e w1 ⟨rfl, k, os, rfl⟩; exact ⟨rfl, grow_below _ k os⟩)) ?_); clear hs a; intro a w hs
    refine go hs (pA rfl <| ?_); clear hs a; intro a hs
    refine wpList_nil (then_normal (wp_ret (in_ret (then_ret ?_))))
    have hX : jb (toksX (q + 1) x) = ⟨(Lib.itoa x.f1).toArray⟩ := by
      rw [toksX, if_pos (by omega)]
      refine jb_eq (fun h => by cases h) ?_
      simp only [tl_app, tl, form_say, form_num, bl_app, bl_mk, List.append_assoc, List.cons_append, List.nil_append, List.append_nil, List.toList_toArray]
    refine fin_ret hs (.tmp (hs.slots _ _ rfl) .nil) ⟨?_, hs.mem.base⟩
    rw [hX]; rfl
  replace h5 := ne_of_beq_false h5
  refine wp_seq (wp_region_lit ?_)
  refine go hs (pV rfl (fun a hs => y_cmp hs rfl rfl rfl) <| pA rfl <| ?_); clear hs a; intro a hs
  refine wpList_nil (then_normal ?_)
  refine wp_cond_split (hs.ev rfl) (fun h10 => ?_) (fun h10 => ?_)
  · replace h10 := eq_of_beq h10
    replace hk : x.f0 = 2 ∧ x.f3.length = 0 := by omega
    refine wp_seq (wp_region_lit ?_)
    refine go hs (pV rfl (fun a hs => y_faddr (k' := 2) 2 hs (by kernel_rfl) rfl rfl) <| pV rfl (fun a hs => y_load hs Tryd.underlying9 rfl rfl (fun w hw => (hw.to 0 rfl).cellV rfl)) <| pA rfl <| ?_); clear hs a; intro a hs
    refine wpList_nil (then_normal (wp_ret (in_ret (then_ret ?_))))
    have hX : jb (toksX (q + 1) x) = x.f2 := by
      rw [toksX, if_neg (by omega), if_pos (by omega)]
      refine jb_eq (fun h => by cases h) ?_
      simp only [tl_app, tl, form_say, form_num, bl_app, bl_mk, List.append_assoc, List.cons_append, List.nil_append, List.append_nil, List.toList_toArray]
    refine fin_ret hs (.tmp (hs.slots _ _ rfl) .nil) ⟨?_, hs.mem.base⟩
    rw [hX]; rfl
  replace h10 := ne_of_beq_false h10
  refine wp_seq (wp_region_lit ?_)
  refine go hs (pV rfl (fun a hs => y_cmp hs rfl rfl rfl) <| pA rfl <| ?_); clear hs a; intro a hs
  refine wpList_nil (then_normal ?_)
  refine wp_cond_split (hs.ev rfl) (fun h14 => ?_) (fun h14 => ?_)
  · replace h14 := eq_of_beq h14
    replace hk : x.f0 = 3 ∧ x.f3.length = 1 := by omega
    obtain ⟨g0, o, rfl, hcell⟩ := C_atG (show 0 < 6 by decide) hA (by omega)
    obtain ⟨cs0, hK0, hc0⟩ := hcell 0 (part x 0) (part_mem (by omega)).1
    obtain ⟨D0, d0, rfl, hlc0, hC0⟩ := k25_open hK0
    have hS0 := hq _ (part_mem (show 0 < x.f3.length by omega)).2
    have hz0 := jb_size (toks_may q _ hS0)
    have htl0 := toks_len q (part x 0)
    refine wp_seq (wp_region_lit ?_)
    refine go hs (pV rfl (fun a hs => y_faddr (k' := 3) 3 hs (by kernel_rfl) rfl rfl) <| pV rfl (fun a hs => y_load hs Tryd.underlying23 rfl rfl (fun w hw => (hw.to 0 rfl).cellV rfl)) <| pV rfl (fun a hs => y_idxB (size := 6) (off := o + 0 * 6) hs Tryd.underlying23 (by kernel_rfl) rfl rfl (by omega) (by omega) (by simp)) <| pV rfl (fun a hs => y_loadAgg (vs := [.int .u8 (part x 0).f0, .int .i64 (part x 0).f1, .string (part x 0).f2, .slice D0 (part x 0).f3.length d0, .int .i64 (part x 0).f4, .int .i64 (part x 0).f5]) hs Tryd.underlying25 rfl (by kernel_rfl) rfl (fun w hw k v hk => hc0 w hw.base k v hk)) <| ?_); clear hs a; intro a hs
    refine a_eff rfl (e_callB Tryd.func61 rfl rfl hs rfl rfl (ih q rfl (part x 0) D0 d0 _ (Kd.C_below hC0 hs.mem.base) hS0 (varKeep hs.mem.base hP)) ?_); clear hs a; intro a w hs
    refine go hs (pV rfl (fun a hs => y_sadd hs rfl rfl (by first | omega | (simp only [ByteArray.size_append, mk_size, List.size_toArray, List.length_cons, List.length_nil]; omega))) <| pA rfl <| ?_); clear hs a; intro a hs
    refine wpList_nil (then_normal (wp_ret (in_ret (then_ret ?_))))
    have hX : jb (toksX (q + 1) x) = ⟨#[45, 32]⟩ ++ jb (toksX q (part x 0)) := by
      rw [toksX, if_neg (by omega), if_neg (by omega), if_pos (by omega)]
      refine jb_eq (fun h => by cases h) ?_
      simp only [tl_app, tl, form_say, form_num, tl_jb (toksX_ne hS0), bl_app, bl_mk, List.append_assoc, List.cons_append, List.nil_append, List.append_nil, List.toList_toArray]
    refine fin_ret hs (.tmp (hs.slots _ _ rfl) .nil) ⟨?_, hs.mem.base⟩
    rw [hX]; rfl
  replace h14 := ne_of_beq_false h14
  replace hk : 4 ≤ x.f0 ∧ x.f0 ≤ 8 ∧ x.f3.length = 2 := by omega
  obtain ⟨g0, o, rfl, hcell⟩ := C_atG (show 0 < 6 by decide) hA (by omega)
  obtain ⟨cs0, hK0, hc0⟩ := hcell 0 (part x 0) (part_mem (by omega)).1
  obtain ⟨D0, d0, rfl, hlc0, hC0⟩ := k25_open hK0
  have hS0 := hq _ (part_mem (show 0 < x.f3.length by omega)).2
  have hz0 := jb_size (toks_may q _ hS0)
  have htl0 := toks_len q (part x 0)
  obtain ⟨cs1, hK1, hc1⟩ := hcell 1 (part x 1) (part_mem (by omega)).1
  obtain ⟨D1, d1, rfl, hlc1, hC1⟩ := k25_open hK1
  have hS1 := hq _ (part_mem (show 1 < x.f3.length by omega)).2
  have hz1 := jb_size (toks_may q _ hS1)
  have htl1 := toks_len q (part x 1)
  have hos := opS_size x.f0
  refine wp_skip (in_normal (then_normal (wp_seq ?_)))
  refine b_enter [0] (by kernel_rfl) hs #[false, false, false, false, false, false, false, false, false, false, false, false, false, false, false, false, false, false, false, false, false, false] (by rfl) 22 (by rfl) ?_; clear hs; intro w hs
  refine b_take 0 rfl #[true, false, false, false, false, false, false, false, false, false, false, false, false, false, false, false, false, false, false, false, false, false] rfl (by kernel_rfl) hs ((hs.mem.first 1)) rfl rfl rfl (fun _ _ _ h => h) (y_faddr (k' := 3) 3 hs (by kernel_rfl) rfl rfl) ?_; clear hs a; intro a hs
  refine b_take 1 rfl #[true, true, false, false, false, false, false, false, false, false, false, false, false, false, false, false, false, false, false, false, false, false] rfl (by kernel_rfl) hs ((hs.mem.first 1)) rfl rfl rfl (fun _ _ _ h => h) (y_load hs Tryd.underlying23 rfl rfl (fun w hw => (hw.to 0 rfl).cellV rfl)) ?_; clear hs a; intro a hs
  refine b_take 2 rfl #[true, true, true, false, false, false, false, false, false, false, false, false, false, false, false, false, false, false, false, false, false, false] rfl (by kernel_rfl) hs ((hs.mem.first 1)) rfl rfl rfl (fun _ _ _ h => h) (y_idxB (size := 6) (off := o + 0 * 6) hs Tryd.underlying23 (by kernel_rfl) rfl rfl (by omega) (by omega) (by simp)) ?_; clear hs a; intro a hs
  refine b_take 3 rfl #[true, true, true, true, false, false, false, false, false, false, false, false, false, false, false, false, false, false, false, false, false, false] rfl (by kernel_rfl) hs ((hs.mem.first 1)) rfl rfl rfl (fun _ _ _ h => h) (y_loadAgg (vs := [.int .u8 (part x 0).f0, .int .i64 (part x 0).f1, .string (part x 0).f2, .slice D0 (part x 0).f3.length d0, .int .i64 (part x 0).f4, .int .i64 (part x 0).f5]) hs Tryd.underlying25 rfl (by kernel_rfl) rfl (fun w hw k v hk => hc0 w hw.base k v hk)) ?_; clear hs a; intro a hs
  refine b_take 7 rfl #[true, true, true, true, false, false, false, true, false, false, false, false, false, false, false, false, false, false, false, false, false, false] rfl (by kernel_rfl) hs ((hs.mem.first 1)) rfl rfl rfl (fun _ _ _ h => h) (y_faddr (k' := 0) 0 hs (by kernel_rfl) rfl rfl) ?_; clear hs a; intro a hs
  refine b_take 8 rfl #[true, true, true, true, false, false, false, true, true, false, false, false, false, false, false, false, false, false, false, false, false, false] rfl (by kernel_rfl) hs ((hs.mem.first 1)) rfl rfl rfl (fun _ _ _ h => h) (y_load hs Tryd.underlying22 rfl rfl (fun w hw => (hw.to 0 rfl).cellV rfl)) ?_; clear hs a; intro a hs
  refine b_take 9 rfl #[true, true, true, true, false, false, false, true, true, true, false, false, false, false, false, false, false, false, false, false, false, false] rfl (by kernel_rfl) hs ((hs.mem.first 1)) rfl rfl rfl (fun _ _ _ h => h) (y_subU8 hs rfl rfl (by omega)) ?_; clear hs a; intro a hs
  refine b_take 10 rfl #[true, true, true, true, false, false, false, true, true, true, true, false, false, false, false, false, false, false, false, false, false, false] rfl (by kernel_rfl) hs ((hs.mem.first 1)) rfl rfl rfl (fun _ _ _ h => h) (y_idxS (c := opB x.f0) hs Tryd.underlying9 rfl rfl (by omega) (opB_at (by omega))) ?_; clear hs a; intro a hs
  refine b_take 11 rfl #[true, true, true, true, false, false, false, true, true, true, true, true, false, false, false, false, false, false, false, false, false, false] rfl (by kernel_rfl) hs ((hs.mem.first 1)) rfl rfl rfl (fun _ _ _ h => h) (y_intS hs Tryd.underlying5 Tryd.underlying9 rfl (opB_enc (by omega))) ?_; clear hs a; intro a hs
  refine b_take 14 rfl #[true, true, true, true, false, false, false, true, true, true, true, true, false, false, true, false, false, false, false, false, false, false] rfl (by kernel_rfl) hs ((hs.mem.first 1)) rfl rfl rfl (fun _ _ _ h => h) (y_faddr (k' := 3) 3 hs (by kernel_rfl) rfl rfl) ?_; clear hs a; intro a hs
  refine b_take 15 rfl #[true, true, true, true, false, false, false, true, true, true, true, true, false, false, true, true, false, false, false, false, false, false] rfl (by kernel_rfl) hs ((hs.mem.first 1)) rfl rfl rfl (fun _ _ _ h => h) (y_load hs Tryd.underlying23 rfl rfl (fun w hw => (hw.to 0 rfl).cellV rfl)) ?_; clear hs a; intro a hs
  refine b_take 16 rfl #[true, true, true, true, false, false, false, true, true, true, true, true, false, false, true, true, true, false, false, false, false, false] rfl (by kernel_rfl) hs ((hs.mem.first 1)) rfl rfl rfl (fun _ _ _ h => h) (y_idxB (size := 6) (off := o + 1 * 6) hs Tryd.underlying23 (by kernel_rfl) rfl rfl (by omega) (by omega) (by simp)) ?_; clear hs a; intro a hs
  refine b_take 17 rfl #[true, true, true, true, false, false, false, true, true, true, true, true, false, false, true, true, true, true, false, false, false, false] rfl (by kernel_rfl) hs ((hs.mem.first 1)) rfl rfl rfl (fun _ _ _ h => h) (y_loadAgg (vs := [.int .u8 (part x 1).f0, .int .i64 (part x 1).f1, .string (part x 1).f2, .slice D1 (part x 1).f3.length d1, .int .i64 (part x 1).f4, .int .i64 (part x 1).f5]) hs Tryd.underlying25 rfl (by kernel_rfl) rfl (fun w hw k v hk => hc1 w hw.base k v hk)) ?_; clear hs a; intro a hs
  refine b_eff 4 (by kernel_rfl) rfl #[true, true, true, true, true, false, false, true, true, true, true, true, false, false, true, true, true, true, false, false, false, false] rfl hs rfl (e_callB Tryd.func61 rfl rfl hs rfl rfl (ih q rfl (part x 0) D0 d0 _ (Kd.C_below hC0 hs.mem.base) hS0 (varKeep hs.mem.base hP)) ?_); clear hs a; intro a w hs
  refine ⟨(hs.mem.first 1), ?_⟩
  refine b_take 5 rfl #[true, true, true, true, true, true, false, true, true, true, true, true, false, false, true, true, true, true, false, false, false, false] rfl (by kernel_rfl) hs ((hs.mem.first 1)) rfl rfl rfl (fun _ _ _ h => h) (y_sadd hs rfl rfl (by first | omega | (simp only [ByteArray.size_append, mk_size, List.size_toArray, List.length_cons, List.length_nil]; omega))) ?_; clear hs a; intro a hs
  refine b_take 6 rfl #[true, true, true, true, true, true, true, true, true, true, true, true, false, false, true, true, true, true, false, false, false, false] rfl (by kernel_rfl) hs ((hs.mem.first 1)) rfl rfl rfl (fun _ _ _ h => h) (y_sadd hs rfl rfl (by first | omega | (simp only [ByteArray.size_append, mk_size, List.size_toArray, List.length_cons, List.length_nil]; omega))) ?_; clear hs a; intro a hs
  refine b_take 12 rfl #[true, true, true, true, true, true, true, true, true, true, true, true, true, false, true, true, true, true, false, false, false, false] rfl (by kernel_rfl) hs ((hs.mem.first 1)) rfl rfl rfl (fun _ _ _ h => h) (y_sadd hs rfl rfl (by first | omega | (simp only [ByteArray.size_append, mk_size, List.size_toArray, List.length_cons, List.length_nil]; omega))) ?_; clear hs a; intro a hs
  refine b_take 13 rfl #[true, true, true, true, true, true, true, true, true, true, true, true, true, true, true, true, true, true, false, false, false, false] rfl (by kernel_rfl) hs ((hs.mem.first 1)) rfl rfl rfl (fun _ _ _ h => h) (y_sadd hs rfl rfl (by first | omega | (simp only [ByteArray.size_append, mk_size, List.size_toArray, List.length_cons, List.length_nil]; omega))) ?_; clear hs a; intro a hs
  refine b_eff 18 (by kernel_rfl) rfl #[true, true, true, true, true, true, true, true, true, true, true, true, true, true, true, true, true, true, true, false, false, false] rfl hs rfl (e_callB Tryd.func61 rfl rfl hs rfl rfl (ih q rfl (part x 1) D1 d1 _ (Kd.C_below hC1 hs.mem.base) hS1 (varKeep hs.mem.base hP)) ?_); clear hs a; intro a w hs
  refine ⟨(hs.mem.first 1), ?_⟩
  refine b_take 19 rfl #[true, true, true, true, true, true, true, true, true, true, true, true, true, true, true, true, true, true, true, true, false, false] rfl (by kernel_rfl) hs ((hs.mem.first 1)) rfl rfl rfl (fun _ _ _ h => h) (y_sadd hs rfl rfl (by first | omega | (simp only [ByteArray.size_append, mk_size, List.size_toArray, List.length_cons, List.length_nil]; omega))) ?_; clear hs a; intro a hs
  refine b_take 20 rfl #[true, true, true, true, true, true, true, true, true, true, true, true, true, true, true, true, true, true, true, true, true, false] rfl (by kernel_rfl) hs ((hs.mem.first 1)) rfl rfl rfl (fun _ _ _ h => h) (y_sadd hs rfl rfl (by first | omega | (simp only [ByteArray.size_append, mk_size, List.size_toArray, List.length_cons, List.length_nil]; omega))) ?_; clear hs a; intro a hs
  refine b_take 21 rfl #[true, true, true, true, true, true, true, true, true, true, true, true, true, true, true, true, true, true, true, true, true, true] rfl (by kernel_rfl) hs ((hs.mem.first 1)) rfl rfl rfl (fun _ _ _ h => h) (y_assign hs rfl) ?_; clear hs a; intro a hs
  refine b_done (by kernel_rfl) (then_normal ?_)
  refine wp_ret ?_
  have hX : jb (toksX (q + 1) x) = ⟨#[40, 32]⟩ ++ jb (toksX q (part x 0)) ++ ⟨#[32]⟩ ++ opS x.f0 ++ ⟨#[32]⟩ ++ jb (toksX q (part x 1)) ++ ⟨#[32, 41]⟩ := by
    rw [toksX, if_neg (by omega), if_neg (by omega), if_neg (by omega)]
    refine jb_eq (fun h => by cases h) ?_
    simp only [tl_app, tl, form_say, form_num, tl_jb (toksX_ne hS0), tl_jb (toksX_ne hS1), bl_app, bl_mk, List.append_assoc, List.cons_append, List.nil_append, List.append_nil, List.toList_toArray]
  refine fin_ret hs (.tmp (hs.slots _ _ rfl) .nil) ⟨?_, hs.mem.base⟩
  rw [hX]; rfl
theorem refT_expr : ∀ n : Nat, n ≤ 16 → TextOk n := fun n => by
  induction n using Nat.strongRecOn with
  | _ n ih => exact fun hn x A C v0 hA hS hP => refT_expr_step n hn (fun q hq => ih q (by omega) (by omega)) x A C v0 hA hS hP
set_option maxRecDepth 100000 in
theorem refT_row (A : Option Addr) (c : Nat) (l : List XE) (v0 : World) (hA : Kd.C k25 v0 A l.length l) (hS : ∀ p ∈ l, shapeX 16 p) (hln : (exT l).length ≤ 800000) (hP : Pow10 v0) :
    Calls Tryd.prog 87 #[.slice A l.length c] v0 fun e w' => e = .returned (.string (jb (exT l))) ∧ Below v0.heap.size v0 w' := by
  refine calls_enter (N := 23) (n := 22) (args := [.slice A l.length c]) Tryd.func87 rfl rfl rfl (H.init v0) (fun a hs => ?_)
  have hcl := C_len hA
  refine wp_seq (wp_region_lit ?_)
  refine go hs (pA rfl <| ?_); clear hs a; intro a hs
  refine wpList_nil (then_normal (wp_seq ?_))
  refine wp_region_lit (go hs (pA rfl <| ?_)); clear hs a; intro a hs
  refine wpList_nil (then_normal (wp_seq ?_))
  refine wp_seq (wp_region_lit ?_)
  refine go hs (pA rfl <| ?_); clear hs a; intro a hs
  refine wpList_nil (then_normal (wp_block ?_))
  refine wp_loopN (fun m a w1 => ∃ (i : Nat) (acc : ByteArray), (i + m = l.length) ∧ (acc = jb (btw ⟨#[44]⟩ (toksX 16) false (l.take i))) ∧ St 23 v0 [(0, .slice A l.length c), (3, .string acc), (4, .int .i64 ((i : Nat) : Int))] [] a w1) (l.length) ⟨0, ⟨#[]⟩, by omega, rfl, ?_⟩ (fun m a w1 hJ => ?_)
  · exact (hs.mem_to hs.mem).cut _ ⟨rfl, rfl, rfl, trivial⟩
  clear hs
  obtain ⟨i, acc, hi, hacc, hs⟩ := hJ
  refine wp_seq (wp_seq ?_)
  refine wp_region_lit (go hs (pM rfl <| pM rfl <| pV rfl (fun a hs => y_lenL hs Tryd.underlying23 rfl) <| pV rfl (fun a hs => y_cmp hs rfl rfl rfl) <| ?_)); clear hs a; intro a hs
  refine wpList_nil (then_normal ?_)
  refine wp_cond_split (hs.ev rfl) (fun h8 => ?_) (fun h8 => ?_)
  · replace h8 := of_decide_eq_true h8
    obtain ⟨p, hp⟩ : ∃ p, l[i]? = some p := ⟨_, List.getElem?_eq_getElem (by omega)⟩
    have hSp := hS p (List.mem_of_getElem? hp)
    obtain ⟨g1, o1, rfl, hcell1⟩ := C_atG (show 0 < 6 by decide) hA (by omega)
    obtain ⟨cs1, hK1, hc1⟩ := hcell1 i p hp
    obtain ⟨D1, d1, rfl, e1, C1⟩ := k25_open hK1
    have hz1 := jb_size (toks_may 16 p hSp)
    have htl1 := toks_len 16 p
    have hz2 := jb_size (btw_may (s := ⟨#[44]⟩) (may_more _ (by simp)) (l.take i) false (fun r hr => toks_may 16 r (hS r (List.mem_of_mem_take hr))))
    have hbl := btw_take_len (s := ⟨#[44]⟩) (f := toksX 16) l i
    rw [show btw ⟨#[44]⟩ (toksX 16) false l = exT l from rfl] at hbl
    rw [← hacc] at hz2
    have htk := btw_take (s := ⟨#[44]⟩) (f := toksX 16) hp
    refine wp_skip (then_normal (wp_seq ?_))
    refine wp_block (wp_seq ?_)
    refine wp_seq (wp_region_lit ?_)
    refine go hs (pM rfl <| pV rfl (fun a hs => y_cmp hs rfl rfl rfl) <| ?_); clear hs a; intro a hs
    refine wpList_nil (then_normal ?_)
    refine wp_cond_split (hs.ev rfl) (fun h12 => ?_) (fun h12 => ?_)
    · replace h12 := of_decide_eq_true h12
      rw [if_pos (show 0 < i by omega)] at htk
      have hnx : acc ++ ⟨#[32, 44, 32]⟩ ++ jb (toksX 16 p) = jb (btw ⟨#[44]⟩ (toksX 16) false (l.take (i + 1))) := by
        have hne : btw ⟨#[44]⟩ (toksX 16) false (l.take i) ≠ [] := btw_ne (by rw [List.length_take]; omega) (fun r hr => toksX_ne (hS r (List.mem_of_mem_take hr)))
        rw [htk]
        refine (jb_eq (fun h => hne (List.append_eq_nil_iff.1 h).1) ?_).symm
        rw [hacc]
        simp only [tl_app, tl, form_say, form_num, tl_jb hne, tl_jb (toksX_ne hSp), bl_app, bl_mk, List.append_assoc, List.cons_append, List.nil_append, List.append_nil, List.toList_toArray]
      refine wp_region_lit (go hs (pM rfl <| pV rfl (fun a hs => y_sadd hs rfl rfl (by first | omega | (simp only [ByteArray.size_append, mk_size, List.size_toArray, List.length_cons, List.length_nil]; omega))) <| pA rfl <| ?_)); clear hs a; intro a hs
      refine wpList_nil (then_normal (wp_region_lit ?_))
      refine go hs (pM rfl <| pM rfl <| pM rfl <| pV rfl (fun a hs => y_idxB (size := 6) (off := o1 + i * 6) hs Tryd.underlying23 (by kernel_rfl) rfl rfl (by omega) (by omega) (by simp)) <| pV rfl (fun a hs => y_loadAgg (vs := [.int .u8 p.f0, .int .i64 p.f1, .string p.f2, .slice D1 p.f3.length d1, .int .i64 p.f4, .int .i64 p.f5]) hs Tryd.underlying24 rfl (by kernel_rfl) rfl (fun w hw k v hk => hc1 w hw.base k v hk)) <| ?_); clear hs a; intro a hs
      refine a_eff rfl (e_callB Tryd.func61 rfl rfl hs rfl rfl (refT_expr 16 (by decide) p D1 d1 _ (Kd.C_below C1 hs.mem.base) hSp (varKeep hs.mem.base hP)) ?_); clear hs a; intro a w hs
      refine go hs (pV rfl (fun a hs => y_sadd hs rfl rfl (by first | omega | (simp only [ByteArray.size_append, mk_size, List.size_toArray, List.length_cons, List.length_nil]; omega))) <| pA rfl <| ?_); clear hs a; intro a hs
      refine wpList_nil (in_normal (then_normal (wp_region_lit ?_)))
      refine go hs (pM rfl <| pV rfl (fun a hs => y_add hs rfl rfl (by omega)) <| pA rfl <| ?_); clear hs a; intro a hs
      refine wpList_nil (then_normal ?_)
      refine ⟨m - 1, by omega, i + 1, _, by omega, hnx, ?_⟩
      exact (hs.mem_to hs.mem).cut _ ⟨rfl, rfl, rfl, trivial⟩
    replace h12 := of_decide_eq_false h12
    have hnx : acc ++ jb (toksX 16 p) = jb (btw ⟨#[44]⟩ (toksX 16) false (l.take (i + 1))) := by
      rw [htk, if_neg (by omega), hacc, show l.take i = [] by rw [show i = 0 by omega]; rfl]
      exact bl_inj (by rw [bl_app]; rfl)
    refine wp_skip (then_normal (wp_region_lit ?_))
    refine go hs (pM rfl <| pM rfl <| pM rfl <| pV rfl (fun a hs => y_idxB (size := 6) (off := o1 + i * 6) hs Tryd.underlying23 (by kernel_rfl) rfl rfl (by omega) (by omega) (by simp)) <| pV rfl (fun a hs => y_loadAgg (vs := [.int .u8 p.f0, .int .i64 p.f1, .string p.f2, .slice D1 p.f3.length d1, .int .i64 p.f4, .int .i64 p.f5]) hs Tryd.underlying24 rfl (by kernel_rfl) rfl (fun w hw k v hk => hc1 w hw.base k v hk)) <| ?_); clear hs a; intro a hs
    refine a_eff rfl (e_callB Tryd.func61 rfl rfl hs rfl rfl (refT_expr 16 (by decide) p D1 d1 _ (Kd.C_below C1 hs.mem.base) hSp (varKeep hs.mem.base hP)) ?_); clear hs a; intro a w hs
    refine go hs (pV rfl (fun a hs => y_sadd hs rfl rfl (by first | omega | (simp only [ByteArray.size_append, mk_size, List.size_toArray, List.length_cons, List.length_nil]; omega))) <| pA rfl <| ?_); clear hs a; intro a hs
    refine wpList_nil (in_normal (then_normal (wp_region_lit ?_)))
    refine go hs (pM rfl <| pV rfl (fun a hs => y_add hs rfl rfl (by omega)) <| pA rfl <| ?_); clear hs a; intro a hs
    refine wpList_nil (then_normal ?_)
    refine ⟨m - 1, by omega, i + 1, _, by omega, hnx, ?_⟩
    exact (hs.mem_to hs.mem).cut _ ⟨rfl, rfl, rfl, trivial⟩
  replace h8 := of_decide_eq_false h8
  have hX : jb (exT l) = acc := by rw [hacc, List.take_of_length_le (by omega)]; rfl
  refine wp_exit (then_exit (then_exit (in_here (then_normal (wp_seq ?_)))))
  refine wp_region_lit (go hs (pM rfl <| pA rfl <| ?_)); clear hs a; intro a hs
  refine wpList_nil (then_normal (wp_ret ?_))
  refine fin_ret hs (.tmp (hs.slots _ _ rfl) .nil) ⟨?_, hs.mem.base⟩
  rw [hX]; rfl
def TextSOk (n : Nat) : Prop := ∀ (s : XS) (A2 A3 A4 : Option Addr) (c2 c3 c4 : Nat) (v0 : World), Kd.C k25 v0 A2 s.f2.length s.f2 → Kd.C k42 v0 A3 s.f3.length s.f3 → Kd.C (Kd.slice 25 k25) v0 A4 s.f4.length s.f4 → goodS n s → lenS n s → (toksS n s).length ≤ 800000 → Pow10 v0 → Calls Tryd.prog 63 #[.agg #[.int .u8 s.f0, .string s.f1, .slice A2 s.f2.length c2, .slice A3 s.f3.length c3, .slice A4 s.f4.length c4, .int .i64 s.f5, .int .i64 s.f6]] v0 fun e w' => e = .returned (.string (jb (toksS n s))) ∧ Below v0.heap.size v0 w'
set_option maxHeartbeats 1000000 in
set_option maxRecDepth 100000 in
theorem refT_shape_step (n : Nat) (hn : n ≤ 1000) (ih : ∀ q, q + 1 = n → TextSOk q) (s : XS) (A2 A3 A4 : Option Addr) (c2 c3 c4 : Nat) (v0 : World) (hA2 : Kd.C k25 v0 A2 s.f2.length s.f2) (hA3 : Kd.C k42 v0 A3 s.f3.length s.f3) (hA4 : Kd.C (Kd.slice 25 k25) v0 A4 s.f4.length s.f4) (hS : goodS n s) (hL : lenS n s) (hln : (toksS n s).length ≤ 800000) (hP : Pow10 v0) :
    Calls Tryd.prog 63 #[.agg #[.int .u8 s.f0, .string s.f1, .slice A2 s.f2.length c2, .slice A3 s.f3.length c3, .slice A4 s.f4.length c4, .int .i64 s.f5, .int .i64 s.f6]] v0 fun e w' => e = .returned (.string (jb (toksS n s))) ∧ Below v0.heap.size v0 w' := by
  refine calls_enter (N := 68) (n := 67) (args := [.agg #[.int .u8 s.f0, .string s.f1, .slice A2 s.f2.length c2, .slice A3 s.f3.length c3, .slice A4 s.f4.length c4, .int .i64 s.f5, .int .i64 s.f6]]) Tryd.func63 rfl rfl rfl (H.init v0) (fun a hs => ?_)
  obtain ⟨q, rfl⟩ : ∃ q, n = q + 1 := by cases n with | zero => exact hS.elim | succ q => exact ⟨q, rfl⟩
  have hk1 := hS.1
  have hk2 := hS.2.1
  have hws := wordS_size s.f0
  refine wp_seq (wp_region_lit ?_)
  refine a_eff rfl (e_box (cs := #[_, _, _, _, _, _, _]) hs rfl rfl rfl ?_); clear hs a; intro gx a w hs
  refine go hs (pA rfl <| ?_); clear hs a; intro a hs
  refine wpList_nil (then_normal (wp_seq ?_))
  refine wp_region_lit (go hs (pV rfl (fun a hs => y_arr (zc := #[.string ⟨#[]⟩, .string ⟨#[]⟩, .string ⟨#[]⟩, .string ⟨#[]⟩, .string ⟨#[]⟩, .string ⟨#[]⟩, .string ⟨#[]⟩, .string ⟨#[]⟩, .string ⟨#[]⟩]) (size := 1) (cl := [_, _, _, _, _, _, _, _, _]) hs (by kernel_rfl) rfl (by rfl) rfl) <| pV rfl (fun a hs => y_faddr (k' := 0) 0 hs (by kernel_rfl) rfl rfl) <| pV rfl (fun a hs => y_load hs Tryd.underlying38 rfl rfl (fun w hw => (hw.to 0 rfl).cellV rfl)) <| pV rfl (fun a hs => y_idxArr (v := .string (wordS s.f0)) hs Tryd.underlying113 Tryd.underlying9 rfl (by kernel_rfl) rfl rfl (by omega) (by omega) (by rcases (show s.f0 = 1 ∨ s.f0 = 2 ∨ s.f0 = 3 ∨ s.f0 = 4 ∨ s.f0 = 5 ∨ s.f0 = 6 ∨ s.f0 = 7 ∨ s.f0 = 8 by omega) with h1 | h1 | h1 | h1 | h1 | h1 | h1 | h1 <;> rw [h1] <;> rfl)) <| pA rfl <| ?_)); clear hs a; intro a hs
  refine wpList_nil (then_normal (wp_seq ?_))
  refine wp_seq (wp_region_lit ?_)
  refine go hs (pV rfl (fun a hs => y_faddr (k' := 0) 0 hs (by kernel_rfl) rfl rfl) <| pV rfl (fun a hs => y_load hs Tryd.underlying38 rfl rfl (fun w hw => (hw.to 0 rfl).cellV rfl)) <| ?_); clear hs a; intro a hs
  refine wpList_nil (then_normal (wp_block ?_))
  refine wp_seq (wp_region_lit ?_)
  refine go hs (pV rfl (fun a hs => y_cmp hs rfl rfl rfl) <| pA rfl <| ?_); clear hs a; intro a hs
  refine wpList_nil (then_normal ?_)
  refine wp_cond_split (hs.ev rfl) (fun h12 => ?_) (fun h12 => ?_)
  · replace h12 := eq_of_beq h12
    have hT : toksS (q + 1) s = [sayT s.f1] := by rw [toksS, if_pos (by omega)]
    refine wp_seq (wp_region_lit ?_)
    refine go hs (pV rfl (fun a hs => y_faddr (k' := 1) 1 hs (by kernel_rfl) rfl rfl) <| pV rfl (fun a hs => y_load hs Tryd.underlying9 rfl rfl (fun w hw => (hw.to 0 rfl).cellV rfl)) <| pA rfl <| ?_); clear hs a; intro a hs
    refine wpList_nil (then_normal (wp_ret (in_ret (then_ret ?_))))
    have hX : jb (toksS (q + 1) s) = s.f1 := by
      rw [hT]
      refine jb_eq (fun h => by cases h) ?_
      simp only [tl_app, tl, form_say, form_num, bl_app, bl_mk, List.append_assoc, List.cons_append, List.nil_append, List.append_nil, List.toList_toArray]
    refine fin_ret hs (.tmp (hs.slots _ _ rfl) .nil) ⟨?_, hs.mem.base⟩
    rw [hX]; rfl
  replace h12 := ne_of_beq_false h12
  refine wp_seq (wp_seq ?_)
  refine wp_region_lit (go hs (pV rfl (fun a hs => y_cmp hs rfl rfl rfl) <| pA rfl <| ?_)); clear hs a; intro a hs
  refine wpList_nil (then_normal ?_)
  refine wp_cond_split (hs.ev rfl) (fun h16 => ?_) (fun h16 => ?_)
  · replace h16 := eq_of_beq h16
    replace hs := hs.say 16 rfl (congrArg Value.bool (beq_iff_eq.2 h16))
    refine wp_skip (then_normal ?_)
    refine wp_cond_true (hs.ev rfl) ?_
    refine wp_seq ?_
    replace hk : 6 ≤ s.f0 ∧ s.f0 ≤ 7 := by omega
    obtain ⟨hl2, hl3⟩ := hL.2.1 hk
    obtain ⟨p0, p1, h3⟩ : ∃ p0 p1, s.f3 = [p0, p1] := by
      match hx : s.f3, hl3 with
      | [a, b], _ => exact ⟨a, b, rfl⟩
    have h2 : s.f2 = [] := List.eq_nil_of_length_eq_zero hl2
    have hT : toksS (q + 1) s = sayT (wordS s.f0) :: sayT ⟨#[40]⟩ :: (toksS q p0 ++ sayT ⟨#[44]⟩ :: (toksS q p1 ++ [sayT ⟨#[41]⟩])) := by
      rw [toksS, if_neg (by omega), if_neg (by omega), h2, h3]
      simp [exT, btw]
    rw [hT] at hln
    simp only [List.length_cons, List.length_append, List.length_nil] at hln
    have hcl3 := C_len hA3
    obtain ⟨g0, o, rfl, hcell⟩ := C_atG (show 0 < 7 by decide) hA3 (by omega)
    obtain ⟨cs0, hK0, hc0⟩ := hcell 0 p0 (by rw [h3]; rfl)
    obtain ⟨P02, e02, P03, e03, P04, e04, rfl, i02, G02, i03, G03, i04, G04⟩ := k42_open hK0
    have hS0 := hS.2.2.2.2.1 p0 (by rw [h3]; simp)
    have hL0 := hL.2.2.2 p0 (by rw [h3]; simp)
    have hz0 := jb_size (toksS_may q p0 hS0)
    obtain ⟨cs1, hK1, hc1⟩ := hcell 1 p1 (by rw [h3]; rfl)
    obtain ⟨P12, e12, P13, e13, P14, e14, rfl, i12, G12, i13, G13, i14, G14⟩ := k42_open hK1
    have hS1 := hS.2.2.2.2.1 p1 (by rw [h3]; simp)
    have hL1 := hL.2.2.2 p1 (by rw [h3]; simp)
    have hz1 := jb_size (toksS_may q p1 hS1)
    refine b_enter [0] (by kernel_rfl) hs #[false, false, false, false, false, false, false, false, false, false, false, false, false, false, false, false, false] (by rfl) 17 (by rfl) ?_; clear hs; intro w hs
    refine b_take 0 rfl #[true, false, false, false, false, false, false, false, false, false, false, false, false, false, false, false, false] rfl (by kernel_rfl) hs ((hs.mem.first 1)) rfl rfl rfl (fun _ _ _ h => h) (y_move hs rfl) ?_; clear hs a; intro a hs
    refine b_take 1 rfl #[true, true, false, false, false, false, false, false, false, false, false, false, false, false, false, false, false] rfl (by kernel_rfl) hs ((hs.mem.first 1)) rfl rfl rfl (fun _ _ _ h => h) (y_sadd hs rfl rfl (by first | omega | (simp only [ByteArray.size_append, mk_size, List.size_toArray, List.length_cons, List.length_nil]; omega))) ?_; clear hs a; intro a hs
    refine b_take 2 rfl #[true, true, true, false, false, false, false, false, false, false, false, false, false, false, false, false, false] rfl (by kernel_rfl) hs ((hs.mem.first 1)) rfl rfl rfl (fun _ _ _ h => h) (y_faddr (k' := 3) 3 hs (by kernel_rfl) rfl rfl) ?_; clear hs a; intro a hs
    refine b_take 3 rfl #[true, true, true, true, false, false, false, false, false, false, false, false, false, false, false, false, false] rfl (by kernel_rfl) hs ((hs.mem.first 1)) rfl rfl rfl (fun _ _ _ h => h) (y_load hs Tryd.underlying39 rfl rfl (fun w hw => (hw.to 0 rfl).cellV rfl)) ?_; clear hs a; intro a hs
    refine b_take 4 rfl #[true, true, true, true, true, false, false, false, false, false, false, false, false, false, false, false, false] rfl (by kernel_rfl) hs ((hs.mem.first 1)) rfl rfl rfl (fun _ _ _ h => h) (y_idxB (size := 7) (off := o + 0 * 7) hs Tryd.underlying39 (by kernel_rfl) rfl rfl (by omega) (by omega) (by simp)) ?_; clear hs a; intro a hs
    refine b_take 5 rfl #[true, true, true, true, true, true, false, false, false, false, false, false, false, false, false, false, false] rfl (by kernel_rfl) hs ((hs.mem.first 1)) rfl rfl rfl (fun _ _ _ h => h) (y_loadAgg (vs := [.int .u8 p0.f0, .string p0.f1, .slice P02 p0.f2.length e02, .slice P03 p0.f3.length e03, .slice P04 p0.f4.length e04, .int .i64 p0.f5, .int .i64 p0.f6]) hs Tryd.underlying41 rfl (by kernel_rfl) rfl (fun w hw k v hk => hc0 w hw.base k v hk)) ?_; clear hs a; intro a hs
    refine b_take 9 rfl #[true, true, true, true, true, true, false, false, false, true, false, false, false, false, false, false, false] rfl (by kernel_rfl) hs ((hs.mem.first 1)) rfl rfl rfl (fun _ _ _ h => h) (y_faddr (k' := 3) 3 hs (by kernel_rfl) rfl rfl) ?_; clear hs a; intro a hs
    refine b_take 10 rfl #[true, true, true, true, true, true, false, false, false, true, true, false, false, false, false, false, false] rfl (by kernel_rfl) hs ((hs.mem.first 1)) rfl rfl rfl (fun _ _ _ h => h) (y_load hs Tryd.underlying39 rfl rfl (fun w hw => (hw.to 0 rfl).cellV rfl)) ?_; clear hs a; intro a hs
    refine b_take 11 rfl #[true, true, true, true, true, true, false, false, false, true, true, true, false, false, false, false, false] rfl (by kernel_rfl) hs ((hs.mem.first 1)) rfl rfl rfl (fun _ _ _ h => h) (y_idxB (size := 7) (off := o + 1 * 7) hs Tryd.underlying39 (by kernel_rfl) rfl rfl (by omega) (by omega) (by simp)) ?_; clear hs a; intro a hs
    refine b_take 12 rfl #[true, true, true, true, true, true, false, false, false, true, true, true, true, false, false, false, false] rfl (by kernel_rfl) hs ((hs.mem.first 1)) rfl rfl rfl (fun _ _ _ h => h) (y_loadAgg (vs := [.int .u8 p1.f0, .string p1.f1, .slice P12 p1.f2.length e12, .slice P13 p1.f3.length e13, .slice P14 p1.f4.length e14, .int .i64 p1.f5, .int .i64 p1.f6]) hs Tryd.underlying41 rfl (by kernel_rfl) rfl (fun w hw k v hk => hc1 w hw.base k v hk)) ?_; clear hs a; intro a hs
    refine b_eff 6 (by kernel_rfl) rfl #[true, true, true, true, true, true, true, false, false, true, true, true, true, false, false, false, false] rfl hs rfl (e_callB Tryd.func63 rfl rfl hs rfl rfl (ih q rfl p0 P02 P03 P04 e02 e03 e04 _ (Kd.C_below G02 hs.mem.base) (Kd.C_below G03 hs.mem.base) (Kd.C_below G04 hs.mem.base) hS0 hL0 (by omega) (varKeep hs.mem.base hP)) ?_); clear hs a; intro a w hs
    refine ⟨(hs.mem.first 1), ?_⟩
    refine b_take 7 rfl #[true, true, true, true, true, true, true, true, false, true, true, true, true, false, false, false, false] rfl (by kernel_rfl) hs ((hs.mem.first 1)) rfl rfl rfl (fun _ _ _ h => h) (y_sadd hs rfl rfl (by first | omega | (simp only [ByteArray.size_append, mk_size, List.size_toArray, List.length_cons, List.length_nil]; omega))) ?_; clear hs a; intro a hs
    refine b_take 8 rfl #[true, true, true, true, true, true, true, true, true, true, true, true, true, false, false, false, false] rfl (by kernel_rfl) hs ((hs.mem.first 1)) rfl rfl rfl (fun _ _ _ h => h) (y_sadd hs rfl rfl (by first | omega | (simp only [ByteArray.size_append, mk_size, List.size_toArray, List.length_cons, List.length_nil]; omega))) ?_; clear hs a; intro a hs
    refine b_eff 13 (by kernel_rfl) rfl #[true, true, true, true, true, true, true, true, true, true, true, true, true, true, false, false, false] rfl hs rfl (e_callB Tryd.func63 rfl rfl hs rfl rfl (ih q rfl p1 P12 P13 P14 e12 e13 e14 _ (Kd.C_below G12 hs.mem.base) (Kd.C_below G13 hs.mem.base) (Kd.C_below G14 hs.mem.base) hS1 hL1 (by omega) (varKeep hs.mem.base hP)) ?_); clear hs a; intro a w hs
    refine ⟨(hs.mem.first 1), ?_⟩
    refine b_take 14 rfl #[true, true, true, true, true, true, true, true, true, true, true, true, true, true, true, false, false] rfl (by kernel_rfl) hs ((hs.mem.first 1)) rfl rfl rfl (fun _ _ _ h => h) (y_sadd hs rfl rfl (by first | omega | (simp only [ByteArray.size_append, mk_size, List.size_toArray, List.length_cons, List.length_nil]; omega))) ?_; clear hs a; intro a hs
    refine b_take 15 rfl #[true, true, true, true, true, true, true, true, true, true, true, true, true, true, true, true, false] rfl (by kernel_rfl) hs ((hs.mem.first 1)) rfl rfl rfl (fun _ _ _ h => h) (y_sadd hs rfl rfl (by first | omega | (simp only [ByteArray.size_append, mk_size, List.size_toArray, List.length_cons, List.length_nil]; omega))) ?_; clear hs a; intro a hs
    refine b_take 16 rfl #[true, true, true, true, true, true, true, true, true, true, true, true, true, true, true, true, true] rfl (by kernel_rfl) hs ((hs.mem.first 1)) rfl rfl rfl (fun _ _ _ h => h) (y_assign hs rfl) ?_; clear hs a; intro a hs
    refine b_done (by kernel_rfl) (then_normal ?_)
    refine wp_ret (in_ret (then_ret ?_))
    have hX : jb (toksS (q + 1) s) = wordS s.f0 ++ ⟨#[32, 40, 32]⟩ ++ jb (toksS q p0) ++ ⟨#[32, 44, 32]⟩ ++ jb (toksS q p1) ++ ⟨#[32, 41]⟩ := by
      rw [hT]
      refine jb_eq (fun h => by cases h) ?_
      simp only [tl_app, tl, form_say, form_num, tl_jb (toksS_ne hS0), tl_jb (toksS_ne hS1), bl_app, bl_mk, List.append_assoc, List.cons_append, List.nil_append, List.append_nil, List.toList_toArray]
    refine fin_ret hs (.tmp (hs.slots _ _ rfl) .nil) ⟨?_, hs.mem.base⟩
    rw [hX]; rfl
  replace h16 := ne_of_beq_false h16
  replace hs := hs.say 16 rfl (congrArg Value.bool (beq_eq_false_iff_ne.2 h16))
  refine wp_region_lit (go hs (pV rfl (fun a hs => y_cmp hs rfl rfl rfl) <| pA rfl <| ?_)); clear hs a; intro a hs
  refine wpList_nil (then_normal ?_)
  refine wp_cond_split (hs.ev rfl) (fun h16 => ?_) (fun h16 => ?_)
  · replace h16 := eq_of_beq h16
    replace hs := hs.say 16 rfl (congrArg Value.bool (beq_iff_eq.2 h16))
    refine wp_seq ?_
    replace hk : 6 ≤ s.f0 ∧ s.f0 ≤ 7 := by omega
    obtain ⟨hl2, hl3⟩ := hL.2.1 hk
    obtain ⟨p0, p1, h3⟩ : ∃ p0 p1, s.f3 = [p0, p1] := by
      match hx : s.f3, hl3 with
      | [a, b], _ => exact ⟨a, b, rfl⟩
    have h2 : s.f2 = [] := List.eq_nil_of_length_eq_zero hl2
    have hT : toksS (q + 1) s = sayT (wordS s.f0) :: sayT ⟨#[40]⟩ :: (toksS q p0 ++ sayT ⟨#[44]⟩ :: (toksS q p1 ++ [sayT ⟨#[41]⟩])) := by
      rw [toksS, if_neg (by omega), if_neg (by omega), h2, h3]
      simp [exT, btw]
    rw [hT] at hln
    simp only [List.length_cons, List.length_append, List.length_nil] at hln
    have hcl3 := C_len hA3
    obtain ⟨g0, o, rfl, hcell⟩ := C_atG (show 0 < 7 by decide) hA3 (by omega)
    obtain ⟨cs0, hK0, hc0⟩ := hcell 0 p0 (by rw [h3]; rfl)
    obtain ⟨P02, e02, P03, e03, P04, e04, rfl, i02, G02, i03, G03, i04, G04⟩ := k42_open hK0
    have hS0 := hS.2.2.2.2.1 p0 (by rw [h3]; simp)
    have hL0 := hL.2.2.2 p0 (by rw [h3]; simp)
    have hz0 := jb_size (toksS_may q p0 hS0)
    obtain ⟨cs1, hK1, hc1⟩ := hcell 1 p1 (by rw [h3]; rfl)
    obtain ⟨P12, e12, P13, e13, P14, e14, rfl, i12, G12, i13, G13, i14, G14⟩ := k42_open hK1
    have hS1 := hS.2.2.2.2.1 p1 (by rw [h3]; simp)
    have hL1 := hL.2.2.2 p1 (by rw [h3]; simp)
    have hz1 := jb_size (toksS_may q p1 hS1)
    refine b_enter [0] (by kernel_rfl) hs #[false, false, false, false, false, false, false, false, false, false, false, false, false, false, false, false, false] (by rfl) 17 (by rfl) ?_; clear hs; intro w hs
    refine b_take 0 rfl #[true, false, false, false, false, false, false, false, false, false, false, false, false, false, false, false, false] rfl (by kernel_rfl) hs ((hs.mem.first 1)) rfl rfl rfl (fun _ _ _ h => h) (y_move hs rfl) ?_; clear hs a; intro a hs
    refine b_take 1 rfl #[true, true, false, false, false, false, false, false, false, false, false, false, false, false, false, false, false] rfl (by kernel_rfl) hs ((hs.mem.first 1)) rfl rfl rfl (fun _ _ _ h => h) (y_sadd hs rfl rfl (by first | omega | (simp only [ByteArray.size_append, mk_size, List.size_toArray, List.length_cons, List.length_nil]; omega))) ?_; clear hs a; intro a hs
    refine b_take 2 rfl #[true, true, true, false, false, false, false, false, false, false, false, false, false, false, false, false, false] rfl (by kernel_rfl) hs ((hs.mem.first 1)) rfl rfl rfl (fun _ _ _ h => h) (y_faddr (k' := 3) 3 hs (by kernel_rfl) rfl rfl) ?_; clear hs a; intro a hs
    refine b_take 3 rfl #[true, true, true, true, false, false, false, false, false, false, false, false, false, false, false, false, false] rfl (by kernel_rfl) hs ((hs.mem.first 1)) rfl rfl rfl (fun _ _ _ h => h) (y_load hs Tryd.underlying39 rfl rfl (fun w hw => (hw.to 0 rfl).cellV rfl)) ?_; clear hs a; intro a hs
    refine b_take 4 rfl #[true, true, true, true, true, false, false, false, false, false, false, false, false, false, false, false, false] rfl (by kernel_rfl) hs ((hs.mem.first 1)) rfl rfl rfl (fun _ _ _ h => h) (y_idxB (size := 7) (off := o + 0 * 7) hs Tryd.underlying39 (by kernel_rfl) rfl rfl (by omega) (by omega) (by simp)) ?_; clear hs a; intro a hs
    refine b_take 5 rfl #[true, true, true, true, true, true, false, false, false, false, false, false, false, false, false, false, false] rfl (by kernel_rfl) hs ((hs.mem.first 1)) rfl rfl rfl (fun _ _ _ h => h) (y_loadAgg (vs := [.int .u8 p0.f0, .string p0.f1, .slice P02 p0.f2.length e02, .slice P03 p0.f3.length e03, .slice P04 p0.f4.length e04, .int .i64 p0.f5, .int .i64 p0.f6]) hs Tryd.underlying41 rfl (by kernel_rfl) rfl (fun w hw k v hk => hc0 w hw.base k v hk)) ?_; clear hs a; intro a hs
    refine b_take 9 rfl #[true, true, true, true, true, true, false, false, false, true, false, false, false, false, false, false, false] rfl (by kernel_rfl) hs ((hs.mem.first 1)) rfl rfl rfl (fun _ _ _ h => h) (y_faddr (k' := 3) 3 hs (by kernel_rfl) rfl rfl) ?_; clear hs a; intro a hs
    refine b_take 10 rfl #[true, true, true, true, true, true, false, false, false, true, true, false, false, false, false, false, false] rfl (by kernel_rfl) hs ((hs.mem.first 1)) rfl rfl rfl (fun _ _ _ h => h) (y_load hs Tryd.underlying39 rfl rfl (fun w hw => (hw.to 0 rfl).cellV rfl)) ?_; clear hs a; intro a hs
    refine b_take 11 rfl #[true, true, true, true, true, true, false, false, false, true, true, true, false, false, false, false, false] rfl (by kernel_rfl) hs ((hs.mem.first 1)) rfl rfl rfl (fun _ _ _ h => h) (y_idxB (size := 7) (off := o + 1 * 7) hs Tryd.underlying39 (by kernel_rfl) rfl rfl (by omega) (by omega) (by simp)) ?_; clear hs a; intro a hs
    refine b_take 12 rfl #[true, true, true, true, true, true, false, false, false, true, true, true, true, false, false, false, false] rfl (by kernel_rfl) hs ((hs.mem.first 1)) rfl rfl rfl (fun _ _ _ h => h) (y_loadAgg (vs := [.int .u8 p1.f0, .string p1.f1, .slice P12 p1.f2.length e12, .slice P13 p1.f3.length e13, .slice P14 p1.f4.length e14, .int .i64 p1.f5, .int .i64 p1.f6]) hs Tryd.underlying41 rfl (by kernel_rfl) rfl (fun w hw k v hk => hc1 w hw.base k v hk)) ?_; clear hs a; intro a hs
    refine b_eff 6 (by kernel_rfl) rfl #[true, true, true, true, true, true, true, false, false, true, true, true, true, false, false, false, false] rfl hs rfl (e_callB Tryd.func63 rfl rfl hs rfl rfl (ih q rfl p0 P02 P03 P04 e02 e03 e04 _ (Kd.C_below G02 hs.mem.base) (Kd.C_below G03 hs.mem.base) (Kd.C_below G04 hs.mem.base) hS0 hL0 (by omega) (varKeep hs.mem.base hP)) ?_); clear hs a; intro a w hs
    refine ⟨(hs.mem.first 1), ?_⟩
    refine b_take 7 rfl #[true, true, true, true, true, true, true, true, false, true, true, true, true, false, false, false, false] rfl (by kernel_rfl) hs ((hs.mem.first 1)) rfl rfl rfl (fun _ _ _ h => h) (y_sadd hs rfl rfl (by first | omega | (simp only [ByteArray.size_append, mk_size, List.size_toArray, List.length_cons, List.length_nil]; omega))) ?_; clear hs a; intro a hs
    refine b_take 8 rfl #[true, true, true, true, true, true, true, true, true, true, true, true, true, false, false, false, false] rfl (by kernel_rfl) hs ((hs.mem.first 1)) rfl rfl rfl (fun _ _ _ h => h) (y_sadd hs rfl rfl (by first | omega | (simp only [ByteArray.size_append, mk_size, List.size_toArray, List.length_cons, List.length_nil]; omega))) ?_; clear hs a; intro a hs
    refine b_eff 13 (by kernel_rfl) rfl #[true, true, true, true, true, true, true, true, true, true, true, true, true, true, false, false, false] rfl hs rfl (e_callB Tryd.func63 rfl rfl hs rfl rfl (ih q rfl p1 P12 P13 P14 e12 e13 e14 _ (Kd.C_below G12 hs.mem.base) (Kd.C_below G13 hs.mem.base) (Kd.C_below G14 hs.mem.base) hS1 hL1 (by omega) (varKeep hs.mem.base hP)) ?_); clear hs a; intro a w hs
    refine ⟨(hs.mem.first 1), ?_⟩
    refine b_take 14 rfl #[true, true, true, true, true, true, true, true, true, true, true, true, true, true, true, false, false] rfl (by kernel_rfl) hs ((hs.mem.first 1)) rfl rfl rfl (fun _ _ _ h => h) (y_sadd hs rfl rfl (by first | omega | (simp only [ByteArray.size_append, mk_size, List.size_toArray, List.length_cons, List.length_nil]; omega))) ?_; clear hs a; intro a hs
    refine b_take 15 rfl #[true, true, true, true, true, true, true, true, true, true, true, true, true, true, true, true, false] rfl (by kernel_rfl) hs ((hs.mem.first 1)) rfl rfl rfl (fun _ _ _ h => h) (y_sadd hs rfl rfl (by first | omega | (simp only [ByteArray.size_append, mk_size, List.size_toArray, List.length_cons, List.length_nil]; omega))) ?_; clear hs a; intro a hs
    refine b_take 16 rfl #[true, true, true, true, true, true, true, true, true, true, true, true, true, true, true, true, true] rfl (by kernel_rfl) hs ((hs.mem.first 1)) rfl rfl rfl (fun _ _ _ h => h) (y_assign hs rfl) ?_; clear hs a; intro a hs
    refine b_done (by kernel_rfl) (then_normal ?_)
    refine wp_ret (in_ret (then_ret ?_))
    have hX : jb (toksS (q + 1) s) = wordS s.f0 ++ ⟨#[32, 40, 32]⟩ ++ jb (toksS q p0) ++ ⟨#[32, 44, 32]⟩ ++ jb (toksS q p1) ++ ⟨#[32, 41]⟩ := by
      rw [hT]
      refine jb_eq (fun h => by cases h) ?_
      simp only [tl_app, tl, form_say, form_num, tl_jb (toksS_ne hS0), tl_jb (toksS_ne hS1), bl_app, bl_mk, List.append_assoc, List.cons_append, List.nil_append, List.append_nil, List.toList_toArray]
    refine fin_ret hs (.tmp (hs.slots _ _ rfl) .nil) ⟨?_, hs.mem.base⟩
    rw [hX]; rfl
  replace h16 := ne_of_beq_false h16
  replace hs := hs.say 16 rfl (congrArg Value.bool (beq_eq_false_iff_ne.2 h16))
  refine wp_seq (wp_region_lit ?_)
  refine go hs (pV rfl (fun a hs => y_cmp hs rfl rfl rfl) <| pA rfl <| ?_); clear hs a; intro a hs
  refine wpList_nil (then_normal ?_)
  refine wp_cond_split (hs.ev rfl) (fun h35 => ?_) (fun h35 => ?_)
  · replace h35 := eq_of_beq h35
    have h80 : s.f0 = 8 := by omega
    have h8 := hL.2.2.1 h80
    have hT : toksS (q + 1) s = sayT (wordS s.f0) :: sayT ⟨#[91]⟩ :: (btw ⟨#[59]⟩ exT false s.f4 ++ [sayT ⟨#[93]⟩]) := by rw [toksS, if_neg (by omega), if_pos (by omega), h80]
    rw [hT] at hln
    simp only [List.length_cons, List.length_append, List.length_nil] at hln
    have hcl4 := C_len hA4
    refine wp_seq (wp_region_lit ?_)
    refine go hs (pA rfl <| ?_); clear hs a; intro a hs
    refine wpList_nil (then_normal (wp_seq ?_))
    refine wp_seq (wp_region_lit ?_)
    refine go hs (pA rfl <| ?_); clear hs a; intro a hs
    refine wpList_nil (then_normal (wp_block ?_))
    refine wp_loopN (fun m a w1 => ∃ (i : Nat) (acc : ByteArray), (i + m = s.f4.length) ∧ (acc = jb (btw ⟨#[59]⟩ exT false (s.f4.take i))) ∧ St 68 v0 [(1, .pointer (some ⟨gx, 0, none⟩)), (3, .string (wordS s.f0)), (4, .string acc), (5, .int .i64 ((i : Nat) : Int))] [pt gx #[.int .u8 s.f0, .string s.f1, .slice A2 s.f2.length c2, .slice A3 s.f3.length c3, .slice A4 s.f4.length c4, .int .i64 s.f5, .int .i64 s.f6] 42] a w1) (s.f4.length) ⟨0, ⟨#[]⟩, by omega, rfl, ?_⟩ (fun m a w1 hJ => ?_)
    · exact (hs.mem_to hs.mem).cut _ ⟨rfl, rfl, rfl, rfl, trivial⟩
    clear hs
    obtain ⟨i, acc, hi, hacc, hs⟩ := hJ
    refine wp_seq (wp_seq ?_)
    refine wp_region_lit (go hs (pM rfl <| pV rfl (fun a hs => y_faddr (k' := 4) 4 hs (by kernel_rfl) rfl rfl) <| pV rfl (fun a hs => y_load hs Tryd.underlying40 rfl rfl (fun w hw => (hw.to 0 rfl).cellV rfl)) <| pV rfl (fun a hs => y_lenL hs Tryd.underlying40 rfl) <| pV rfl (fun a hs => y_cmp hs rfl rfl rfl) <| ?_)); clear hs a; intro a hs
    refine wpList_nil (then_normal ?_)
    refine wp_cond_split (hs.ev rfl) (fun h41 => ?_) (fun h41 => ?_)
    · replace h41 := of_decide_eq_true h41
      obtain ⟨p, hp⟩ : ∃ p, s.f4[i]? = some p := ⟨_, List.getElem?_eq_getElem (by omega)⟩
      have hSp := hS.2.2.2.2.2.1 p (List.mem_of_getElem? hp)
      have hpn := exT_ne (h8.2 p (List.mem_of_getElem? hp)) hSp
      obtain ⟨g1, o1, rfl, hcell1⟩ := C_atG (show 0 < 1 by decide) hA4 (by omega)
      obtain ⟨cs1, hK1, hc1⟩ := hcell1 i p hp
      obtain ⟨D1, d1, rfl, e1, C1⟩ := hK1
      have hbm : ∀ t ∈ btw ⟨#[59]⟩ exT false (s.f4.take i), mayB t = true := btw_may (may_more _ (by simp)) _ false (fun r hr => exT_may (hS.2.2.2.2.2.1 r (List.mem_of_mem_take hr)))
      have hz2 := jb_size hbm
      have hbl := btw_take_len (s := ⟨#[59]⟩) (f := exT) s.f4 i
      have hbl2 := btw_take_len (s := ⟨#[59]⟩) (f := exT) s.f4 (i + 1)
      rw [← hacc] at hz2
      have htk := btw_take (s := ⟨#[59]⟩) (f := exT) hp
      have hz1 := jb_size (exT_may hSp)
      rw [htk] at hbl2
      simp only [List.length_append] at hbl2
      refine wp_skip (then_normal (wp_seq ?_))
      refine wp_block (wp_seq ?_)
      refine wp_seq (wp_region_lit ?_)
      refine go hs (pM rfl <| pV rfl (fun a hs => y_cmp hs rfl rfl rfl) <| ?_); clear hs a; intro a hs
      refine wpList_nil (then_normal ?_)
      refine wp_cond_split (hs.ev rfl) (fun h45 => ?_) (fun h45 => ?_)
      · replace h45 := of_decide_eq_true h45
        rw [if_pos (show 0 < i by omega)] at htk hbl2
        have hnx : acc ++ ⟨#[32, 59, 32]⟩ ++ jb (exT p) = jb (btw ⟨#[59]⟩ exT false (s.f4.take (i + 1))) := by
          have hne : btw ⟨#[59]⟩ exT false (s.f4.take i) ≠ [] := btw_ne (by rw [List.length_take]; omega) (fun r hr => exT_ne (h8.2 r (List.mem_of_mem_take hr)) (hS.2.2.2.2.2.1 r (List.mem_of_mem_take hr)))
          rw [htk]
          refine (jb_eq (fun h => hne (List.append_eq_nil_iff.1 h).1) ?_).symm
          rw [hacc]
          simp only [tl_app, tl, form_say, form_num, tl_jb hne, tl_jb hpn, bl_app, bl_mk, List.append_assoc, List.cons_append, List.nil_append, List.append_nil, List.toList_toArray]
        refine wp_region_lit (go hs (pM rfl <| pV rfl (fun a hs => y_sadd hs rfl rfl (by first | omega | (simp only [ByteArray.size_append, mk_size, List.size_toArray, List.length_cons, List.length_nil]; omega))) <| pA rfl <| ?_)); clear hs a; intro a hs
        refine wpList_nil (then_normal (wp_region_lit ?_))
        refine go hs (pM rfl <| pV rfl (fun a hs => y_faddr (k' := 4) 4 hs (by kernel_rfl) rfl rfl) <| pV rfl (fun a hs => y_load hs Tryd.underlying40 rfl rfl (fun w hw => (hw.to 0 rfl).cellV rfl)) <| pM rfl <| pV rfl (fun a hs => y_idxB (size := 1) (off := o1 + i * 1) hs Tryd.underlying40 (by kernel_rfl) rfl rfl (by omega) (by omega) (by simp)) <| pV rfl (fun a hs => y_load (v := .slice D1 p.length d1) hs Tryd.underlying23 rfl rfl (fun w hw => hc1 w hw.base 0 _ rfl)) <| ?_); clear hs a; intro a hs
        refine a_eff rfl (e_callB Tryd.func87 rfl rfl hs rfl rfl (refT_row D1 d1 p _ (Kd.C_below C1 hs.mem.base) hSp (by omega) (varKeep hs.mem.base hP)) ?_); clear hs a; intro a w hs
        refine go hs (pV rfl (fun a hs => y_sadd hs rfl rfl (by first | omega | (simp only [ByteArray.size_append, mk_size, List.size_toArray, List.length_cons, List.length_nil]; omega))) <| pA rfl <| ?_); clear hs a; intro a hs
        refine wpList_nil (in_normal (then_normal (wp_region_lit ?_)))
        refine go hs (pM rfl <| pV rfl (fun a hs => y_add hs rfl rfl (by omega)) <| pA rfl <| ?_); clear hs a; intro a hs
        refine wpList_nil (then_normal ?_)
        refine ⟨m - 1, by omega, i + 1, _, by omega, hnx, ?_⟩
        exact (hs.mem_to hs.mem).cut _ ⟨rfl, rfl, rfl, rfl, trivial⟩
      replace h45 := of_decide_eq_false h45
      rw [if_neg (show ¬ 0 < i by omega)] at htk hbl2
      have hnx : acc ++ jb (exT p) = jb (btw ⟨#[59]⟩ exT false (s.f4.take (i + 1))) := by
        rw [htk, hacc, show s.f4.take i = [] by rw [show i = 0 by omega]; rfl]
        exact bl_inj (by rw [bl_app]; rfl)
      refine wp_skip (then_normal (wp_region_lit ?_))
      refine go hs (pM rfl <| pV rfl (fun a hs => y_faddr (k' := 4) 4 hs (by kernel_rfl) rfl rfl) <| pV rfl (fun a hs => y_load hs Tryd.underlying40 rfl rfl (fun w hw => (hw.to 0 rfl).cellV rfl)) <| pM rfl <| pV rfl (fun a hs => y_idxB (size := 1) (off := o1 + i * 1) hs Tryd.underlying40 (by kernel_rfl) rfl rfl (by omega) (by omega) (by simp)) <| pV rfl (fun a hs => y_load (v := .slice D1 p.length d1) hs Tryd.underlying23 rfl rfl (fun w hw => hc1 w hw.base 0 _ rfl)) <| ?_); clear hs a; intro a hs
      refine a_eff rfl (e_callB Tryd.func87 rfl rfl hs rfl rfl (refT_row D1 d1 p _ (Kd.C_below C1 hs.mem.base) hSp (by omega) (varKeep hs.mem.base hP)) ?_); clear hs a; intro a w hs
      refine go hs (pV rfl (fun a hs => y_sadd hs rfl rfl (by first | omega | (simp only [ByteArray.size_append, mk_size, List.size_toArray, List.length_cons, List.length_nil]; omega))) <| pA rfl <| ?_); clear hs a; intro a hs
      refine wpList_nil (in_normal (then_normal (wp_region_lit ?_)))
      refine go hs (pM rfl <| pV rfl (fun a hs => y_add hs rfl rfl (by omega)) <| pA rfl <| ?_); clear hs a; intro a hs
      refine wpList_nil (then_normal ?_)
      refine ⟨m - 1, by omega, i + 1, _, by omega, hnx, ?_⟩
      exact (hs.mem_to hs.mem).cut _ ⟨rfl, rfl, rfl, rfl, trivial⟩
    replace h41 := of_decide_eq_false h41
    have hX0 : jb (btw ⟨#[59]⟩ exT false s.f4) = acc := by rw [hacc, List.take_of_length_le (by omega)]
    have hne : btw ⟨#[59]⟩ exT false s.f4 ≠ [] := btw_ne h8.1 (fun r hr => exT_ne (h8.2 r hr) (hS.2.2.2.2.2.1 r hr))
    have hz2 : acc.size ≤ 22 * (btw ⟨#[59]⟩ exT false s.f4).length := by rw [← hX0]; exact jb_size (btw_may (may_more _ (by simp)) _ false (fun r hr => exT_may (hS.2.2.2.2.2.1 r hr)))
    refine wp_exit (then_exit (then_exit (in_here (then_normal (wp_seq ?_)))))
    refine wp_region_lit (go hs (pM rfl <| pV rfl (fun a hs => y_sadd hs rfl rfl (by first | omega | (simp only [ByteArray.size_append, mk_size, List.size_toArray, List.length_cons, List.length_nil]; omega))) <| pM rfl <| pV rfl (fun a hs => y_sadd hs rfl rfl (by first | omega | (simp only [ByteArray.size_append, mk_size, List.size_toArray, List.length_cons, List.length_nil]; omega))) <| pV rfl (fun a hs => y_sadd hs rfl rfl (by first | omega | (simp only [ByteArray.size_append, mk_size, List.size_toArray, List.length_cons, List.length_nil]; omega))) <| pA rfl <| ?_)); clear hs a; intro a hs
    refine wpList_nil (then_normal (wp_ret (in_ret (then_ret ?_))))
    have hX : jb (toksS (q + 1) s) = wordS s.f0 ++ ⟨#[32, 91, 32]⟩ ++ acc ++ ⟨#[32, 93]⟩ := by
      rw [hT]
      refine jb_eq (fun h => by cases h) ?_
      simp only [tl_app, tl, form_say, form_num, tl_jb hne, hX0, bl_app, bl_mk, List.append_assoc, List.cons_append, List.nil_append, List.append_nil, List.toList_toArray]
    refine fin_ret hs (.tmp (hs.slots _ _ rfl) .nil) ⟨?_, hs.mem.base⟩
    rw [hX]; rfl
  replace h35 := ne_of_beq_false h35
  have hk2 : 2 ≤ s.f0 ∧ s.f0 ≤ 5 := by omega
  obtain ⟨hl2, hl3⟩ := hL.1 hk2
  have h3 : s.f3 = [] := List.eq_nil_of_length_eq_zero hl3
  have hT : toksS (q + 1) s = sayT (wordS s.f0) :: sayT ⟨#[40]⟩ :: (exT s.f2 ++ [sayT ⟨#[41]⟩]) := by
    rw [toksS, if_neg (by omega), if_neg (by omega), h3]
    simp [btw]
  rw [hT] at hln
  simp only [List.length_cons, List.length_append, List.length_nil] at hln
  have hz1 := jb_size (exT_may hS.2.2.2.1)
  have hne := exT_ne hl2 hS.2.2.2.1
  refine wp_skip (in_normal (then_normal (wp_seq ?_)))
  refine wp_region_lit (go hs (pM rfl <| pV rfl (fun a hs => y_sadd hs rfl rfl (by first | omega | (simp only [ByteArray.size_append, mk_size, List.size_toArray, List.length_cons, List.length_nil]; omega))) <| pV rfl (fun a hs => y_faddr (k' := 2) 2 hs (by kernel_rfl) rfl rfl) <| pV rfl (fun a hs => y_load hs Tryd.underlying23 rfl rfl (fun w hw => (hw.to 0 rfl).cellV rfl)) <| ?_)); clear hs a; intro a hs
  refine a_eff rfl (e_callB Tryd.func87 rfl rfl hs rfl rfl (refT_row A2 c2 s.f2 _ (Kd.C_below hA2 hs.mem.base) hS.2.2.2.1 (by omega) (varKeep hs.mem.base hP)) ?_); clear hs a; intro a w hs
  refine go hs (pV rfl (fun a hs => y_sadd hs rfl rfl (by first | omega | (simp only [ByteArray.size_append, mk_size, List.size_toArray, List.length_cons, List.length_nil]; omega))) <| pV rfl (fun a hs => y_sadd hs rfl rfl (by first | omega | (simp only [ByteArray.size_append, mk_size, List.size_toArray, List.length_cons, List.length_nil]; omega))) <| pA rfl <| ?_); clear hs a; intro a hs
  refine wpList_nil (then_normal (wp_ret ?_))
  have hX : jb (toksS (q + 1) s) = wordS s.f0 ++ ⟨#[32, 40, 32]⟩ ++ jb (exT s.f2) ++ ⟨#[32, 41]⟩ := by
    rw [hT]
    refine jb_eq (fun h => by cases h) ?_
    simp only [tl_app, tl, form_say, form_num, tl_jb hne, bl_app, bl_mk, List.append_assoc, List.cons_append, List.nil_append, List.append_nil, List.toList_toArray]
  refine fin_ret hs (.tmp (hs.slots _ _ rfl) .nil) ⟨?_, hs.mem.base⟩
  rw [hX]; rfl
theorem refT_shape : ∀ n : Nat, n ≤ 1000 → TextSOk n := fun n => by
  induction n using Nat.strongRecOn with
  | _ n ih => exact fun hn s A2 A3 A4 c2 c3 c4 v0 hA2 hA3 hA4 hS hL hln hP => refT_shape_step n hn (fun q hq => ih q (by omega) (by omega)) s A2 A3 A4 c2 c3 c4 v0 hA2 hA3 hA4 hS hL hln hP
theorem line_eq {x : XI} {s : ByteArray} (h : tl (toksI x) ++ [10] = 32 :: bl s) : lineB x = s := by
  have hne : toksI x ≠ [] := fun h => by have h1 := (List.append_eq_nil_iff.1 h).2; cases h1
  rw [tl_jb hne, List.cons_append] at h
  injection h with _ h
  unfold lineB
  exact bl_inj (by rw [bl_app, ← h]; rfl)
set_option maxHeartbeats 1000000 in
set_option maxRecDepth 100000 in
theorem refT_item (x : XI) (A5 A10 A11 A12 A16 : Option Addr) (c5 c10 c11 c12 c16 : Nat) (v0 : World) (hA5 : Kd.C k25 v0 A5 x.f2.f3.length x.f2.f3) (hA10 : Kd.C k25 v0 A10 x.f3.f2.length x.f3.f2) (hA11 : Kd.C k42 v0 A11 x.f3.f3.length x.f3.f3) (hA12 : Kd.C (Kd.slice 25 k25) v0 A12 x.f3.f4.length x.f3.f4) (hA16 : Kd.C k25 v0 A16 x.f5.length x.f5) (hG : goodI x) (hL : lenI x) (hln : (toksI x).length ≤ 800000) (hP : Pow10 v0) :
    Calls Tryd.prog 60 #[.agg #[.int .u8 x.f0, .string x.f1, .int .u8 x.f2.f0, .int .i64 x.f2.f1, .string x.f2.f2, .slice A5 x.f2.f3.length c5, .int .i64 x.f2.f4, .int .i64 x.f2.f5, .int .u8 x.f3.f0, .string x.f3.f1, .slice A10 x.f3.f2.length c10, .slice A11 x.f3.f3.length c11, .slice A12 x.f3.f4.length c12, .int .i64 x.f3.f5, .int .i64 x.f3.f6, .int .u8 x.f4, .slice A16 x.f5.length c16, .int .i64 x.f6, .int .i64 x.f7]] v0 fun e w' => e = .returned (.string (lineB x)) ∧ Below v0.heap.size v0 w' := by
  refine calls_enter (N := 65) (n := 64) (args := [.agg #[.int .u8 x.f0, .string x.f1, .int .u8 x.f2.f0, .int .i64 x.f2.f1, .string x.f2.f2, .slice A5 x.f2.f3.length c5, .int .i64 x.f2.f4, .int .i64 x.f2.f5, .int .u8 x.f3.f0, .string x.f3.f1, .slice A10 x.f3.f2.length c10, .slice A11 x.f3.f3.length c11, .slice A12 x.f3.f4.length c12, .int .i64 x.f3.f5, .int .i64 x.f3.f6, .int .u8 x.f4, .slice A16 x.f5.length c16, .int .i64 x.f6, .int .i64 x.f7]]) Tryd.func60 rfl rfl rfl (H.init v0) (fun a hs => ?_)
  have hk1 := hG.1
  have hk2 := hG.2.1
  refine wp_seq (wp_region_lit ?_)
  refine a_eff rfl (e_box (cs := #[_, _, _, _, _, _, _, _, _, _, _, _, _, _, _, _, _, _, _]) hs rfl rfl rfl ?_); clear hs a; intro gx a w hs
  refine go hs (pA rfl <| ?_); clear hs a; intro a hs
  refine wpList_nil (then_normal (wp_seq ?_))
  refine wp_seq (wp_region_lit ?_)
  refine go hs (pV rfl (fun a hs => y_faddr (k' := 0) 0 hs (by kernel_rfl) rfl rfl) <| pV rfl (fun a hs => y_load hs Tryd.underlying37 rfl rfl (fun w hw => (hw.to 0 rfl).cellV rfl)) <| ?_); clear hs a; intro a hs
  refine wpList_nil (then_normal (wp_block ?_))
  refine wp_seq (wp_region_lit ?_)
  refine go hs (pV rfl (fun a hs => y_cmp hs rfl rfl rfl) <| pA rfl <| ?_); clear hs a; intro a hs
  refine wpList_nil (then_normal ?_)
  refine wp_cond_split (hs.ev rfl) (fun h5 => ?_) (fun h5 => ?_)
  · replace h5 := eq_of_beq h5
    have hT : headT x = sayT ⟨#[99, 111, 110, 115, 116]⟩ :: sayT x.f1 :: sayT ⟨#[61]⟩ :: toksX 16 x.f2 := by unfold headT; rw [if_pos (by omega)]
    rw [show toksI x = headT x ++ [sayT ⟨#[59]⟩] from rfl, hT] at hln
    simp only [List.length_cons, List.length_append, List.length_nil] at hln
    have hns := nameOk_size (hG.2.2.1 (by omega))
    have hS2 := hG.2.2.2.1 (by unfold hasV; omega)
    have hz := jb_size (toks_may 16 x.f2 hS2)
    have htl := toks_len 16 x.f2
    refine wp_seq ?_
    refine b_enter [0] (by kernel_rfl) hs #[false, false, false, false, false, false, false, false, false, false] (by rfl) 10 (by rfl) ?_; clear hs; intro w hs
    refine b_take 0 rfl #[true, false, false, false, false, false, false, false, false, false] rfl (by kernel_rfl) hs ((hs.mem.first 1)) rfl rfl rfl (fun _ _ _ h => h) (y_faddr (k' := 1) 1 hs (by kernel_rfl) rfl rfl) ?_; clear hs a; intro a hs
    refine b_take 1 rfl #[true, true, false, false, false, false, false, false, false, false] rfl (by kernel_rfl) hs ((hs.mem.first 1)) rfl rfl rfl (fun _ _ _ h => h) (y_load hs Tryd.underlying9 rfl rfl (fun w hw => (hw.to 0 rfl).cellV rfl)) ?_; clear hs a; intro a hs
    refine b_take 2 rfl #[true, true, true, false, false, false, false, false, false, false] rfl (by kernel_rfl) hs ((hs.mem.first 1)) rfl rfl rfl (fun _ _ _ h => h) (y_sadd hs rfl rfl (by first | omega | (simp only [ByteArray.size_append, mk_size, List.size_toArray, List.length_cons, List.length_nil]; omega))) ?_; clear hs a; intro a hs
    refine b_take 3 rfl #[true, true, true, true, false, false, false, false, false, false] rfl (by kernel_rfl) hs ((hs.mem.first 1)) rfl rfl rfl (fun _ _ _ h => h) (y_sadd hs rfl rfl (by first | omega | (simp only [ByteArray.size_append, mk_size, List.size_toArray, List.length_cons, List.length_nil]; omega))) ?_; clear hs a; intro a hs
    refine b_take 4 rfl #[true, true, true, true, true, false, false, false, false, false] rfl (by kernel_rfl) hs ((hs.mem.first 1)) rfl rfl rfl (fun _ _ _ h => h) (y_faddr (k' := 2) 2 hs (by kernel_rfl) rfl rfl) ?_; clear hs a; intro a hs
    refine b_take 5 rfl #[true, true, true, true, true, true, false, false, false, false] rfl (by kernel_rfl) hs ((hs.mem.first 1)) rfl rfl rfl (fun _ _ _ h => h) (y_loadAgg (vs := [.int .u8 x.f2.f0, .int .i64 x.f2.f1, .string x.f2.f2, .slice A5 x.f2.f3.length c5, .int .i64 x.f2.f4, .int .i64 x.f2.f5]) hs Tryd.underlying24 rfl (by kernel_rfl) rfl (fun w hw k v hk => ((hw.to 0 rfl).cell).trans (sub_at 6 rfl hk))) ?_; clear hs a; intro a hs
    refine b_eff 6 (by kernel_rfl) rfl #[true, true, true, true, true, true, true, false, false, false] rfl hs rfl (e_callB Tryd.func61 rfl rfl hs rfl rfl (refT_expr 16 (by decide) x.f2 A5 c5 _ (Kd.C_below hA5 hs.mem.base) hS2 (varKeep hs.mem.base hP)) ?_); clear hs a; intro a w hs
    refine ⟨(hs.mem.first 1), ?_⟩
    refine b_take 7 rfl #[true, true, true, true, true, true, true, true, false, false] rfl (by kernel_rfl) hs ((hs.mem.first 1)) rfl rfl rfl (fun _ _ _ h => h) (y_sadd hs rfl rfl (by first | omega | (simp only [ByteArray.size_append, mk_size, List.size_toArray, List.length_cons, List.length_nil]; omega))) ?_; clear hs a; intro a hs
    refine b_take 8 rfl #[true, true, true, true, true, true, true, true, true, false] rfl (by kernel_rfl) hs ((hs.mem.first 1)) rfl rfl rfl (fun _ _ _ h => h) (y_sadd hs rfl rfl (by first | omega | (simp only [ByteArray.size_append, mk_size, List.size_toArray, List.length_cons, List.length_nil]; omega))) ?_; clear hs a; intro a hs
    refine b_take 9 rfl #[true, true, true, true, true, true, true, true, true, true] rfl (by kernel_rfl) hs ((hs.mem.first 1)) rfl rfl rfl (fun _ _ _ h => h) (y_assign hs rfl) ?_; clear hs a; intro a hs
    refine b_done (by kernel_rfl) (then_normal ?_)
    refine wp_ret (in_ret (then_ret ?_))
    have hX : lineB x = ⟨#[99, 111, 110, 115, 116, 32]⟩ ++ x.f1 ++ ⟨#[32, 61, 32]⟩ ++ jb (toksX 16 x.f2) ++ ⟨#[32, 59, 10]⟩ := by
      refine line_eq ?_
      rw [show toksI x = headT x ++ [sayT ⟨#[59]⟩] from rfl, hT]
      simp only [tl_app, tl, form_say, form_num, tl_jb (toksX_ne hS2), bl_app, bl_mk, List.append_assoc, List.cons_append, List.nil_append, List.append_nil, List.toList_toArray]
    refine fin_ret hs (.tmp (hs.slots _ _ rfl) .nil) ⟨?_, hs.mem.base⟩
    rw [hX]; rfl
  replace h5 := ne_of_beq_false h5
  refine wp_seq (wp_region_lit ?_)
  refine go hs (pV rfl (fun a hs => y_cmp hs rfl rfl rfl) <| pA rfl <| ?_); clear hs a; intro a hs
  refine wpList_nil (then_normal ?_)
  refine wp_cond_split (hs.ev rfl) (fun h16 => ?_) (fun h16 => ?_)
  · replace h16 := eq_of_beq h16
    have hT : headT x = sayT ⟨#[99, 111, 100, 101]⟩ :: sayT x.f1 :: sayT ⟨#[61]⟩ :: toksS 16 x.f3 := by unfold headT; rw [if_neg (by omega), if_pos (by omega)]
    rw [show toksI x = headT x ++ [sayT ⟨#[59]⟩] from rfl, hT] at hln
    simp only [List.length_cons, List.length_append, List.length_nil] at hln
    have hns := nameOk_size (hG.2.2.1 (by omega))
    have hS3 := hG.2.2.2.2.1 (by omega)
    have hz := jb_size (toksS_may 16 x.f3 hS3)
    refine wp_seq ?_
    refine b_enter [0] (by kernel_rfl) hs #[false, false, false, false, false, false, false, false, false, false] (by rfl) 10 (by rfl) ?_; clear hs; intro w hs
    refine b_take 0 rfl #[true, false, false, false, false, false, false, false, false, false] rfl (by kernel_rfl) hs ((hs.mem.first 1)) rfl rfl rfl (fun _ _ _ h => h) (y_faddr (k' := 1) 1 hs (by kernel_rfl) rfl rfl) ?_; clear hs a; intro a hs
    refine b_take 1 rfl #[true, true, false, false, false, false, false, false, false, false] rfl (by kernel_rfl) hs ((hs.mem.first 1)) rfl rfl rfl (fun _ _ _ h => h) (y_load hs Tryd.underlying9 rfl rfl (fun w hw => (hw.to 0 rfl).cellV rfl)) ?_; clear hs a; intro a hs
    refine b_take 2 rfl #[true, true, true, false, false, false, false, false, false, false] rfl (by kernel_rfl) hs ((hs.mem.first 1)) rfl rfl rfl (fun _ _ _ h => h) (y_sadd hs rfl rfl (by first | omega | (simp only [ByteArray.size_append, mk_size, List.size_toArray, List.length_cons, List.length_nil]; omega))) ?_; clear hs a; intro a hs
    refine b_take 3 rfl #[true, true, true, true, false, false, false, false, false, false] rfl (by kernel_rfl) hs ((hs.mem.first 1)) rfl rfl rfl (fun _ _ _ h => h) (y_sadd hs rfl rfl (by first | omega | (simp only [ByteArray.size_append, mk_size, List.size_toArray, List.length_cons, List.length_nil]; omega))) ?_; clear hs a; intro a hs
    refine b_take 4 rfl #[true, true, true, true, true, false, false, false, false, false] rfl (by kernel_rfl) hs ((hs.mem.first 1)) rfl rfl rfl (fun _ _ _ h => h) (y_faddr (k' := 8) 8 hs (by kernel_rfl) rfl rfl) ?_; clear hs a; intro a hs
    refine b_take 5 rfl #[true, true, true, true, true, true, false, false, false, false] rfl (by kernel_rfl) hs ((hs.mem.first 1)) rfl rfl rfl (fun _ _ _ h => h) (y_loadAgg (vs := [.int .u8 x.f3.f0, .string x.f3.f1, .slice A10 x.f3.f2.length c10, .slice A11 x.f3.f3.length c11, .slice A12 x.f3.f4.length c12, .int .i64 x.f3.f5, .int .i64 x.f3.f6]) hs Tryd.underlying41 rfl (by kernel_rfl) rfl (fun w hw k v hk => ((hw.to 0 rfl).cell).trans (sub_at 7 rfl hk))) ?_; clear hs a; intro a hs
    refine b_eff 6 (by kernel_rfl) rfl #[true, true, true, true, true, true, true, false, false, false] rfl hs rfl (e_callB Tryd.func63 rfl rfl hs rfl rfl (refT_shape 16 (by decide) x.f3 A10 A11 A12 c10 c11 c12 _ (Kd.C_below hA10 hs.mem.base) (Kd.C_below hA11 hs.mem.base) (Kd.C_below hA12 hs.mem.base) hS3 (hL.1 (by omega)) (by omega) (varKeep hs.mem.base hP)) ?_); clear hs a; intro a w hs
    refine ⟨(hs.mem.first 1), ?_⟩
    refine b_take 7 rfl #[true, true, true, true, true, true, true, true, false, false] rfl (by kernel_rfl) hs ((hs.mem.first 1)) rfl rfl rfl (fun _ _ _ h => h) (y_sadd hs rfl rfl (by first | omega | (simp only [ByteArray.size_append, mk_size, List.size_toArray, List.length_cons, List.length_nil]; omega))) ?_; clear hs a; intro a hs
    refine b_take 8 rfl #[true, true, true, true, true, true, true, true, true, false] rfl (by kernel_rfl) hs ((hs.mem.first 1)) rfl rfl rfl (fun _ _ _ h => h) (y_sadd hs rfl rfl (by first | omega | (simp only [ByteArray.size_append, mk_size, List.size_toArray, List.length_cons, List.length_nil]; omega))) ?_; clear hs a; intro a hs
    refine b_take 9 rfl #[true, true, true, true, true, true, true, true, true, true] rfl (by kernel_rfl) hs ((hs.mem.first 1)) rfl rfl rfl (fun _ _ _ h => h) (y_assign hs rfl) ?_; clear hs a; intro a hs
    refine b_done (by kernel_rfl) (then_normal ?_)
    refine wp_ret (in_ret (then_ret ?_))
    have hX : lineB x = ⟨#[99, 111, 100, 101, 32]⟩ ++ x.f1 ++ ⟨#[32, 61, 32]⟩ ++ jb (toksS 16 x.f3) ++ ⟨#[32, 59, 10]⟩ := by
      refine line_eq ?_
      rw [show toksI x = headT x ++ [sayT ⟨#[59]⟩] from rfl, hT]
      simp only [tl_app, tl, form_say, form_num, tl_jb (toksS_ne hS3), bl_app, bl_mk, List.append_assoc, List.cons_append, List.nil_append, List.append_nil, List.toList_toArray]
    refine fin_ret hs (.tmp (hs.slots _ _ rfl) .nil) ⟨?_, hs.mem.base⟩
    rw [hX]; rfl
  replace h16 := ne_of_beq_false h16
  refine wp_seq (wp_region_lit ?_)
  refine go hs (pV rfl (fun a hs => y_cmp hs rfl rfl rfl) <| pA rfl <| ?_); clear hs a; intro a hs
  refine wpList_nil (then_normal ?_)
  refine wp_cond_split (hs.ev rfl) (fun h27 => ?_) (fun h27 => ?_)
  · replace h27 := eq_of_beq h27
    have hT : headT x = [sayT ⟨#[117, 115, 101]⟩, sayT x.f1] := by unfold headT; rw [if_neg (by omega), if_neg (by omega), if_pos (by omega)]
    rw [show toksI x = headT x ++ [sayT ⟨#[59]⟩] from rfl, hT] at hln
    simp only [List.length_cons, List.length_append, List.length_nil] at hln
    have hns := nameOk_size (hG.2.2.1 (by omega))
    refine wp_seq (wp_region_lit ?_)
    refine go hs (pV rfl (fun a hs => y_faddr (k' := 1) 1 hs (by kernel_rfl) rfl rfl) <| pV rfl (fun a hs => y_load hs Tryd.underlying9 rfl rfl (fun w hw => (hw.to 0 rfl).cellV rfl)) <| pV rfl (fun a hs => y_sadd hs rfl rfl (by first | omega | (simp only [ByteArray.size_append, mk_size, List.size_toArray, List.length_cons, List.length_nil]; omega))) <| pV rfl (fun a hs => y_sadd hs rfl rfl (by first | omega | (simp only [ByteArray.size_append, mk_size, List.size_toArray, List.length_cons, List.length_nil]; omega))) <| pA rfl <| ?_); clear hs a; intro a hs
    refine wpList_nil (then_normal (wp_ret (in_ret (then_ret ?_))))
    have hX : lineB x = ⟨#[117, 115, 101, 32]⟩ ++ x.f1 ++ ⟨#[32, 59, 10]⟩ := by
      refine line_eq ?_
      rw [show toksI x = headT x ++ [sayT ⟨#[59]⟩] from rfl, hT]
      simp only [tl_app, tl, form_say, form_num, bl_app, bl_mk, List.append_assoc, List.cons_append, List.nil_append, List.append_nil, List.toList_toArray]
    refine fin_ret hs (.tmp (hs.slots _ _ rfl) .nil) ⟨?_, hs.mem.base⟩
    rw [hX]; rfl
  replace h27 := ne_of_beq_false h27
  refine wp_seq (wp_region_lit ?_)
  refine go hs (pV rfl (fun a hs => y_cmp hs rfl rfl rfl) <| pA rfl <| ?_); clear hs a; intro a hs
  refine wpList_nil (then_normal ?_)
  refine wp_cond_split (hs.ev rfl) (fun h33 => ?_) (fun h33 => ?_)
  · replace h33 := eq_of_beq h33
    have hT : headT x = sayT ⟨#[100, 111, 109, 97, 105, 110, 115]⟩ :: toksX 16 x.f2 := by unfold headT; rw [if_neg (by omega), if_neg (by omega), if_neg (by omega), if_pos (by omega)]
    rw [show toksI x = headT x ++ [sayT ⟨#[59]⟩] from rfl, hT] at hln
    simp only [List.length_cons, List.length_append, List.length_nil] at hln
    have hS2 := hG.2.2.2.1 (by unfold hasV; omega)
    have hz := jb_size (toks_may 16 x.f2 hS2)
    have htl := toks_len 16 x.f2
    refine wp_seq (wp_region_lit ?_)
    refine go hs (pV rfl (fun a hs => y_faddr (k' := 2) 2 hs (by kernel_rfl) rfl rfl) <| pV rfl (fun a hs => y_loadAgg (vs := [.int .u8 x.f2.f0, .int .i64 x.f2.f1, .string x.f2.f2, .slice A5 x.f2.f3.length c5, .int .i64 x.f2.f4, .int .i64 x.f2.f5]) hs Tryd.underlying24 rfl (by kernel_rfl) rfl (fun w hw k v hk => ((hw.to 0 rfl).cell).trans (sub_at 6 rfl hk))) <| ?_); clear hs a; intro a hs
    refine a_eff rfl (e_callB Tryd.func61 rfl rfl hs rfl rfl (refT_expr 16 (by decide) x.f2 A5 c5 _ (Kd.C_below hA5 hs.mem.base) hS2 (varKeep hs.mem.base hP)) ?_); clear hs a; intro a w hs
    refine go hs (pV rfl (fun a hs => y_sadd hs rfl rfl (by first | omega | (simp only [ByteArray.size_append, mk_size, List.size_toArray, List.length_cons, List.length_nil]; omega))) <| pV rfl (fun a hs => y_sadd hs rfl rfl (by first | omega | (simp only [ByteArray.size_append, mk_size, List.size_toArray, List.length_cons, List.length_nil]; omega))) <| pA rfl <| ?_); clear hs a; intro a hs
    refine wpList_nil (then_normal (wp_ret (in_ret (then_ret ?_))))
    have hX : lineB x = ⟨#[100, 111, 109, 97, 105, 110, 115, 32]⟩ ++ jb (toksX 16 x.f2) ++ ⟨#[32, 59, 10]⟩ := by
      refine line_eq ?_
      rw [show toksI x = headT x ++ [sayT ⟨#[59]⟩] from rfl, hT]
      simp only [tl_app, tl, form_say, form_num, tl_jb (toksX_ne hS2), bl_app, bl_mk, List.append_assoc, List.cons_append, List.nil_append, List.append_nil, List.toList_toArray]
    refine fin_ret hs (.tmp (hs.slots _ _ rfl) .nil) ⟨?_, hs.mem.base⟩
    rw [hX]; rfl
  replace h33 := ne_of_beq_false h33
  refine wp_seq (wp_region_lit ?_)
  refine go hs (pV rfl (fun a hs => y_cmp hs rfl rfl rfl) <| pA rfl <| ?_); clear hs a; intro a hs
  refine wpList_nil (then_normal ?_)
  refine wp_cond_split (hs.ev rfl) (fun h40 => ?_) (fun h40 => ?_)
  · replace h40 := eq_of_beq h40
    have hT : headT x = sayT ⟨#[116, 111, 108, 101, 114, 97, 116, 101]⟩ :: toksX 16 x.f2 := by unfold headT; rw [if_neg (by omega), if_neg (by omega), if_neg (by omega), if_neg (by omega), if_pos (by omega)]
    rw [show toksI x = headT x ++ [sayT ⟨#[59]⟩] from rfl, hT] at hln
    simp only [List.length_cons, List.length_append, List.length_nil] at hln
    have hS2 := hG.2.2.2.1 (by unfold hasV; omega)
    have hz := jb_size (toks_may 16 x.f2 hS2)
    have htl := toks_len 16 x.f2
    refine wp_seq (wp_region_lit ?_)
    refine go hs (pV rfl (fun a hs => y_faddr (k' := 2) 2 hs (by kernel_rfl) rfl rfl) <| pV rfl (fun a hs => y_loadAgg (vs := [.int .u8 x.f2.f0, .int .i64 x.f2.f1, .string x.f2.f2, .slice A5 x.f2.f3.length c5, .int .i64 x.f2.f4, .int .i64 x.f2.f5]) hs Tryd.underlying24 rfl (by kernel_rfl) rfl (fun w hw k v hk => ((hw.to 0 rfl).cell).trans (sub_at 6 rfl hk))) <| ?_); clear hs a; intro a hs
    refine a_eff rfl (e_callB Tryd.func61 rfl rfl hs rfl rfl (refT_expr 16 (by decide) x.f2 A5 c5 _ (Kd.C_below hA5 hs.mem.base) hS2 (varKeep hs.mem.base hP)) ?_); clear hs a; intro a w hs
    refine go hs (pV rfl (fun a hs => y_sadd hs rfl rfl (by first | omega | (simp only [ByteArray.size_append, mk_size, List.size_toArray, List.length_cons, List.length_nil]; omega))) <| pV rfl (fun a hs => y_sadd hs rfl rfl (by first | omega | (simp only [ByteArray.size_append, mk_size, List.size_toArray, List.length_cons, List.length_nil]; omega))) <| pA rfl <| ?_); clear hs a; intro a hs
    refine wpList_nil (then_normal (wp_ret (in_ret (then_ret ?_))))
    have hX : lineB x = ⟨#[116, 111, 108, 101, 114, 97, 116, 101, 32]⟩ ++ jb (toksX 16 x.f2) ++ ⟨#[32, 59, 10]⟩ := by
      refine line_eq ?_
      rw [show toksI x = headT x ++ [sayT ⟨#[59]⟩] from rfl, hT]
      simp only [tl_app, tl, form_say, form_num, tl_jb (toksX_ne hS2), bl_app, bl_mk, List.append_assoc, List.cons_append, List.nil_append, List.append_nil, List.toList_toArray]
    refine fin_ret hs (.tmp (hs.slots _ _ rfl) .nil) ⟨?_, hs.mem.base⟩
    rw [hX]; rfl
  replace h40 := ne_of_beq_false h40
  have hk5 : x.f0 = 5 := by omega
  have hpl := hG.2.2.2.2.2.1 hk5
  refine wp_skip (in_normal (then_normal (wp_seq ?_)))
  refine wp_seq (wp_region_lit ?_)
  refine go hs (pV rfl (fun a hs => y_faddr (k' := 15) 15 hs (by kernel_rfl) rfl rfl) <| pV rfl (fun a hs => y_load hs Tryd.underlying43 rfl rfl (fun w hw => (hw.to 0 rfl).cellV rfl)) <| ?_); clear hs a; intro a hs
  refine wpList_nil (then_normal (wp_block ?_))
  refine wp_seq (wp_region_lit ?_)
  refine go hs (pV rfl (fun a hs => y_cmp hs rfl rfl rfl) <| pA rfl <| ?_); clear hs a; intro a hs
  refine wpList_nil (then_normal ?_)
  refine wp_cond_split (hs.ev rfl) (fun h49 => ?_) (fun h49 => ?_)
  · replace h49 := eq_of_beq h49
    have hT : headT x = sayT ⟨#[112, 108, 97, 99, 101]⟩ :: [sayT ⟨#[114, 111, 119]⟩] := by unfold headT; rw [if_neg (by omega), if_neg (by omega), if_neg (by omega), if_neg (by omega), if_neg (by omega)]; unfold placeT; rw [if_pos (by omega)]
    rw [show toksI x = headT x ++ [sayT ⟨#[59]⟩] from rfl, hT] at hln
    simp only [List.length_cons, List.length_append, List.length_nil] at hln
    refine wp_seq (wp_region_lit ?_)
    refine go hs (pA rfl <| ?_); clear hs a; intro a hs
    refine wpList_nil (then_normal (wp_ret (in_ret (then_ret ?_))))
    have hX : lineB x = ⟨#[112, 108, 97, 99, 101, 32, 114, 111, 119, 32, 59, 10]⟩ := by
      refine line_eq ?_
      rw [show toksI x = headT x ++ [sayT ⟨#[59]⟩] from rfl, hT]
      simp only [tl_app, tl, form_say, form_num, bl_app, bl_mk, List.append_assoc, List.cons_append, List.nil_append, List.append_nil, List.toList_toArray]
    refine fin_ret hs (.tmp (hs.slots _ _ rfl) .nil) ⟨?_, hs.mem.base⟩
    rw [hX]; rfl
  replace h49 := ne_of_beq_false h49
  refine wp_seq (wp_region_lit ?_)
  refine go hs (pV rfl (fun a hs => y_cmp hs rfl rfl rfl) <| pA rfl <| ?_); clear hs a; intro a hs
  refine wpList_nil (then_normal ?_)
  refine wp_cond_split (hs.ev rfl) (fun h51 => ?_) (fun h51 => ?_)
  · replace h51 := eq_of_beq h51
    have hT : headT x = sayT ⟨#[112, 108, 97, 99, 101]⟩ :: [sayT ⟨#[115, 112, 114, 101, 97, 100]⟩] := by unfold headT; rw [if_neg (by omega), if_neg (by omega), if_neg (by omega), if_neg (by omega), if_neg (by omega)]; unfold placeT; rw [if_neg (by omega), if_pos (by omega)]
    rw [show toksI x = headT x ++ [sayT ⟨#[59]⟩] from rfl, hT] at hln
    simp only [List.length_cons, List.length_append, List.length_nil] at hln
    refine wp_seq (wp_region_lit ?_)
    refine go hs (pA rfl <| ?_); clear hs a; intro a hs
    refine wpList_nil (then_normal (wp_ret (in_ret (then_ret ?_))))
    have hX : lineB x = ⟨#[112, 108, 97, 99, 101, 32, 115, 112, 114, 101, 97, 100, 32, 59, 10]⟩ := by
      refine line_eq ?_
      rw [show toksI x = headT x ++ [sayT ⟨#[59]⟩] from rfl, hT]
      simp only [tl_app, tl, form_say, form_num, bl_app, bl_mk, List.append_assoc, List.cons_append, List.nil_append, List.append_nil, List.toList_toArray]
    refine fin_ret hs (.tmp (hs.slots _ _ rfl) .nil) ⟨?_, hs.mem.base⟩
    rw [hX]; rfl
  replace h51 := ne_of_beq_false h51
  refine wp_seq (wp_region_lit ?_)
  refine go hs (pV rfl (fun a hs => y_cmp hs rfl rfl rfl) <| pA rfl <| ?_); clear hs a; intro a hs
  refine wpList_nil (then_normal ?_)
  refine wp_cond_split (hs.ev rfl) (fun h53 => ?_) (fun h53 => ?_)
  · replace h53 := eq_of_beq h53
    have hT : headT x = sayT ⟨#[112, 108, 97, 99, 101]⟩ :: sayT ⟨#[115, 112, 105, 114, 97, 108]⟩ :: toksX 16 x.f2 := by unfold headT; rw [if_neg (by omega), if_neg (by omega), if_neg (by omega), if_neg (by omega), if_neg (by omega)]; unfold placeT; rw [if_neg (by omega), if_neg (by omega), if_pos (by omega)]
    rw [show toksI x = headT x ++ [sayT ⟨#[59]⟩] from rfl, hT] at hln
    simp only [List.length_cons, List.length_append, List.length_nil] at hln
    have hS2 := hG.2.2.2.1 (by unfold hasV; omega)
    have hz := jb_size (toks_may 16 x.f2 hS2)
    have htl := toks_len 16 x.f2
    refine wp_seq (wp_region_lit ?_)
    refine go hs (pV rfl (fun a hs => y_faddr (k' := 2) 2 hs (by kernel_rfl) rfl rfl) <| pV rfl (fun a hs => y_loadAgg (vs := [.int .u8 x.f2.f0, .int .i64 x.f2.f1, .string x.f2.f2, .slice A5 x.f2.f3.length c5, .int .i64 x.f2.f4, .int .i64 x.f2.f5]) hs Tryd.underlying24 rfl (by kernel_rfl) rfl (fun w hw k v hk => ((hw.to 0 rfl).cell).trans (sub_at 6 rfl hk))) <| ?_); clear hs a; intro a hs
    refine a_eff rfl (e_callB Tryd.func61 rfl rfl hs rfl rfl (refT_expr 16 (by decide) x.f2 A5 c5 _ (Kd.C_below hA5 hs.mem.base) hS2 (varKeep hs.mem.base hP)) ?_); clear hs a; intro a w hs
    refine go hs (pV rfl (fun a hs => y_sadd hs rfl rfl (by first | omega | (simp only [ByteArray.size_append, mk_size, List.size_toArray, List.length_cons, List.length_nil]; omega))) <| pV rfl (fun a hs => y_sadd hs rfl rfl (by first | omega | (simp only [ByteArray.size_append, mk_size, List.size_toArray, List.length_cons, List.length_nil]; omega))) <| pA rfl <| ?_); clear hs a; intro a hs
    refine wpList_nil (then_normal (wp_ret (in_ret (then_ret ?_))))
    have hX : lineB x = ⟨#[112, 108, 97, 99, 101, 32, 115, 112, 105, 114, 97, 108, 32]⟩ ++ jb (toksX 16 x.f2) ++ ⟨#[32, 59, 10]⟩ := by
      refine line_eq ?_
      rw [show toksI x = headT x ++ [sayT ⟨#[59]⟩] from rfl, hT]
      simp only [tl_app, tl, form_say, form_num, tl_jb (toksX_ne hS2), bl_app, bl_mk, List.append_assoc, List.cons_append, List.nil_append, List.append_nil, List.toList_toArray]
    refine fin_ret hs (.tmp (hs.slots _ _ rfl) .nil) ⟨?_, hs.mem.base⟩
    rw [hX]; rfl
  replace h53 := ne_of_beq_false h53
  have hT : headT x = sayT ⟨#[112, 108, 97, 99, 101]⟩ :: sayT ⟨#[108, 105, 115, 116]⟩ :: sayT ⟨#[91]⟩ :: (exT x.f5 ++ [sayT ⟨#[93]⟩]) := by unfold headT; rw [if_neg (by omega), if_neg (by omega), if_neg (by omega), if_neg (by omega), if_neg (by omega)]; unfold placeT; rw [if_neg (by omega), if_neg (by omega), if_neg (by omega), if_pos (by omega)]
  rw [show toksI x = headT x ++ [sayT ⟨#[59]⟩] from rfl, hT] at hln
  simp only [List.length_cons, List.length_append, List.length_nil] at hln
  have hz := jb_size (exT_may hG.2.2.2.2.2.2.2)
  have hne := exT_ne (hL.2 (by omega)) hG.2.2.2.2.2.2.2
  refine wp_skip (in_normal (then_normal (wp_seq ?_)))
  refine wp_region_lit (go hs (pV rfl (fun a hs => y_faddr (k' := 16) 16 hs (by kernel_rfl) rfl rfl) <| pV rfl (fun a hs => y_load hs Tryd.underlying23 rfl rfl (fun w hw => (hw.to 0 rfl).cellV rfl)) <| ?_)); clear hs a; intro a hs
  refine a_eff rfl (e_callB Tryd.func87 rfl rfl hs rfl rfl (refT_row A16 c16 x.f5 _ (Kd.C_below hA16 hs.mem.base) hG.2.2.2.2.2.2.2 (by omega) (varKeep hs.mem.base hP)) ?_); clear hs a; intro a w hs
  refine go hs (pV rfl (fun a hs => y_sadd hs rfl rfl (by first | omega | (simp only [ByteArray.size_append, mk_size, List.size_toArray, List.length_cons, List.length_nil]; omega))) <| pV rfl (fun a hs => y_sadd hs rfl rfl (by first | omega | (simp only [ByteArray.size_append, mk_size, List.size_toArray, List.length_cons, List.length_nil]; omega))) <| pA rfl <| ?_); clear hs a; intro a hs
  refine wpList_nil (then_normal (wp_ret ?_))
  have hX : lineB x = ⟨#[112, 108, 97, 99, 101, 32, 108, 105, 115, 116, 32, 91, 32]⟩ ++ jb (exT x.f5) ++ ⟨#[32, 93, 32, 59, 10]⟩ := by
    refine line_eq ?_
    rw [show toksI x = headT x ++ [sayT ⟨#[59]⟩] from rfl, hT]
    simp only [tl_app, tl, form_say, form_num, tl_jb hne, bl_app, bl_mk, List.append_assoc, List.cons_append, List.nil_append, List.append_nil, List.toList_toArray]
  refine fin_ret hs (.tmp (hs.slots _ _ rfl) .nil) ⟨?_, hs.mem.base⟩
  rw [hX]; rfl
set_option maxRecDepth 100000 in
theorem refT_Text (A : Option Addr) (c : Nat) (l : List XI) (v0 : World) (hA : Kd.C k45 v0 A l.length l) (hsl : ∀ p ∈ l, smallI p) (hP : Pow10 v0) :
    Calls Tryd.prog 27 #[.slice A l.length c] v0 fun e w' => e = .returned (.tuple #[.string (textsI l).1, .int .i64 (textsI l).2]) ∧ Below v0.heap.size v0 w' := by
  refine calls_enter (N := 26) (n := 25) (args := [.slice A l.length c]) Tryd.func27 rfl rfl rfl (H.init v0) (fun a hs => ?_)
  have hcl := C_len hA
  refine wp_seq (wp_region_lit ?_)
  refine go hs (pA rfl <| pA rfl <| ?_); clear hs a; intro a hs
  refine wpList_nil (then_normal (wp_seq ?_))
  refine wp_seq (wp_region_lit ?_)
  refine go hs (pM rfl <| ?_); clear hs a; intro a hs
  refine a_eff rfl (e_callB Tryd.func17 rfl rfl hs rfl rfl (ref_May A c l _ (Kd.C_below hA hs.mem.base) hsl) ?_); clear hs a; intro a w hs
  refine go hs (pV rfl (fun a hs => y_not hs rfl) <| ?_); clear hs a; intro a hs
  refine wpList_nil (then_normal ?_)
  refine wp_cond_split (hs.ev rfl) (fun h8 => ?_) (fun h8 => ?_)
  · replace h8 := (not_t h8)
    refine wp_seq (wp_region_lit ?_)
    refine go hs (pA rfl <| pA rfl <| ?_); clear hs a; intro a hs
    refine wpList_nil (then_normal (wp_ret (then_ret ?_)))
    have hX : textsI l = (⟨#[]⟩, 2) := by unfold textsI; rw [h8]; rfl
    refine fin_ret hs (.tmp (hs.slots _ _ rfl) (.tmp (hs.slots _ _ rfl) .nil)) ⟨?_, hs.mem.base⟩
    rw [hX]; rfl
  replace h8 := (not_f h8)
  have hG := may_good h8
  have hT := may_toks h8
  have hLn := may_lens h8
  have h64 := may_len h8
  refine wp_skip (then_normal (wp_seq ?_))
  refine wp_region_lit (go hs (pA rfl <| ?_)); clear hs a; intro a hs
  refine wpList_nil (then_normal (wp_seq ?_))
  refine wp_seq (wp_region_lit ?_)
  refine go hs (pA rfl <| ?_); clear hs a; intro a hs
  refine wpList_nil (then_normal (wp_block ?_))
  refine wp_loopN (fun m a w1 => ∃ (i : Nat) (acc : ByteArray), (i + m = l.length) ∧ (acc.size ≤ i * 900000) ∧ (accB (l.drop i) acc = accB l ⟨#[]⟩) ∧ St 26 v0 [(0, .slice A l.length c), (4, .string acc), (5, .int .i64 ((i : Nat) : Int))] [] a w1) (l.length) ⟨0, ⟨#[]⟩, by omega, by decide, rfl, ?_⟩ (fun m a w1 hJ => ?_)
  · exact (hs.mem_to hs.mem).cut _ ⟨rfl, rfl, rfl, trivial⟩
  clear hs
  obtain ⟨i, acc, hi, hacc, hinv, hs⟩ := hJ
  refine wp_seq (wp_seq ?_)
  refine wp_region_lit (go hs (pM rfl <| pM rfl <| pV rfl (fun a hs => y_lenL hs Tryd.underlying32 rfl) <| pV rfl (fun a hs => y_cmp hs rfl rfl rfl) <| ?_)); clear hs a; intro a hs
  refine wpList_nil (then_normal ?_)
  refine wp_cond_split (hs.ev rfl) (fun h12 => ?_) (fun h12 => ?_)
  · replace h12 := of_decide_eq_true h12
    obtain ⟨y, hy⟩ : ∃ p, l[i]? = some p := ⟨_, List.getElem?_eq_getElem (by omega)⟩
    have hyG := hG y (List.mem_of_getElem? hy)
    have hyL := hLn y (List.mem_of_getElem? hy)
    have hyT := hT y (List.mem_of_getElem? hy)
    obtain ⟨g1, o1, rfl, hcell1⟩ := C_atG (show 0 < 19 by decide) hA (by omega)
    obtain ⟨cs1, hK1, hc1⟩ := hcell1 i y hy
    obtain ⟨A5, c5, A10, c10, A11, c11, A12, c12, A16, c16, rfl, al5, ag5, al10, ag10, al11, ag11, al12, ag12, al16, ag16⟩ := k45_open hK1
    have hdrop : l.drop i = y :: l.drop (i + 1) := by
      rw [List.drop_eq_getElem_cons (by omega)]
      rw [List.getElem?_eq_getElem (by omega)] at hy
      injection hy with hy
      rw [hy]
    have hz := jb_size (toksI_may hyG)
    have hls := lineB_size y
    refine wp_skip (then_normal (wp_seq ?_))
    refine wp_block (wp_region_lit ?_)
    refine go hs (pM rfl <| pM rfl <| pM rfl <| pV rfl (fun a hs => y_idxB (size := 19) (off := o1 + i * 19) hs Tryd.underlying32 (by kernel_rfl) rfl rfl (by omega) (by omega) (by simp)) <| pV rfl (fun a hs => y_loadAgg (vs := [.int .u8 y.f0, .string y.f1, .int .u8 y.f2.f0, .int .i64 y.f2.f1, .string y.f2.f2, .slice A5 y.f2.f3.length c5, .int .i64 y.f2.f4, .int .i64 y.f2.f5, .int .u8 y.f3.f0, .string y.f3.f1, .slice A10 y.f3.f2.length c10, .slice A11 y.f3.f3.length c11, .slice A12 y.f3.f4.length c12, .int .i64 y.f3.f5, .int .i64 y.f3.f6, .int .u8 y.f4, .slice A16 y.f5.length c16, .int .i64 y.f6, .int .i64 y.f7]) hs Tryd.underlying44 rfl (by kernel_rfl) rfl (fun w hw k v hk => hc1 w hw.base k v hk)) <| ?_); clear hs a; intro a hs
    refine a_eff rfl (e_callB Tryd.func60 rfl rfl hs rfl rfl (refT_item y A5 A10 A11 A12 A16 c5 c10 c11 c12 c16 _ (Kd.C_below ag5 hs.mem.base) (Kd.C_below ag10 hs.mem.base) (Kd.C_below ag11 hs.mem.base) (Kd.C_below ag12 hs.mem.base) (Kd.C_below ag16 hs.mem.base) hyG hyL (by omega) (varKeep hs.mem.base hP)) ?_); clear hs a; intro a w hs
    refine go hs (pV rfl (fun a hs => y_sadd hs rfl rfl (by omega)) <| pA rfl <| ?_); clear hs a; intro a hs
    refine wpList_nil (in_normal (then_normal (wp_region_lit ?_)))
    refine go hs (pM rfl <| pV rfl (fun a hs => y_add hs rfl rfl (by omega)) <| pA rfl <| ?_); clear hs a; intro a hs
    refine wpList_nil (then_normal ?_)
    refine ⟨m - 1, by omega, i + 1, acc ++ lineB y, by omega, by rw [ByteArray.size_append, Nat.add_mul]; omega, by rw [← hinv, hdrop]; rfl, ?_⟩
    exact (hs.mem_to hs.mem).cut _ ⟨rfl, rfl, rfl, trivial⟩
  replace h12 := of_decide_eq_false h12
  refine wp_exit (then_exit (then_exit (in_here (then_normal (wp_seq ?_)))))
  refine wp_seq (wp_region_lit ?_)
  refine go hs (pM rfl <| pV rfl (fun a hs => y_lenS hs Tryd.underlying9 rfl) <| pV rfl (fun a hs => y_cmp hs rfl rfl rfl) <| ?_); clear hs a; intro a hs
  refine wpList_nil (then_normal ?_)
  refine wp_cond_split (hs.ev rfl) (fun h24 => ?_) (fun h24 => ?_)
  · replace h24 := of_decide_eq_true h24
    refine wp_seq (wp_region_lit ?_)
    refine go hs (pA rfl <| pA rfl <| ?_); clear hs a; intro a hs
    refine wpList_nil (then_normal (wp_ret (then_ret ?_)))
    have hX : textsI l = (⟨#[]⟩, 4) := by unfold textsI; rw [h8, ← hinv, List.drop_eq_nil_of_le (by omega)]; show (if acc.size > 65536 then _ else _) = _; rw [if_pos (by omega)]
    refine fin_ret hs (.tmp (hs.slots _ _ rfl) (.tmp (hs.slots _ _ rfl) .nil)) ⟨?_, hs.mem.base⟩
    rw [hX]; rfl
  replace h24 := of_decide_eq_false h24
  refine wp_skip (then_normal (wp_seq ?_))
  refine wp_region_lit (go hs (pM rfl <| pA rfl <| pA rfl <| ?_)); clear hs a; intro a hs
  refine wpList_nil (then_normal (wp_ret ?_))
  have hX : textsI l = (acc, 0) := by unfold textsI; rw [h8, ← hinv, List.drop_eq_nil_of_le (by omega)]; show (if acc.size > 65536 then _ else _) = _; rw [if_neg (by omega)]; rfl
  refine fin_ret hs (.tmp (hs.slots _ _ rfl) (.tmp (hs.slots _ _ rfl) .nil)) ⟨?_, hs.mem.base⟩
  rw [hX]; rfl
end Go.Proofs.YtibaidddhmdafaaDoor.E
end
section
namespace Go.Proofs.YtibaidddhmdafaaDoor.E
open Go Go.RowKit Go.Proofs.YtibaidddhmdafaaDoorW.PrintWords Go.Proofs.YtibaidddhmdafaaDoorW.PrintLast Go.Proofs.YtibaidddhmdafaaDoorW.PrintMore Go.Proofs.YtibaidddhmdafaaDoor.PA
set_option linter.unusedVariables false
set_option linter.unusedSimpArgs false
theorem subL {L vs : List Value} {off k : Nat} {v : Value} (n : Nat) (h : (L.drop off).take n = vs) (hk : vs[k]? = some v) : L[off + k]? = some v := by
  subst h
  rw [List.getElem?_take] at hk
  split at hk
  · rw [List.getElem?_drop] at hk; exact hk
  · cases hk
theorem text3X (x : XE) : (textX x = (⟨#[]⟩, 2) ∧ deepX x = 0) ∨ (textX x = (⟨#[]⟩, 4) ∧ deepX x ≠ 0 ∧ (jb (toksX 16 x)).size > 65536) ∨ (textX x = (jb (toksX 16 x), 0) ∧ deepX x ≠ 0 ∧ (jb (toksX 16 x)).size ≤ 65536) := by
  unfold textX
  by_cases h : deepX x = 0
  · rw [if_pos h]; exact .inl ⟨rfl, h⟩
  · rw [if_neg h, join_jb (toks_may 16 x (shape_of 16 x 8192 h))]
    by_cases h1 : (jb (toksX 16 x)).size > 65536
    · rw [if_pos h1]; exact .inr (.inl ⟨rfl, h, h1⟩)
    · rw [if_neg h1]; exact .inr (.inr ⟨rfl, h, by omega⟩)
theorem text3S (s : XS) : (textS s = (⟨#[]⟩, 2) ∧ (xshape 16 s 8192).1 = false) ∨ (textS s = (⟨#[]⟩, 4) ∧ (xshape 16 s 8192).1 = true ∧ (jb (toksS 16 s)).size > 65536) ∨ (textS s = (jb (toksS 16 s), 0) ∧ (xshape 16 s 8192).1 = true ∧ (jb (toksS 16 s)).size ≤ 65536) := by
  unfold textS
  cases h : (xshape 16 s 8192).1 with
  | false => exact .inl ⟨rfl, rfl⟩
  | true =>
    have hG := shape_good 16 s 8192 h
    show _ ∨ (joinF _ = _ ∧ _) ∨ (joinF _ = _ ∧ _)
    rw [join_jb (toksS_may 16 s hG)]
    by_cases h1 : (jb (toksS 16 s)).size > 65536
    · rw [if_pos h1]; exact .inr (.inl ⟨rfl, rfl, h1⟩)
    · rw [if_neg h1]; exact .inr (.inr ⟨rfl, rfl, by omega⟩)
section
variable {P : Program} {N : Nat} {w0 w : World} {σ : List (Nat × Value)} {bs bs1 : List Res} {a : Act} {x y : Operand}
variable {t t' ty : TypeId} {ps : String} {af : Array Edge} {gd : Option (Nat × Bool)} {od : Option Nat}
theorem y_sneF {s1 : ByteArray} (hs : St N w0 σ bs1 a w) (hx : ev σ x = some (.string s1)) (hy : ev σ y = some (.string s1)) : Y P w0 bs a (Oper.mk od (.binOp .neq t x y t') ty ps af gd) (.bool false) := by
  have h := y_sne (P := P) (bs := bs) (t := t) (t' := t') (ty := ty) (ps := ps) (af := af) (gd := gd) (od := od) hs hx hy
  rw [beq_self_eq_true] at h; exact h
end
set_option maxRecDepth 100000 in
theorem law_exprText (x : XE) (A : Option Addr) (C : Nat) (v0 : World) (hA : Kd.C k25 v0 A x.f3.length x.f3) (hsm : smallX 16 x) (hP : Pow10 v0) :
    Calls Tryd.prog 28 #[.agg #[.int .u8 x.f0, .int .i64 x.f1, .string x.f2, .slice A x.f3.length C, .int .i64 x.f4, .int .i64 x.f5]] v0 fun e w' => e = .returned (.bool true) ∧ Below v0.heap.size v0 w' := by
  refine calls_enter (N := 38) (n := 37) (args := [.agg #[.int .u8 x.f0, .int .i64 x.f1, .string x.f2, .slice A x.f3.length C, .int .i64 x.f4, .int .i64 x.f5]]) Tryd.func28 rfl rfl rfl (H.init v0) (fun a hs => ?_)
  refine wp_seq (wp_region_lit ?_)
  refine a_eff rfl (e_box (cs := #[_, _, _, _, _, _]) hs rfl rfl rfl ?_); clear hs a; intro gx a w hs
  refine go hs (pA rfl <| ?_); clear hs a; intro a hs
  refine wpList_nil (then_normal (wp_seq ?_))
  rcases text3X x with ⟨hT, hd0⟩ | ⟨hT, hd0, hsz⟩ | ⟨hT, hd0, hsz⟩
  · have hd : decide (0 < deepX x) = false := decide_eq_false (by omega)
    refine wp_region_lit (go hs (pV rfl (fun a hs => y_loadPt 0 rfl hs Tryd.underlying25 rfl (by kernel_rfl) rfl) <| ?_)); clear hs a; intro a hs
    refine a_eff rfl (e_callB Tryd.func10 rfl rfl hs rfl rfl (by have h := tree_ExprText x A C _ (Kd.C_below hA hs.mem.base) hsm (varKeep hs.mem.base hP); rw [hT] at h; exact h) ?_); clear hs a; intro a w hs
    refine go hs (pM rfl <| pV rfl (fun a hs => y_extract hs rfl rfl) <| pV rfl (fun a hs => y_extract hs rfl rfl) <| pA rfl <| pA rfl <| ?_); clear hs a; intro a hs
    refine wpList_nil (then_normal (wp_seq ?_))
    refine wp_seq (wp_region_lit ?_)
    refine go hs (pV rfl (fun a hs => y_loadPt 0 rfl hs Tryd.underlying25 rfl (by kernel_rfl) rfl) <| ?_); clear hs a; intro a hs
    refine a_eff rfl (e_callB Tryd.func18 rfl rfl hs rfl rfl (by have h := ref_MayExpr x A C _ (Kd.C_below hA hs.mem.base) hsm; rw [hd] at h; exact h) ?_); clear hs a; intro a w hs
    refine go hs (pV rfl (fun a hs => y_not hs rfl) <| ?_); clear hs a; intro a hs
    refine wpList_nil (then_normal ?_)
    refine wp_cond_true (hs.ev rfl) ?_
    refine wp_seq (wp_region_lit ?_)
    refine go hs (pM rfl <| pV rfl (fun a hs => y_seqB (b := true) hs rfl rfl (beq_self_eq_true _)) <| pM rfl <| pG rfl (fun a hs => y_move hs rfl) <| pG rfl (fun a hs => y_cmp (b := true) hs rfl rfl rfl) <| pT rfl rfl <| pA rfl <| ?_); clear hs a; intro a hs
    refine wpList_nil (then_normal (wp_ret (then_ret ?_)))
    refine fin_ret hs (.tmp (hs.slots _ _ rfl) .nil) ⟨rfl, hs.mem.base⟩
  · have hd : decide (0 < deepX x) = true := decide_eq_true (by omega)
    refine wp_region_lit (go hs (pV rfl (fun a hs => y_loadPt 0 rfl hs Tryd.underlying25 rfl (by kernel_rfl) rfl) <| ?_)); clear hs a; intro a hs
    refine a_eff rfl (e_callB Tryd.func10 rfl rfl hs rfl rfl (by have h := tree_ExprText x A C _ (Kd.C_below hA hs.mem.base) hsm (varKeep hs.mem.base hP); rw [hT] at h; exact h) ?_); clear hs a; intro a w hs
    refine go hs (pM rfl <| pV rfl (fun a hs => y_extract hs rfl rfl) <| pV rfl (fun a hs => y_extract hs rfl rfl) <| pA rfl <| pA rfl <| ?_); clear hs a; intro a hs
    refine wpList_nil (then_normal (wp_seq ?_))
    refine wp_seq (wp_region_lit ?_)
    refine go hs (pV rfl (fun a hs => y_loadPt 0 rfl hs Tryd.underlying25 rfl (by kernel_rfl) rfl) <| ?_); clear hs a; intro a hs
    refine a_eff rfl (e_callB Tryd.func18 rfl rfl hs rfl rfl (by have h := ref_MayExpr x A C _ (Kd.C_below hA hs.mem.base) hsm; rw [hd] at h; exact h) ?_); clear hs a; intro a w hs
    refine go hs (pV rfl (fun a hs => y_not hs rfl) <| ?_); clear hs a; intro a hs
    refine wpList_nil (then_normal ?_)
    refine wp_cond_false (hs.ev rfl) ?_
    refine wp_skip (then_normal (wp_seq ?_))
    refine wp_region_lit (go hs (pV rfl (fun a hs => y_loadPt 0 rfl hs Tryd.underlying25 rfl (by kernel_rfl) rfl) <| ?_)); clear hs a; intro a hs
    refine a_eff rfl (e_callB Tryd.func61 rfl rfl hs rfl rfl (refT_expr 16 (by decide) x A C _ (Kd.C_below hA hs.mem.base) (shape_of 16 x 8192 hd0) (varKeep hs.mem.base hP)) ?_); clear hs a; intro a w hs
    refine go hs (pA rfl <| ?_); clear hs a; intro a hs
    refine wpList_nil (then_normal (wp_seq ?_))
    refine wp_seq (wp_region_lit ?_)
    refine go hs (pM rfl <| pV rfl (fun a hs => y_lenS hs Tryd.underlying9 rfl) <| pV rfl (fun a hs => y_cmp (b := true) hs rfl rfl (congrArg some (decide_eq_true (by omega)))) <| ?_); clear hs a; intro a hs
    refine wpList_nil (then_normal ?_)
    refine wp_cond_true (hs.ev rfl) ?_
    refine wp_seq (wp_region_lit ?_)
    refine go hs (pM rfl <| pV rfl (fun a hs => y_seqB (b := true) hs rfl rfl (beq_self_eq_true _)) <| pM rfl <| pG rfl (fun a hs => y_move hs rfl) <| pG rfl (fun a hs => y_cmp (b := true) hs rfl rfl rfl) <| pT rfl rfl <| pA rfl <| ?_); clear hs a; intro a hs
    refine wpList_nil (then_normal (wp_ret (then_ret ?_)))
    refine fin_ret hs (.tmp (hs.slots _ _ rfl) .nil) ⟨rfl, hs.mem.base⟩
  have hd : decide (0 < deepX x) = true := decide_eq_true (by omega)
  refine wp_region_lit (go hs (pV rfl (fun a hs => y_loadPt 0 rfl hs Tryd.underlying25 rfl (by kernel_rfl) rfl) <| ?_)); clear hs a; intro a hs
  refine a_eff rfl (e_callB Tryd.func10 rfl rfl hs rfl rfl (by have h := tree_ExprText x A C _ (Kd.C_below hA hs.mem.base) hsm (varKeep hs.mem.base hP); rw [hT] at h; exact h) ?_); clear hs a; intro a w hs
  refine go hs (pM rfl <| pV rfl (fun a hs => y_extract hs rfl rfl) <| pV rfl (fun a hs => y_extract hs rfl rfl) <| pA rfl <| pA rfl <| ?_); clear hs a; intro a hs
  refine wpList_nil (then_normal (wp_seq ?_))
  refine wp_seq (wp_region_lit ?_)
  refine go hs (pV rfl (fun a hs => y_loadPt 0 rfl hs Tryd.underlying25 rfl (by kernel_rfl) rfl) <| ?_); clear hs a; intro a hs
  refine a_eff rfl (e_callB Tryd.func18 rfl rfl hs rfl rfl (by have h := ref_MayExpr x A C _ (Kd.C_below hA hs.mem.base) hsm; rw [hd] at h; exact h) ?_); clear hs a; intro a w hs
  refine go hs (pV rfl (fun a hs => y_not hs rfl) <| ?_); clear hs a; intro a hs
  refine wpList_nil (then_normal ?_)
  refine wp_cond_false (hs.ev rfl) ?_
  refine wp_skip (then_normal (wp_seq ?_))
  refine wp_region_lit (go hs (pV rfl (fun a hs => y_loadPt 0 rfl hs Tryd.underlying25 rfl (by kernel_rfl) rfl) <| ?_)); clear hs a; intro a hs
  refine a_eff rfl (e_callB Tryd.func61 rfl rfl hs rfl rfl (refT_expr 16 (by decide) x A C _ (Kd.C_below hA hs.mem.base) (shape_of 16 x 8192 hd0) (varKeep hs.mem.base hP)) ?_); clear hs a; intro a w hs
  refine go hs (pA rfl <| ?_); clear hs a; intro a hs
  refine wpList_nil (then_normal (wp_seq ?_))
  refine wp_seq (wp_region_lit ?_)
  refine go hs (pM rfl <| pV rfl (fun a hs => y_lenS hs Tryd.underlying9 rfl) <| pV rfl (fun a hs => y_cmp (b := false) hs rfl rfl (congrArg some (decide_eq_false (by omega)))) <| ?_); clear hs a; intro a hs
  refine wpList_nil (then_normal ?_)
  refine wp_cond_false (hs.ev rfl) ?_
  refine wp_skip (then_normal (wp_seq ?_))
  refine wp_region_lit (go hs (pM rfl <| pM rfl <| pV rfl (fun a hs => y_seqB (b := true) hs rfl rfl (beq_self_eq_true _)) <| pM rfl <| pG rfl (fun a hs => y_move hs rfl) <| pG rfl (fun a hs => y_cmp (b := true) hs rfl rfl rfl) <| pT rfl rfl <| pA rfl <| ?_)); clear hs a; intro a hs
  refine wpList_nil (then_normal (wp_ret ?_))
  refine fin_ret hs (.tmp (hs.slots _ _ rfl) .nil) ⟨rfl, hs.mem.base⟩
set_option maxRecDepth 100000 in
theorem law_shapeText (s : XS) (A2 A3 A4 : Option Addr) (c2 c3 c4 : Nat) (v0 : World) (hA2 : Kd.C k25 v0 A2 s.f2.length s.f2) (hA3 : Kd.C k42 v0 A3 s.f3.length s.f3) (hA4 : Kd.C (Kd.slice 25 k25) v0 A4 s.f4.length s.f4) (hsm : smallS 16 s) (hP : Pow10 v0) :
    Calls Tryd.prog 29 #[.agg #[.int .u8 s.f0, .string s.f1, .slice A2 s.f2.length c2, .slice A3 s.f3.length c3, .slice A4 s.f4.length c4, .int .i64 s.f5, .int .i64 s.f6]] v0 fun e w' => e = .returned (.bool true) ∧ Below v0.heap.size v0 w' := by
  refine calls_enter (N := 38) (n := 37) (args := [.agg #[.int .u8 s.f0, .string s.f1, .slice A2 s.f2.length c2, .slice A3 s.f3.length c3, .slice A4 s.f4.length c4, .int .i64 s.f5, .int .i64 s.f6]]) Tryd.func29 rfl rfl rfl (H.init v0) (fun a hs => ?_)
  refine wp_seq (wp_region_lit ?_)
  refine a_eff rfl (e_box (cs := #[_, _, _, _, _, _, _]) hs rfl rfl rfl ?_); clear hs a; intro gx a w hs
  refine go hs (pA rfl <| ?_); clear hs a; intro a hs
  refine wpList_nil (then_normal (wp_seq ?_))
  rcases text3S s with ⟨hT, hd0⟩ | ⟨hT, hd0, hsz⟩ | ⟨hT, hd0, hsz⟩
  · have hd := hd0
    refine wp_region_lit (go hs (pV rfl (fun a hs => y_loadPt 0 rfl hs Tryd.underlying42 rfl (by kernel_rfl) rfl) <| ?_)); clear hs a; intro a hs
    refine a_eff rfl (e_callB Tryd.func62 rfl rfl hs rfl rfl (by have h := tree_ShapeText s A2 A3 A4 c2 c3 c4 _ (Kd.C_below hA2 hs.mem.base) (Kd.C_below hA3 hs.mem.base) (Kd.C_below hA4 hs.mem.base) hsm (varKeep hs.mem.base hP); rw [hT] at h; exact h) ?_); clear hs a; intro a w hs
    refine go hs (pM rfl <| pV rfl (fun a hs => y_extract hs rfl rfl) <| pV rfl (fun a hs => y_extract hs rfl rfl) <| pA rfl <| pA rfl <| ?_); clear hs a; intro a hs
    refine wpList_nil (then_normal (wp_seq ?_))
    refine wp_seq (wp_region_lit ?_)
    refine go hs (pV rfl (fun a hs => y_loadPt 0 rfl hs Tryd.underlying42 rfl (by kernel_rfl) rfl) <| ?_); clear hs a; intro a hs
    refine a_eff rfl (e_callB Tryd.func22 rfl rfl hs rfl rfl (by have h := ref_MayShape s A2 A3 A4 c2 c3 c4 _ (Kd.C_below hA2 hs.mem.base) (Kd.C_below hA3 hs.mem.base) (Kd.C_below hA4 hs.mem.base) hsm; rw [hd] at h; exact h) ?_); clear hs a; intro a w hs
    refine go hs (pV rfl (fun a hs => y_not hs rfl) <| ?_); clear hs a; intro a hs
    refine wpList_nil (then_normal ?_)
    refine wp_cond_true (hs.ev rfl) ?_
    refine wp_seq (wp_region_lit ?_)
    refine go hs (pM rfl <| pV rfl (fun a hs => y_seqB (b := true) hs rfl rfl (beq_self_eq_true _)) <| pM rfl <| pG rfl (fun a hs => y_move hs rfl) <| pG rfl (fun a hs => y_cmp (b := true) hs rfl rfl rfl) <| pT rfl rfl <| pA rfl <| ?_); clear hs a; intro a hs
    refine wpList_nil (then_normal (wp_ret (then_ret ?_)))
    refine fin_ret hs (.tmp (hs.slots _ _ rfl) .nil) ⟨rfl, hs.mem.base⟩
  · have hd := hd0
    refine wp_region_lit (go hs (pV rfl (fun a hs => y_loadPt 0 rfl hs Tryd.underlying42 rfl (by kernel_rfl) rfl) <| ?_)); clear hs a; intro a hs
    refine a_eff rfl (e_callB Tryd.func62 rfl rfl hs rfl rfl (by have h := tree_ShapeText s A2 A3 A4 c2 c3 c4 _ (Kd.C_below hA2 hs.mem.base) (Kd.C_below hA3 hs.mem.base) (Kd.C_below hA4 hs.mem.base) hsm (varKeep hs.mem.base hP); rw [hT] at h; exact h) ?_); clear hs a; intro a w hs
    refine go hs (pM rfl <| pV rfl (fun a hs => y_extract hs rfl rfl) <| pV rfl (fun a hs => y_extract hs rfl rfl) <| pA rfl <| pA rfl <| ?_); clear hs a; intro a hs
    refine wpList_nil (then_normal (wp_seq ?_))
    refine wp_seq (wp_region_lit ?_)
    refine go hs (pV rfl (fun a hs => y_loadPt 0 rfl hs Tryd.underlying42 rfl (by kernel_rfl) rfl) <| ?_); clear hs a; intro a hs
    refine a_eff rfl (e_callB Tryd.func22 rfl rfl hs rfl rfl (by have h := ref_MayShape s A2 A3 A4 c2 c3 c4 _ (Kd.C_below hA2 hs.mem.base) (Kd.C_below hA3 hs.mem.base) (Kd.C_below hA4 hs.mem.base) hsm; rw [hd] at h; exact h) ?_); clear hs a; intro a w hs
    refine go hs (pV rfl (fun a hs => y_not hs rfl) <| ?_); clear hs a; intro a hs
    refine wpList_nil (then_normal ?_)
    refine wp_cond_false (hs.ev rfl) ?_
    refine wp_skip (then_normal (wp_seq ?_))
    refine wp_region_lit (go hs (pV rfl (fun a hs => y_loadPt 0 rfl hs Tryd.underlying42 rfl (by kernel_rfl) rfl) <| ?_)); clear hs a; intro a hs
    refine a_eff rfl (e_callB Tryd.func63 rfl rfl hs rfl rfl (refT_shape 16 (by decide) s A2 A3 A4 c2 c3 c4 _ (Kd.C_below hA2 hs.mem.base) (Kd.C_below hA3 hs.mem.base) (Kd.C_below hA4 hs.mem.base) (shape_good 16 s 8192 hd0) (shape_len 16 s 8192 hd0) (by have h1 := toksS_len 16 s 8192 hd0 (by decide); omega) (varKeep hs.mem.base hP)) ?_); clear hs a; intro a w hs
    refine go hs (pA rfl <| ?_); clear hs a; intro a hs
    refine wpList_nil (then_normal (wp_seq ?_))
    refine wp_seq (wp_region_lit ?_)
    refine go hs (pM rfl <| pV rfl (fun a hs => y_lenS hs Tryd.underlying9 rfl) <| pV rfl (fun a hs => y_cmp (b := true) hs rfl rfl (congrArg some (decide_eq_true (by omega)))) <| ?_); clear hs a; intro a hs
    refine wpList_nil (then_normal ?_)
    refine wp_cond_true (hs.ev rfl) ?_
    refine wp_seq (wp_region_lit ?_)
    refine go hs (pM rfl <| pV rfl (fun a hs => y_seqB (b := true) hs rfl rfl (beq_self_eq_true _)) <| pM rfl <| pG rfl (fun a hs => y_move hs rfl) <| pG rfl (fun a hs => y_cmp (b := true) hs rfl rfl rfl) <| pT rfl rfl <| pA rfl <| ?_); clear hs a; intro a hs
    refine wpList_nil (then_normal (wp_ret (then_ret ?_)))
    refine fin_ret hs (.tmp (hs.slots _ _ rfl) .nil) ⟨rfl, hs.mem.base⟩
  have hd := hd0
  refine wp_region_lit (go hs (pV rfl (fun a hs => y_loadPt 0 rfl hs Tryd.underlying42 rfl (by kernel_rfl) rfl) <| ?_)); clear hs a; intro a hs
  refine a_eff rfl (e_callB Tryd.func62 rfl rfl hs rfl rfl (by have h := tree_ShapeText s A2 A3 A4 c2 c3 c4 _ (Kd.C_below hA2 hs.mem.base) (Kd.C_below hA3 hs.mem.base) (Kd.C_below hA4 hs.mem.base) hsm (varKeep hs.mem.base hP); rw [hT] at h; exact h) ?_); clear hs a; intro a w hs
  refine go hs (pM rfl <| pV rfl (fun a hs => y_extract hs rfl rfl) <| pV rfl (fun a hs => y_extract hs rfl rfl) <| pA rfl <| pA rfl <| ?_); clear hs a; intro a hs
  refine wpList_nil (then_normal (wp_seq ?_))
  refine wp_seq (wp_region_lit ?_)
  refine go hs (pV rfl (fun a hs => y_loadPt 0 rfl hs Tryd.underlying42 rfl (by kernel_rfl) rfl) <| ?_); clear hs a; intro a hs
  refine a_eff rfl (e_callB Tryd.func22 rfl rfl hs rfl rfl (by have h := ref_MayShape s A2 A3 A4 c2 c3 c4 _ (Kd.C_below hA2 hs.mem.base) (Kd.C_below hA3 hs.mem.base) (Kd.C_below hA4 hs.mem.base) hsm; rw [hd] at h; exact h) ?_); clear hs a; intro a w hs
  refine go hs (pV rfl (fun a hs => y_not hs rfl) <| ?_); clear hs a; intro a hs
  refine wpList_nil (then_normal ?_)
  refine wp_cond_false (hs.ev rfl) ?_
  refine wp_skip (then_normal (wp_seq ?_))
  refine wp_region_lit (go hs (pV rfl (fun a hs => y_loadPt 0 rfl hs Tryd.underlying42 rfl (by kernel_rfl) rfl) <| ?_)); clear hs a; intro a hs
  refine a_eff rfl (e_callB Tryd.func63 rfl rfl hs rfl rfl (refT_shape 16 (by decide) s A2 A3 A4 c2 c3 c4 _ (Kd.C_below hA2 hs.mem.base) (Kd.C_below hA3 hs.mem.base) (Kd.C_below hA4 hs.mem.base) (shape_good 16 s 8192 hd0) (shape_len 16 s 8192 hd0) (by have h1 := toksS_len 16 s 8192 hd0 (by decide); omega) (varKeep hs.mem.base hP)) ?_); clear hs a; intro a w hs
  refine go hs (pA rfl <| ?_); clear hs a; intro a hs
  refine wpList_nil (then_normal (wp_seq ?_))
  refine wp_seq (wp_region_lit ?_)
  refine go hs (pM rfl <| pV rfl (fun a hs => y_lenS hs Tryd.underlying9 rfl) <| pV rfl (fun a hs => y_cmp (b := false) hs rfl rfl (congrArg some (decide_eq_false (by omega)))) <| ?_); clear hs a; intro a hs
  refine wpList_nil (then_normal ?_)
  refine wp_cond_false (hs.ev rfl) ?_
  refine wp_skip (then_normal (wp_seq ?_))
  refine wp_region_lit (go hs (pM rfl <| pM rfl <| pV rfl (fun a hs => y_seqB (b := true) hs rfl rfl (beq_self_eq_true _)) <| pM rfl <| pG rfl (fun a hs => y_move hs rfl) <| pG rfl (fun a hs => y_cmp (b := true) hs rfl rfl rfl) <| pT rfl rfl <| pA rfl <| ?_)); clear hs a; intro a hs
  refine wpList_nil (then_normal (wp_ret ?_))
  refine fin_ret hs (.tmp (hs.slots _ _ rfl) .nil) ⟨rfl, hs.mem.base⟩
set_option maxHeartbeats 400000 in
set_option maxRecDepth 100000 in
theorem law_TreeTexts (A : Option Addr) (c : Nat) (l : List XI) (v0 : World) (hA : Kd.C k45 v0 A l.length l) (hsl : ∀ p ∈ l, smallI p) (hP : Pow10 v0) :
    Calls Tryd.prog 9 #[.slice A l.length c] v0 fun e w' => e = .returned (.bool true) ∧ Below v0.heap.size v0 w' := by
  refine calls_enter (N := 49) (n := 48) (args := [.slice A l.length c]) Tryd.func9 rfl rfl rfl (H.init v0) (fun a hs => ?_)
  have hcl := C_len hA
  refine wp_seq (wp_region_lit ?_)
  refine go hs (pA rfl <| ?_); clear hs a; intro a hs
  refine wpList_nil (then_normal (wp_seq ?_))
  refine wp_region_lit (go hs (pM rfl <| ?_)); clear hs a; intro a hs
  refine a_eff rfl (e_callB Tryd.func15 rfl rfl hs rfl rfl (tree_Text A c l _ (Kd.C_below hA hs.mem.base) hsl (varKeep hs.mem.base hP)) ?_); clear hs a; intro a w hs
  refine go hs (pM rfl <| pV rfl (fun a hs => y_extract hs rfl rfl) <| pV rfl (fun a hs => y_extract hs rfl rfl) <| pA rfl <| pA rfl <| ?_); clear hs a; intro a hs
  refine wpList_nil (then_normal (wp_seq ?_))
  refine wp_region_lit (go hs (pM rfl <| ?_)); clear hs a; intro a hs
  refine a_eff rfl (e_callB Tryd.func27 rfl rfl hs rfl rfl (refT_Text A c l _ (Kd.C_below hA hs.mem.base) hsl (varKeep hs.mem.base hP)) ?_); clear hs a; intro a w hs
  refine go hs (pM rfl <| pV rfl (fun a hs => y_extract hs rfl rfl) <| pV rfl (fun a hs => y_extract hs rfl rfl) <| pA rfl <| pA rfl <| ?_); clear hs a; intro a hs
  refine wpList_nil (then_normal (wp_seq ?_))
  refine wp_seq (wp_region_lit ?_)
  refine go hs (pM rfl <| pM rfl <| pV rfl (fun a hs => y_sneF hs rfl rfl) <| pM rfl <| pG rfl (fun a hs => y_move hs rfl) <| pG rfl (fun a hs => y_move hs rfl) <| pG rfl (fun a hs => y_cmp (b := false) hs rfl rfl (congrArg some (bne_eq_false_iff_eq.2 rfl))) <| pF rfl rfl <| ?_); clear hs a; intro a hs
  refine wpList_nil (then_normal ?_)
  refine wp_cond_false (hs.ev rfl) ?_
  refine wp_skip (then_normal (wp_seq ?_))
  refine wp_seq (wp_region_lit ?_)
  refine go hs (pA rfl <| ?_); clear hs a; intro a hs
  refine wpList_nil (then_normal (wp_block ?_))
  refine wp_loopN (fun m a w1 => ∃ (i : Nat), (i + m = l.length) ∧ St 49 v0 [(0, .slice A l.length c), (7, .int .i64 ((i : Nat) : Int))] [] a w1) (l.length) ⟨0, by omega, ?_⟩ (fun m a w1 hJ => ?_)
  · exact (hs.mem_to hs.mem).cut _ ⟨rfl, rfl, trivial⟩
  clear hs
  obtain ⟨i, hi, hs⟩ := hJ
  refine wp_seq (wp_seq ?_)
  refine wp_region_lit (go hs (pM rfl <| pM rfl <| pV rfl (fun a hs => y_lenL hs Tryd.underlying32 rfl) <| pV rfl (fun a hs => y_cmp hs rfl rfl rfl) <| ?_)); clear hs a; intro a hs
  refine wpList_nil (then_normal ?_)
  refine wp_cond_split (hs.ev rfl) (fun h29 => ?_) (fun h29 => ?_)
  · replace h29 := of_decide_eq_true h29
    obtain ⟨y, hy⟩ : ∃ p, l[i]? = some p := ⟨_, List.getElem?_eq_getElem (by omega)⟩
    have hy0 := hsl y (List.mem_of_getElem? hy)
    obtain ⟨g1, o1, rfl, hcell1⟩ := C_atG (show 0 < 19 by decide) hA (by omega)
    obtain ⟨cs1, hK1, hc1⟩ := hcell1 i y hy
    obtain ⟨A5, c5, A10, c10, A11, c11, A12, c12, A16, c16, rfl, al5, ag5, al10, ag10, al11, ag11, al12, ag12, al16, ag16⟩ := k45_open hK1
    refine wp_skip (then_normal (wp_seq ?_))
    refine wp_block (wp_seq ?_)
    refine wp_region_lit (go hs (pM rfl <| pM rfl <| pV rfl (fun a hs => y_idxB (size := 19) (off := o1 + i * 19) hs Tryd.underlying32 (by kernel_rfl) rfl rfl (by omega) (by omega) (by simp)) <| pV rfl (fun a hs => y_faddr (k' := o1 + i * 19 + 2) 2 hs (by kernel_rfl) rfl rfl) <| pV rfl (fun a hs => y_loadAgg (vs := [.int .u8 y.f2.f0, .int .i64 y.f2.f1, .string y.f2.f2, .slice A5 y.f2.f3.length c5, .int .i64 y.f2.f4, .int .i64 y.f2.f5]) hs Tryd.underlying24 rfl (by kernel_rfl) rfl (fun w hw k v hk => by rw [Nat.add_assoc]; exact hc1 w hw.base _ v (subL 6 rfl hk))) <| ?_)); clear hs a; intro a hs
    refine a_eff rfl (e_callB Tryd.func28 rfl rfl hs rfl rfl (law_exprText y.f2 A5 c5 _ (Kd.C_below ag5 hs.mem.base) hy0.2.1 (varKeep hs.mem.base hP)) ?_); clear hs a; intro a w hs
    refine go hs (pV rfl (fun a hs => y_not hs rfl) <| pM rfl <| pG rfl (fun a hs => y_move hs rfl) <| pG rfl (fun a hs => y_move hs rfl) <| pG rfl (fun a hs => y_idxB (size := 19) (off := o1 + i * 19) hs Tryd.underlying32 (by kernel_rfl) rfl rfl (by omega) (by omega) (by simp)) <| pG rfl (fun a hs => y_faddr (k' := o1 + i * 19 + 8) 8 hs (by kernel_rfl) rfl rfl) <| pG rfl (fun a hs => y_loadAgg (vs := [.int .u8 y.f3.f0, .string y.f3.f1, .slice A10 y.f3.f2.length c10, .slice A11 y.f3.f3.length c11, .slice A12 y.f3.f4.length c12, .int .i64 y.f3.f5, .int .i64 y.f3.f6]) hs Tryd.underlying41 rfl (by kernel_rfl) rfl (fun w hw k v hk => by rw [Nat.add_assoc]; exact hc1 w hw.base _ v (subL 7 rfl hk))) <| ?_); clear hs a; intro a hs
    refine a_effG hs rfl (e_callB Tryd.func29 rfl rfl hs rfl rfl (law_shapeText y.f3 A10 A11 A12 c10 c11 c12 _ (Kd.C_below ag10 hs.mem.base) (Kd.C_below ag11 hs.mem.base) (Kd.C_below ag12 hs.mem.base) hy0.2.2.1 (varKeep hs.mem.base hP)) ?_); clear hs a; intro a w hs
    refine go hs (pG rfl (fun a hs => y_not hs rfl) <| pF rfl rfl <| ?_); clear hs a; intro a hs
    refine wpList_nil (then_normal ?_)
    refine wp_cond_false (hs.ev rfl) ?_
    refine wp_skip (in_normal (then_normal (wp_region_lit ?_)))
    refine go hs (pM rfl <| pV rfl (fun a hs => y_add hs rfl rfl (by omega)) <| pA rfl <| ?_); clear hs a; intro a hs
    refine wpList_nil (then_normal ?_)
    refine ⟨m - 1, by omega, i + 1, by omega, ?_⟩
    exact (hs.mem_to hs.mem).cut _ ⟨rfl, rfl, trivial⟩
  replace h29 := of_decide_eq_false h29
  refine wp_exit (then_exit (then_exit (in_here (then_normal (wp_seq ?_)))))
  refine wp_region_lit ?_
  refine a_eff rfl (e_callB Tryd.func12 rfl rfl hs rfl rfl (law_anchored _ (varKeep hs.mem.base hP)) ?_); clear hs a; intro a w hs
  refine go hs (pA rfl <| ?_); clear hs a; intro a hs
  refine wpList_nil (then_normal (wp_ret ?_))
  refine fin_ret hs (.tmp (hs.slots _ _ rfl) .nil) ⟨rfl, hs.mem.base⟩
end Go.Proofs.YtibaidddhmdafaaDoor.E
end
