/- What YtibaidddhmdafaaDoorRTreeFresh's proof reaches of its texts, part 16. Conditions: as each says. -/
import Derived.ArgAppend
import Derived.Below
import Derived.BigCall
import Derived.BigQuiet
import Derived.Deep.AppendLies
import Derived.Deep.CutBlock
import Derived.Deep.DeepCutAuto
import Derived.Deep.Draws
import Derived.Deep.LoopGhost
import Derived.Deep.OwnRows
import Derived.Deep.QuietTactic
import Derived.Deep.RegionHeld3
import Derived.Deep.WholeRow
import Derived.KernelRfl
import Derived.Laws.AppendOwn
import Derived.Laws.BitsLemmas
import Derived.Laws.BytesArg
import Derived.Laws.CopyRow
import Derived.Laws.Externs
import Derived.Laws.IdiomCopy
import Derived.Laws.MakeOwn
import Derived.Laws.OwnMore
import Derived.Laws.Rows
import Derived.Laws.Slices
import Derived.Laws.StructEq
import Derived.Laws.Tables
import Derived.Lib.AppendStr
import Derived.Lib.Builder
import Derived.Lib.Bytealg
import Derived.Lib.ConvBytes
import Derived.Lib.ItoaLen
import Derived.Lib.ItoaMem
import Derived.Lib.LaidTab
import Derived.Lib.Strings
import Derived.Lib.Walk
import Derived.Maps.AppendAt
import Derived.OrdersHeld
import Derived.OwnWalk
import Derived.RowKit
import Derived.RowKit3
import Derived.ScopeJumps
import Derived.Shelf.LaysM
import Derived.Shelf.Strconv.Itoa3
import Derived.Shelf.Strings.Builder1
import Derived.Sort.Grow
import Derived.Tactics
import Derived.Test.YtibaidddhmdafaaDoorProg
import Derived.WalkKit
import Derived.WideLaws
import Derived.Test.YtibaidddhmdafaaDoorZTreeFresh5
import Derived.Test.YtibaidddhmdafaaDoorZTreeFresh14
import Derived.Test.YtibaidddhmdafaaDoorZTreeFresh15
section
namespace Go.Proofs.YtibaidddhmdafaaDoor.E
open Go Go.RowKit Go.Proofs.YtibaidddhmdafaaDoorW.PrintWords Go.Proofs.YtibaidddhmdafaaDoorW.PrintLast Go.Proofs.YtibaidddhmdafaaDoorW.PrintMore Go.Proofs.YtibaidddhmdafaaDoor.PA
set_option linter.unusedVariables false
set_option linter.unusedSimpArgs false
abbrev XE := S25
abbrev XT := S94
/-- How many parts an expression of its kind has; none: it may not be. -/
def exprParts (x : XE) : Option Nat :=
  if x.f0 = 1 then (if 0 ≤ x.f1 ∧ x.f1 ≤ 2147483647 ∧ x.f2.size = 0 then some 0 else none)
  else if x.f0 = 2 then (if x.f1 = 0 ∧ nameOk x.f2 = true then some 0 else none)
  else if x.f0 = 3 then (if x.f1 = 0 ∧ x.f2.size = 0 then some 1 else none)
  else if 4 ≤ x.f0 ∧ x.f0 ≤ 8 then (if x.f1 = 0 ∧ x.f2.size = 0 then some 2 else none)
  else none
theorem exprParts_le {x : XE} {p : Nat} (h : exprParts x = some p) : p ≤ 2 := by
  unfold exprParts at h
  repeat' split at h
  all_goals first | (cases h; omega) | cases h
def xexprs (f : XE → Int → Nat × Int) : List XE → Nat → Int → Nat × Int
  | [], d, left => (d + 1, left)
  | p :: ps, d, left => if (f p left).1 = 0 then (0, (f p left).2) else xexprs f ps (max d (f p left).1) (f p left).2
/-- How deep an expression is, so many levels being allowed (0: it may not be), and how many nodes are left behind it. -/
def xexpr : Nat → XE → Int → Nat × Int
  | 0, _, left => (0, left)
  | n + 1, x, left => if left - 1 < 0 then (0, left - 1) else
    match exprParts x with
    | none => (0, left - 1)
    | some p => if x.f3.length = p then xexprs (xexpr n) x.f3 0 (left - 1) else (0, left - 1)
theorem xexprs_le {f : XE → Int → Nat × Int} {k : Nat} (hf : ∀ x l, (f x l).1 ≤ k) : ∀ (ps : List XE) (d : Nat) (left : Int), d ≤ k → (xexprs f ps d left).1 ≤ k + 1
  | [], d, left, h => by rw [xexprs]; show d + 1 ≤ _; omega
  | p :: ps, d, left, h => by
    rw [xexprs]
    split
    · exact Nat.zero_le _
    · exact xexprs_le hf ps _ _ (by have := hf p left; omega)
theorem xexpr_le : ∀ (n : Nat) (x : XE) (left : Int), (xexpr n x left).1 ≤ n
  | 0, _, _ => Nat.le_refl _
  | n + 1, x, left => by
    rw [xexpr]
    split
    · exact Nat.zero_le _
    · split
      · exact Nat.zero_le _
      · split
        · exact xexprs_le (fun y l => xexpr_le n y l) _ _ _ (Nat.zero_le _)
        · exact Nat.zero_le _
/-- How far the nodes that are left may fall. -/
def falls (r : Nat × Int) (l : Int) : Prop := -1 ≤ r.2 ∧ r.2 ≤ l ∧ (r.1 ≠ 0 → 0 ≤ r.2)
theorem xexprs_left {f : XE → Int → Nat × Int} (hf : ∀ x l, 0 ≤ l → falls (f x l) l) : ∀ (ps : List XE) (d : Nat) (left : Int), 0 ≤ left → falls (xexprs f ps d left) left
  | [], d, left, h => ⟨by rw [xexprs]; show -1 ≤ left; omega, Int.le_refl _, fun _ => h⟩
  | p :: ps, d, left, h => by
    obtain ⟨a, b, c⟩ := hf p left h
    rw [xexprs]
    split
    · exact ⟨a, b, fun h => absurd rfl h⟩
    · rename_i h0
      obtain ⟨x, y, z⟩ := xexprs_left hf ps (max d (f p left).1) (f p left).2 (c h0)
      exact ⟨x, by omega, z⟩
theorem xexpr_left : ∀ (n : Nat) (x : XE) (left : Int), 0 ≤ left → falls (xexpr n x left) left
  | 0, _, left, h => ⟨by show -1 ≤ left; omega, Int.le_refl _, fun h => absurd rfl h⟩
  | n + 1, x, left, h => by
    have h0 : falls (0, left - 1) left := ⟨by show -1 ≤ left - 1; omega, by show left - 1 ≤ left; omega, fun h => absurd rfl h⟩
    rw [xexpr]
    split
    · exact h0
    · split
      · exact h0
      · split
        · obtain ⟨a, b, c⟩ := xexprs_left (fun y l h => xexpr_left n y l h) x.f3 0 (left - 1) (by omega)
          exact ⟨a, by omega, c⟩
        · exact h0
/-- The shape of an expression that may be. -/
def shapeX : Nat → XE → Prop
  | 0, _ => False
  | n + 1, x => exprParts x = some x.f3.length ∧ ∀ p ∈ x.f3, shapeX n p
theorem xexprs_all {f : XE → Int → Nat × Int} : ∀ (ps : List XE) (d : Nat) (left : Int), (xexprs f ps d left).1 ≠ 0 → ∀ p ∈ ps, ∃ l, (f p l).1 ≠ 0
  | [], _, _, _, _, hp => absurd hp (by simp)
  | q :: ps, d, left, h, p, hp => by
    rw [xexprs] at h
    split at h
    · exact absurd rfl h
    · rename_i h0
      rcases List.mem_cons.1 hp with rfl | hp
      · exact ⟨left, h0⟩
      · exact xexprs_all ps _ _ h p hp
theorem shape_of : ∀ (n : Nat) (x : XE) (left : Int), (xexpr n x left).1 ≠ 0 → shapeX n x
  | 0, _, _, h => absurd rfl h
  | n + 1, x, left, h => by
    rw [xexpr] at h
    split at h
    · exact absurd rfl h
    · split at h
      · exact absurd rfl h
      · rename_i p hp
        split at h
        · rename_i hl
          refine ⟨by rw [hp, hl], fun q hq => ?_⟩
          obtain ⟨l, hl⟩ := xexprs_all _ _ _ h q hq
          exact shape_of n q l hl
        · exact absurd rfl h
def smallX : Nat → XE → Prop
  | 0, _ => True
  | n + 1, x => x.f2.size ≤ 9223372036854775807 ∧ ∀ p ∈ x.f3, smallX n p
def tk (k : Int) (s : ByteArray) : XT := ⟨k, s, 0, 0, 0⟩
/-- The token of a text: a word, a name or a sign. -/
def sayT (s : ByteArray) : XT := if mayB (tk 2 s) = true then tk 2 s else if mayB (tk 1 s) = true then tk 1 s else tk 4 s
def opS (k : Int) : ByteArray := if k = 4 then ⟨#[43]⟩ else if k = 5 then ⟨#[45]⟩ else if k = 6 then ⟨#[42]⟩ else if k = 7 then ⟨#[47]⟩ else ⟨#[37]⟩
def part (x : XE) (i : Nat) : XE := x.f3.getD i z25
def toksX : Nat → XE → List XT
  | 0, _ => []
  | n + 1, x => if x.f0 = 1 then [⟨3, ⟨#[]⟩, x.f1, 0, 0⟩] else if x.f0 = 2 then [sayT x.f2] else if x.f0 = 3 then sayT ⟨#[45]⟩ :: toksX n (part x 0)
    else sayT ⟨#[40]⟩ :: (toksX n (part x 0) ++ sayT (opS x.f0) :: (toksX n (part x 1) ++ [sayT ⟨#[41]⟩]))
theorem toks_len : ∀ (n : Nat) (x : XE), (toksX n x).length + 3 ≤ 3 * 2 ^ n
  | 0, _ => by simp [toksX]
  | n + 1, x => by
    have h0 := toks_len n (part x 0); have h1 := toks_len n (part x 1)
    have h2 : 2 ^ (n + 1) = 2 * 2 ^ n := by rw [Nat.pow_succ]; omega
    rw [toksX, h2]
    split
    · simp only [List.length_cons, List.length_nil]; omega
    · split
      · simp only [List.length_cons, List.length_nil]; omega
      · split
        · simp only [List.length_cons]; omega
        · simp only [List.length_cons, List.length_append, List.length_nil]; omega
theorem tokC_len (x : XT) : (tokC x).length = 5 := rfl
theorem part_mem {x : XE} {i : Nat} (h : i < x.f3.length) : x.f3[i]? = some (part x i) ∧ part x i ∈ x.f3 := by
  have e : x.f3[i]? = some (part x i) := by
    unfold part
    rw [List.getD_eq_getElem?_getD, List.getElem?_eq_getElem h]; rfl
  exact ⟨e, List.mem_of_getElem? e⟩
theorem sayT_f1 (s : ByteArray) : (sayT s).f1 = s := by unfold sayT; (repeat' split) <;> rfl
theorem parts_kind {x : XE} {p : Nat} (h : exprParts x = some p) : (x.f0 = 1 ∧ p = 0 ∧ 0 ≤ x.f1 ∧ x.f1 ≤ 2147483647) ∨ (x.f0 = 2 ∧ p = 0 ∧ nameOk x.f2 = true) ∨ (x.f0 = 3 ∧ p = 1) ∨ (4 ≤ x.f0 ∧ x.f0 ≤ 8 ∧ p = 2) := by
  unfold exprParts at h
  split at h
  · split at h
    · rename_i h1 h2; cases h; exact .inl ⟨h1, rfl, h2.1, h2.2.1⟩
    · cases h
  · split at h
    · split at h
      · rename_i h1 h2; cases h; exact .inr (.inl ⟨h1, rfl, h2.2⟩)
      · cases h
    · split at h
      · split at h
        · rename_i h1 h2; cases h; exact .inr (.inr (.inl ⟨h1, rfl⟩))
        · cases h
      · split at h
        · split at h
          · rename_i h1 h2; cases h; exact .inr (.inr (.inr ⟨h1.1, h1.2, rfl⟩))
          · cases h
        · cases h
theorem nameOk_size {s : ByteArray} (h : nameOk s = true) : s.size ≤ 16 := by
  unfold nameOk at h
  simp only [Bool.and_eq_true] at h
  exact name_size h.1
theorem opS_size (k : Int) : (opS k).size = 1 := by unfold opS; repeat' split
                                                    all_goals rfl
theorem toks_size : ∀ (n : Nat) (x : XE), shapeX n x → ∀ t ∈ toksX n x, t.f1.size ≤ 9223372036854775807
  | 0, _, h, _, _ => h.elim
  | n + 1, x, h, t, ht => by
    obtain ⟨hp, hq⟩ := h
    have hk := parts_kind hp
    rw [toksX] at ht
    split at ht
    · simp only [List.mem_cons, List.not_mem_nil, or_false] at ht; subst ht; show (⟨#[]⟩ : ByteArray).size ≤ 9223372036854775807; decide
    · split at ht
      · rename_i h2
        simp only [List.mem_cons, List.not_mem_nil, or_false] at ht; subst ht
        rw [sayT_f1]
        rcases hk with h | h | h | h <;> first | (have := nameOk_size h.2.2; omega) | omega
      · split at ht
        · rename_i h3
          rcases List.mem_cons.1 ht with rfl | ht
          · rw [sayT_f1]; decide
          · exact toks_size n _ (hq _ (part_mem (by omega)).2) t ht
        · have hl : x.f3.length = 2 := by omega
          simp only [List.mem_cons, List.mem_append, List.not_mem_nil, or_false] at ht
          rcases ht with rfl | ht | rfl | ht | rfl
          · rw [sayT_f1]; decide
          · exact toks_size n _ (hq _ (part_mem (by omega)).2) t ht
          · rw [sayT_f1, opS_size]; decide
          · exact toks_size n _ (hq _ (part_mem (by omega)).2) t ht
          · rw [sayT_f1]; decide
theorem oneT (l : List XT) : ∀ u ∈ l.flatMap tokC, u.oneCell' = true := by
  intro u hu
  obtain ⟨t, _, h⟩ := List.mem_flatMap.1 hu
  simp only [tokC, List.mem_cons, List.not_mem_nil, or_false] at h
  rcases h with rfl | rfl | rfl | rfl | rfl <;> rfl
theorem tokC_K (w : World) (x : XT) : k94.K w x (tokC x) := k94_mk w x
end Go.Proofs.YtibaidddhmdafaaDoor.E
end
section
namespace Go.Proofs.YtibaidddhmdafaaDoor.E
open Go Go.RowKit Go.Proofs.YtibaidddhmdafaaDoorW.PrintWords Go.Proofs.YtibaidddhmdafaaDoorW.PrintLast Go.Proofs.YtibaidddhmdafaaDoorW.PrintMore Go.Proofs.YtibaidddhmdafaaDoor.PA
set_option linter.unusedVariables false
set_option linter.unusedSimpArgs false
set_option maxRecDepth 100000 in
theorem walk_node (g : Nat) (left : Int) (hl : 0 ≤ left ∧ left ≤ 8192) (bs : List Res) (w0 w : World) (h : H w0 (pt g #[.int .i64 (left)] 102 :: bs) w) :
    Calls Tryd.prog 74 #[.pointer (some ⟨g, 0, none⟩)] w fun e w' => e = .returned (.bool (decide (left - 1 ≥ 0))) ∧ H w0 (pt g #[.int .i64 (left - 1)] 102 :: bs) w' := by
  refine calls_enter (N := 15) (n := 14) (args := [.pointer (some ⟨g, 0, none⟩)]) Tryd.func74 rfl rfl rfl (h) (fun a hs => ?_)
  refine wp_seq (wp_region_lit ?_)
  refine go hs (pA rfl <| ?_); clear hs a; intro a hs
  refine wpList_nil (then_normal (wp_seq ?_))
  refine wp_region_lit (go hs (pM rfl <| pV rfl (fun a hs => y_nilchk hs rfl) <| pV rfl (fun a hs => y_faddr (k' := 0) 0 hs (by kernel_rfl) rfl rfl) <| pV rfl (fun a hs => y_load hs Tryd.underlying3 rfl rfl (fun w hw => (hw.to 0 rfl).cellV rfl)) <| pV rfl (fun a hs => y_sub hs rfl rfl (by omega)) <| pV rfl (fun a hs => y_nilchk hs rfl) <| pV rfl (fun a hs => y_faddr (k' := 0) 0 hs (by kernel_rfl) rfl rfl) <| ?_)); clear hs a; intro a hs
  refine a_eff rfl (e_store (cl := [_]) 0 rfl hs rfl rfl (by kernel_rfl) rfl rfl rfl ?_); clear hs a; intro a w hs
  refine wpList_nil (then_normal (wp_seq ?_))
  refine wp_region_lit (go hs (pM rfl <| pV rfl (fun a hs => y_nilchk hs rfl) <| pV rfl (fun a hs => y_faddr (k' := 0) 0 hs (by kernel_rfl) rfl rfl) <| pV rfl (fun a hs => y_load hs Tryd.underlying3 rfl rfl (fun w hw => (hw.to 0 rfl).cellV rfl)) <| pV rfl (fun a hs => y_cmp hs rfl rfl rfl) <| pA rfl <| ?_)); clear hs a; intro a hs
  refine wpList_nil (then_normal (wp_ret ?_))
  refine fin_ret hs (.tmp (hs.slots _ _ rfl) .nil) ⟨rfl, hs.mem⟩
theorem tnamed_ok (s : ByteArray) (hs : s.size ≤ 9223372036854775807) : tree_named.f (s.size + 3) s = some (nameOk s) := by
  unfold tree_named.f
  rw [may_name s hs]; rfl
/-- What the walk over expressions does, so many levels being allowed. -/
def WalkOk (n : Nat) : Prop := ∀ (x : XE) (A : Option Addr) (C g : Nat) (left : Int) (bs : List Res) (w0 w : World), Kd.C k25 w0 A x.f3.length x.f3 → smallX n x → 0 ≤ left ∧ left ≤ 8192 → H w0 (pt g #[.int .i64 (left)] 102 :: bs) w →
    Calls Tryd.prog 44 #[.pointer (some ⟨g, 0, none⟩), .agg #[.int .u8 x.f0, .int .i64 x.f1, .string x.f2, .slice A x.f3.length C, .int .i64 x.f4, .int .i64 x.f5], .int .i64 ((n : Nat) : Int)] w fun e w' => e = .returned (.int .i64 (((xexpr n x left).1 : Nat) : Int)) ∧ H w0 (pt g #[.int .i64 ((xexpr n x left).2)] 102 :: bs) w'
set_option maxRecDepth 100000 in
theorem walk_expr_step (n : Nat) (hn : n ≤ 1000) (ih : ∀ q, q + 1 = n → WalkOk q) (x : XE) (A : Option Addr) (C g : Nat) (left : Int) (bs : List Res) (w0 w : World) (hA : Kd.C k25 w0 A x.f3.length x.f3) (hsm : smallX n x) (hl : 0 ≤ left ∧ left ≤ 8192) (h : H w0 (pt g #[.int .i64 (left)] 102 :: bs) w) :
    Calls Tryd.prog 44 #[.pointer (some ⟨g, 0, none⟩), .agg #[.int .u8 x.f0, .int .i64 x.f1, .string x.f2, .slice A x.f3.length C, .int .i64 x.f4, .int .i64 x.f5], .int .i64 ((n : Nat) : Int)] w fun e w' => e = .returned (.int .i64 (((xexpr n x left).1 : Nat) : Int)) ∧ H w0 (pt g #[.int .i64 ((xexpr n x left).2)] 102 :: bs) w' := by
  refine calls_enter (N := 92) (n := 89) (args := [.pointer (some ⟨g, 0, none⟩), .agg #[.int .u8 x.f0, .int .i64 x.f1, .string x.f2, .slice A x.f3.length C, .int .i64 x.f4, .int .i64 x.f5], .int .i64 ((n : Nat) : Int)]) Tryd.func44 rfl rfl rfl (h) (fun a hs => ?_)
  refine wp_seq (wp_region_lit ?_)
  refine a_eff rfl (e_box (cs := #[_, _, _, _, _, _]) hs rfl rfl rfl ?_); clear hs a; intro gx a w hs
  refine go hs (pA rfl <| ?_); clear hs a; intro a hs
  refine wpList_nil (then_normal (wp_seq ?_))
  refine wp_seq (wp_region_lit ?_)
  refine go hs (pM rfl <| pV rfl (fun a hs => y_cmp hs rfl rfl rfl) <| pM rfl <| ?_); clear hs a; intro a hs
  rcases hs.know (d := 14) rfl with ⟨h14, hs1⟩ | ⟨h14, hs1⟩ <;> replace hs := hs1 <;> clear hs1
  · replace h14 := eq_of_beq h14
    refine go hs (pS rfl <| pS rfl <| pS rfl <| pT rfl rfl <| ?_); clear hs a; intro a hs
    refine wpList_nil (then_normal ?_)
    refine wp_cond_true (hs.ev rfl) ?_
    refine wp_seq (wp_region_lit ?_)
    refine go hs (pA rfl <| ?_); clear hs a; intro a hs
    refine wpList_nil (then_normal (wp_ret (then_ret ?_)))
    obtain rfl : n = 0 := by omega
    have hX : xexpr 0 x left = (0, left) := rfl
    refine fin_ret hs (.tmp (hs.slots _ _ rfl) .nil) ⟨?_, ?_⟩
    · rw [hX]; rfl
    rw [hX]; exact (hs.mem.to 0 rfl).drop
  replace h14 := ne_of_beq_false h14
  obtain ⟨q, rfl⟩ : ∃ q, n = q + 1 := ⟨n - 1, by omega⟩
  refine go hs (pG rfl (fun a hs => y_move hs rfl) <| ?_); clear hs a; intro a hs
  refine a_effG hs rfl (e_callX Tryd.func74 rfl rfl hs rfl rfl (walk_node g left hl _ w0 _ (hs.mem.to 1 rfl)) (fun e w1 ⟨he, hm⟩ => ⟨_, he, _, hm, ?_⟩)); clear hs a; intro a hs
  refine go hs (pG rfl (fun a hs => y_not hs rfl) <| pF rfl rfl <| ?_); clear hs a; intro a hs
  refine wpList_nil (then_normal ?_)
  refine wp_cond_split (hs.ev rfl) (fun h18 => ?_) (fun h18 => ?_)
  · replace h18 := of_decide_eq_false (not_t h18)
    refine wp_seq (wp_region_lit ?_)
    refine go hs (pA rfl <| ?_); clear hs a; intro a hs
    refine wpList_nil (then_normal (wp_ret (then_ret ?_)))
    have hX : xexpr (q + 1) x left = (0, left - 1) := by rw [xexpr, if_pos (by omega)]
    refine fin_ret hs (.tmp (hs.slots _ _ rfl) .nil) ⟨?_, ?_⟩
    · rw [hX]; rfl
    rw [hX]; exact (hs.mem.to 1 rfl).drop
  replace h18 := of_decide_eq_true (not_f h18)
  refine wp_skip (then_normal (wp_seq ?_))
  refine wp_region_lit (go hs (pA rfl <| ?_)); clear hs a; intro a hs
  refine wpList_nil (then_normal ?_)
  refine wp_seq_cut (fun a w1 => ∃ (p : Nat), (exprParts x = some p) ∧ St 92 w0 [(0, .pointer (some ⟨g, 0, none⟩)), (2, .int .i64 ((q + 1 : Nat) : Int)), (4, .pointer (some ⟨gx, 0, none⟩)), (7, .int .i64 ((p : Nat) : Int))] (pt gx #[.int .u8 x.f0, .int .i64 x.f1, .string x.f2, .slice A x.f3.length C, .int .i64 x.f4, .int .i64 x.f5] 25 :: pt g #[.int .i64 (left - 1)] 102 :: bs) a w1) ?_ (fun a w1 hJ => ?_)
  · refine wp_seq (wp_region_lit ?_)
    refine go hs (pV rfl (fun a hs => y_faddr (k' := 0) 0 hs (by kernel_rfl) rfl rfl) <| pV rfl (fun a hs => y_load hs Tryd.underlying22 rfl rfl (fun w hw => (hw.to 1 rfl).cellV rfl)) <| ?_); clear hs a; intro a hs
    refine wpList_nil (then_normal (wp_block ?_))
    refine wp_seq (wp_block ?_)
    refine wp_seq (wp_block ?_)
    refine wp_seq (wp_block ?_)
    refine wp_seq (wp_block ?_)
    refine wp_seq (wp_block ?_)
    refine wp_seq (wp_seq ?_)
    refine wp_seq (wp_region_lit ?_)
    refine go hs (pV rfl (fun a hs => y_cmp hs rfl rfl rfl) <| pA rfl <| ?_); clear hs a; intro a hs
    refine wpList_nil (then_normal ?_)
    refine wp_cond_split (hs.ev rfl) (fun h21 => ?_) (fun h21 => ?_)
    · replace h21 := eq_of_beq h21
      refine wp_exit (then_exit (then_exit (in_here (then_normal (wp_seq ?_)))))
      refine wp_seq (wp_region_lit ?_)
      refine go hs (pV rfl (fun a hs => y_faddr (k' := 1) 1 hs (by kernel_rfl) rfl rfl) <| pV rfl (fun a hs => y_load hs Tryd.underlying3 rfl rfl (fun w hw => (hw.to 1 rfl).cellV rfl)) <| pV rfl (fun a hs => y_cmp hs rfl rfl rfl) <| pM rfl <| ?_); clear hs a; intro a hs
      rcases hs.know (d := 36) rfl with ⟨h36, hs1⟩ | ⟨h36, hs1⟩ <;> replace hs := hs1 <;> clear hs1
      · replace h36 := of_decide_eq_true h36
        refine go hs (pS rfl <| pS rfl <| pS rfl <| pT rfl rfl <| pM rfl <| pS rfl <| pS rfl <| pS rfl <| pT rfl rfl <| ?_); clear hs a; intro a hs
        refine wpList_nil (then_normal ?_)
        refine wp_cond_true (hs.ev rfl) ?_
        refine wp_seq (wp_region_lit ?_)
        refine go hs (pA rfl <| ?_); clear hs a; intro a hs
        refine wpList_nil (then_normal (wp_ret (then_ret (in_ret (then_ret (in_ret (then_ret (in_ret (then_ret (in_ret (then_ret (in_ret (then_ret ?_)))))))))))))
        have hE : exprParts x = none := by
          clear hs
          unfold exprParts
          repeat' split
          all_goals first | rfl | (exfalso; omega) | (rename_i hc; exfalso; omega) | (rename_i hc; exact absurd hc.2 (by assumption)) | (rename_i hc; rw [hc.2] at h54; cases h54)
        have hX : xexpr (q + 1) x left = (0, left - 1) := by rw [xexpr, if_neg (by omega), hE]
        refine fin_ret hs (.tmp (hs.slots _ _ rfl) .nil) ⟨?_, ?_⟩
        · rw [hX]; rfl
        rw [hX]; exact (hs.mem.to 1 rfl).drop
      replace h36 := of_decide_eq_false h36
      refine go hs (pG rfl (fun a hs => y_faddr (k' := 1) 1 hs (by kernel_rfl) rfl rfl) <| pG rfl (fun a hs => y_load hs Tryd.underlying3 rfl rfl (fun w hw => (hw.to 1 rfl).cellV rfl)) <| pG rfl (fun a hs => y_cmp hs rfl rfl rfl) <| pF rfl rfl <| pM rfl <| ?_); clear hs a; intro a hs
      rcases hs.know (d := 41) rfl with ⟨h41, hs1⟩ | ⟨h41, hs1⟩ <;> replace hs := hs1 <;> clear hs1
      · replace h41 := of_decide_eq_true h41
        refine go hs (pS rfl <| pS rfl <| pS rfl <| pT rfl rfl <| ?_); clear hs a; intro a hs
        refine wpList_nil (then_normal ?_)
        refine wp_cond_true (hs.ev rfl) ?_
        refine wp_seq (wp_region_lit ?_)
        refine go hs (pA rfl <| ?_); clear hs a; intro a hs
        refine wpList_nil (then_normal (wp_ret (then_ret (in_ret (then_ret (in_ret (then_ret (in_ret (then_ret (in_ret (then_ret (in_ret (then_ret ?_)))))))))))))
        have hE : exprParts x = none := by
          clear hs
          unfold exprParts
          repeat' split
          all_goals first | rfl | (exfalso; omega) | (rename_i hc; exfalso; omega) | (rename_i hc; exact absurd hc.2 (by assumption)) | (rename_i hc; rw [hc.2] at h54; cases h54)
        have hX : xexpr (q + 1) x left = (0, left - 1) := by rw [xexpr, if_neg (by omega), hE]
        refine fin_ret hs (.tmp (hs.slots _ _ rfl) .nil) ⟨?_, ?_⟩
        · rw [hX]; rfl
        rw [hX]; exact (hs.mem.to 1 rfl).drop
      replace h41 := of_decide_eq_false h41
      refine go hs (pG rfl (fun a hs => y_faddr (k' := 2) 2 hs (by kernel_rfl) rfl rfl) <| pG rfl (fun a hs => y_load hs Tryd.underlying9 rfl rfl (fun w hw => (hw.to 1 rfl).cellV rfl)) <| pG rfl (fun a hs => y_sneE hs rfl rfl) <| pF rfl rfl <| ?_); clear hs a; intro a hs
      refine wpList_nil (then_normal ?_)
      refine wp_cond_split (hs.ev rfl) (fun h45 => ?_) (fun h45 => ?_)
      · replace h45 := of_decide_eq_true h45
        refine wp_seq (wp_region_lit ?_)
        refine go hs (pA rfl <| ?_); clear hs a; intro a hs
        refine wpList_nil (then_normal (wp_ret (then_ret (in_ret (then_ret (in_ret (then_ret (in_ret (then_ret (in_ret (then_ret (in_ret (then_ret ?_)))))))))))))
        have hE : exprParts x = none := by
          clear hs
          unfold exprParts
          repeat' split
          all_goals first | rfl | (exfalso; omega) | (rename_i hc; exfalso; omega) | (rename_i hc; exact absurd hc.2 (by assumption)) | (rename_i hc; rw [hc.2] at h54; cases h54)
        have hX : xexpr (q + 1) x left = (0, left - 1) := by rw [xexpr, if_neg (by omega), hE]
        refine fin_ret hs (.tmp (hs.slots _ _ rfl) .nil) ⟨?_, ?_⟩
        · rw [hX]; rfl
        rw [hX]; exact (hs.mem.to 1 rfl).drop
      replace h45 := of_decide_eq_false h45
      refine wp_skip (then_normal (wp_exit (in_other rfl (then_exit (in_other rfl (then_exit (in_other rfl (then_exit (in_other rfl (then_exit (in_here (then_normal ?_))))))))))))
      refine ⟨0, by clear hs; unfold exprParts; (repeat' split) <;> first | rfl | (exfalso; omega) | (rename_i hc; exfalso; omega) | (rename_i hc; exact absurd ⟨by omega, by assumption⟩ hc), ?_⟩
      exact (hs.mem_to (hs.mem.to 1 rfl)).cut _ ⟨rfl, rfl, rfl, rfl, trivial⟩
    replace h21 := ne_of_beq_false h21
    refine wp_skip (then_normal (wp_seq ?_))
    refine wp_seq (wp_region_lit ?_)
    refine go hs (pV rfl (fun a hs => y_cmp hs rfl rfl rfl) <| pA rfl <| ?_); clear hs a; intro a hs
    refine wpList_nil (then_normal ?_)
    refine wp_cond_split (hs.ev rfl) (fun h23 => ?_) (fun h23 => ?_)
    · replace h23 := eq_of_beq h23
      refine wp_exit (then_exit (then_exit (in_other rfl (then_exit (in_here (then_normal (wp_seq ?_)))))))
      refine wp_seq (wp_region_lit ?_)
      refine go hs (pV rfl (fun a hs => y_faddr (k' := 1) 1 hs (by kernel_rfl) rfl rfl) <| pV rfl (fun a hs => y_load hs Tryd.underlying3 rfl rfl (fun w hw => (hw.to 1 rfl).cellV rfl)) <| pV rfl (fun a hs => y_cmp hs rfl rfl rfl) <| pM rfl <| ?_); clear hs a; intro a hs
      rcases hs.know (d := 49) rfl with ⟨h49, hs1⟩ | ⟨h49, hs1⟩ <;> replace hs := hs1 <;> clear hs1
      · replace h49 := bne_iff_ne.1 h49
        refine go hs (pS rfl <| pS rfl <| pS rfl <| pS rfl <| pT rfl rfl <| ?_); clear hs a; intro a hs
        refine wpList_nil (then_normal ?_)
        refine wp_cond_true (hs.ev rfl) ?_
        refine wp_seq (wp_region_lit ?_)
        refine go hs (pA rfl <| ?_); clear hs a; intro a hs
        refine wpList_nil (then_normal (wp_ret (then_ret (in_ret (then_ret (in_ret (then_ret (in_ret (then_ret (in_ret (then_ret ?_)))))))))))
        have hE : exprParts x = none := by
          clear hs
          unfold exprParts
          repeat' split
          all_goals first | rfl | (exfalso; omega) | (rename_i hc; exfalso; omega) | (rename_i hc; exact absurd hc.2 (by assumption)) | (rename_i hc; rw [hc.2] at h54; cases h54)
        have hX : xexpr (q + 1) x left = (0, left - 1) := by rw [xexpr, if_neg (by omega), hE]
        refine fin_ret hs (.tmp (hs.slots _ _ rfl) .nil) ⟨?_, ?_⟩
        · rw [hX]; rfl
        rw [hX]; exact (hs.mem.to 1 rfl).drop
      replace h49 := bne_eq_false_iff_eq.1 h49
      refine go hs (pG rfl (fun a hs => y_faddr (k' := 2) 2 hs (by kernel_rfl) rfl rfl) <| pG rfl (fun a hs => y_load hs Tryd.underlying9 rfl rfl (fun w hw => (hw.to 1 rfl).cellV rfl)) <| ?_); clear hs a; intro a hs
      refine a_effG hs rfl (e_callB Tryd.func75 rfl rfl hs rfl rfl (tree_named.calls _ x.f2 (nameOk x.f2) _ (tnamed_ok x.f2 hsm.1)) ?_); clear hs a; intro a w hs
      refine go hs (pG rfl (fun a hs => y_not hs rfl) <| pF rfl rfl <| ?_); clear hs a; intro a hs
      refine wpList_nil (then_normal ?_)
      refine wp_cond_split (hs.ev rfl) (fun h54 => ?_) (fun h54 => ?_)
      · replace h54 := (not_t h54)
        refine wp_seq (wp_region_lit ?_)
        refine go hs (pA rfl <| ?_); clear hs a; intro a hs
        refine wpList_nil (then_normal (wp_ret (then_ret (in_ret (then_ret (in_ret (then_ret (in_ret (then_ret (in_ret (then_ret ?_)))))))))))
        have hE : exprParts x = none := by
          clear hs
          unfold exprParts
          repeat' split
          all_goals first | rfl | (exfalso; omega) | (rename_i hc; exfalso; omega) | (rename_i hc; exact absurd hc.2 (by assumption)) | (rename_i hc; rw [hc.2] at h54; cases h54)
        have hX : xexpr (q + 1) x left = (0, left - 1) := by rw [xexpr, if_neg (by omega), hE]
        refine fin_ret hs (.tmp (hs.slots _ _ rfl) .nil) ⟨?_, ?_⟩
        · rw [hX]; rfl
        rw [hX]; exact (hs.mem.to 1 rfl).drop
      replace h54 := (not_f h54)
      refine wp_skip (then_normal (wp_exit (in_other rfl (then_exit (in_other rfl (then_exit (in_other rfl (then_exit (in_here (then_normal ?_))))))))))
      refine ⟨0, by clear hs; unfold exprParts; (repeat' split) <;> first | rfl | (exfalso; omega) | (rename_i hc; exfalso; omega) | (rename_i hc; exact absurd ⟨by omega, by assumption⟩ hc), ?_⟩
      exact (hs.mem_to (hs.mem.to 1 rfl)).cut _ ⟨rfl, rfl, rfl, rfl, trivial⟩
    replace h23 := ne_of_beq_false h23
    refine wp_skip (then_normal (wp_seq ?_))
    refine wp_seq (wp_seq ?_)
    refine wp_region_lit (go hs (pV rfl (fun a hs => y_cmp hs rfl rfl rfl) <| pA rfl <| ?_)); clear hs a; intro a hs
    refine wpList_nil (then_normal ?_)
    refine wp_cond_split (hs.ev rfl) (fun h25 => ?_) (fun h25 => ?_)
    · replace h25 := eq_of_beq h25
      replace hs := hs.say 25 rfl (congrArg Value.bool (beq_iff_eq.2 h25))
      refine wp_skip (then_normal ?_)
      refine wp_cond_true (hs.ev rfl) ?_
      refine wp_exit (then_exit (then_exit (in_other rfl (then_exit (in_other rfl (then_exit (in_here (then_normal (wp_region_lit ?_)))))))))
      refine go hs (pM rfl <| pV rfl (fun a hs => y_add hs rfl rfl (by omega)) <| pA rfl <| ?_); clear hs a; intro a hs
      refine wpList_nil (in_normal (then_normal (wp_seq ?_)))
      refine wp_seq (wp_region_lit ?_)
      refine go hs (pM rfl <| pV rfl (fun a hs => y_add hs rfl rfl (by omega)) <| pA rfl <| ?_); clear hs a; intro a hs
      refine wpList_nil (then_normal (wp_seq ?_))
      refine wp_region_lit (go hs (pV rfl (fun a hs => y_faddr (k' := 1) 1 hs (by kernel_rfl) rfl rfl) <| pV rfl (fun a hs => y_load hs Tryd.underlying3 rfl rfl (fun w hw => (hw.to 1 rfl).cellV rfl)) <| pV rfl (fun a hs => y_cmp hs rfl rfl rfl) <| pM rfl <| ?_)); clear hs a; intro a hs
      rcases hs.know (d := 62) rfl with ⟨h62, hs1⟩ | ⟨h62, hs1⟩ <;> replace hs := hs1 <;> clear hs1
      · replace h62 := bne_iff_ne.1 h62
        refine go hs (pS rfl <| pS rfl <| pS rfl <| pT rfl rfl <| ?_); clear hs a; intro a hs
        refine wpList_nil (then_normal ?_)
        refine wp_cond_true (hs.ev rfl) ?_
        refine wp_seq (wp_region_lit ?_)
        refine go hs (pA rfl <| ?_); clear hs a; intro a hs
        refine wpList_nil (then_normal (wp_ret (then_ret (in_ret (then_ret (in_ret (then_ret ?_)))))))
        have hE : exprParts x = none := by
          clear hs
          unfold exprParts
          repeat' split
          all_goals first | rfl | (exfalso; omega) | (rename_i hc; exfalso; omega) | (rename_i hc; exact absurd hc.2 (by assumption)) | (rename_i hc; rw [hc.2] at h54; cases h54)
        have hX : xexpr (q + 1) x left = (0, left - 1) := by rw [xexpr, if_neg (by omega), hE]
        refine fin_ret hs (.tmp (hs.slots _ _ rfl) .nil) ⟨?_, ?_⟩
        · rw [hX]; rfl
        rw [hX]; exact (hs.mem.to 1 rfl).drop
      replace h62 := bne_eq_false_iff_eq.1 h62
      refine go hs (pG rfl (fun a hs => y_faddr (k' := 2) 2 hs (by kernel_rfl) rfl rfl) <| pG rfl (fun a hs => y_load hs Tryd.underlying9 rfl rfl (fun w hw => (hw.to 1 rfl).cellV rfl)) <| pG rfl (fun a hs => y_sneE hs rfl rfl) <| pF rfl rfl <| ?_); clear hs a; intro a hs
      refine wpList_nil (then_normal ?_)
      refine wp_cond_split (hs.ev rfl) (fun h66 => ?_) (fun h66 => ?_)
      · replace h66 := of_decide_eq_true h66
        refine wp_seq (wp_region_lit ?_)
        refine go hs (pA rfl <| ?_); clear hs a; intro a hs
        refine wpList_nil (then_normal (wp_ret (then_ret (in_ret (then_ret (in_ret (then_ret ?_)))))))
        have hE : exprParts x = none := by
          clear hs
          unfold exprParts
          repeat' split
          all_goals first | rfl | (exfalso; omega) | (rename_i hc; exfalso; omega) | (rename_i hc; exact absurd hc.2 (by assumption)) | (rename_i hc; rw [hc.2] at h54; cases h54)
        have hX : xexpr (q + 1) x left = (0, left - 1) := by rw [xexpr, if_neg (by omega), hE]
        refine fin_ret hs (.tmp (hs.slots _ _ rfl) .nil) ⟨?_, ?_⟩
        · rw [hX]; rfl
        rw [hX]; exact (hs.mem.to 1 rfl).drop
      replace h66 := of_decide_eq_false h66
      refine wp_skip (then_normal (wp_exit (in_other rfl (then_exit (in_here (then_normal ?_))))))
      refine ⟨2, by clear hs; unfold exprParts; (repeat' split) <;> first | rfl | (exfalso; omega) | (rename_i hc; exfalso; omega) | (rename_i hc; exact absurd ⟨by omega, by assumption⟩ hc), ?_⟩
      exact (hs.mem_to (hs.mem.to 1 rfl)).cut _ ⟨rfl, rfl, rfl, rfl, trivial⟩
    replace h25 := ne_of_beq_false h25
    replace hs := hs.say 25 rfl (congrArg Value.bool (beq_eq_false_iff_ne.2 h25))
    refine wp_seq (wp_region_lit ?_)
    refine go hs (pV rfl (fun a hs => y_cmp hs rfl rfl rfl) <| pA rfl <| ?_); clear hs a; intro a hs
    refine wpList_nil (then_normal ?_)
    refine wp_cond_split (hs.ev rfl) (fun h25 => ?_) (fun h25 => ?_)
    · replace h25 := eq_of_beq h25
      replace hs := hs.say 25 rfl (congrArg Value.bool (beq_iff_eq.2 h25))
      refine wp_skip (then_normal ?_)
      refine wp_cond_true (hs.ev rfl) ?_
      refine wp_exit (then_exit (then_exit (in_other rfl (then_exit (in_other rfl (then_exit (in_here (then_normal (wp_region_lit ?_)))))))))
      refine go hs (pM rfl <| pV rfl (fun a hs => y_add hs rfl rfl (by omega)) <| pA rfl <| ?_); clear hs a; intro a hs
      refine wpList_nil (in_normal (then_normal (wp_seq ?_)))
      refine wp_seq (wp_region_lit ?_)
      refine go hs (pM rfl <| pV rfl (fun a hs => y_add hs rfl rfl (by omega)) <| pA rfl <| ?_); clear hs a; intro a hs
      refine wpList_nil (then_normal (wp_seq ?_))
      refine wp_region_lit (go hs (pV rfl (fun a hs => y_faddr (k' := 1) 1 hs (by kernel_rfl) rfl rfl) <| pV rfl (fun a hs => y_load hs Tryd.underlying3 rfl rfl (fun w hw => (hw.to 1 rfl).cellV rfl)) <| pV rfl (fun a hs => y_cmp hs rfl rfl rfl) <| pM rfl <| ?_)); clear hs a; intro a hs
      rcases hs.know (d := 62) rfl with ⟨h62, hs1⟩ | ⟨h62, hs1⟩ <;> replace hs := hs1 <;> clear hs1
      · replace h62 := bne_iff_ne.1 h62
        refine go hs (pS rfl <| pS rfl <| pS rfl <| pT rfl rfl <| ?_); clear hs a; intro a hs
        refine wpList_nil (then_normal ?_)
        refine wp_cond_true (hs.ev rfl) ?_
        refine wp_seq (wp_region_lit ?_)
        refine go hs (pA rfl <| ?_); clear hs a; intro a hs
        refine wpList_nil (then_normal (wp_ret (then_ret (in_ret (then_ret (in_ret (then_ret ?_)))))))
        have hE : exprParts x = none := by
          clear hs
          unfold exprParts
          repeat' split
          all_goals first | rfl | (exfalso; omega) | (rename_i hc; exfalso; omega) | (rename_i hc; exact absurd hc.2 (by assumption)) | (rename_i hc; rw [hc.2] at h54; cases h54)
        have hX : xexpr (q + 1) x left = (0, left - 1) := by rw [xexpr, if_neg (by omega), hE]
        refine fin_ret hs (.tmp (hs.slots _ _ rfl) .nil) ⟨?_, ?_⟩
        · rw [hX]; rfl
        rw [hX]; exact (hs.mem.to 1 rfl).drop
      replace h62 := bne_eq_false_iff_eq.1 h62
      refine go hs (pG rfl (fun a hs => y_faddr (k' := 2) 2 hs (by kernel_rfl) rfl rfl) <| pG rfl (fun a hs => y_load hs Tryd.underlying9 rfl rfl (fun w hw => (hw.to 1 rfl).cellV rfl)) <| pG rfl (fun a hs => y_sneE hs rfl rfl) <| pF rfl rfl <| ?_); clear hs a; intro a hs
      refine wpList_nil (then_normal ?_)
      refine wp_cond_split (hs.ev rfl) (fun h66 => ?_) (fun h66 => ?_)
      · replace h66 := of_decide_eq_true h66
        refine wp_seq (wp_region_lit ?_)
        refine go hs (pA rfl <| ?_); clear hs a; intro a hs
        refine wpList_nil (then_normal (wp_ret (then_ret (in_ret (then_ret (in_ret (then_ret ?_)))))))
        have hE : exprParts x = none := by
          clear hs
          unfold exprParts
          repeat' split
          all_goals first | rfl | (exfalso; omega) | (rename_i hc; exfalso; omega) | (rename_i hc; exact absurd hc.2 (by assumption)) | (rename_i hc; rw [hc.2] at h54; cases h54)
        have hX : xexpr (q + 1) x left = (0, left - 1) := by rw [xexpr, if_neg (by omega), hE]
        refine fin_ret hs (.tmp (hs.slots _ _ rfl) .nil) ⟨?_, ?_⟩
        · rw [hX]; rfl
        rw [hX]; exact (hs.mem.to 1 rfl).drop
      replace h66 := of_decide_eq_false h66
      refine wp_skip (then_normal (wp_exit (in_other rfl (then_exit (in_here (then_normal ?_))))))
      refine ⟨2, by clear hs; unfold exprParts; (repeat' split) <;> first | rfl | (exfalso; omega) | (rename_i hc; exfalso; omega) | (rename_i hc; exact absurd ⟨by omega, by assumption⟩ hc), ?_⟩
      exact (hs.mem_to (hs.mem.to 1 rfl)).cut _ ⟨rfl, rfl, rfl, rfl, trivial⟩
    replace h25 := ne_of_beq_false h25
    replace hs := hs.say 25 rfl (congrArg Value.bool (beq_eq_false_iff_ne.2 h25))
    refine wp_seq (wp_region_lit ?_)
    refine go hs (pV rfl (fun a hs => y_cmp hs rfl rfl rfl) <| pA rfl <| ?_); clear hs a; intro a hs
    refine wpList_nil (then_normal ?_)
    refine wp_cond_split (hs.ev rfl) (fun h25 => ?_) (fun h25 => ?_)
    · replace h25 := eq_of_beq h25
      replace hs := hs.say 25 rfl (congrArg Value.bool (beq_iff_eq.2 h25))
      refine wp_skip (then_normal ?_)
      refine wp_cond_true (hs.ev rfl) ?_
      refine wp_exit (then_exit (then_exit (in_other rfl (then_exit (in_other rfl (then_exit (in_here (then_normal (wp_region_lit ?_)))))))))
      refine go hs (pM rfl <| pV rfl (fun a hs => y_add hs rfl rfl (by omega)) <| pA rfl <| ?_); clear hs a; intro a hs
      refine wpList_nil (in_normal (then_normal (wp_seq ?_)))
      refine wp_seq (wp_region_lit ?_)
      refine go hs (pM rfl <| pV rfl (fun a hs => y_add hs rfl rfl (by omega)) <| pA rfl <| ?_); clear hs a; intro a hs
      refine wpList_nil (then_normal (wp_seq ?_))
      refine wp_region_lit (go hs (pV rfl (fun a hs => y_faddr (k' := 1) 1 hs (by kernel_rfl) rfl rfl) <| pV rfl (fun a hs => y_load hs Tryd.underlying3 rfl rfl (fun w hw => (hw.to 1 rfl).cellV rfl)) <| pV rfl (fun a hs => y_cmp hs rfl rfl rfl) <| pM rfl <| ?_)); clear hs a; intro a hs
      rcases hs.know (d := 62) rfl with ⟨h62, hs1⟩ | ⟨h62, hs1⟩ <;> replace hs := hs1 <;> clear hs1
      · replace h62 := bne_iff_ne.1 h62
        refine go hs (pS rfl <| pS rfl <| pS rfl <| pT rfl rfl <| ?_); clear hs a; intro a hs
        refine wpList_nil (then_normal ?_)
        refine wp_cond_true (hs.ev rfl) ?_
        refine wp_seq (wp_region_lit ?_)
        refine go hs (pA rfl <| ?_); clear hs a; intro a hs
        refine wpList_nil (then_normal (wp_ret (then_ret (in_ret (then_ret (in_ret (then_ret ?_)))))))
        have hE : exprParts x = none := by
          clear hs
          unfold exprParts
          repeat' split
          all_goals first | rfl | (exfalso; omega) | (rename_i hc; exfalso; omega) | (rename_i hc; exact absurd hc.2 (by assumption)) | (rename_i hc; rw [hc.2] at h54; cases h54)
        have hX : xexpr (q + 1) x left = (0, left - 1) := by rw [xexpr, if_neg (by omega), hE]
        refine fin_ret hs (.tmp (hs.slots _ _ rfl) .nil) ⟨?_, ?_⟩
        · rw [hX]; rfl
        rw [hX]; exact (hs.mem.to 1 rfl).drop
      replace h62 := bne_eq_false_iff_eq.1 h62
      refine go hs (pG rfl (fun a hs => y_faddr (k' := 2) 2 hs (by kernel_rfl) rfl rfl) <| pG rfl (fun a hs => y_load hs Tryd.underlying9 rfl rfl (fun w hw => (hw.to 1 rfl).cellV rfl)) <| pG rfl (fun a hs => y_sneE hs rfl rfl) <| pF rfl rfl <| ?_); clear hs a; intro a hs
      refine wpList_nil (then_normal ?_)
      refine wp_cond_split (hs.ev rfl) (fun h66 => ?_) (fun h66 => ?_)
      · replace h66 := of_decide_eq_true h66
        refine wp_seq (wp_region_lit ?_)
        refine go hs (pA rfl <| ?_); clear hs a; intro a hs
        refine wpList_nil (then_normal (wp_ret (then_ret (in_ret (then_ret (in_ret (then_ret ?_)))))))
        have hE : exprParts x = none := by
          clear hs
          unfold exprParts
          repeat' split
          all_goals first | rfl | (exfalso; omega) | (rename_i hc; exfalso; omega) | (rename_i hc; exact absurd hc.2 (by assumption)) | (rename_i hc; rw [hc.2] at h54; cases h54)
        have hX : xexpr (q + 1) x left = (0, left - 1) := by rw [xexpr, if_neg (by omega), hE]
        refine fin_ret hs (.tmp (hs.slots _ _ rfl) .nil) ⟨?_, ?_⟩
        · rw [hX]; rfl
        rw [hX]; exact (hs.mem.to 1 rfl).drop
      replace h66 := of_decide_eq_false h66
      refine wp_skip (then_normal (wp_exit (in_other rfl (then_exit (in_here (then_normal ?_))))))
      refine ⟨2, by clear hs; unfold exprParts; (repeat' split) <;> first | rfl | (exfalso; omega) | (rename_i hc; exfalso; omega) | (rename_i hc; exact absurd ⟨by omega, by assumption⟩ hc), ?_⟩
      exact (hs.mem_to (hs.mem.to 1 rfl)).cut _ ⟨rfl, rfl, rfl, rfl, trivial⟩
    replace h25 := ne_of_beq_false h25
    replace hs := hs.say 25 rfl (congrArg Value.bool (beq_eq_false_iff_ne.2 h25))
    refine wp_seq (wp_region_lit ?_)
    refine go hs (pV rfl (fun a hs => y_cmp hs rfl rfl rfl) <| pA rfl <| ?_); clear hs a; intro a hs
    refine wpList_nil (then_normal ?_)
    refine wp_cond_split (hs.ev rfl) (fun h25 => ?_) (fun h25 => ?_)
    · replace h25 := eq_of_beq h25
      replace hs := hs.say 25 rfl (congrArg Value.bool (beq_iff_eq.2 h25))
      refine wp_skip (then_normal ?_)
      refine wp_cond_true (hs.ev rfl) ?_
      refine wp_exit (then_exit (then_exit (in_other rfl (then_exit (in_other rfl (then_exit (in_here (then_normal (wp_region_lit ?_)))))))))
      refine go hs (pM rfl <| pV rfl (fun a hs => y_add hs rfl rfl (by omega)) <| pA rfl <| ?_); clear hs a; intro a hs
      refine wpList_nil (in_normal (then_normal (wp_seq ?_)))
      refine wp_seq (wp_region_lit ?_)
      refine go hs (pM rfl <| pV rfl (fun a hs => y_add hs rfl rfl (by omega)) <| pA rfl <| ?_); clear hs a; intro a hs
      refine wpList_nil (then_normal (wp_seq ?_))
      refine wp_region_lit (go hs (pV rfl (fun a hs => y_faddr (k' := 1) 1 hs (by kernel_rfl) rfl rfl) <| pV rfl (fun a hs => y_load hs Tryd.underlying3 rfl rfl (fun w hw => (hw.to 1 rfl).cellV rfl)) <| pV rfl (fun a hs => y_cmp hs rfl rfl rfl) <| pM rfl <| ?_)); clear hs a; intro a hs
      rcases hs.know (d := 62) rfl with ⟨h62, hs1⟩ | ⟨h62, hs1⟩ <;> replace hs := hs1 <;> clear hs1
      · replace h62 := bne_iff_ne.1 h62
        refine go hs (pS rfl <| pS rfl <| pS rfl <| pT rfl rfl <| ?_); clear hs a; intro a hs
        refine wpList_nil (then_normal ?_)
        refine wp_cond_true (hs.ev rfl) ?_
        refine wp_seq (wp_region_lit ?_)
        refine go hs (pA rfl <| ?_); clear hs a; intro a hs
        refine wpList_nil (then_normal (wp_ret (then_ret (in_ret (then_ret (in_ret (then_ret ?_)))))))
        have hE : exprParts x = none := by
          clear hs
          unfold exprParts
          repeat' split
          all_goals first | rfl | (exfalso; omega) | (rename_i hc; exfalso; omega) | (rename_i hc; exact absurd hc.2 (by assumption)) | (rename_i hc; rw [hc.2] at h54; cases h54)
        have hX : xexpr (q + 1) x left = (0, left - 1) := by rw [xexpr, if_neg (by omega), hE]
        refine fin_ret hs (.tmp (hs.slots _ _ rfl) .nil) ⟨?_, ?_⟩
        · rw [hX]; rfl
        rw [hX]; exact (hs.mem.to 1 rfl).drop
      replace h62 := bne_eq_false_iff_eq.1 h62
      refine go hs (pG rfl (fun a hs => y_faddr (k' := 2) 2 hs (by kernel_rfl) rfl rfl) <| pG rfl (fun a hs => y_load hs Tryd.underlying9 rfl rfl (fun w hw => (hw.to 1 rfl).cellV rfl)) <| pG rfl (fun a hs => y_sneE hs rfl rfl) <| pF rfl rfl <| ?_); clear hs a; intro a hs
      refine wpList_nil (then_normal ?_)
      refine wp_cond_split (hs.ev rfl) (fun h66 => ?_) (fun h66 => ?_)
      · replace h66 := of_decide_eq_true h66
        refine wp_seq (wp_region_lit ?_)
        refine go hs (pA rfl <| ?_); clear hs a; intro a hs
        refine wpList_nil (then_normal (wp_ret (then_ret (in_ret (then_ret (in_ret (then_ret ?_)))))))
        have hE : exprParts x = none := by
          clear hs
          unfold exprParts
          repeat' split
          all_goals first | rfl | (exfalso; omega) | (rename_i hc; exfalso; omega) | (rename_i hc; exact absurd hc.2 (by assumption)) | (rename_i hc; rw [hc.2] at h54; cases h54)
        have hX : xexpr (q + 1) x left = (0, left - 1) := by rw [xexpr, if_neg (by omega), hE]
        refine fin_ret hs (.tmp (hs.slots _ _ rfl) .nil) ⟨?_, ?_⟩
        · rw [hX]; rfl
        rw [hX]; exact (hs.mem.to 1 rfl).drop
      replace h66 := of_decide_eq_false h66
      refine wp_skip (then_normal (wp_exit (in_other rfl (then_exit (in_here (then_normal ?_))))))
      refine ⟨2, by clear hs; unfold exprParts; (repeat' split) <;> first | rfl | (exfalso; omega) | (rename_i hc; exfalso; omega) | (rename_i hc; exact absurd ⟨by omega, by assumption⟩ hc), ?_⟩
      exact (hs.mem_to (hs.mem.to 1 rfl)).cut _ ⟨rfl, rfl, rfl, rfl, trivial⟩
    replace h25 := ne_of_beq_false h25
    replace hs := hs.say 25 rfl (congrArg Value.bool (beq_eq_false_iff_ne.2 h25))
    refine wp_region_lit (go hs (pV rfl (fun a hs => y_cmp hs rfl rfl rfl) <| pA rfl <| ?_)); clear hs a; intro a hs
    refine wpList_nil (then_normal ?_)
    refine wp_cond_split (hs.ev rfl) (fun h25 => ?_) (fun h25 => ?_)
    · replace h25 := eq_of_beq h25
      replace hs := hs.say 25 rfl (congrArg Value.bool (beq_iff_eq.2 h25))
      refine wp_exit (then_exit (then_exit (in_other rfl (then_exit (in_other rfl (then_exit (in_here (then_normal (wp_region_lit ?_)))))))))
      refine go hs (pM rfl <| pV rfl (fun a hs => y_add hs rfl rfl (by omega)) <| pA rfl <| ?_); clear hs a; intro a hs
      refine wpList_nil (in_normal (then_normal (wp_seq ?_)))
      refine wp_seq (wp_region_lit ?_)
      refine go hs (pM rfl <| pV rfl (fun a hs => y_add hs rfl rfl (by omega)) <| pA rfl <| ?_); clear hs a; intro a hs
      refine wpList_nil (then_normal (wp_seq ?_))
      refine wp_region_lit (go hs (pV rfl (fun a hs => y_faddr (k' := 1) 1 hs (by kernel_rfl) rfl rfl) <| pV rfl (fun a hs => y_load hs Tryd.underlying3 rfl rfl (fun w hw => (hw.to 1 rfl).cellV rfl)) <| pV rfl (fun a hs => y_cmp hs rfl rfl rfl) <| pM rfl <| ?_)); clear hs a; intro a hs
      rcases hs.know (d := 62) rfl with ⟨h62, hs1⟩ | ⟨h62, hs1⟩ <;> replace hs := hs1 <;> clear hs1
      · replace h62 := bne_iff_ne.1 h62
        refine go hs (pS rfl <| pS rfl <| pS rfl <| pT rfl rfl <| ?_); clear hs a; intro a hs
        refine wpList_nil (then_normal ?_)
        refine wp_cond_true (hs.ev rfl) ?_
        refine wp_seq (wp_region_lit ?_)
        refine go hs (pA rfl <| ?_); clear hs a; intro a hs
        refine wpList_nil (then_normal (wp_ret (then_ret (in_ret (then_ret (in_ret (then_ret ?_)))))))
        have hE : exprParts x = none := by
          clear hs
          unfold exprParts
          repeat' split
          all_goals first | rfl | (exfalso; omega) | (rename_i hc; exfalso; omega) | (rename_i hc; exact absurd hc.2 (by assumption)) | (rename_i hc; rw [hc.2] at h54; cases h54)
        have hX : xexpr (q + 1) x left = (0, left - 1) := by rw [xexpr, if_neg (by omega), hE]
        refine fin_ret hs (.tmp (hs.slots _ _ rfl) .nil) ⟨?_, ?_⟩
        · rw [hX]; rfl
        rw [hX]; exact (hs.mem.to 1 rfl).drop
      replace h62 := bne_eq_false_iff_eq.1 h62
      refine go hs (pG rfl (fun a hs => y_faddr (k' := 2) 2 hs (by kernel_rfl) rfl rfl) <| pG rfl (fun a hs => y_load hs Tryd.underlying9 rfl rfl (fun w hw => (hw.to 1 rfl).cellV rfl)) <| pG rfl (fun a hs => y_sneE hs rfl rfl) <| pF rfl rfl <| ?_); clear hs a; intro a hs
      refine wpList_nil (then_normal ?_)
      refine wp_cond_split (hs.ev rfl) (fun h66 => ?_) (fun h66 => ?_)
      · replace h66 := of_decide_eq_true h66
        refine wp_seq (wp_region_lit ?_)
        refine go hs (pA rfl <| ?_); clear hs a; intro a hs
        refine wpList_nil (then_normal (wp_ret (then_ret (in_ret (then_ret (in_ret (then_ret ?_)))))))
        have hE : exprParts x = none := by
          clear hs
          unfold exprParts
          repeat' split
          all_goals first | rfl | (exfalso; omega) | (rename_i hc; exfalso; omega) | (rename_i hc; exact absurd hc.2 (by assumption)) | (rename_i hc; rw [hc.2] at h54; cases h54)
        have hX : xexpr (q + 1) x left = (0, left - 1) := by rw [xexpr, if_neg (by omega), hE]
        refine fin_ret hs (.tmp (hs.slots _ _ rfl) .nil) ⟨?_, ?_⟩
        · rw [hX]; rfl
        rw [hX]; exact (hs.mem.to 1 rfl).drop
      replace h66 := of_decide_eq_false h66
      refine wp_skip (then_normal (wp_exit (in_other rfl (then_exit (in_here (then_normal ?_))))))
      refine ⟨2, by clear hs; unfold exprParts; (repeat' split) <;> first | rfl | (exfalso; omega) | (rename_i hc; exfalso; omega) | (rename_i hc; exact absurd ⟨by omega, by assumption⟩ hc), ?_⟩
      exact (hs.mem_to (hs.mem.to 1 rfl)).cut _ ⟨rfl, rfl, rfl, rfl, trivial⟩
    replace h25 := ne_of_beq_false h25
    replace hs := hs.say 25 rfl (congrArg Value.bool (beq_eq_false_iff_ne.2 h25))
    refine wp_skip (then_normal (wp_seq ?_))
    refine wp_region_lit (go hs (pV rfl (fun a hs => y_cmp hs rfl rfl rfl) <| pA rfl <| ?_)); clear hs a; intro a hs
    refine wpList_nil (then_normal ?_)
    refine wp_cond_split (hs.ev rfl) (fun h31 => ?_) (fun h31 => ?_)
    · replace h31 := eq_of_beq h31
      refine wp_exit (then_exit (in_other rfl (then_exit (in_other rfl (then_exit (in_other rfl (then_exit (in_here (then_normal (wp_seq ?_))))))))))
      refine wp_seq (wp_region_lit ?_)
      refine go hs (pM rfl <| pV rfl (fun a hs => y_add hs rfl rfl (by omega)) <| pA rfl <| ?_); clear hs a; intro a hs
      refine wpList_nil (then_normal (wp_seq ?_))
      refine wp_region_lit (go hs (pV rfl (fun a hs => y_faddr (k' := 1) 1 hs (by kernel_rfl) rfl rfl) <| pV rfl (fun a hs => y_load hs Tryd.underlying3 rfl rfl (fun w hw => (hw.to 1 rfl).cellV rfl)) <| pV rfl (fun a hs => y_cmp hs rfl rfl rfl) <| pM rfl <| ?_)); clear hs a; intro a hs
      rcases hs.know (d := 62) rfl with ⟨h62, hs1⟩ | ⟨h62, hs1⟩ <;> replace hs := hs1 <;> clear hs1
      · replace h62 := bne_iff_ne.1 h62
        refine go hs (pS rfl <| pS rfl <| pS rfl <| pT rfl rfl <| ?_); clear hs a; intro a hs
        refine wpList_nil (then_normal ?_)
        refine wp_cond_true (hs.ev rfl) ?_
        refine wp_seq (wp_region_lit ?_)
        refine go hs (pA rfl <| ?_); clear hs a; intro a hs
        refine wpList_nil (then_normal (wp_ret (then_ret (in_ret (then_ret (in_ret (then_ret ?_)))))))
        have hE : exprParts x = none := by
          clear hs
          unfold exprParts
          repeat' split
          all_goals first | rfl | (exfalso; omega) | (rename_i hc; exfalso; omega) | (rename_i hc; exact absurd hc.2 (by assumption)) | (rename_i hc; rw [hc.2] at h54; cases h54)
        have hX : xexpr (q + 1) x left = (0, left - 1) := by rw [xexpr, if_neg (by omega), hE]
        refine fin_ret hs (.tmp (hs.slots _ _ rfl) .nil) ⟨?_, ?_⟩
        · rw [hX]; rfl
        rw [hX]; exact (hs.mem.to 1 rfl).drop
      replace h62 := bne_eq_false_iff_eq.1 h62
      refine go hs (pG rfl (fun a hs => y_faddr (k' := 2) 2 hs (by kernel_rfl) rfl rfl) <| pG rfl (fun a hs => y_load hs Tryd.underlying9 rfl rfl (fun w hw => (hw.to 1 rfl).cellV rfl)) <| pG rfl (fun a hs => y_sneE hs rfl rfl) <| pF rfl rfl <| ?_); clear hs a; intro a hs
      refine wpList_nil (then_normal ?_)
      refine wp_cond_split (hs.ev rfl) (fun h66 => ?_) (fun h66 => ?_)
      · replace h66 := of_decide_eq_true h66
        refine wp_seq (wp_region_lit ?_)
        refine go hs (pA rfl <| ?_); clear hs a; intro a hs
        refine wpList_nil (then_normal (wp_ret (then_ret (in_ret (then_ret (in_ret (then_ret ?_)))))))
        have hE : exprParts x = none := by
          clear hs
          unfold exprParts
          repeat' split
          all_goals first | rfl | (exfalso; omega) | (rename_i hc; exfalso; omega) | (rename_i hc; exact absurd hc.2 (by assumption)) | (rename_i hc; rw [hc.2] at h54; cases h54)
        have hX : xexpr (q + 1) x left = (0, left - 1) := by rw [xexpr, if_neg (by omega), hE]
        refine fin_ret hs (.tmp (hs.slots _ _ rfl) .nil) ⟨?_, ?_⟩
        · rw [hX]; rfl
        rw [hX]; exact (hs.mem.to 1 rfl).drop
      replace h66 := of_decide_eq_false h66
      refine wp_skip (then_normal (wp_exit (in_other rfl (then_exit (in_here (then_normal ?_))))))
      refine ⟨1, by clear hs; unfold exprParts; (repeat' split) <;> first | rfl | (exfalso; omega) | (rename_i hc; exfalso; omega) | (rename_i hc; exact absurd ⟨by omega, by assumption⟩ hc), ?_⟩
      exact (hs.mem_to (hs.mem.to 1 rfl)).cut _ ⟨rfl, rfl, rfl, rfl, trivial⟩
    replace h31 := ne_of_beq_false h31
    refine wp_skip (then_normal (wp_exit (in_other rfl (then_exit (in_other rfl (then_exit (in_other rfl (then_exit (in_other rfl (then_exit (in_here (then_normal ?_))))))))))))
    refine wp_seq (wp_seq ?_)
    refine wp_region_lit (go hs (pA rfl <| ?_)); clear hs a; intro a hs
    refine wpList_nil (then_normal (wp_ret (then_ret (in_ret (then_ret ?_)))))
    have hE : exprParts x = none := by
      clear hs
      unfold exprParts
      repeat' split
      all_goals first | rfl | (exfalso; omega) | (rename_i hc; exfalso; omega) | (rename_i hc; exact absurd hc.2 (by assumption)) | (rename_i hc; rw [hc.2] at h54; cases h54)
    have hX : xexpr (q + 1) x left = (0, left - 1) := by rw [xexpr, if_neg (by omega), hE]
    refine fin_ret hs (.tmp (hs.slots _ _ rfl) .nil) ⟨?_, ?_⟩
    · rw [hX]; rfl
    rw [hX]; exact (hs.mem.to 1 rfl).drop
  clear hs
  obtain ⟨p, hp, hs⟩ := hJ
  have hp2 := exprParts_le hp
  refine wp_seq (wp_seq ?_)
  refine wp_region_lit (go hs (pV rfl (fun a hs => y_faddr (k' := 3) 3 hs (by kernel_rfl) rfl rfl) <| pV rfl (fun a hs => y_load hs Tryd.underlying23 rfl rfl (fun w hw => (hw.to 0 rfl).cellV rfl)) <| pV rfl (fun a hs => y_lenL hs Tryd.underlying23 rfl) <| pM rfl <| pV rfl (fun a hs => y_cmp hs rfl rfl rfl) <| ?_)); clear hs a; intro a hs
  refine wpList_nil (then_normal ?_)
  refine wp_cond_split (hs.ev rfl) (fun h71 => ?_) (fun h71 => ?_)
  · replace h71 := bne_iff_ne.1 h71
    refine wp_seq (wp_region_lit ?_)
    refine go hs (pA rfl <| ?_); clear hs a; intro a hs
    refine wpList_nil (then_normal (wp_ret (then_ret ?_)))
    have hX : xexpr (q + 1) x left = (0, left - 1) := by
      rw [xexpr, if_neg (by omega), hp]
      show (if _ then _ else _) = _
      rw [if_neg (by omega)]
    refine fin_ret hs (.tmp (hs.slots _ _ rfl) .nil) ⟨?_, ?_⟩
    · rw [hX]; rfl
    rw [hX]; exact (hs.mem.to 0 rfl).drop
  replace h71 := bne_eq_false_iff_eq.1 h71
  refine wp_skip (then_normal (wp_seq ?_))
  refine wp_region_lit (go hs (pA rfl <| ?_)); clear hs a; intro a hs
  refine wpList_nil (then_normal (wp_seq ?_))
  refine wp_seq (wp_region_lit ?_)
  refine go hs (pV rfl (fun a hs => y_faddr (k' := 3) 3 hs (by kernel_rfl) rfl rfl) <| pV rfl (fun a hs => y_load hs Tryd.underlying23 rfl rfl (fun w hw => (hw.to 0 rfl).cellV rfl)) <| pV rfl (fun a hs => y_lenL hs Tryd.underlying23 rfl) <| pM rfl <| ?_); clear hs a; intro a hs
  refine wpList_nil (then_normal (wp_block ?_))
  refine wp_loopN (fun m a w1 => ∃ (i d : Nat) (left2 : Int), (i + m = x.f3.length) ∧ (0 ≤ left2 ∧ left2 ≤ 8192) ∧ (d ≤ q) ∧ (xexprs (xexpr q) (x.f3.drop i) d left2 = xexprs (xexpr q) x.f3 0 (left - 1)) ∧ St 92 w0 [(0, .pointer (some ⟨g, 0, none⟩)), (2, .int .i64 ((q + 1 : Nat) : Int)), (8, .int .i64 ((d : Nat) : Int)), (73, .slice A x.f3.length C), (74, .int .i64 (x.f3.length : Int)), (75, .int .i64 ((i : Nat) : Int))] (pt g #[.int .i64 (left2)] 102 :: bs) a w1) (x.f3.length) ⟨0, 0, left - 1, by omega, by omega, by omega, rfl, ?_⟩ (fun m a w1 hJ => ?_)
  · exact (hs.mem_to (hs.mem.to 0 rfl).drop).cut _ ⟨rfl, rfl, rfl, rfl, rfl, rfl, trivial⟩
  clear hs
  obtain ⟨i, d, left2, hi, hl2, hd, hinv, hs⟩ := hJ
  refine wp_seq (wp_region_lit ?_)
  refine go hs (pV rfl (fun a hs => y_cmp hs rfl rfl rfl) <| ?_); clear hs a; intro a hs
  refine wpList_nil (then_normal (wp_seq ?_))
  refine wp_cond_split (hs.ev rfl) (fun h76 => ?_) (fun h76 => ?_)
  · replace h76 := of_decide_eq_true h76
    obtain ⟨y, hy⟩ : ∃ y, x.f3[i]? = some y := ⟨_, List.getElem?_eq_getElem (by omega)⟩
    obtain ⟨g0, o, rfl, hcell⟩ := C_atG (show 0 < 6 by decide) hA (by omega)
    obtain ⟨cs, hK, hc⟩ := hcell i y hy
    obtain ⟨A0, c0, rfl, hlc, hC⟩ := k25_open hK
    have hdrop : x.f3.drop i = y :: x.f3.drop (i + 1) := by
      rw [List.drop_eq_getElem_cons (by omega)]
      rw [List.getElem?_eq_getElem (by omega)] at hy
      injection hy with hy
      rw [hy]
    refine wp_skip (then_normal (wp_seq ?_))
    refine wp_block (wp_seq ?_)
    refine wp_region_lit (go hs (pV rfl (fun a hs => y_idxB (size := 6) (off := o + i * 6) hs Tryd.underlying23 (by kernel_rfl) rfl rfl (by omega) (by omega) (by simp)) <| pV rfl (fun a hs => y_loadAgg (vs := [.int .u8 y.f0, .int .i64 y.f1, .string y.f2, .slice A0 y.f3.length c0, .int .i64 y.f4, .int .i64 y.f5]) hs Tryd.underlying25 rfl (by kernel_rfl) rfl (fun w hw k v hk => hc w hw.base k v hk)) <| ?_)); clear hs a; intro a hs
    refine a_eff rfl (e_alloc (z := .agg #[.int .u8 0, .int .i64 0, .string ⟨#[]⟩, .slice none 0 0, .int .i64 0, .int .i64 0]) (cs := #[.int .u8 0, .int .i64 0, .string ⟨#[]⟩, .slice none 0 0, .int .i64 0, .int .i64 0]) hs rfl (by kernel_rfl) rfl ?_); clear hs a; intro gp a w hs
    refine a_eff rfl (e_store (cl := [_, _, _, _, _, _]) 0 rfl hs rfl rfl (by kernel_rfl) rfl rfl rfl ?_); clear hs a; intro a w hs
    refine wpList_nil (then_normal (wp_seq ?_))
    refine wp_region_lit (go hs (pM rfl <| pV rfl (fun a hs => y_loadPt 0 rfl hs Tryd.underlying25 rfl (by kernel_rfl) rfl) <| pM rfl <| pV rfl (fun a hs => y_sub hs rfl rfl (by omega)) <| ?_)); clear hs a; intro a hs
    replace hs := hs.say 82 rfl (congrArg (Value.int IntKind.i64) (show (((q + 1 : Nat) : Int) - 1) = ((q : Nat) : Int) by omega))
    have hfall := xexpr_left q y left2 hl2.1
    have hxle := xexpr_le q y left2
    refine a_eff rfl (e_callX Tryd.func44 rfl rfl hs rfl rfl (ih q rfl y A0 c0 g left2 _ w0 _ hC (hsm.2 y (List.mem_of_getElem? hy)) hl2 (hs.mem.to 1 rfl)) (fun e w1 ⟨he, hm⟩ => ⟨_, he, _, hm, ?_⟩)); clear hs a; intro a hs
    refine go hs (pA rfl <| ?_); clear hs a; intro a hs
    refine wpList_nil (then_normal (wp_seq ?_))
    refine wp_seq (wp_region_lit ?_)
    refine go hs (pM rfl <| pV rfl (fun a hs => y_cmp hs rfl rfl rfl) <| ?_); clear hs a; intro a hs
    refine wpList_nil (then_normal ?_)
    refine wp_cond_split (hs.ev rfl) (fun h85 => ?_) (fun h85 => ?_)
    · replace h85 := eq_of_beq h85
      refine wp_seq (wp_region_lit ?_)
      refine go hs (pA rfl <| ?_); clear hs a; intro a hs
      refine wpList_nil (then_normal (wp_ret (then_ret (in_ret (then_ret (then_ret (in_ret (then_ret ?_))))))))
      have hX : xexpr (q + 1) x left = (0, (xexpr q y left2).2) := by
        rw [xexpr, if_neg (by omega), hp]
        show (if _ then _ else _) = _
        rw [if_pos (by omega), ← hinv, hdrop, xexprs, if_pos (by omega)]
      refine fin_ret hs (.tmp (hs.slots _ _ rfl) .nil) ⟨?_, ?_⟩
      · rw [hX]; rfl
      rw [hX]; exact (hs.mem.to 1 rfl).drop
    replace h85 := ne_of_beq_false h85
    refine wp_skip (then_normal (wp_region_lit ?_))
    refine go hs (pM rfl <| pM rfl <| pV rfl (fun a hs => y_max hs rfl rfl) <| pA rfl <| ?_); clear hs a; intro a hs
    refine wpList_nil (in_normal (then_normal (wp_region_lit ?_)))
    refine go hs (pV rfl (fun a hs => y_add hs rfl rfl (by omega)) <| pM rfl <| ?_); clear hs a; intro a hs
    refine wpList_nil (then_normal ?_)
    have hf2 := hfall.2.2 (by omega)
    have hmx : (if ((d : Nat) : Int) < (((xexpr q y left2).1 : Nat) : Int) then (((xexpr q y left2).1 : Nat) : Int) else ((d : Nat) : Int)) = ((max d (xexpr q y left2).1 : Nat) : Int) := by split <;> omega
    replace hs := hs.say 8 rfl (congrArg (Value.int IntKind.i64) hmx)
    refine ⟨m - 1, by omega, i + 1, max d (xexpr q y left2).1, (xexpr q y left2).2, by omega, ⟨hf2, by have := hfall.2.1; omega⟩, by omega, by rw [← hinv, hdrop, xexprs, if_neg (by omega)], ?_⟩
    exact (hs.mem_to (hs.mem.to 1 rfl).drop).cut _ ⟨rfl, rfl, rfl, rfl, rfl, rfl, trivial⟩
  replace h76 := of_decide_eq_false h76
  refine wp_exit (then_exit (then_exit (in_here (then_normal (wp_seq ?_)))))
  refine wp_region_lit (go hs (pM rfl <| pV rfl (fun a hs => y_add hs rfl rfl (by omega)) <| pA rfl <| ?_)); clear hs a; intro a hs
  refine wpList_nil (then_normal (wp_ret ?_))
  have hX : xexpr (q + 1) x left = (d + 1, left2) := by
    rw [xexpr, if_neg (by omega), hp]
    show (if _ then _ else _) = _
    rw [if_pos (by omega), ← hinv, List.drop_eq_nil_of_le (by omega), xexprs]
  refine fin_ret hs (.tmp (hs.slots _ _ rfl) .nil) ⟨?_, ?_⟩
  · rw [hX]; rfl
  rw [hX]; exact hs.mem
theorem walk_expr : ∀ n : Nat, n ≤ 1000 → WalkOk n := fun n => by
  induction n using Nat.strongRecOn with
  | _ n ih => exact fun hn x A C g left bs w0 w hA hsm hl h => walk_expr_step n hn (fun q hq => ih q (by omega) (by omega)) x A C g left bs w0 w hA hsm hl h
set_option maxRecDepth 100000 in
theorem tree_all (v0 : World) :
    Calls Tryd.prog 43 #[] v0 fun e w' => ∃ ga, e = .returned (.pointer (some ⟨ga, 0, none⟩)) ∧ H v0 [pt ga #[.int .i64 8192] 102] w' := by
  refine calls_enter (N := 3) (n := 3) (args := []) Tryd.func43 rfl rfl rfl (H.init v0) (fun a hs => ?_)
  refine wp_seq (wp_region_lit ?_)
  refine go hs (pA rfl <| ?_); clear hs a; intro a hs
  refine wpList_nil (then_normal (wp_seq ?_))
  refine wp_region_lit (go hs (pV rfl (fun a hs => y_struct (zc := #[.int .i64 0]) (pl := [(0, 1)]) (cl := [_]) hs (by kernel_rfl) rfl (by rfl) rfl) <| ?_)); clear hs a; intro a hs
  refine a_eff rfl (e_box (cs := #[_]) hs rfl rfl rfl ?_); clear hs a; intro ga a w hs
  refine go hs (pA rfl <| ?_); clear hs a; intro a hs
  refine wpList_nil (then_normal (wp_ret ?_))
  refine fin_ret hs (.tmp (hs.slots _ _ rfl) .nil) ⟨ga, rfl, hs.mem⟩
/-- How deep an expression is; 0: it may not be. -/
def deepX (x : XE) : Nat := (xexpr 16 x 8192).1
set_option maxRecDepth 100000 in
theorem tree_Deep (x : XE) (A : Option Addr) (C : Nat) (v0 : World) (hA : Kd.C k25 v0 A x.f3.length x.f3) (hsm : smallX 16 x) :
    Calls Tryd.prog 20 #[.agg #[.int .u8 x.f0, .int .i64 x.f1, .string x.f2, .slice A x.f3.length C, .int .i64 x.f4, .int .i64 x.f5]] v0 fun e w' => e = .returned (.int .i64 ((deepX x : Nat) : Int)) ∧ Below v0.heap.size v0 w' := by
  refine calls_enter (N := 6) (n := 5) (args := [.agg #[.int .u8 x.f0, .int .i64 x.f1, .string x.f2, .slice A x.f3.length C, .int .i64 x.f4, .int .i64 x.f5]]) Tryd.func20 rfl rfl rfl (H.init v0) (fun a hs => ?_)
  refine wp_seq (wp_region_lit ?_)
  refine a_eff rfl (e_box (cs := #[_, _, _, _, _, _]) hs rfl rfl rfl ?_); clear hs a; intro gx a w hs
  refine go hs (pA rfl <| ?_); clear hs a; intro a hs
  refine wpList_nil (then_normal (wp_seq ?_))
  refine b_enter [0] (by kernel_rfl) hs #[false, false, false, false] (by rfl) 4 (by rfl) ?_; clear hs; intro w hs
  refine b_take 1 rfl #[false, true, false, false] rfl (by kernel_rfl) hs ((hs.mem.first 1)) rfl rfl rfl (fun _ _ _ h => h) (y_loadPt 0 rfl hs Tryd.underlying25 rfl (by kernel_rfl) rfl) ?_; clear hs a; intro a hs
  refine b_eff 0 (by kernel_rfl) rfl #[true, true, false, false] rfl hs rfl (e_callX Tryd.func43 rfl rfl hs rfl rfl (tree_all _) (fun e w1 ⟨ga, he, hm⟩ => ⟨_, he, _, hs.mem.more hm, ?_⟩)); clear hs a; intro a hs
  refine ⟨((hs.mem.to 1 rfl).first 1), ?_⟩
  refine b_eff 2 (by kernel_rfl) rfl #[true, true, true, false] rfl hs rfl (e_callX Tryd.func44 rfl rfl hs rfl rfl (walk_expr 16 (by decide) x A C ga 8192 _ v0 _ hA hsm (by omega) hs.mem) (fun e w1 ⟨he, hm⟩ => ⟨_, he, _, hm, ?_⟩)); clear hs a; intro a hs
  refine ⟨((hs.mem.to 1 rfl).first 1), ?_⟩
  refine b_take 3 rfl #[true, true, true, true] rfl (by kernel_rfl) hs (((hs.mem.to 1 rfl).first 1)) rfl rfl rfl (fun _ _ _ h => h) (y_assign hs rfl) ?_; clear hs a; intro a hs
  refine b_done (by kernel_rfl) (then_normal ?_)
  refine wp_ret ?_
  refine fin_ret hs (.tmp (hs.slots _ _ rfl) .nil) ⟨rfl, hs.mem.base⟩
set_option maxRecDepth 100000 in
theorem tree_MayExpr (x : XE) (A : Option Addr) (C : Nat) (v0 : World) (hA : Kd.C k25 v0 A x.f3.length x.f3) (hsm : smallX 16 x) :
    Calls Tryd.prog 11 #[.agg #[.int .u8 x.f0, .int .i64 x.f1, .string x.f2, .slice A x.f3.length C, .int .i64 x.f4, .int .i64 x.f5]] v0 fun e w' => e = .returned (.bool (decide (0 < deepX x))) ∧ Below v0.heap.size v0 w' := by
  refine calls_enter (N := 6) (n := 5) (args := [.agg #[.int .u8 x.f0, .int .i64 x.f1, .string x.f2, .slice A x.f3.length C, .int .i64 x.f4, .int .i64 x.f5]]) Tryd.func11 rfl rfl rfl (H.init v0) (fun a hs => ?_)
  refine wp_seq (wp_region_lit ?_)
  refine a_eff rfl (e_box (cs := #[_, _, _, _, _, _]) hs rfl rfl rfl ?_); clear hs a; intro gx a w hs
  refine go hs (pA rfl <| ?_); clear hs a; intro a hs
  refine wpList_nil (then_normal (wp_seq ?_))
  refine wp_region_lit (go hs (pV rfl (fun a hs => y_loadPt 0 rfl hs Tryd.underlying25 rfl (by kernel_rfl) rfl) <| ?_)); clear hs a; intro a hs
  refine a_eff rfl (e_callB Tryd.func20 rfl rfl hs rfl rfl (tree_Deep x A C _ (Kd.C_below hA hs.mem.base) hsm) ?_); clear hs a; intro a w hs
  refine go hs (pV rfl (fun a hs => y_cmp (b := decide (0 < deepX x)) hs rfl rfl (congrArg some (decide_eq_decide.2 (by omega)))) <| pA rfl <| ?_); clear hs a; intro a hs
  refine wpList_nil (then_normal (wp_ret ?_))
  refine fin_ret hs (.tmp (hs.slots _ _ rfl) .nil) ⟨rfl, hs.mem.base⟩
end Go.Proofs.YtibaidddhmdafaaDoor.E
end
section
namespace Go.Proofs.YtibaidddhmdafaaDoor.E
open Go Go.RowKit Go.Proofs.YtibaidddhmdafaaDoorW.PrintWords Go.Proofs.YtibaidddhmdafaaDoorW.PrintLast Go.Proofs.YtibaidddhmdafaaDoorW.PrintMore Go.Proofs.YtibaidddhmdafaaDoor.PA
set_option linter.unusedVariables false
set_option linter.unusedSimpArgs false
set_option maxRecDepth 100000 in
theorem index_E (g fid : Nat) (fn : Func) (caps : List Value) (st : S25 → Int → Bool × Int) (A : Option Addr) (c : Nat) (l : List S25) (left : Int) (bs : List Res) (w0 w : World) (hfn : Tryd.prog.funcs[fid]? = some fn) (hnm : (fn.name == "runtime.NumGoroutine") = false) (hbd : fn.body.isNone = false) (hA : Kd.C k25 w0 A l.length l) (hf : ∀ p ∈ l, ∀ (cs : List Value) (lf : Int) (w1 : World), k25.K w0 p cs → cs.length = 6 → 0 ≤ lf ∧ lf ≤ 8192 → H w0 (pt g #[.int .i64 (lf)] 102 :: bs) w1 → Calls Tryd.prog fid (.agg cs.toArray :: caps).toArray w1 fun e w' => e = .returned (.bool (!(st p lf).1)) ∧ H w0 (pt g #[.int .i64 ((st p lf).2)] 102 :: bs) w') (hst : ∀ p ∈ l, ∀ lf, 0 ≤ lf → fallsB (st p lf) lf) (hl : 0 ≤ left ∧ left ≤ 8192) (h : H w0 (pt g #[.int .i64 (left)] 102 :: bs) w) :
    Calls Tryd.prog 109 #[.slice A l.length c, .func (.func fid) #[] caps.toArray] w fun e w' => ∃ k : Int, e = .returned (.int .i64 k) ∧ -1 ≤ k ∧ (k = -1 ↔ (xlist st l left).1 = true) ∧ H w0 (pt g #[.int .i64 ((xlist st l left).2)] 102 :: bs) w' := by
  refine calls_enter (N := 19) (n := 17) (args := [.slice A l.length c, .func (.func fid) #[] caps.toArray]) Tryd.func109 rfl rfl rfl (h) (fun a hs => ?_)
  have hcl := C_len hA
  refine wp_seq (wp_region_lit ?_)
  refine go hs (pA rfl <| ?_); clear hs a; intro a hs
  refine wpList_nil (then_normal (wp_seq ?_))
  refine wp_seq (wp_region_lit ?_)
  refine go hs (pM rfl <| pV rfl (fun a hs => y_lenL hs Tryd.underlying23 rfl) <| pM rfl <| ?_); clear hs a; intro a hs
  refine wpList_nil (then_normal (wp_block ?_))
  refine wp_loopN (fun m a w1 => ∃ (i : Nat) (lf : Int), (i + m = l.length) ∧ (0 ≤ lf ∧ lf ≤ 8192) ∧ (xlist st (l.drop i) lf = xlist st l left) ∧ St 19 w0 [(0, .slice A l.length c), (1, .func (.func fid) #[] caps.toArray), (7, .int .i64 (l.length : Int)), (8, .int .i64 ((i : Nat) : Int))] (pt g #[.int .i64 (lf)] 102 :: bs) a w1) (l.length) ⟨0, left, by omega, hl, rfl, ?_⟩ (fun m a w1 hJ => ?_)
  · exact (hs.mem_to hs.mem).cut _ ⟨rfl, rfl, rfl, rfl, trivial⟩
  clear hs
  obtain ⟨i, lf, hi, hlf, hinv, hs⟩ := hJ
  refine wp_seq (wp_region_lit ?_)
  refine go hs (pV rfl (fun a hs => y_cmp hs rfl rfl rfl) <| ?_); clear hs a; intro a hs
  refine wpList_nil (then_normal (wp_seq ?_))
  refine wp_cond_split (hs.ev rfl) (fun h9 => ?_) (fun h9 => ?_)
  · replace h9 := of_decide_eq_true h9
    obtain ⟨p, hp⟩ : ∃ p, l[i]? = some p := ⟨_, List.getElem?_eq_getElem (by omega)⟩
    obtain ⟨g0, o, rfl, hcell⟩ := C_atH (show 0 < 6 by decide) hA (by omega)
    obtain ⟨cs, hK, hlen, hc⟩ := hcell i p hp
    replace hlen : cs.length = 6 := hlen
    have hfl := hst p (List.mem_of_getElem? hp) lf hlf.1
    have hdrop : l.drop i = p :: l.drop (i + 1) := by
      rw [List.drop_eq_getElem_cons (by omega)]
      rw [List.getElem?_eq_getElem (by omega)] at hp
      injection hp with hp
      rw [hp]
    refine wp_skip (then_normal (wp_seq ?_))
    refine wp_block (wp_seq ?_)
    refine wp_region_lit (go hs (pM rfl <| pA rfl <| ?_)); clear hs a; intro a hs
    refine wpList_nil (then_normal (wp_seq ?_))
    refine wp_region_lit (go hs (pM rfl <| pM rfl <| pM rfl <| pV rfl (fun a hs => y_idxB (size := 6) (off := o + i * 6) hs Tryd.underlying23 (by kernel_rfl) rfl rfl (by omega) (by omega) (by simp)) <| pV rfl (fun a hs => y_loadAgg (vs := cs) hs Tryd.underlying24 rfl (by rw [hlen]; kernel_rfl) rfl (fun w hw k v hk => hc w hw.base k v hk)) <| ?_)); clear hs a; intro a hs
    refine a_eff rfl (e_callF hfn hnm hbd hs rfl rfl rfl (hf p (List.mem_of_getElem? hp) cs lf _ hK hlen hlf hs.mem) (fun e w1 ⟨he, hm⟩ => ⟨_, he, _, hm, ?_⟩)); clear hs a; intro a hs
    refine wpList_nil (then_normal ?_)
    refine wp_cond_split (hs.ev rfl) (fun h16 => ?_) (fun h16 => ?_)
    · have hX : xlist st l left = (false, (st p lf).2) := by rw [← hinv, hdrop, xlist, if_neg (by rw [Bool.not_eq_true', ] at h16; rw [h16]; exact Bool.false_ne_true)]
      refine wp_seq (wp_region_lit ?_)
      refine go hs (pM rfl <| pA rfl <| ?_); clear hs a; intro a hs
      refine wpList_nil (then_normal (wp_ret (in_ret (then_ret (then_ret (in_ret (then_ret ?_)))))))
      refine fin_ret hs (.tmp (hs.slots _ _ rfl) .nil) ⟨_, rfl, ?_, ?_, ?_⟩
      · omega
      · rw [hX]; constructor
        · intro h; first | rfl | (exfalso; omega)
        intro h; first | rfl | cases h
      rw [hX]; exact hs.mem
    have h1 : (st p lf).1 = true := by rw [Bool.not_eq_false'] at h16; exact h16
    refine wp_skip (in_normal (then_normal (wp_region_lit ?_)))
    refine go hs (pV rfl (fun a hs => y_add hs rfl rfl (by omega)) <| pM rfl <| ?_); clear hs a; intro a hs
    refine wpList_nil (then_normal ?_)
    refine ⟨m - 1, by omega, i + 1, (st p lf).2, by omega, ⟨hfl.2.2 h1, by have := hfl.2.1; omega⟩, by rw [← hinv, hdrop, xlist, if_pos h1], ?_⟩
    exact (hs.mem_to hs.mem).cut _ ⟨rfl, rfl, rfl, rfl, trivial⟩
  replace h9 := of_decide_eq_false h9
  have hX : xlist st l left = (true, lf) := by rw [← hinv, List.drop_eq_nil_of_le (by omega), xlist]
  refine wp_exit (then_exit (then_exit (in_here (then_normal (wp_seq ?_)))))
  refine wp_region_lit (go hs (pA rfl <| ?_)); clear hs a; intro a hs
  refine wpList_nil (then_normal (wp_ret ?_))
  refine fin_ret hs (.tmp (hs.slots _ _ rfl) .nil) ⟨_, rfl, ?_, ?_, ?_⟩
  · omega
  · rw [hX]; constructor
    · intro h; first | rfl | (exfalso; omega)
    intro h; first | rfl | cases h
  rw [hX]; exact hs.mem
set_option maxRecDepth 100000 in
theorem contains_E (g fid : Nat) (fn : Func) (caps : List Value) (st : S25 → Int → Bool × Int) (A : Option Addr) (c : Nat) (l : List S25) (left : Int) (bs : List Res) (w0 w : World) (hfn : Tryd.prog.funcs[fid]? = some fn) (hnm : (fn.name == "runtime.NumGoroutine") = false) (hbd : fn.body.isNone = false) (hA : Kd.C k25 w0 A l.length l) (hf : ∀ p ∈ l, ∀ (cs : List Value) (lf : Int) (w1 : World), k25.K w0 p cs → cs.length = 6 → 0 ≤ lf ∧ lf ≤ 8192 → H w0 (pt g #[.int .i64 (lf)] 102 :: bs) w1 → Calls Tryd.prog fid (.agg cs.toArray :: caps).toArray w1 fun e w' => e = .returned (.bool (!(st p lf).1)) ∧ H w0 (pt g #[.int .i64 ((st p lf).2)] 102 :: bs) w') (hst : ∀ p ∈ l, ∀ lf, 0 ≤ lf → fallsB (st p lf) lf) (hl : 0 ≤ left ∧ left ≤ 8192) (h : H w0 (pt g #[.int .i64 (left)] 102 :: bs) w) :
    Calls Tryd.prog 100 #[.slice A l.length c, .func (.func fid) #[] caps.toArray] w fun e w' => e = .returned (.bool (!(xlist st l left).1)) ∧ H w0 (pt g #[.int .i64 ((xlist st l left).2)] 102 :: bs) w' := by
  refine calls_enter (N := 9) (n := 7) (args := [.slice A l.length c, .func (.func fid) #[] caps.toArray]) Tryd.func100 rfl rfl rfl (h) (fun a hs => ?_)
  refine wp_seq (wp_region_lit ?_)
  refine go hs (pA rfl <| ?_); clear hs a; intro a hs
  refine wpList_nil (then_normal (wp_seq ?_))
  refine wp_region_lit (go hs (pM rfl <| pM rfl <| ?_)); clear hs a; intro a hs
  refine a_eff rfl (e_callX Tryd.func109 rfl rfl hs rfl rfl (index_E g fid fn caps st A c l left _ w0 _ hfn hnm hbd hA hf hst hl hs.mem) (fun e w1 ⟨k, he, hk1, hk2, hm⟩ => ⟨_, he, _, hm, ?_⟩)); clear hs a; intro a hs
  refine go hs (pV rfl (fun a hs => y_cmp (b := !(xlist st l left).1) hs rfl rfl (congrArg some (by cases hb : (xlist st l left).1 with | true => exact decide_eq_false (by have := hk2.2 hb; omega) | false => exact decide_eq_true (by have hk3 : ¬ k = -1 := fun h => Bool.false_ne_true (hb.symm.trans (hk2.1 h)); omega)))) <| pA rfl <| ?_); clear hs a; intro a hs
  refine wpList_nil (then_normal (wp_ret ?_))
  refine fin_ret hs (.tmp (hs.slots _ _ rfl) .nil) ⟨rfl, hs.mem⟩
set_option maxRecDepth 100000 in
theorem index_S (g fid : Nat) (fn : Func) (caps : List Value) (st : S42 → Int → Bool × Int) (A : Option Addr) (c : Nat) (l : List S42) (left : Int) (bs : List Res) (w0 w : World) (hfn : Tryd.prog.funcs[fid]? = some fn) (hnm : (fn.name == "runtime.NumGoroutine") = false) (hbd : fn.body.isNone = false) (hA : Kd.C k42 w0 A l.length l) (hf : ∀ p ∈ l, ∀ (cs : List Value) (lf : Int) (w1 : World), k42.K w0 p cs → cs.length = 7 → 0 ≤ lf ∧ lf ≤ 8192 → H w0 (pt g #[.int .i64 (lf)] 102 :: bs) w1 → Calls Tryd.prog fid (.agg cs.toArray :: caps).toArray w1 fun e w' => e = .returned (.bool (!(st p lf).1)) ∧ H w0 (pt g #[.int .i64 ((st p lf).2)] 102 :: bs) w') (hst : ∀ p ∈ l, ∀ lf, 0 ≤ lf → fallsB (st p lf) lf) (hl : 0 ≤ left ∧ left ≤ 8192) (h : H w0 (pt g #[.int .i64 (left)] 102 :: bs) w) :
    Calls Tryd.prog 102 #[.slice A l.length c, .func (.func fid) #[] caps.toArray] w fun e w' => ∃ k : Int, e = .returned (.int .i64 k) ∧ -1 ≤ k ∧ (k = -1 ↔ (xlist st l left).1 = true) ∧ H w0 (pt g #[.int .i64 ((xlist st l left).2)] 102 :: bs) w' := by
  refine calls_enter (N := 19) (n := 17) (args := [.slice A l.length c, .func (.func fid) #[] caps.toArray]) Tryd.func102 rfl rfl rfl (h) (fun a hs => ?_)
  have hcl := C_len hA
  refine wp_seq (wp_region_lit ?_)
  refine go hs (pA rfl <| ?_); clear hs a; intro a hs
  refine wpList_nil (then_normal (wp_seq ?_))
  refine wp_seq (wp_region_lit ?_)
  refine go hs (pM rfl <| pV rfl (fun a hs => y_lenL hs Tryd.underlying39 rfl) <| pM rfl <| ?_); clear hs a; intro a hs
  refine wpList_nil (then_normal (wp_block ?_))
  refine wp_loopN (fun m a w1 => ∃ (i : Nat) (lf : Int), (i + m = l.length) ∧ (0 ≤ lf ∧ lf ≤ 8192) ∧ (xlist st (l.drop i) lf = xlist st l left) ∧ St 19 w0 [(0, .slice A l.length c), (1, .func (.func fid) #[] caps.toArray), (7, .int .i64 (l.length : Int)), (8, .int .i64 ((i : Nat) : Int))] (pt g #[.int .i64 (lf)] 102 :: bs) a w1) (l.length) ⟨0, left, by omega, hl, rfl, ?_⟩ (fun m a w1 hJ => ?_)
  · exact (hs.mem_to hs.mem).cut _ ⟨rfl, rfl, rfl, rfl, trivial⟩
  clear hs
  obtain ⟨i, lf, hi, hlf, hinv, hs⟩ := hJ
  refine wp_seq (wp_region_lit ?_)
  refine go hs (pV rfl (fun a hs => y_cmp hs rfl rfl rfl) <| ?_); clear hs a; intro a hs
  refine wpList_nil (then_normal (wp_seq ?_))
  refine wp_cond_split (hs.ev rfl) (fun h9 => ?_) (fun h9 => ?_)
  · replace h9 := of_decide_eq_true h9
    obtain ⟨p, hp⟩ : ∃ p, l[i]? = some p := ⟨_, List.getElem?_eq_getElem (by omega)⟩
    obtain ⟨g0, o, rfl, hcell⟩ := C_atH (show 0 < 7 by decide) hA (by omega)
    obtain ⟨cs, hK, hlen, hc⟩ := hcell i p hp
    replace hlen : cs.length = 7 := hlen
    have hfl := hst p (List.mem_of_getElem? hp) lf hlf.1
    have hdrop : l.drop i = p :: l.drop (i + 1) := by
      rw [List.drop_eq_getElem_cons (by omega)]
      rw [List.getElem?_eq_getElem (by omega)] at hp
      injection hp with hp
      rw [hp]
    refine wp_skip (then_normal (wp_seq ?_))
    refine wp_block (wp_seq ?_)
    refine wp_region_lit (go hs (pM rfl <| pA rfl <| ?_)); clear hs a; intro a hs
    refine wpList_nil (then_normal (wp_seq ?_))
    refine wp_region_lit (go hs (pM rfl <| pM rfl <| pM rfl <| pV rfl (fun a hs => y_idxB (size := 7) (off := o + i * 7) hs Tryd.underlying39 (by kernel_rfl) rfl rfl (by omega) (by omega) (by simp)) <| pV rfl (fun a hs => y_loadAgg (vs := cs) hs Tryd.underlying41 rfl (by rw [hlen]; kernel_rfl) rfl (fun w hw k v hk => hc w hw.base k v hk)) <| ?_)); clear hs a; intro a hs
    refine a_eff rfl (e_callF hfn hnm hbd hs rfl rfl rfl (hf p (List.mem_of_getElem? hp) cs lf _ hK hlen hlf hs.mem) (fun e w1 ⟨he, hm⟩ => ⟨_, he, _, hm, ?_⟩)); clear hs a; intro a hs
    refine wpList_nil (then_normal ?_)
    refine wp_cond_split (hs.ev rfl) (fun h16 => ?_) (fun h16 => ?_)
    · have hX : xlist st l left = (false, (st p lf).2) := by rw [← hinv, hdrop, xlist, if_neg (by rw [Bool.not_eq_true', ] at h16; rw [h16]; exact Bool.false_ne_true)]
      refine wp_seq (wp_region_lit ?_)
      refine go hs (pM rfl <| pA rfl <| ?_); clear hs a; intro a hs
      refine wpList_nil (then_normal (wp_ret (in_ret (then_ret (then_ret (in_ret (then_ret ?_)))))))
      refine fin_ret hs (.tmp (hs.slots _ _ rfl) .nil) ⟨_, rfl, ?_, ?_, ?_⟩
      · omega
      · rw [hX]; constructor
        · intro h; first | rfl | (exfalso; omega)
        intro h; first | rfl | cases h
      rw [hX]; exact hs.mem
    have h1 : (st p lf).1 = true := by rw [Bool.not_eq_false'] at h16; exact h16
    refine wp_skip (in_normal (then_normal (wp_region_lit ?_)))
    refine go hs (pV rfl (fun a hs => y_add hs rfl rfl (by omega)) <| pM rfl <| ?_); clear hs a; intro a hs
    refine wpList_nil (then_normal ?_)
    refine ⟨m - 1, by omega, i + 1, (st p lf).2, by omega, ⟨hfl.2.2 h1, by have := hfl.2.1; omega⟩, by rw [← hinv, hdrop, xlist, if_pos h1], ?_⟩
    exact (hs.mem_to hs.mem).cut _ ⟨rfl, rfl, rfl, rfl, trivial⟩
  replace h9 := of_decide_eq_false h9
  have hX : xlist st l left = (true, lf) := by rw [← hinv, List.drop_eq_nil_of_le (by omega), xlist]
  refine wp_exit (then_exit (then_exit (in_here (then_normal (wp_seq ?_)))))
  refine wp_region_lit (go hs (pA rfl <| ?_)); clear hs a; intro a hs
  refine wpList_nil (then_normal (wp_ret ?_))
  refine fin_ret hs (.tmp (hs.slots _ _ rfl) .nil) ⟨_, rfl, ?_, ?_, ?_⟩
  · omega
  · rw [hX]; constructor
    · intro h; first | rfl | (exfalso; omega)
    intro h; first | rfl | cases h
  rw [hX]; exact hs.mem
set_option maxRecDepth 100000 in
theorem contains_S (g fid : Nat) (fn : Func) (caps : List Value) (st : S42 → Int → Bool × Int) (A : Option Addr) (c : Nat) (l : List S42) (left : Int) (bs : List Res) (w0 w : World) (hfn : Tryd.prog.funcs[fid]? = some fn) (hnm : (fn.name == "runtime.NumGoroutine") = false) (hbd : fn.body.isNone = false) (hA : Kd.C k42 w0 A l.length l) (hf : ∀ p ∈ l, ∀ (cs : List Value) (lf : Int) (w1 : World), k42.K w0 p cs → cs.length = 7 → 0 ≤ lf ∧ lf ≤ 8192 → H w0 (pt g #[.int .i64 (lf)] 102 :: bs) w1 → Calls Tryd.prog fid (.agg cs.toArray :: caps).toArray w1 fun e w' => e = .returned (.bool (!(st p lf).1)) ∧ H w0 (pt g #[.int .i64 ((st p lf).2)] 102 :: bs) w') (hst : ∀ p ∈ l, ∀ lf, 0 ≤ lf → fallsB (st p lf) lf) (hl : 0 ≤ left ∧ left ≤ 8192) (h : H w0 (pt g #[.int .i64 (left)] 102 :: bs) w) :
    Calls Tryd.prog 78 #[.slice A l.length c, .func (.func fid) #[] caps.toArray] w fun e w' => e = .returned (.bool (!(xlist st l left).1)) ∧ H w0 (pt g #[.int .i64 ((xlist st l left).2)] 102 :: bs) w' := by
  refine calls_enter (N := 9) (n := 7) (args := [.slice A l.length c, .func (.func fid) #[] caps.toArray]) Tryd.func78 rfl rfl rfl (h) (fun a hs => ?_)
  refine wp_seq (wp_region_lit ?_)
  refine go hs (pA rfl <| ?_); clear hs a; intro a hs
  refine wpList_nil (then_normal (wp_seq ?_))
  refine wp_region_lit (go hs (pM rfl <| pM rfl <| ?_)); clear hs a; intro a hs
  refine a_eff rfl (e_callX Tryd.func102 rfl rfl hs rfl rfl (index_S g fid fn caps st A c l left _ w0 _ hfn hnm hbd hA hf hst hl hs.mem) (fun e w1 ⟨k, he, hk1, hk2, hm⟩ => ⟨_, he, _, hm, ?_⟩)); clear hs a; intro a hs
  refine go hs (pV rfl (fun a hs => y_cmp (b := !(xlist st l left).1) hs rfl rfl (congrArg some (by cases hb : (xlist st l left).1 with | true => exact decide_eq_false (by have := hk2.2 hb; omega) | false => exact decide_eq_true (by have hk3 : ¬ k = -1 := fun h => Bool.false_ne_true (hb.symm.trans (hk2.1 h)); omega)))) <| pA rfl <| ?_); clear hs a; intro a hs
  refine wpList_nil (then_normal (wp_ret ?_))
  refine fin_ret hs (.tmp (hs.slots _ _ rfl) .nil) ⟨rfl, hs.mem⟩
set_option maxRecDepth 100000 in
theorem index_I (g fid : Nat) (fn : Func) (caps : List Value) (st : S45 → Int → Bool × Int) (A : Option Addr) (c : Nat) (l : List S45) (left : Int) (bs : List Res) (w0 w : World) (hfn : Tryd.prog.funcs[fid]? = some fn) (hnm : (fn.name == "runtime.NumGoroutine") = false) (hbd : fn.body.isNone = false) (hA : Kd.C k45 w0 A l.length l) (hf : ∀ p ∈ l, ∀ (cs : List Value) (lf : Int) (w1 : World), k45.K w0 p cs → cs.length = 19 → 0 ≤ lf ∧ lf ≤ 8192 → H w0 (pt g #[.int .i64 (lf)] 102 :: bs) w1 → Calls Tryd.prog fid (.agg cs.toArray :: caps).toArray w1 fun e w' => e = .returned (.bool (!(st p lf).1)) ∧ H w0 (pt g #[.int .i64 ((st p lf).2)] 102 :: bs) w') (hst : ∀ p ∈ l, ∀ lf, 0 ≤ lf → fallsB (st p lf) lf) (hl : 0 ≤ left ∧ left ≤ 8192) (h : H w0 (pt g #[.int .i64 (left)] 102 :: bs) w) :
    Calls Tryd.prog 80 #[.slice A l.length c, .func (.func fid) #[] caps.toArray] w fun e w' => ∃ k : Int, e = .returned (.int .i64 k) ∧ -1 ≤ k ∧ (k = -1 ↔ (xlist st l left).1 = true) ∧ H w0 (pt g #[.int .i64 ((xlist st l left).2)] 102 :: bs) w' := by
  refine calls_enter (N := 19) (n := 17) (args := [.slice A l.length c, .func (.func fid) #[] caps.toArray]) Tryd.func80 rfl rfl rfl (h) (fun a hs => ?_)
  have hcl := C_len hA
  refine wp_seq (wp_region_lit ?_)
  refine go hs (pA rfl <| ?_); clear hs a; intro a hs
  refine wpList_nil (then_normal (wp_seq ?_))
  refine wp_seq (wp_region_lit ?_)
  refine go hs (pM rfl <| pV rfl (fun a hs => y_lenL hs Tryd.underlying32 rfl) <| pM rfl <| ?_); clear hs a; intro a hs
  refine wpList_nil (then_normal (wp_block ?_))
  refine wp_loopN (fun m a w1 => ∃ (i : Nat) (lf : Int), (i + m = l.length) ∧ (0 ≤ lf ∧ lf ≤ 8192) ∧ (xlist st (l.drop i) lf = xlist st l left) ∧ St 19 w0 [(0, .slice A l.length c), (1, .func (.func fid) #[] caps.toArray), (7, .int .i64 (l.length : Int)), (8, .int .i64 ((i : Nat) : Int))] (pt g #[.int .i64 (lf)] 102 :: bs) a w1) (l.length) ⟨0, left, by omega, hl, rfl, ?_⟩ (fun m a w1 hJ => ?_)
  · exact (hs.mem_to hs.mem).cut _ ⟨rfl, rfl, rfl, rfl, trivial⟩
  clear hs
  obtain ⟨i, lf, hi, hlf, hinv, hs⟩ := hJ
  refine wp_seq (wp_region_lit ?_)
  refine go hs (pV rfl (fun a hs => y_cmp hs rfl rfl rfl) <| ?_); clear hs a; intro a hs
  refine wpList_nil (then_normal (wp_seq ?_))
  refine wp_cond_split (hs.ev rfl) (fun h9 => ?_) (fun h9 => ?_)
  · replace h9 := of_decide_eq_true h9
    obtain ⟨p, hp⟩ : ∃ p, l[i]? = some p := ⟨_, List.getElem?_eq_getElem (by omega)⟩
    obtain ⟨g0, o, rfl, hcell⟩ := C_atH (show 0 < 19 by decide) hA (by omega)
    obtain ⟨cs, hK, hlen, hc⟩ := hcell i p hp
    replace hlen : cs.length = 19 := hlen
    have hfl := hst p (List.mem_of_getElem? hp) lf hlf.1
    have hdrop : l.drop i = p :: l.drop (i + 1) := by
      rw [List.drop_eq_getElem_cons (by omega)]
      rw [List.getElem?_eq_getElem (by omega)] at hp
      injection hp with hp
      rw [hp]
    refine wp_skip (then_normal (wp_seq ?_))
    refine wp_block (wp_seq ?_)
    refine wp_region_lit (go hs (pM rfl <| pA rfl <| ?_)); clear hs a; intro a hs
    refine wpList_nil (then_normal (wp_seq ?_))
    refine wp_region_lit (go hs (pM rfl <| pM rfl <| pM rfl <| pV rfl (fun a hs => y_idxB (size := 19) (off := o + i * 19) hs Tryd.underlying32 (by kernel_rfl) rfl rfl (by omega) (by omega) (by simp)) <| pV rfl (fun a hs => y_loadAgg (vs := cs) hs Tryd.underlying44 rfl (by rw [hlen]; kernel_rfl) rfl (fun w hw k v hk => hc w hw.base k v hk)) <| ?_)); clear hs a; intro a hs
    refine a_eff rfl (e_callF hfn hnm hbd hs rfl rfl rfl (hf p (List.mem_of_getElem? hp) cs lf _ hK hlen hlf hs.mem) (fun e w1 ⟨he, hm⟩ => ⟨_, he, _, hm, ?_⟩)); clear hs a; intro a hs
    refine wpList_nil (then_normal ?_)
    refine wp_cond_split (hs.ev rfl) (fun h16 => ?_) (fun h16 => ?_)
    · have hX : xlist st l left = (false, (st p lf).2) := by rw [← hinv, hdrop, xlist, if_neg (by rw [Bool.not_eq_true', ] at h16; rw [h16]; exact Bool.false_ne_true)]
      refine wp_seq (wp_region_lit ?_)
      refine go hs (pM rfl <| pA rfl <| ?_); clear hs a; intro a hs
      refine wpList_nil (then_normal (wp_ret (in_ret (then_ret (then_ret (in_ret (then_ret ?_)))))))
      refine fin_ret hs (.tmp (hs.slots _ _ rfl) .nil) ⟨_, rfl, ?_, ?_, ?_⟩
      · omega
      · rw [hX]; constructor
        · intro h; first | rfl | (exfalso; omega)
        intro h; first | rfl | cases h
      rw [hX]; exact hs.mem
    have h1 : (st p lf).1 = true := by rw [Bool.not_eq_false'] at h16; exact h16
    refine wp_skip (in_normal (then_normal (wp_region_lit ?_)))
    refine go hs (pV rfl (fun a hs => y_add hs rfl rfl (by omega)) <| pM rfl <| ?_); clear hs a; intro a hs
    refine wpList_nil (then_normal ?_)
    refine ⟨m - 1, by omega, i + 1, (st p lf).2, by omega, ⟨hfl.2.2 h1, by have := hfl.2.1; omega⟩, by rw [← hinv, hdrop, xlist, if_pos h1], ?_⟩
    exact (hs.mem_to hs.mem).cut _ ⟨rfl, rfl, rfl, rfl, trivial⟩
  replace h9 := of_decide_eq_false h9
  have hX : xlist st l left = (true, lf) := by rw [← hinv, List.drop_eq_nil_of_le (by omega), xlist]
  refine wp_exit (then_exit (then_exit (in_here (then_normal (wp_seq ?_)))))
  refine wp_region_lit (go hs (pA rfl <| ?_)); clear hs a; intro a hs
  refine wpList_nil (then_normal (wp_ret ?_))
  refine fin_ret hs (.tmp (hs.slots _ _ rfl) .nil) ⟨_, rfl, ?_, ?_, ?_⟩
  · omega
  · rw [hX]; constructor
    · intro h; first | rfl | (exfalso; omega)
    intro h; first | rfl | cases h
  rw [hX]; exact hs.mem
set_option maxRecDepth 100000 in
theorem contains_I (g fid : Nat) (fn : Func) (caps : List Value) (st : S45 → Int → Bool × Int) (A : Option Addr) (c : Nat) (l : List S45) (left : Int) (bs : List Res) (w0 w : World) (hfn : Tryd.prog.funcs[fid]? = some fn) (hnm : (fn.name == "runtime.NumGoroutine") = false) (hbd : fn.body.isNone = false) (hA : Kd.C k45 w0 A l.length l) (hf : ∀ p ∈ l, ∀ (cs : List Value) (lf : Int) (w1 : World), k45.K w0 p cs → cs.length = 19 → 0 ≤ lf ∧ lf ≤ 8192 → H w0 (pt g #[.int .i64 (lf)] 102 :: bs) w1 → Calls Tryd.prog fid (.agg cs.toArray :: caps).toArray w1 fun e w' => e = .returned (.bool (!(st p lf).1)) ∧ H w0 (pt g #[.int .i64 ((st p lf).2)] 102 :: bs) w') (hst : ∀ p ∈ l, ∀ lf, 0 ≤ lf → fallsB (st p lf) lf) (hl : 0 ≤ left ∧ left ≤ 8192) (h : H w0 (pt g #[.int .i64 (left)] 102 :: bs) w) :
    Calls Tryd.prog 47 #[.slice A l.length c, .func (.func fid) #[] caps.toArray] w fun e w' => e = .returned (.bool (!(xlist st l left).1)) ∧ H w0 (pt g #[.int .i64 ((xlist st l left).2)] 102 :: bs) w' := by
  refine calls_enter (N := 9) (n := 7) (args := [.slice A l.length c, .func (.func fid) #[] caps.toArray]) Tryd.func47 rfl rfl rfl (h) (fun a hs => ?_)
  refine wp_seq (wp_region_lit ?_)
  refine go hs (pA rfl <| ?_); clear hs a; intro a hs
  refine wpList_nil (then_normal (wp_seq ?_))
  refine wp_region_lit (go hs (pM rfl <| pM rfl <| ?_)); clear hs a; intro a hs
  refine a_eff rfl (e_callX Tryd.func80 rfl rfl hs rfl rfl (index_I g fid fn caps st A c l left _ w0 _ hfn hnm hbd hA hf hst hl hs.mem) (fun e w1 ⟨k, he, hk1, hk2, hm⟩ => ⟨_, he, _, hm, ?_⟩)); clear hs a; intro a hs
  refine go hs (pV rfl (fun a hs => y_cmp (b := !(xlist st l left).1) hs rfl rfl (congrArg some (by cases hb : (xlist st l left).1 with | true => exact decide_eq_false (by have := hk2.2 hb; omega) | false => exact decide_eq_true (by have hk3 : ¬ k = -1 := fun h => Bool.false_ne_true (hb.symm.trans (hk2.1 h)); omega)))) <| pA rfl <| ?_); clear hs a; intro a hs
  refine wpList_nil (then_normal (wp_ret ?_))
  refine fin_ret hs (.tmp (hs.slots _ _ rfl) .nil) ⟨rfl, hs.mem⟩
/-- The search over expressions. -/
def stE (x : XE) (left : Int) : Bool × Int := (decide (0 < (xexpr 16 x left).1), (xexpr 16 x left).2)
theorem stE_falls (x : XE) (lf : Int) (h : 0 ≤ lf) : fallsB (stE x lf) lf := by
  obtain ⟨a, b, c⟩ := xexpr_left 16 x lf h
  exact ⟨a, b, fun h => c (by have := of_decide_eq_true h; omega)⟩
set_option maxRecDepth 100000 in
theorem exprs_one (g gc : Nat) (x : XE) (A : Option Addr) (C : Nat) (lf : Int) (bs : List Res) (w0 w : World) (hA : Kd.C k25 w0 A x.f3.length x.f3) (hsm : smallX 16 x) (hlf : 0 ≤ lf ∧ lf ≤ 8192) (h : H w0 (pt g #[.int .i64 (lf)] 102 :: pt gc #[.pointer (some ⟨g, 0, none⟩)] 72 :: bs) w) :
    Calls Tryd.prog 101 #[.agg #[.int .u8 x.f0, .int .i64 x.f1, .string x.f2, .slice A x.f3.length C, .int .i64 x.f4, .int .i64 x.f5], .pointer (some ⟨gc, 0, none⟩)] w fun e w' => e = .returned (.bool (!(stE x lf).1)) ∧ H w0 (pt g #[.int .i64 ((stE x lf).2)] 102 :: pt gc #[.pointer (some ⟨g, 0, none⟩)] 72 :: bs) w' := by
  refine calls_enter (N := 8) (n := 6) (args := [.agg #[.int .u8 x.f0, .int .i64 x.f1, .string x.f2, .slice A x.f3.length C, .int .i64 x.f4, .int .i64 x.f5], .pointer (some ⟨gc, 0, none⟩)]) Tryd.func101 rfl rfl rfl (h) (fun a hs => ?_)
  refine wp_seq (wp_region_lit ?_)
  refine a_eff rfl (e_box (cs := #[_, _, _, _, _, _]) hs rfl rfl rfl ?_); clear hs a; intro gx a w hs
  refine go hs (pA rfl <| ?_); clear hs a; intro a hs
  refine wpList_nil (then_normal (wp_seq ?_))
  refine wp_region_lit (go hs (pV rfl (fun a hs => y_load hs Tryd.underlying72 rfl rfl (fun w hw => (hw.to 2 rfl).cellV rfl)) <| pV rfl (fun a hs => y_loadPt 0 rfl hs Tryd.underlying25 rfl (by kernel_rfl) rfl) <| ?_)); clear hs a; intro a hs
  refine a_eff rfl (e_callX Tryd.func44 rfl rfl hs rfl rfl (walk_expr 16 (by decide) x A C g lf _ w0 _ hA hsm hlf (hs.mem.to 1 rfl)) (fun e w1 ⟨he, hm⟩ => ⟨_, he, _, hm, ?_⟩)); clear hs a; intro a hs
  refine go hs (pV rfl (fun a hs => y_cmp (b := !(stE x lf).1) hs rfl rfl (congrArg some (if h : 0 < (xexpr 16 x lf).1 then (by unfold stE; rw [decide_eq_true h]; exact beq_eq_false_iff_ne.2 (by omega)) else (by unfold stE; rw [decide_eq_false h]; exact beq_iff_eq.2 (by omega))))) <| pA rfl <| ?_); clear hs a; intro a hs
  refine wpList_nil (then_normal (wp_ret ?_))
  refine fin_ret hs (.tmp (hs.slots _ _ rfl) .nil) ⟨rfl, (((hs.mem.to 1 rfl).drop.to 1 rfl).to 1 rfl)⟩
set_option maxRecDepth 100000 in
theorem walk_exprs (g : Nat) (A : Option Addr) (c : Nat) (l : List XE) (left : Int) (bs : List Res) (w0 w : World) (hA : Kd.C k25 w0 A l.length l) (hsm : ∀ p ∈ l, smallX 16 p) (hl : 0 ≤ left ∧ left ≤ 8192) (h : H w0 (pt g #[.int .i64 (left)] 102 :: bs) w) :
    Calls Tryd.prog 77 #[.pointer (some ⟨g, 0, none⟩), .slice A l.length c] w fun e w' => e = .returned (.bool (xlist stE l left).1) ∧ H w0 (pt g #[.int .i64 ((xlist stE l left).2)] 102 :: bs) w' := by
  refine calls_enter (N := 9) (n := 7) (args := [.pointer (some ⟨g, 0, none⟩), .slice A l.length c]) Tryd.func77 rfl rfl rfl (h) (fun a hs => ?_)
  refine wp_seq (wp_region_lit ?_)
  refine a_eff rfl (e_box (cs := #[_]) hs rfl rfl rfl ?_); clear hs a; intro gc a w hs
  refine go hs (pA rfl <| ?_); clear hs a; intro a hs
  refine wpList_nil (then_normal (wp_seq ?_))
  refine wp_region_lit (go hs (pM rfl <| pV rfl (fun a hs => y_func hs rfl rfl) <| ?_)); clear hs a; intro a hs
  refine a_eff rfl (e_callX Tryd.func100 rfl rfl hs rfl rfl (contains_E g 101 _ [.pointer (some ⟨gc, 0, none⟩)] stE A c l left (pt gc #[.pointer (some ⟨g, 0, none⟩)] 72 :: bs) w0 _ Tryd.func101 rfl rfl hA (fun p hp cs lf w1 hK hlen hlf h => by obtain ⟨A0, c0, rfl, hlc, hC⟩ := k25_open hK; exact exprs_one g gc p A0 c0 lf bs w0 w1 hC (hsm p hp) hlf h) (fun p hp lf h => stE_falls p lf h) hl (hs.mem.to 1 rfl)) (fun e w1 ⟨he, hm⟩ => ⟨_, he, _, hm, ?_⟩)); clear hs a; intro a hs
  refine go hs (pV rfl (fun a hs => y_not hs rfl) <| pA rfl <| ?_); clear hs a; intro a hs
  refine wpList_nil (then_normal (wp_ret ?_))
  refine fin_ret hs (.tmp (hs.slots _ _ rfl) .nil) ⟨?_, (hs.mem.to 1 rfl).drop⟩
  show _ = Ending.returned (.bool _); simp [tell]
end Go.Proofs.YtibaidddhmdafaaDoor.E
end
section
namespace Go.Proofs.YtibaidddhmdafaaDoor.E
open Go Go.RowKit Go.Proofs.YtibaidddhmdafaaDoorW.PrintWords Go.Proofs.YtibaidddhmdafaaDoorW.PrintLast Go.Proofs.YtibaidddhmdafaaDoorW.PrintMore Go.Proofs.YtibaidddhmdafaaDoor.PA
set_option linter.unusedVariables false
set_option linter.unusedSimpArgs false
abbrev XS := S42
abbrev XI := S45
/-- A matrix's rows. -/
def stR (r : List XE) (left : Int) : Bool × Int := if 1 ≤ r.length ∧ r.length ≤ 64 then xlist stE r left else (false, left)
def rowsF (l : List (List XE)) (left : Int) : Bool × Int := if 1 ≤ l.length ∧ l.length ≤ 64 then xlist stR l left else (false, left)
theorem stR_falls (r : List XE) (lf : Int) (h : 0 ≤ lf) : fallsB (stR r lf) lf := by
  unfold stR
  split
  · exact xlist_left r lf (fun p _ l h => stE_falls p l h) h
  · exact ⟨by show -1 ≤ lf; omega, Int.le_refl _, fun h => by cases h⟩
theorem rowsF_falls (l : List (List XE)) (lf : Int) (h : 0 ≤ lf) : fallsB (rowsF l lf) lf := by
  unfold rowsF
  split
  · exact xlist_left l lf (fun p _ l h => stR_falls p l h) h
  · exact ⟨by show -1 ≤ lf; omega, Int.le_refl _, fun h => by cases h⟩
/-- What a shape of its kind has: a name, so many arguments, so many parts, rows. -/
def shapeParts (k : Int) : Option (Bool × Nat × Nat × Bool) :=
  if k = 1 then some (true, 0, 0, false) else if k = 2 ∨ k = 3 then some (false, 2, 0, false) else if k = 4 ∨ k = 5 then some (false, 3, 0, false)
  else if k = 6 ∨ k = 7 then some (false, 0, 2, false) else if k = 8 then some (false, 0, 0, true) else none
/-- Is a shape's head well? -/
def headS (s : XS) : Prop := ∃ nm a p r, shapeParts s.f0 = some (nm, a, p, r) ∧ nameOk s.f1 = nm ∧ (nm = false → s.f1.size = 0) ∧ s.f2.length = a ∧ s.f3.length = p ∧ (r = false → s.f4.length = 0)
def rowsS (s : XS) (left : Int) : Bool × Int := if s.f0 = 8 then rowsF s.f4 left else (true, left)
theorem rowsS_falls (s : XS) (lf : Int) (h : 0 ≤ lf) : fallsB (rowsS s lf) lf := by
  unfold rowsS
  split
  · exact rowsF_falls _ _ h
  · exact ⟨by show -1 ≤ lf; omega, Int.le_refl _, fun _ => h⟩
open Classical in
noncomputable def xshape : Nat → XS → Int → Bool × Int
  | 0, _, left => (false, left)
  | n + 1, s, left => if left - 1 < 0 then (false, left - 1) else if headS s then
      (if (rowsS s (left - 1)).1 = true then
        (if (xlist stE s.f2 (rowsS s (left - 1)).2).1 = true then
          xlist (xshape n) s.f3 (xlist stE s.f2 (rowsS s (left - 1)).2).2
        else xlist stE s.f2 (rowsS s (left - 1)).2)
      else rowsS s (left - 1))
    else (false, left - 1)
theorem xshape_falls : ∀ (n : Nat) (s : XS) (lf : Int), 0 ≤ lf → fallsB (xshape n s lf) lf
  | 0, _, lf, h => ⟨by show -1 ≤ lf; omega, Int.le_refl _, fun h => by cases h⟩
  | n + 1, s, lf, h => by
    have h0 : fallsB (false, lf - 1) lf := ⟨by show -1 ≤ lf - 1; omega, by show lf - 1 ≤ lf; omega, fun h => by cases h⟩
    rw [xshape]
    split
    · exact h0
    · split
      · have h1 := rowsS_falls s (lf - 1) (by omega)
        split
        · rename_i c1
          have h2 := xlist_left s.f2 _ (fun p _ l h => stE_falls p l h) (h1.2.2 c1)
          split
          · rename_i c2
            have h3 := xlist_left s.f3 _ (fun p _ l h => xshape_falls n p l h) (h2.2.2 c2)
            exact ⟨h3.1, by have := h1.2.1; have := h2.2.1; have := h3.2.1; omega, h3.2.2⟩
          · exact ⟨h2.1, by have := h1.2.1; have := h2.2.1; omega, h2.2.2⟩
        · exact ⟨h1.1, by have := h1.2.1; omega, h1.2.2⟩
      · exact h0
def smallS : Nat → XS → Prop
  | 0, _ => True
  | n + 1, s => s.f1.size ≤ 9223372036854775807 ∧ (∀ p ∈ s.f2, smallX 16 p) ∧ (∀ p ∈ s.f3, smallS n p) ∧ ∀ r ∈ s.f4, ∀ p ∈ r, smallX 16 p
end Go.Proofs.YtibaidddhmdafaaDoor.E
end
section
namespace Go.Proofs.YtibaidddhmdafaaDoor.E
open Go Go.RowKit Go.Proofs.YtibaidddhmdafaaDoorW.PrintWords Go.Proofs.YtibaidddhmdafaaDoorW.PrintLast Go.Proofs.YtibaidddhmdafaaDoorW.PrintMore Go.Proofs.YtibaidddhmdafaaDoor.PA
set_option linter.unusedVariables false
set_option linter.unusedSimpArgs false
set_option maxRecDepth 100000 in
theorem tree_side (n : Nat) (v0 : World) :
    Calls Tryd.prog 81 #[.int .i64 ((n : Nat) : Int)] v0 fun e w' => e = .returned (.bool (decide (1 ≤ n ∧ n ≤ 64))) ∧ Below v0.heap.size v0 w' := by
  refine calls_enter (N := 9) (n := 8) (args := [.int .i64 ((n : Nat) : Int)]) Tryd.func81 rfl rfl rfl (H.init v0) (fun a hs => ?_)
  refine wp_seq (wp_region_lit ?_)
  refine go hs (pA rfl <| ?_); clear hs a; intro a hs
  refine wpList_nil (then_normal (wp_seq ?_))
  refine wp_region_lit (go hs (pM rfl <| pV rfl (fun a hs => y_cmp hs rfl rfl rfl) <| pM rfl <| ?_)); clear hs a; intro a hs
  rcases hs.know (d := 5) rfl with ⟨h5, hs1⟩ | ⟨h5, hs1⟩ <;> replace hs := hs1 <;> clear hs1
  · replace h5 := of_decide_eq_true h5
    refine go hs (pG rfl (fun a hs => y_move hs rfl) <| pG rfl (fun a hs => y_cmp hs rfl rfl rfl) <| pT rfl rfl <| pA rfl <| ?_); clear hs a; intro a hs
    refine wpList_nil (then_normal (wp_ret ?_))
    refine fin_ret hs (.tmp (hs.slots _ _ rfl) .nil) ⟨?_, hs.mem.base⟩
    first | (rw [decide_eq_false (show ¬ (1 ≤ n ∧ n ≤ 64) by omega)]; rfl) | (rw [← decide_eq_decide.2 (show (n : Int) ≤ 64 ↔ (1 ≤ n ∧ n ≤ 64) by omega)]; rfl)
  replace h5 := of_decide_eq_false h5
  refine go hs (pS rfl <| pS rfl <| pF rfl rfl <| pA rfl <| ?_); clear hs a; intro a hs
  refine wpList_nil (then_normal (wp_ret ?_))
  refine fin_ret hs (.tmp (hs.slots _ _ rfl) .nil) ⟨?_, hs.mem.base⟩
  first | (rw [decide_eq_false (show ¬ (1 ≤ n ∧ n ≤ 64) by omega)]; rfl) | (rw [← decide_eq_decide.2 (show (n : Int) ≤ 64 ↔ (1 ≤ n ∧ n ≤ 64) by omega)]; rfl)
set_option maxRecDepth 100000 in
theorem walk_rows (g : Nat) (A : Option Addr) (c : Nat) (l : List (List XE)) (left : Int) (bs : List Res) (w0 w : World) (hA : Kd.C (Kd.slice 25 k25) w0 A l.length l) (hsm : ∀ r ∈ l, ∀ p ∈ r, smallX 16 p) (hl : 0 ≤ left ∧ left ≤ 8192) (h : H w0 (pt g #[.int .i64 (left)] 102 :: bs) w) :
    Calls Tryd.prog 76 #[.pointer (some ⟨g, 0, none⟩), .slice A l.length c] w fun e w' => e = .returned (.bool (rowsF l left).1) ∧ H w0 (pt g #[.int .i64 ((rowsF l left).2)] 102 :: bs) w' := by
  refine calls_enter (N := 28) (n := 26) (args := [.pointer (some ⟨g, 0, none⟩), .slice A l.length c]) Tryd.func76 rfl rfl rfl (h) (fun a hs => ?_)
  have hcl := C_len hA
  refine wp_seq (wp_region_lit ?_)
  refine go hs (pA rfl <| ?_); clear hs a; intro a hs
  refine wpList_nil (then_normal (wp_seq ?_))
  refine wp_seq (wp_region_lit ?_)
  refine go hs (pM rfl <| pV rfl (fun a hs => y_lenL hs Tryd.underlying40 rfl) <| ?_); clear hs a; intro a hs
  refine a_eff rfl (e_callB Tryd.func81 rfl rfl hs rfl rfl (tree_side l.length _) ?_); clear hs a; intro a w hs
  refine go hs (pV rfl (fun a hs => y_not hs rfl) <| ?_); clear hs a; intro a hs
  refine wpList_nil (then_normal ?_)
  refine wp_cond_split (hs.ev rfl) (fun h10 => ?_) (fun h10 => ?_)
  · replace h10 := of_decide_eq_false (not_t h10)
    refine wp_seq (wp_region_lit ?_)
    refine go hs (pA rfl <| ?_); clear hs a; intro a hs
    refine wpList_nil (then_normal (wp_ret (then_ret ?_)))
    have hX : rowsF l left = (false, left) := by unfold rowsF; rw [if_neg (by omega)]
    refine fin_ret hs (.tmp (hs.slots _ _ rfl) .nil) ⟨?_, ?_⟩
    · rw [hX]; rfl
    rw [hX]; exact hs.mem
  replace h10 := of_decide_eq_true (not_f h10)
  refine wp_skip (then_normal (wp_seq ?_))
  refine wp_seq (wp_region_lit ?_)
  refine go hs (pM rfl <| pV rfl (fun a hs => y_lenL hs Tryd.underlying40 rfl) <| pM rfl <| ?_); clear hs a; intro a hs
  refine wpList_nil (then_normal (wp_block ?_))
  refine wp_loopN (fun m a w1 => ∃ (i : Nat) (lf : Int), (i + m = l.length) ∧ (0 ≤ lf ∧ lf ≤ 8192) ∧ (xlist stR (l.drop i) lf = xlist stR l left) ∧ St 28 w0 [(0, .pointer (some ⟨g, 0, none⟩)), (11, .slice A l.length c), (12, .int .i64 (l.length : Int)), (13, .int .i64 ((i : Nat) : Int))] (pt g #[.int .i64 (lf)] 102 :: bs) a w1) (l.length) ⟨0, left, by omega, hl, rfl, ?_⟩ (fun m a w1 hJ => ?_)
  · exact (hs.mem_to hs.mem).cut _ ⟨rfl, rfl, rfl, rfl, trivial⟩
  clear hs
  obtain ⟨i, lf, hi, hlf, hinv, hs⟩ := hJ
  refine wp_seq (wp_region_lit ?_)
  refine go hs (pV rfl (fun a hs => y_cmp hs rfl rfl rfl) <| ?_); clear hs a; intro a hs
  refine wpList_nil (then_normal (wp_seq ?_))
  refine wp_cond_split (hs.ev rfl) (fun h14 => ?_) (fun h14 => ?_)
  · replace h14 := of_decide_eq_true h14
    obtain ⟨r, hr⟩ : ∃ r, l[i]? = some r := ⟨_, List.getElem?_eq_getElem (by omega)⟩
    obtain ⟨g0, o, rfl, hcell⟩ := C_atH (show 0 < 1 by decide) hA (by omega)
    obtain ⟨cs, hK, hlen, hc⟩ := hcell i r hr
    obtain ⟨A0, c0, rfl, hlc, hC⟩ := hK
    have hdrop : l.drop i = r :: l.drop (i + 1) := by
      rw [List.drop_eq_getElem_cons (by omega)]
      rw [List.getElem?_eq_getElem (by omega)] at hr
      injection hr with hr
      rw [hr]
    refine wp_skip (then_normal (wp_seq ?_))
    refine wp_block (wp_seq ?_)
    refine wp_region_lit (go hs (pV rfl (fun a hs => y_idxB (size := 1) (off := o + i * 1) hs Tryd.underlying40 (by kernel_rfl) rfl rfl (by omega) (by omega) (by simp)) <| pV rfl (fun a hs => y_load (v := .slice A0 r.length c0) hs Tryd.underlying23 rfl rfl (fun w hw => hc w hw.base 0 _ rfl)) <| pA rfl <| ?_)); clear hs a; intro a hs
    refine wpList_nil (then_normal (wp_seq ?_))
    refine wp_region_lit (go hs (pM rfl <| pV rfl (fun a hs => y_lenL hs Tryd.underlying23 rfl) <| ?_)); clear hs a; intro a hs
    refine a_eff rfl (e_callB Tryd.func81 rfl rfl hs rfl rfl (tree_side r.length _) ?_); clear hs a; intro a w hs
    refine go hs (pV rfl (fun a hs => y_not hs rfl) <| pM rfl <| ?_); clear hs a; intro a hs
    rcases hs.know (d := 21) rfl with ⟨h21, hs1⟩ | ⟨h21, hs1⟩ <;> replace hs := hs1 <;> clear hs1
    · replace h21 := of_decide_eq_false (not_t h21)
      refine go hs (pS rfl <| pS rfl <| pS rfl <| pS rfl <| pT rfl rfl <| ?_); clear hs a; intro a hs
      refine wpList_nil (then_normal ?_)
      refine wp_cond_true (hs.ev rfl) ?_
      refine wp_seq (wp_region_lit ?_)
      refine go hs (pA rfl <| ?_); clear hs a; intro a hs
      refine wpList_nil (then_normal (wp_ret (in_ret (then_ret (then_ret (in_ret (then_ret ?_)))))))
      have hX : rowsF l left = (false, lf) := by unfold rowsF; rw [if_pos (by omega), ← hinv, hdrop, xlist]; have h1 : stR r lf = (false, lf) := (by unfold stR; rw [if_neg (by omega)]); rw [h1]; rfl
      refine fin_ret hs (.tmp (hs.slots _ _ rfl) .nil) ⟨?_, ?_⟩
      · rw [hX]; rfl
      rw [hX]; exact hs.mem
    replace h21 := of_decide_eq_true (not_f h21)
    refine go hs (pG rfl (fun a hs => y_move hs rfl) <| pG rfl (fun a hs => y_move hs rfl) <| ?_); clear hs a; intro a hs
    refine a_effG hs rfl (e_callX Tryd.func77 rfl rfl hs rfl rfl (walk_exprs g A0 c0 r lf _ w0 _ hC (hsm r (List.mem_of_getElem? hr)) hlf hs.mem) (fun e w1 ⟨he, hm⟩ => ⟨_, he, _, hm, ?_⟩)); clear hs a; intro a hs
    refine go hs (pG rfl (fun a hs => y_not hs rfl) <| pF rfl rfl <| ?_); clear hs a; intro a hs
    refine wpList_nil (then_normal ?_)
    refine wp_cond_split (hs.ev rfl) (fun h26 => ?_) (fun h26 => ?_)
    · replace h26 := (not_t h26)
      refine wp_seq (wp_region_lit ?_)
      refine go hs (pA rfl <| ?_); clear hs a; intro a hs
      refine wpList_nil (then_normal (wp_ret (in_ret (then_ret (then_ret (in_ret (then_ret ?_)))))))
      have hX : rowsF l left = (false, (xlist stE r lf).2) := by unfold rowsF; rw [if_pos (by omega), ← hinv, hdrop, xlist]; have h1 : stR r lf = xlist stE r lf := (by unfold stR; rw [if_pos (by omega)]); rw [h1, h26]; rfl
      refine fin_ret hs (.tmp (hs.slots _ _ rfl) .nil) ⟨?_, ?_⟩
      · rw [hX]; rfl
      rw [hX]; exact hs.mem
    replace h26 := (not_f h26)
    have h1 : stR r lf = xlist stE r lf := by unfold stR; rw [if_pos (by omega)]
    have hfl := stR_falls r lf hlf.1
    rw [h1] at hfl
    refine wp_skip (in_normal (then_normal (wp_region_lit ?_)))
    refine go hs (pV rfl (fun a hs => y_add hs rfl rfl (by omega)) <| pM rfl <| ?_); clear hs a; intro a hs
    refine wpList_nil (then_normal ?_)
    refine ⟨m - 1, by omega, i + 1, (xlist stE r lf).2, by omega, ⟨hfl.2.2 h26, by have := hfl.2.1; omega⟩, by rw [← hinv, hdrop, xlist, h1, if_pos h26], ?_⟩
    exact (hs.mem_to hs.mem).cut _ ⟨rfl, rfl, rfl, rfl, trivial⟩
  replace h14 := of_decide_eq_false h14
  refine wp_exit (then_exit (then_exit (in_here (then_normal (wp_seq ?_)))))
  refine wp_region_lit (go hs (pA rfl <| ?_)); clear hs a; intro a hs
  refine wpList_nil (then_normal (wp_ret ?_))
  have hX : rowsF l left = (true, lf) := by unfold rowsF; rw [if_pos (by omega), ← hinv, List.drop_eq_nil_of_le (by omega), xlist]
  refine fin_ret hs (.tmp (hs.slots _ _ rfl) .nil) ⟨?_, ?_⟩
  · rw [hX]; rfl
  rw [hX]; exact hs.mem
theorem parts_cases {k : Int} {nm r : Bool} {a p : Nat} (h : shapeParts k = some (nm, a, p, r)) : (nm = true ∧ a = 0 ∧ p = 0 ∧ r = false ∧ k = 1) ∨ (nm = false ∧ a = 2 ∧ p = 0 ∧ r = false ∧ (k = 2 ∨ k = 3)) ∨ (nm = false ∧ a = 3 ∧ p = 0 ∧ r = false ∧ (k = 4 ∨ k = 5)) ∨ (nm = false ∧ a = 0 ∧ p = 2 ∧ r = false ∧ (k = 6 ∨ k = 7)) ∨ (nm = false ∧ a = 0 ∧ p = 0 ∧ r = true ∧ k = 8) := by
  unfold shapeParts at h
  repeat' split at h
  all_goals first | (simp only [Option.some.injEq, Prod.mk.injEq] at h; obtain ⟨rfl, rfl, rfl, rfl⟩ := h; simp_all) | cases h
def ShapeOk (n : Nat) : Prop := ∀ (s : XS) (A2 A3 A4 : Option Addr) (c2 c3 c4 g : Nat) (left : Int) (bs : List Res) (w0 w : World), Kd.C k25 w0 A2 s.f2.length s.f2 → Kd.C k42 w0 A3 s.f3.length s.f3 → Kd.C (Kd.slice 25 k25) w0 A4 s.f4.length s.f4 → smallS n s → 0 ≤ left ∧ left ≤ 8192 → H w0 (pt g #[.int .i64 (left)] 102 :: bs) w → Calls Tryd.prog 45 #[.pointer (some ⟨g, 0, none⟩), .agg #[.int .u8 s.f0, .string s.f1, .slice A2 s.f2.length c2, .slice A3 s.f3.length c3, .slice A4 s.f4.length c4, .int .i64 s.f5, .int .i64 s.f6], .int .i64 ((n : Nat) : Int)] w fun e w' => e = .returned (.bool (xshape n s left).1) ∧ H w0 (pt g #[.int .i64 ((xshape n s left).2)] 102 :: bs) w'
set_option maxRecDepth 100000 in
theorem shape_one (q : Nat) (hn : q + 1 ≤ 1000) (ih : ShapeOk q) (g gc gv : Nat) (p : XS) (B2 B3 B4 : Option Addr) (d2 d3 d4 : Nat) (lf : Int) (X : Res) (bs : List Res) (w0 w : World) (hB2 : Kd.C k25 w0 B2 p.f2.length p.f2) (hB3 : Kd.C k42 w0 B3 p.f3.length p.f3) (hB4 : Kd.C (Kd.slice 25 k25) w0 B4 p.f4.length p.f4) (hsm : smallS q p) (hlf : 0 ≤ lf ∧ lf ≤ 8192) (h : H w0 (pt g #[.int .i64 (lf)] 102 :: pt gv #[.int .i64 ((q + 1 : Nat) : Int)] 3 :: X :: pt gc #[.pointer (some ⟨g, 0, none⟩)] 72 :: bs) w) :
    Calls Tryd.prog 79 #[.agg #[.int .u8 p.f0, .string p.f1, .slice B2 p.f2.length d2, .slice B3 p.f3.length d3, .slice B4 p.f4.length d4, .int .i64 p.f5, .int .i64 p.f6], .pointer (some ⟨gc, 0, none⟩), .pointer (some ⟨gv, 0, none⟩)] w fun e w' => e = .returned (.bool (!(xshape q p lf).1)) ∧ H w0 (pt g #[.int .i64 ((xshape q p lf).2)] 102 :: pt gv #[.int .i64 ((q + 1 : Nat) : Int)] 3 :: X :: pt gc #[.pointer (some ⟨g, 0, none⟩)] 72 :: bs) w' := by
  refine calls_enter (N := 11) (n := 8) (args := [.agg #[.int .u8 p.f0, .string p.f1, .slice B2 p.f2.length d2, .slice B3 p.f3.length d3, .slice B4 p.f4.length d4, .int .i64 p.f5, .int .i64 p.f6], .pointer (some ⟨gc, 0, none⟩), .pointer (some ⟨gv, 0, none⟩)]) Tryd.func79 rfl rfl rfl (h) (fun a hs => ?_)
  refine wp_seq (wp_region_lit ?_)
  refine a_eff rfl (e_box (cs := #[_, _, _, _, _, _, _]) hs rfl rfl rfl ?_); clear hs a; intro gy a w hs
  refine go hs (pA rfl <| ?_); clear hs a; intro a hs
  refine wpList_nil (then_normal (wp_seq ?_))
  refine wp_region_lit (go hs (pV rfl (fun a hs => y_load hs Tryd.underlying72 rfl rfl (fun w hw => (hw.to 4 rfl).cellV rfl)) <| pV rfl (fun a hs => y_loadPt 0 rfl hs Tryd.underlying42 rfl (by kernel_rfl) rfl) <| pV rfl (fun a hs => y_load hs Tryd.underlying3 rfl rfl (fun w hw => (hw.to 2 rfl).cellV rfl)) <| pV rfl (fun a hs => y_sub hs rfl rfl (by omega)) <| ?_)); clear hs a; intro a hs
  replace hs := hs.say 8 rfl (congrArg (Value.int IntKind.i64) (show (((q + 1 : Nat) : Int) - 1) = ((q : Nat) : Int) by omega))
  refine a_eff rfl (e_callX Tryd.func45 rfl rfl hs rfl rfl (ih p B2 B3 B4 d2 d3 d4 g lf _ w0 _ hB2 hB3 hB4 hsm hlf (hs.mem.to 1 rfl)) (fun e w1 ⟨he, hm⟩ => ⟨_, he, _, hm, ?_⟩)); clear hs a; intro a hs
  refine go hs (pV rfl (fun a hs => y_not hs rfl) <| pA rfl <| ?_); clear hs a; intro a hs
  refine wpList_nil (then_normal (wp_ret ?_))
  refine fin_ret hs (.tmp (hs.slots _ _ rfl) .nil) ⟨rfl, (((((hs.mem.to 1 rfl).drop.to 3 rfl).to 3 rfl).to 3 rfl).to 3 rfl)⟩
set_option maxRecDepth 100000 in
theorem walk_shape_step (n : Nat) (hn : n ≤ 1000) (ih : ∀ q, q + 1 = n → ShapeOk q) (s : XS) (A2 A3 A4 : Option Addr) (c2 c3 c4 g : Nat) (left : Int) (bs : List Res) (w0 w : World) (hA2 : Kd.C k25 w0 A2 s.f2.length s.f2) (hA3 : Kd.C k42 w0 A3 s.f3.length s.f3) (hA4 : Kd.C (Kd.slice 25 k25) w0 A4 s.f4.length s.f4) (hsm : smallS n s) (hl : 0 ≤ left ∧ left ≤ 8192) (h : H w0 (pt g #[.int .i64 (left)] 102 :: bs) w) :
    Calls Tryd.prog 45 #[.pointer (some ⟨g, 0, none⟩), .agg #[.int .u8 s.f0, .string s.f1, .slice A2 s.f2.length c2, .slice A3 s.f3.length c3, .slice A4 s.f4.length c4, .int .i64 s.f5, .int .i64 s.f6], .int .i64 ((n : Nat) : Int)] w fun e w' => e = .returned (.bool (xshape n s left).1) ∧ H w0 (pt g #[.int .i64 ((xshape n s left).2)] 102 :: bs) w' := by
  refine calls_enter (N := 95) (n := 92) (args := [.pointer (some ⟨g, 0, none⟩), .agg #[.int .u8 s.f0, .string s.f1, .slice A2 s.f2.length c2, .slice A3 s.f3.length c3, .slice A4 s.f4.length c4, .int .i64 s.f5, .int .i64 s.f6], .int .i64 ((n : Nat) : Int)]) Tryd.func45 rfl rfl rfl (h) (fun a hs => ?_)
  refine wp_seq (wp_region_lit ?_)
  refine a_eff rfl (e_box (cs := #[_]) hs rfl rfl rfl ?_); clear hs a; intro gc a w hs
  refine a_eff rfl (e_box (cs := #[_, _, _, _, _, _, _]) hs rfl rfl rfl ?_); clear hs a; intro gx a w hs
  refine a_eff rfl (e_box (cs := #[_]) hs rfl rfl rfl ?_); clear hs a; intro gv a w hs
  refine go hs (pA rfl <| ?_); clear hs a; intro a hs
  refine wpList_nil (then_normal (wp_seq ?_))
  refine wp_seq (wp_region_lit ?_)
  refine go hs (pV rfl (fun a hs => y_load hs Tryd.underlying3 rfl rfl (fun w hw => (hw.to 0 rfl).cellV rfl)) <| pV rfl (fun a hs => y_cmp hs rfl rfl rfl) <| pM rfl <| ?_); clear hs a; intro a hs
  rcases hs.know (d := 13) rfl with ⟨h13, hs1⟩ | ⟨h13, hs1⟩ <;> replace hs := hs1 <;> clear hs1
  · replace h13 := eq_of_beq h13
    refine go hs (pS rfl <| pS rfl <| pS rfl <| pT rfl rfl <| ?_); clear hs a; intro a hs
    refine wpList_nil (then_normal ?_)
    refine wp_cond_true (hs.ev rfl) ?_
    refine wp_seq (wp_region_lit ?_)
    refine go hs (pA rfl <| ?_); clear hs a; intro a hs
    refine wpList_nil (then_normal (wp_ret (then_ret ?_)))
    obtain rfl : n = 0 := by omega
    have hX : xshape 0 s left = (false, left) := by rw [xshape]
    refine fin_ret hs (.tmp (hs.slots _ _ rfl) .nil) ⟨?_, ?_⟩
    · rw [hX]; first | rfl | simp [tell]
    rw [hX]; exact (((hs.mem.to 0 rfl).drop.to 0 rfl).drop.to 0 rfl).drop
  replace h13 := ne_of_beq_false h13
  obtain ⟨q, rfl⟩ : ∃ q, n = q + 1 := ⟨n - 1, by omega⟩
  refine go hs (pG rfl (fun a hs => y_load hs Tryd.underlying72 rfl rfl (fun w hw => (hw.to 2 rfl).cellV rfl)) <| ?_); clear hs a; intro a hs
  refine a_effG hs rfl (e_callX Tryd.func74 rfl rfl hs rfl rfl (walk_node g left hl _ w0 _ (hs.mem.to 3 rfl)) (fun e w1 ⟨he, hm⟩ => ⟨_, he, _, hm, ?_⟩)); clear hs a; intro a hs
  refine go hs (pG rfl (fun a hs => y_not hs rfl) <| pF rfl rfl <| ?_); clear hs a; intro a hs
  refine wpList_nil (then_normal ?_)
  refine wp_cond_split (hs.ev rfl) (fun h17 => ?_) (fun h17 => ?_)
  · replace h17 := of_decide_eq_false (not_t h17)
    refine wp_seq (wp_region_lit ?_)
    refine go hs (pA rfl <| ?_); clear hs a; intro a hs
    refine wpList_nil (then_normal (wp_ret (then_ret ?_)))
    have hX : xshape (q + 1) s left = (false, left - 1) := by rw [xshape, if_pos (by omega)]
    refine fin_ret hs (.tmp (hs.slots _ _ rfl) .nil) ⟨?_, ?_⟩
    · rw [hX]; first | rfl | simp [tell]
    rw [hX]; exact (((hs.mem.to 1 rfl).drop.to 1 rfl).drop.to 1 rfl).drop
  replace h17 := of_decide_eq_true (not_f h17)
  refine wp_skip (then_normal (wp_seq ?_))
  refine wp_region_lit (go hs (pA rfl <| pA rfl <| pA rfl <| pA rfl <| ?_)); clear hs a; intro a hs
  refine wpList_nil (then_normal ?_)
  refine wp_seq_cut (fun a w1 => ∃ (nm : Bool) (na np : Nat) (r : Bool), (shapeParts s.f0 = some (nm, na, np, r)) ∧ St 95 w0 [(3, .pointer (some ⟨gc, 0, none⟩)), (4, .pointer (some ⟨gx, 0, none⟩)), (5, .pointer (some ⟨gv, 0, none⟩)), (7, .bool nm), (8, .int .i64 ((na : Nat) : Int)), (9, .int .i64 ((np : Nat) : Int)), (10, .bool r)] (pt g #[.int .i64 (left - 1)] 102 :: pt gv #[.int .i64 ((q + 1 : Nat) : Int)] 3 :: pt gx #[.int .u8 s.f0, .string s.f1, .slice A2 s.f2.length c2, .slice A3 s.f3.length c3, .slice A4 s.f4.length c4, .int .i64 s.f5, .int .i64 s.f6] 42 :: pt gc #[.pointer (some ⟨g, 0, none⟩)] 72 :: bs) a w1) ?_ (fun a w1 hJ => ?_)
  · refine wp_seq (wp_region_lit ?_)
    refine go hs (pV rfl (fun a hs => y_faddr (k' := 0) 0 hs (by kernel_rfl) rfl rfl) <| pV rfl (fun a hs => y_load hs Tryd.underlying38 rfl rfl (fun w hw => (hw.to 2 rfl).cellV rfl)) <| ?_); clear hs a; intro a hs
    refine wpList_nil (then_normal (wp_block ?_))
    refine wp_seq (wp_block ?_)
    refine wp_seq (wp_block ?_)
    refine wp_seq (wp_block ?_)
    refine wp_seq (wp_block ?_)
    refine wp_seq (wp_block ?_)
    refine wp_seq (wp_block ?_)
    refine wp_seq (wp_seq ?_)
    refine wp_seq (wp_region_lit ?_)
    refine go hs (pV rfl (fun a hs => y_cmp hs rfl rfl rfl) <| pA rfl <| ?_); clear hs a; intro a hs
    refine wpList_nil (then_normal ?_)
    refine wp_cond_split (hs.ev rfl) (fun h20 => ?_) (fun h20 => ?_)
    · replace h20 := eq_of_beq h20
      refine wp_exit (then_exit (then_exit (in_here (then_normal (wp_seq ?_)))))
      refine wp_region_lit (go hs (pA rfl <| ?_)); clear hs a; intro a hs
      refine wpList_nil (then_normal (wp_exit (in_other rfl (then_exit (in_other rfl (then_exit (in_other rfl (then_exit (in_other rfl (then_exit (in_other rfl (then_exit (in_here (then_normal ?_))))))))))))))
      refine ⟨true, 0, 0, false, by clear hs; unfold shapeParts; (repeat' split) <;> first | rfl | (exfalso; omega), ?_⟩
      exact (hs.mem_to ((((hs.mem.to 3 rfl).to 3 rfl).to 3 rfl).to 3 rfl)).cut _ ⟨rfl, rfl, rfl, rfl, rfl, rfl, rfl, trivial⟩
    replace h20 := ne_of_beq_false h20
    refine wp_skip (then_normal (wp_seq ?_))
    refine wp_seq (wp_seq ?_)
    refine wp_region_lit (go hs (pV rfl (fun a hs => y_cmp hs rfl rfl rfl) <| pA rfl <| ?_)); clear hs a; intro a hs
    refine wpList_nil (then_normal ?_)
    refine wp_cond_split (hs.ev rfl) (fun h22 => ?_) (fun h22 => ?_)
    · replace h22 := eq_of_beq h22
      replace hs := hs.say 22 rfl (congrArg Value.bool (beq_iff_eq.2 h22))
      refine wp_skip (then_normal ?_)
      refine wp_cond_true (hs.ev rfl) ?_
      refine wp_exit (then_exit (then_exit (in_other rfl (then_exit (in_here (then_normal (wp_region_lit ?_)))))))
      refine go hs (pM rfl <| pV rfl (fun a hs => y_add hs rfl rfl (by omega)) <| pA rfl <| ?_); clear hs a; intro a hs
      refine wpList_nil (in_normal (then_normal (wp_seq ?_)))
      refine wp_region_lit (go hs (pM rfl <| pV rfl (fun a hs => y_add hs rfl rfl (by omega)) <| pA rfl <| ?_)); clear hs a; intro a hs
      refine wpList_nil (then_normal (wp_exit (in_other rfl (then_exit (in_other rfl (then_exit (in_other rfl (then_exit (in_here (then_normal ?_))))))))))
      refine ⟨false, 3, 0, false, by clear hs; unfold shapeParts; (repeat' split) <;> first | rfl | (exfalso; omega), ?_⟩
      exact (hs.mem_to ((((hs.mem.to 3 rfl).to 3 rfl).to 3 rfl).to 3 rfl)).cut _ ⟨rfl, rfl, rfl, rfl, rfl, rfl, rfl, trivial⟩
    replace h22 := ne_of_beq_false h22
    replace hs := hs.say 22 rfl (congrArg Value.bool (beq_eq_false_iff_ne.2 h22))
    refine wp_region_lit (go hs (pV rfl (fun a hs => y_cmp hs rfl rfl rfl) <| pA rfl <| ?_)); clear hs a; intro a hs
    refine wpList_nil (then_normal ?_)
    refine wp_cond_split (hs.ev rfl) (fun h22 => ?_) (fun h22 => ?_)
    · replace h22 := eq_of_beq h22
      replace hs := hs.say 22 rfl (congrArg Value.bool (beq_iff_eq.2 h22))
      refine wp_exit (then_exit (then_exit (in_other rfl (then_exit (in_here (then_normal (wp_region_lit ?_)))))))
      refine go hs (pM rfl <| pV rfl (fun a hs => y_add hs rfl rfl (by omega)) <| pA rfl <| ?_); clear hs a; intro a hs
      refine wpList_nil (in_normal (then_normal (wp_seq ?_)))
      refine wp_region_lit (go hs (pM rfl <| pV rfl (fun a hs => y_add hs rfl rfl (by omega)) <| pA rfl <| ?_)); clear hs a; intro a hs
      refine wpList_nil (then_normal (wp_exit (in_other rfl (then_exit (in_other rfl (then_exit (in_other rfl (then_exit (in_here (then_normal ?_))))))))))
      refine ⟨false, 3, 0, false, by clear hs; unfold shapeParts; (repeat' split) <;> first | rfl | (exfalso; omega), ?_⟩
      exact (hs.mem_to ((((hs.mem.to 3 rfl).to 3 rfl).to 3 rfl).to 3 rfl)).cut _ ⟨rfl, rfl, rfl, rfl, rfl, rfl, rfl, trivial⟩
    replace h22 := ne_of_beq_false h22
    replace hs := hs.say 22 rfl (congrArg Value.bool (beq_eq_false_iff_ne.2 h22))
    refine wp_skip (then_normal (wp_seq ?_))
    refine wp_seq (wp_seq ?_)
    refine wp_region_lit (go hs (pV rfl (fun a hs => y_cmp hs rfl rfl rfl) <| pA rfl <| ?_)); clear hs a; intro a hs
    refine wpList_nil (then_normal ?_)
    refine wp_cond_split (hs.ev rfl) (fun h25 => ?_) (fun h25 => ?_)
    · replace h25 := eq_of_beq h25
      replace hs := hs.say 25 rfl (congrArg Value.bool (beq_iff_eq.2 h25))
      refine wp_skip (then_normal ?_)
      refine wp_cond_true (hs.ev rfl) ?_
      refine wp_exit (then_exit (then_exit (in_other rfl (then_exit (in_other rfl (then_exit (in_here (then_normal (wp_seq ?_)))))))))
      refine wp_region_lit (go hs (pM rfl <| pV rfl (fun a hs => y_add hs rfl rfl (by omega)) <| pA rfl <| ?_)); clear hs a; intro a hs
      refine wpList_nil (then_normal (wp_exit (in_other rfl (then_exit (in_other rfl (then_exit (in_other rfl (then_exit (in_here (then_normal ?_))))))))))
      refine ⟨false, 2, 0, false, by clear hs; unfold shapeParts; (repeat' split) <;> first | rfl | (exfalso; omega), ?_⟩
      exact (hs.mem_to ((((hs.mem.to 3 rfl).to 3 rfl).to 3 rfl).to 3 rfl)).cut _ ⟨rfl, rfl, rfl, rfl, rfl, rfl, rfl, trivial⟩
    replace h25 := ne_of_beq_false h25
    replace hs := hs.say 25 rfl (congrArg Value.bool (beq_eq_false_iff_ne.2 h25))
    refine wp_region_lit (go hs (pV rfl (fun a hs => y_cmp hs rfl rfl rfl) <| pA rfl <| ?_)); clear hs a; intro a hs
    refine wpList_nil (then_normal ?_)
    refine wp_cond_split (hs.ev rfl) (fun h25 => ?_) (fun h25 => ?_)
    · replace h25 := eq_of_beq h25
      replace hs := hs.say 25 rfl (congrArg Value.bool (beq_iff_eq.2 h25))
      refine wp_exit (then_exit (then_exit (in_other rfl (then_exit (in_other rfl (then_exit (in_here (then_normal (wp_seq ?_)))))))))
      refine wp_region_lit (go hs (pM rfl <| pV rfl (fun a hs => y_add hs rfl rfl (by omega)) <| pA rfl <| ?_)); clear hs a; intro a hs
      refine wpList_nil (then_normal (wp_exit (in_other rfl (then_exit (in_other rfl (then_exit (in_other rfl (then_exit (in_here (then_normal ?_))))))))))
      refine ⟨false, 2, 0, false, by clear hs; unfold shapeParts; (repeat' split) <;> first | rfl | (exfalso; omega), ?_⟩
      exact (hs.mem_to ((((hs.mem.to 3 rfl).to 3 rfl).to 3 rfl).to 3 rfl)).cut _ ⟨rfl, rfl, rfl, rfl, rfl, rfl, rfl, trivial⟩
    replace h25 := ne_of_beq_false h25
    replace hs := hs.say 25 rfl (congrArg Value.bool (beq_eq_false_iff_ne.2 h25))
    refine wp_skip (then_normal (wp_seq ?_))
    refine wp_seq (wp_seq ?_)
    refine wp_region_lit (go hs (pV rfl (fun a hs => y_cmp hs rfl rfl rfl) <| pA rfl <| ?_)); clear hs a; intro a hs
    refine wpList_nil (then_normal ?_)
    refine wp_cond_split (hs.ev rfl) (fun h28 => ?_) (fun h28 => ?_)
    · replace h28 := eq_of_beq h28
      replace hs := hs.say 28 rfl (congrArg Value.bool (beq_iff_eq.2 h28))
      refine wp_skip (then_normal ?_)
      refine wp_cond_true (hs.ev rfl) ?_
      refine wp_exit (then_exit (then_exit (in_other rfl (then_exit (in_other rfl (then_exit (in_other rfl (then_exit (in_here (then_normal (wp_seq ?_)))))))))))
      refine wp_region_lit (go hs (pA rfl <| ?_)); clear hs a; intro a hs
      refine wpList_nil (then_normal (wp_exit (in_other rfl (then_exit (in_other rfl (then_exit (in_here (then_normal ?_))))))))
      refine ⟨false, 0, 2, false, by clear hs; unfold shapeParts; (repeat' split) <;> first | rfl | (exfalso; omega), ?_⟩
      exact (hs.mem_to ((((hs.mem.to 3 rfl).to 3 rfl).to 3 rfl).to 3 rfl)).cut _ ⟨rfl, rfl, rfl, rfl, rfl, rfl, rfl, trivial⟩
    replace h28 := ne_of_beq_false h28
    replace hs := hs.say 28 rfl (congrArg Value.bool (beq_eq_false_iff_ne.2 h28))
    refine wp_region_lit (go hs (pV rfl (fun a hs => y_cmp hs rfl rfl rfl) <| pA rfl <| ?_)); clear hs a; intro a hs
    refine wpList_nil (then_normal ?_)
    refine wp_cond_split (hs.ev rfl) (fun h28 => ?_) (fun h28 => ?_)
    · replace h28 := eq_of_beq h28
      replace hs := hs.say 28 rfl (congrArg Value.bool (beq_iff_eq.2 h28))
      refine wp_exit (then_exit (then_exit (in_other rfl (then_exit (in_other rfl (then_exit (in_other rfl (then_exit (in_here (then_normal (wp_seq ?_)))))))))))
      refine wp_region_lit (go hs (pA rfl <| ?_)); clear hs a; intro a hs
      refine wpList_nil (then_normal (wp_exit (in_other rfl (then_exit (in_other rfl (then_exit (in_here (then_normal ?_))))))))
      refine ⟨false, 0, 2, false, by clear hs; unfold shapeParts; (repeat' split) <;> first | rfl | (exfalso; omega), ?_⟩
      exact (hs.mem_to ((((hs.mem.to 3 rfl).to 3 rfl).to 3 rfl).to 3 rfl)).cut _ ⟨rfl, rfl, rfl, rfl, rfl, rfl, rfl, trivial⟩
    replace h28 := ne_of_beq_false h28
    replace hs := hs.say 28 rfl (congrArg Value.bool (beq_eq_false_iff_ne.2 h28))
    refine wp_skip (then_normal (wp_seq ?_))
    refine wp_region_lit (go hs (pV rfl (fun a hs => y_cmp hs rfl rfl rfl) <| pA rfl <| ?_)); clear hs a; intro a hs
    refine wpList_nil (then_normal ?_)
    refine wp_cond_split (hs.ev rfl) (fun h31 => ?_) (fun h31 => ?_)
    · replace h31 := eq_of_beq h31
      refine wp_exit (then_exit (in_other rfl (then_exit (in_other rfl (then_exit (in_other rfl (then_exit (in_other rfl (then_exit (in_here (then_normal (wp_seq ?_))))))))))))
      refine wp_region_lit (go hs (pA rfl <| ?_)); clear hs a; intro a hs
      refine wpList_nil (then_normal (wp_exit (in_other rfl (then_exit (in_here (then_normal ?_))))))
      refine ⟨false, 0, 0, true, by clear hs; unfold shapeParts; (repeat' split) <;> first | rfl | (exfalso; omega), ?_⟩
      exact (hs.mem_to ((((hs.mem.to 3 rfl).to 3 rfl).to 3 rfl).to 3 rfl)).cut _ ⟨rfl, rfl, rfl, rfl, rfl, rfl, rfl, trivial⟩
    replace h31 := ne_of_beq_false h31
    refine wp_skip (then_normal (wp_exit (in_other rfl (then_exit (in_other rfl (then_exit (in_other rfl (then_exit (in_other rfl (then_exit (in_other rfl (then_exit (in_here (then_normal ?_))))))))))))))
    refine wp_seq (wp_seq ?_)
    refine wp_region_lit (go hs (pA rfl <| ?_)); clear hs a; intro a hs
    refine wpList_nil (then_normal (wp_ret (then_ret (in_ret (then_ret ?_)))))
    have hP : shapeParts s.f0 = none := by clear hs; unfold shapeParts; (repeat' split) <;> first | rfl | (exfalso; omega)
    have hH : ¬ headS s := by rintro ⟨nm, a, p, r, h1, _⟩; rw [hP] at h1; cases h1
    have hX : xshape (q + 1) s left = (false, left - 1) := by rw [xshape, if_neg (by omega), if_neg hH]
    refine fin_ret hs (.tmp (hs.slots _ _ rfl) .nil) ⟨?_, ?_⟩
    · rw [hX]; first | rfl | simp [tell]
    rw [hX]; exact (((hs.mem.to 1 rfl).drop.to 1 rfl).drop.to 1 rfl).drop
  clear hs
  obtain ⟨nm, na, np, r, hsp, hs⟩ := hJ
  refine wp_seq (wp_seq ?_)
  rcases parts_cases hsp with ⟨rfl, rfl, rfl, rfl, hk⟩ | ⟨rfl, rfl, rfl, rfl, hk⟩ | ⟨rfl, rfl, rfl, rfl, hk⟩ | ⟨rfl, rfl, rfl, rfl, hk⟩ | ⟨rfl, rfl, rfl, rfl, hk⟩
  · refine wp_region_lit (go hs (pM rfl <| pV rfl (fun a hs => y_faddr (k' := 1) 1 hs (by kernel_rfl) rfl rfl) <| pV rfl (fun a hs => y_load hs Tryd.underlying9 rfl rfl (fun w hw => (hw.to 2 rfl).cellV rfl)) <| ?_)); clear hs a; intro a hs
    refine a_eff rfl (e_callB Tryd.func75 rfl rfl hs rfl rfl (tree_named.calls _ s.f1 (nameOk s.f1) _ (tnamed_ok s.f1 hsm.1)) ?_); clear hs a; intro a w hs
    refine go hs (pV rfl (fun a hs => y_bneB hs Tryd.underlying4 rfl rfl rfl) <| pM rfl <| ?_); clear hs a; intro a hs
    rcases hs.know (d := 42) rfl with ⟨h42, hs1⟩ | ⟨h42, hs1⟩ <;> replace hs := hs1 <;> clear hs1
    · refine go hs (pS rfl <| pS rfl <| pS rfl <| pS rfl <| pS rfl <| pS rfl <| pS rfl <| pT rfl rfl <| pM rfl <| pS rfl <| pS rfl <| pS rfl <| pS rfl <| pS rfl <| pT rfl rfl <| pM rfl <| pS rfl <| pS rfl <| pS rfl <| pS rfl <| pS rfl <| pT rfl rfl <| pM rfl <| pS rfl <| pS rfl <| pS rfl <| pS rfl <| pS rfl <| pS rfl <| pS rfl <| pS rfl <| pT rfl rfl <| ?_); clear hs a; intro a hs
      refine wpList_nil (then_normal ?_)
      refine wp_cond_true (hs.ev rfl) ?_
      refine wp_seq (wp_region_lit ?_)
      refine go hs (pA rfl <| ?_); clear hs a; intro a hs
      refine wpList_nil (then_normal (wp_ret (then_ret ?_)))
      have hH : ¬ headS s := by
        rintro ⟨nm, a, p, r, h1, h2, h3, h4, h5, h6⟩
        rw [hsp] at h1
        simp only [Option.some.injEq, Prod.mk.injEq] at h1
        obtain ⟨rfl, rfl, rfl, rfl⟩ := h1
        first | omega | (have := h3 rfl; omega) | (have := h6 rfl; omega) | (rw [h2] at h42; cases h42)
      have hX : xshape (q + 1) s left = (false, left - 1) := by rw [xshape, if_neg (by omega), if_neg hH]
      refine fin_ret hs (.tmp (hs.slots _ _ rfl) .nil) ⟨?_, ?_⟩
      · rw [hX]; first | rfl | simp [tell]
      rw [hX]; exact (((hs.mem.to 1 rfl).drop.to 1 rfl).drop.to 1 rfl).drop
    refine go hs (pG rfl (fun a hs => y_move hs rfl) <| pG rfl (fun a hs => y_not hs rfl) <| pG rfl (fun a hs => y_move hs rfl) <| pS rfl <| pS rfl <| pS rfl <| pG rfl (fun a hs => y_pickF hs rfl rfl rfl) <| pF rfl rfl <| pM rfl <| pG rfl (fun a hs => y_faddr (k' := 2) 2 hs (by kernel_rfl) rfl rfl) <| pG rfl (fun a hs => y_load hs Tryd.underlying23 rfl rfl (fun w hw => (hw.to 2 rfl).cellV rfl)) <| pG rfl (fun a hs => y_lenL hs Tryd.underlying23 rfl) <| pG rfl (fun a hs => y_move hs rfl) <| pG rfl (fun a hs => y_cmp hs rfl rfl rfl) <| pF rfl rfl <| pM rfl <| ?_); clear hs a; intro a hs
    rcases hs.know (d := 58) rfl with ⟨h58, hs1⟩ | ⟨h58, hs1⟩ <;> replace hs := hs1 <;> clear hs1
    · replace h58 := bne_iff_ne.1 h58
      refine go hs (pS rfl <| pS rfl <| pS rfl <| pS rfl <| pS rfl <| pT rfl rfl <| pM rfl <| pS rfl <| pS rfl <| pS rfl <| pS rfl <| pS rfl <| pS rfl <| pS rfl <| pS rfl <| pT rfl rfl <| ?_); clear hs a; intro a hs
      refine wpList_nil (then_normal ?_)
      refine wp_cond_true (hs.ev rfl) ?_
      refine wp_seq (wp_region_lit ?_)
      refine go hs (pA rfl <| ?_); clear hs a; intro a hs
      refine wpList_nil (then_normal (wp_ret (then_ret ?_)))
      have hH : ¬ headS s := by
        rintro ⟨nm, a, p, r, h1, h2, h3, h4, h5, h6⟩
        rw [hsp] at h1
        simp only [Option.some.injEq, Prod.mk.injEq] at h1
        obtain ⟨rfl, rfl, rfl, rfl⟩ := h1
        first | omega | (have := h3 rfl; omega) | (have := h6 rfl; omega) | (rw [h2] at h42; cases h42)
      have hX : xshape (q + 1) s left = (false, left - 1) := by rw [xshape, if_neg (by omega), if_neg hH]
      refine fin_ret hs (.tmp (hs.slots _ _ rfl) .nil) ⟨?_, ?_⟩
      · rw [hX]; first | rfl | simp [tell]
      rw [hX]; exact (((hs.mem.to 1 rfl).drop.to 1 rfl).drop.to 1 rfl).drop
    replace h58 := bne_eq_false_iff_eq.1 h58
    refine go hs (pG rfl (fun a hs => y_faddr (k' := 3) 3 hs (by kernel_rfl) rfl rfl) <| pG rfl (fun a hs => y_load hs Tryd.underlying39 rfl rfl (fun w hw => (hw.to 2 rfl).cellV rfl)) <| pG rfl (fun a hs => y_lenL hs Tryd.underlying39 rfl) <| pG rfl (fun a hs => y_move hs rfl) <| pG rfl (fun a hs => y_cmp hs rfl rfl rfl) <| pF rfl rfl <| pM rfl <| ?_); clear hs a; intro a hs
    rcases hs.know (d := 65) rfl with ⟨h65, hs1⟩ | ⟨h65, hs1⟩ <;> replace hs := hs1 <;> clear hs1
    · replace h65 := bne_iff_ne.1 h65
      refine go hs (pS rfl <| pS rfl <| pS rfl <| pS rfl <| pS rfl <| pS rfl <| pS rfl <| pS rfl <| pT rfl rfl <| ?_); clear hs a; intro a hs
      refine wpList_nil (then_normal ?_)
      refine wp_cond_true (hs.ev rfl) ?_
      refine wp_seq (wp_region_lit ?_)
      refine go hs (pA rfl <| ?_); clear hs a; intro a hs
      refine wpList_nil (then_normal (wp_ret (then_ret ?_)))
      have hH : ¬ headS s := by
        rintro ⟨nm, a, p, r, h1, h2, h3, h4, h5, h6⟩
        rw [hsp] at h1
        simp only [Option.some.injEq, Prod.mk.injEq] at h1
        obtain ⟨rfl, rfl, rfl, rfl⟩ := h1
        first | omega | (have := h3 rfl; omega) | (have := h6 rfl; omega) | (rw [h2] at h42; cases h42)
      have hX : xshape (q + 1) s left = (false, left - 1) := by rw [xshape, if_neg (by omega), if_neg hH]
      refine fin_ret hs (.tmp (hs.slots _ _ rfl) .nil) ⟨?_, ?_⟩
      · rw [hX]; first | rfl | simp [tell]
      rw [hX]; exact (((hs.mem.to 1 rfl).drop.to 1 rfl).drop.to 1 rfl).drop
    replace h65 := bne_eq_false_iff_eq.1 h65
    refine go hs (pG rfl (fun a hs => y_move hs rfl) <| pG rfl (fun a hs => y_not hs rfl) <| pG rfl (fun a hs => y_move hs rfl) <| pG rfl (fun a hs => y_faddr (k' := 4) 4 hs (by kernel_rfl) rfl rfl) <| pG rfl (fun a hs => y_load hs Tryd.underlying40 rfl rfl (fun w hw => (hw.to 2 rfl).cellV rfl)) <| pG rfl (fun a hs => y_lenL hs Tryd.underlying40 rfl) <| pG rfl (fun a hs => y_cmp hs rfl rfl rfl) <| pG rfl (fun a hs => y_pickT hs rfl rfl rfl) <| pF rfl rfl <| ?_); clear hs a; intro a hs
    refine wpList_nil (then_normal ?_)
    refine wp_cond_split (hs.ev rfl) (fun h74 => ?_) (fun h74 => ?_)
    · replace h74 := of_decide_eq_true h74
      refine wp_seq (wp_region_lit ?_)
      refine go hs (pA rfl <| ?_); clear hs a; intro a hs
      refine wpList_nil (then_normal (wp_ret (then_ret ?_)))
      have hH : ¬ headS s := by
        rintro ⟨nm, a, p, r, h1, h2, h3, h4, h5, h6⟩
        rw [hsp] at h1
        simp only [Option.some.injEq, Prod.mk.injEq] at h1
        obtain ⟨rfl, rfl, rfl, rfl⟩ := h1
        first | omega | (have := h3 rfl; omega) | (have := h6 rfl; omega) | (rw [h2] at h42; cases h42)
      have hX : xshape (q + 1) s left = (false, left - 1) := by rw [xshape, if_neg (by omega), if_neg hH]
      refine fin_ret hs (.tmp (hs.slots _ _ rfl) .nil) ⟨?_, ?_⟩
      · rw [hX]; first | rfl | simp [tell]
      rw [hX]; exact (((hs.mem.to 1 rfl).drop.to 1 rfl).drop.to 1 rfl).drop
    replace h74 := of_decide_eq_false h74
    have hH : headS s := ⟨_, _, _, _, hsp, (by simpa using h42), (fun h => by cases h), by omega, by omega, (fun _ => by omega)⟩
    obtain ⟨RR, hRR0⟩ : ∃ RR : Bool × Int, RR = (true, left - 1) := ⟨_, rfl⟩
    have hR : rowsS s (left - 1) = RR := by unfold rowsS; rw [if_neg (by omega), hRR0]
    have hR1 : RR.1 = true := by rw [hRR0]
    have hRR : 0 ≤ RR.2 ∧ RR.2 ≤ 8192 := by rw [hRR0]; exact ⟨by show 0 ≤ left - 1; omega, by show left - 1 ≤ 8192; omega⟩
    rw [show left - 1 = RR.2 by rw [hRR0]] at hs
    refine wp_skip (then_normal (wp_seq ?_))
    refine wp_seq (wp_region_lit ?_)
    refine go hs (pM rfl <| pM rfl <| pS rfl <| pS rfl <| pS rfl <| pS rfl <| pS rfl <| pF rfl rfl <| pM rfl <| pG rfl (fun a hs => y_load hs Tryd.underlying72 rfl rfl (fun w hw => (hw.to 3 rfl).cellV rfl)) <| pG rfl (fun a hs => y_faddr (k' := 2) 2 hs (by kernel_rfl) rfl rfl) <| pG rfl (fun a hs => y_load hs Tryd.underlying23 rfl rfl (fun w hw => (hw.to 2 rfl).cellV rfl)) <| ?_); clear hs a; intro a hs
    refine a_effG hs rfl (e_callX Tryd.func77 rfl rfl hs rfl rfl (walk_exprs g A2 c2 s.f2 RR.2 _ w0 _ hA2 hsm.2.1 hRR hs.mem) (fun e w1 ⟨he, hm⟩ => ⟨_, he, _, hm, ?_⟩)); clear hs a; intro a hs
    refine go hs (pG rfl (fun a hs => y_not hs rfl) <| pF rfl rfl <| ?_); clear hs a; intro a hs
    refine wpList_nil (then_normal ?_)
    refine wp_cond_split (hs.ev rfl) (fun h89 => ?_) (fun h89 => ?_)
    · replace h89 := (not_t h89)
      refine wp_seq (wp_region_lit ?_)
      refine go hs (pA rfl <| ?_); clear hs a; intro a hs
      refine wpList_nil (then_normal (wp_ret (then_ret ?_)))
      have hX : xshape (q + 1) s left = (false, (xlist stE s.f2 RR.2).2) := by rw [xshape, if_neg (by omega), if_pos hH, hR, if_pos hR1, if_neg (by rw [h89]; exact Bool.false_ne_true), ← h89]
      refine fin_ret hs (.tmp (hs.slots _ _ rfl) .nil) ⟨?_, ?_⟩
      · rw [hX]; first | rfl | simp [tell]
      rw [hX]; exact (((hs.mem.to 1 rfl).drop.to 1 rfl).drop.to 1 rfl).drop
    replace h89 := (not_f h89)
    have hxf := xlist_left s.f2 RR.2 (fun p _ l h => stE_falls p l h) hRR.1
    have hRE : 0 ≤ (xlist stE s.f2 RR.2).2 ∧ (xlist stE s.f2 RR.2).2 ≤ 8192 := ⟨hxf.2.2 h89, by have := hxf.2.1; omega⟩
    refine wp_skip (then_normal (wp_seq ?_))
    refine wp_region_lit (go hs (pV rfl (fun a hs => y_faddr (k' := 3) 3 hs (by kernel_rfl) rfl rfl) <| pV rfl (fun a hs => y_load hs Tryd.underlying39 rfl rfl (fun w hw => (hw.to 2 rfl).cellV rfl)) <| pV rfl (fun a hs => y_func hs rfl rfl) <| ?_)); clear hs a; intro a hs
    refine a_eff rfl (e_callX Tryd.func78 rfl rfl hs rfl rfl (contains_S g 79 _ [.pointer (some ⟨gc, 0, none⟩), .pointer (some ⟨gv, 0, none⟩)] (xshape q) A3 c3 s.f3 (xlist stE s.f2 RR.2).2 (pt gv #[.int .i64 ((q + 1 : Nat) : Int)] 3 :: pt gx #[.int .u8 s.f0, .string s.f1, .slice A2 s.f2.length c2, .slice A3 s.f3.length c3, .slice A4 s.f4.length c4, .int .i64 s.f5, .int .i64 s.f6] 42 :: pt gc #[.pointer (some ⟨g, 0, none⟩)] 72 :: bs) w0 _ Tryd.func79 rfl rfl hA3 (fun p hp cs lf w1 hK hlen hlf h => by obtain ⟨B2, d2, B3, d3, B4, d4, rfl, e2, C2, e3, C3, e4, C4⟩ := k42_open hK; exact shape_one q hn (ih q rfl) g gc gv p B2 B3 B4 d2 d3 d4 lf _ bs w0 w1 C2 C3 C4 (hsm.2.2.1 p hp) hlf h) (fun p hp lf h => xshape_falls q p lf h) hRE hs.mem) (fun e w1 ⟨he, hm⟩ => ⟨_, he, _, hm, ?_⟩)); clear hs a; intro a hs
    refine go hs (pV rfl (fun a hs => y_not hs rfl) <| pA rfl <| ?_); clear hs a; intro a hs
    refine wpList_nil (then_normal (wp_ret ?_))
    have hX : xshape (q + 1) s left = xlist (xshape q) s.f3 (xlist stE s.f2 RR.2).2 := by rw [xshape, if_neg (by omega), if_pos hH, hR, if_pos hR1, if_pos h89]
    refine fin_ret hs (.tmp (hs.slots _ _ rfl) .nil) ⟨?_, ?_⟩
    · rw [hX]; first | rfl | simp [tell]
    rw [hX]; exact (((hs.mem.to 1 rfl).drop.to 1 rfl).drop.to 1 rfl).drop
  · refine wp_region_lit (go hs (pM rfl <| pV rfl (fun a hs => y_faddr (k' := 1) 1 hs (by kernel_rfl) rfl rfl) <| pV rfl (fun a hs => y_load hs Tryd.underlying9 rfl rfl (fun w hw => (hw.to 2 rfl).cellV rfl)) <| ?_)); clear hs a; intro a hs
    refine a_eff rfl (e_callB Tryd.func75 rfl rfl hs rfl rfl (tree_named.calls _ s.f1 (nameOk s.f1) _ (tnamed_ok s.f1 hsm.1)) ?_); clear hs a; intro a w hs
    refine go hs (pV rfl (fun a hs => y_bneB hs Tryd.underlying4 rfl rfl rfl) <| pM rfl <| ?_); clear hs a; intro a hs
    rcases hs.know (d := 42) rfl with ⟨h42, hs1⟩ | ⟨h42, hs1⟩ <;> replace hs := hs1 <;> clear hs1
    · refine go hs (pS rfl <| pS rfl <| pS rfl <| pS rfl <| pS rfl <| pS rfl <| pS rfl <| pT rfl rfl <| pM rfl <| pS rfl <| pS rfl <| pS rfl <| pS rfl <| pS rfl <| pT rfl rfl <| pM rfl <| pS rfl <| pS rfl <| pS rfl <| pS rfl <| pS rfl <| pT rfl rfl <| pM rfl <| pS rfl <| pS rfl <| pS rfl <| pS rfl <| pS rfl <| pS rfl <| pS rfl <| pS rfl <| pT rfl rfl <| ?_); clear hs a; intro a hs
      refine wpList_nil (then_normal ?_)
      refine wp_cond_true (hs.ev rfl) ?_
      refine wp_seq (wp_region_lit ?_)
      refine go hs (pA rfl <| ?_); clear hs a; intro a hs
      refine wpList_nil (then_normal (wp_ret (then_ret ?_)))
      have hH : ¬ headS s := by
        rintro ⟨nm, a, p, r, h1, h2, h3, h4, h5, h6⟩
        rw [hsp] at h1
        simp only [Option.some.injEq, Prod.mk.injEq] at h1
        obtain ⟨rfl, rfl, rfl, rfl⟩ := h1
        first | omega | (have := h3 rfl; omega) | (have := h6 rfl; omega) | (rw [h2] at h42; cases h42)
      have hX : xshape (q + 1) s left = (false, left - 1) := by rw [xshape, if_neg (by omega), if_neg hH]
      refine fin_ret hs (.tmp (hs.slots _ _ rfl) .nil) ⟨?_, ?_⟩
      · rw [hX]; first | rfl | simp [tell]
      rw [hX]; exact (((hs.mem.to 1 rfl).drop.to 1 rfl).drop.to 1 rfl).drop
    refine go hs (pG rfl (fun a hs => y_move hs rfl) <| pG rfl (fun a hs => y_not hs rfl) <| pG rfl (fun a hs => y_move hs rfl) <| pG rfl (fun a hs => y_faddr (k' := 1) 1 hs (by kernel_rfl) rfl rfl) <| pG rfl (fun a hs => y_load hs Tryd.underlying9 rfl rfl (fun w hw => (hw.to 2 rfl).cellV rfl)) <| pG rfl (fun a hs => y_sneE hs rfl rfl) <| pG rfl (fun a hs => y_pickT hs rfl rfl rfl) <| pF rfl rfl <| pM rfl <| ?_); clear hs a; intro a hs
    rcases hs.know (d := 51) rfl with ⟨h51, hs1⟩ | ⟨h51, hs1⟩ <;> replace hs := hs1 <;> clear hs1
    · replace h51 := of_decide_eq_true h51
      refine go hs (pS rfl <| pS rfl <| pS rfl <| pS rfl <| pS rfl <| pT rfl rfl <| pM rfl <| pS rfl <| pS rfl <| pS rfl <| pS rfl <| pS rfl <| pT rfl rfl <| pM rfl <| pS rfl <| pS rfl <| pS rfl <| pS rfl <| pS rfl <| pS rfl <| pS rfl <| pS rfl <| pT rfl rfl <| ?_); clear hs a; intro a hs
      refine wpList_nil (then_normal ?_)
      refine wp_cond_true (hs.ev rfl) ?_
      refine wp_seq (wp_region_lit ?_)
      refine go hs (pA rfl <| ?_); clear hs a; intro a hs
      refine wpList_nil (then_normal (wp_ret (then_ret ?_)))
      have hH : ¬ headS s := by
        rintro ⟨nm, a, p, r, h1, h2, h3, h4, h5, h6⟩
        rw [hsp] at h1
        simp only [Option.some.injEq, Prod.mk.injEq] at h1
        obtain ⟨rfl, rfl, rfl, rfl⟩ := h1
        first | omega | (have := h3 rfl; omega) | (have := h6 rfl; omega) | (rw [h2] at h42; cases h42)
      have hX : xshape (q + 1) s left = (false, left - 1) := by rw [xshape, if_neg (by omega), if_neg hH]
      refine fin_ret hs (.tmp (hs.slots _ _ rfl) .nil) ⟨?_, ?_⟩
      · rw [hX]; first | rfl | simp [tell]
      rw [hX]; exact (((hs.mem.to 1 rfl).drop.to 1 rfl).drop.to 1 rfl).drop
    replace h51 := of_decide_eq_false h51
    refine go hs (pG rfl (fun a hs => y_faddr (k' := 2) 2 hs (by kernel_rfl) rfl rfl) <| pG rfl (fun a hs => y_load hs Tryd.underlying23 rfl rfl (fun w hw => (hw.to 2 rfl).cellV rfl)) <| pG rfl (fun a hs => y_lenL hs Tryd.underlying23 rfl) <| pG rfl (fun a hs => y_move hs rfl) <| pG rfl (fun a hs => y_cmp hs rfl rfl rfl) <| pF rfl rfl <| pM rfl <| ?_); clear hs a; intro a hs
    rcases hs.know (d := 58) rfl with ⟨h58, hs1⟩ | ⟨h58, hs1⟩ <;> replace hs := hs1 <;> clear hs1
    · replace h58 := bne_iff_ne.1 h58
      refine go hs (pS rfl <| pS rfl <| pS rfl <| pS rfl <| pS rfl <| pT rfl rfl <| pM rfl <| pS rfl <| pS rfl <| pS rfl <| pS rfl <| pS rfl <| pS rfl <| pS rfl <| pS rfl <| pT rfl rfl <| ?_); clear hs a; intro a hs
      refine wpList_nil (then_normal ?_)
      refine wp_cond_true (hs.ev rfl) ?_
      refine wp_seq (wp_region_lit ?_)
      refine go hs (pA rfl <| ?_); clear hs a; intro a hs
      refine wpList_nil (then_normal (wp_ret (then_ret ?_)))
      have hH : ¬ headS s := by
        rintro ⟨nm, a, p, r, h1, h2, h3, h4, h5, h6⟩
        rw [hsp] at h1
        simp only [Option.some.injEq, Prod.mk.injEq] at h1
        obtain ⟨rfl, rfl, rfl, rfl⟩ := h1
        first | omega | (have := h3 rfl; omega) | (have := h6 rfl; omega) | (rw [h2] at h42; cases h42)
      have hX : xshape (q + 1) s left = (false, left - 1) := by rw [xshape, if_neg (by omega), if_neg hH]
      refine fin_ret hs (.tmp (hs.slots _ _ rfl) .nil) ⟨?_, ?_⟩
      · rw [hX]; first | rfl | simp [tell]
      rw [hX]; exact (((hs.mem.to 1 rfl).drop.to 1 rfl).drop.to 1 rfl).drop
    replace h58 := bne_eq_false_iff_eq.1 h58
    refine go hs (pG rfl (fun a hs => y_faddr (k' := 3) 3 hs (by kernel_rfl) rfl rfl) <| pG rfl (fun a hs => y_load hs Tryd.underlying39 rfl rfl (fun w hw => (hw.to 2 rfl).cellV rfl)) <| pG rfl (fun a hs => y_lenL hs Tryd.underlying39 rfl) <| pG rfl (fun a hs => y_move hs rfl) <| pG rfl (fun a hs => y_cmp hs rfl rfl rfl) <| pF rfl rfl <| pM rfl <| ?_); clear hs a; intro a hs
    rcases hs.know (d := 65) rfl with ⟨h65, hs1⟩ | ⟨h65, hs1⟩ <;> replace hs := hs1 <;> clear hs1
    · replace h65 := bne_iff_ne.1 h65
      refine go hs (pS rfl <| pS rfl <| pS rfl <| pS rfl <| pS rfl <| pS rfl <| pS rfl <| pS rfl <| pT rfl rfl <| ?_); clear hs a; intro a hs
      refine wpList_nil (then_normal ?_)
      refine wp_cond_true (hs.ev rfl) ?_
      refine wp_seq (wp_region_lit ?_)
      refine go hs (pA rfl <| ?_); clear hs a; intro a hs
      refine wpList_nil (then_normal (wp_ret (then_ret ?_)))
      have hH : ¬ headS s := by
        rintro ⟨nm, a, p, r, h1, h2, h3, h4, h5, h6⟩
        rw [hsp] at h1
        simp only [Option.some.injEq, Prod.mk.injEq] at h1
        obtain ⟨rfl, rfl, rfl, rfl⟩ := h1
        first | omega | (have := h3 rfl; omega) | (have := h6 rfl; omega) | (rw [h2] at h42; cases h42)
      have hX : xshape (q + 1) s left = (false, left - 1) := by rw [xshape, if_neg (by omega), if_neg hH]
      refine fin_ret hs (.tmp (hs.slots _ _ rfl) .nil) ⟨?_, ?_⟩
      · rw [hX]; first | rfl | simp [tell]
      rw [hX]; exact (((hs.mem.to 1 rfl).drop.to 1 rfl).drop.to 1 rfl).drop
    replace h65 := bne_eq_false_iff_eq.1 h65
    refine go hs (pG rfl (fun a hs => y_move hs rfl) <| pG rfl (fun a hs => y_not hs rfl) <| pG rfl (fun a hs => y_move hs rfl) <| pG rfl (fun a hs => y_faddr (k' := 4) 4 hs (by kernel_rfl) rfl rfl) <| pG rfl (fun a hs => y_load hs Tryd.underlying40 rfl rfl (fun w hw => (hw.to 2 rfl).cellV rfl)) <| pG rfl (fun a hs => y_lenL hs Tryd.underlying40 rfl) <| pG rfl (fun a hs => y_cmp hs rfl rfl rfl) <| pG rfl (fun a hs => y_pickT hs rfl rfl rfl) <| pF rfl rfl <| ?_); clear hs a; intro a hs
    refine wpList_nil (then_normal ?_)
    refine wp_cond_split (hs.ev rfl) (fun h74 => ?_) (fun h74 => ?_)
    · replace h74 := of_decide_eq_true h74
      refine wp_seq (wp_region_lit ?_)
      refine go hs (pA rfl <| ?_); clear hs a; intro a hs
      refine wpList_nil (then_normal (wp_ret (then_ret ?_)))
      have hH : ¬ headS s := by
        rintro ⟨nm, a, p, r, h1, h2, h3, h4, h5, h6⟩
        rw [hsp] at h1
        simp only [Option.some.injEq, Prod.mk.injEq] at h1
        obtain ⟨rfl, rfl, rfl, rfl⟩ := h1
        first | omega | (have := h3 rfl; omega) | (have := h6 rfl; omega) | (rw [h2] at h42; cases h42)
      have hX : xshape (q + 1) s left = (false, left - 1) := by rw [xshape, if_neg (by omega), if_neg hH]
      refine fin_ret hs (.tmp (hs.slots _ _ rfl) .nil) ⟨?_, ?_⟩
      · rw [hX]; first | rfl | simp [tell]
      rw [hX]; exact (((hs.mem.to 1 rfl).drop.to 1 rfl).drop.to 1 rfl).drop
    replace h74 := of_decide_eq_false h74
    have hH : headS s := ⟨_, _, _, _, hsp, (by simpa using h42), (fun _ => by omega), by omega, by omega, (fun _ => by omega)⟩
    obtain ⟨RR, hRR0⟩ : ∃ RR : Bool × Int, RR = (true, left - 1) := ⟨_, rfl⟩
    have hR : rowsS s (left - 1) = RR := by unfold rowsS; rw [if_neg (by omega), hRR0]
    have hR1 : RR.1 = true := by rw [hRR0]
    have hRR : 0 ≤ RR.2 ∧ RR.2 ≤ 8192 := by rw [hRR0]; exact ⟨by show 0 ≤ left - 1; omega, by show left - 1 ≤ 8192; omega⟩
    rw [show left - 1 = RR.2 by rw [hRR0]] at hs
    refine wp_skip (then_normal (wp_seq ?_))
    refine wp_seq (wp_region_lit ?_)
    refine go hs (pM rfl <| pM rfl <| pS rfl <| pS rfl <| pS rfl <| pS rfl <| pS rfl <| pF rfl rfl <| pM rfl <| pG rfl (fun a hs => y_load hs Tryd.underlying72 rfl rfl (fun w hw => (hw.to 3 rfl).cellV rfl)) <| pG rfl (fun a hs => y_faddr (k' := 2) 2 hs (by kernel_rfl) rfl rfl) <| pG rfl (fun a hs => y_load hs Tryd.underlying23 rfl rfl (fun w hw => (hw.to 2 rfl).cellV rfl)) <| ?_); clear hs a; intro a hs
    refine a_effG hs rfl (e_callX Tryd.func77 rfl rfl hs rfl rfl (walk_exprs g A2 c2 s.f2 RR.2 _ w0 _ hA2 hsm.2.1 hRR hs.mem) (fun e w1 ⟨he, hm⟩ => ⟨_, he, _, hm, ?_⟩)); clear hs a; intro a hs
    refine go hs (pG rfl (fun a hs => y_not hs rfl) <| pF rfl rfl <| ?_); clear hs a; intro a hs
    refine wpList_nil (then_normal ?_)
    refine wp_cond_split (hs.ev rfl) (fun h89 => ?_) (fun h89 => ?_)
    · replace h89 := (not_t h89)
      refine wp_seq (wp_region_lit ?_)
      refine go hs (pA rfl <| ?_); clear hs a; intro a hs
      refine wpList_nil (then_normal (wp_ret (then_ret ?_)))
      have hX : xshape (q + 1) s left = (false, (xlist stE s.f2 RR.2).2) := by rw [xshape, if_neg (by omega), if_pos hH, hR, if_pos hR1, if_neg (by rw [h89]; exact Bool.false_ne_true), ← h89]
      refine fin_ret hs (.tmp (hs.slots _ _ rfl) .nil) ⟨?_, ?_⟩
      · rw [hX]; first | rfl | simp [tell]
      rw [hX]; exact (((hs.mem.to 1 rfl).drop.to 1 rfl).drop.to 1 rfl).drop
    replace h89 := (not_f h89)
    have hxf := xlist_left s.f2 RR.2 (fun p _ l h => stE_falls p l h) hRR.1
    have hRE : 0 ≤ (xlist stE s.f2 RR.2).2 ∧ (xlist stE s.f2 RR.2).2 ≤ 8192 := ⟨hxf.2.2 h89, by have := hxf.2.1; omega⟩
    refine wp_skip (then_normal (wp_seq ?_))
    refine wp_region_lit (go hs (pV rfl (fun a hs => y_faddr (k' := 3) 3 hs (by kernel_rfl) rfl rfl) <| pV rfl (fun a hs => y_load hs Tryd.underlying39 rfl rfl (fun w hw => (hw.to 2 rfl).cellV rfl)) <| pV rfl (fun a hs => y_func hs rfl rfl) <| ?_)); clear hs a; intro a hs
    refine a_eff rfl (e_callX Tryd.func78 rfl rfl hs rfl rfl (contains_S g 79 _ [.pointer (some ⟨gc, 0, none⟩), .pointer (some ⟨gv, 0, none⟩)] (xshape q) A3 c3 s.f3 (xlist stE s.f2 RR.2).2 (pt gv #[.int .i64 ((q + 1 : Nat) : Int)] 3 :: pt gx #[.int .u8 s.f0, .string s.f1, .slice A2 s.f2.length c2, .slice A3 s.f3.length c3, .slice A4 s.f4.length c4, .int .i64 s.f5, .int .i64 s.f6] 42 :: pt gc #[.pointer (some ⟨g, 0, none⟩)] 72 :: bs) w0 _ Tryd.func79 rfl rfl hA3 (fun p hp cs lf w1 hK hlen hlf h => by obtain ⟨B2, d2, B3, d3, B4, d4, rfl, e2, C2, e3, C3, e4, C4⟩ := k42_open hK; exact shape_one q hn (ih q rfl) g gc gv p B2 B3 B4 d2 d3 d4 lf _ bs w0 w1 C2 C3 C4 (hsm.2.2.1 p hp) hlf h) (fun p hp lf h => xshape_falls q p lf h) hRE hs.mem) (fun e w1 ⟨he, hm⟩ => ⟨_, he, _, hm, ?_⟩)); clear hs a; intro a hs
    refine go hs (pV rfl (fun a hs => y_not hs rfl) <| pA rfl <| ?_); clear hs a; intro a hs
    refine wpList_nil (then_normal (wp_ret ?_))
    have hX : xshape (q + 1) s left = xlist (xshape q) s.f3 (xlist stE s.f2 RR.2).2 := by rw [xshape, if_neg (by omega), if_pos hH, hR, if_pos hR1, if_pos h89]
    refine fin_ret hs (.tmp (hs.slots _ _ rfl) .nil) ⟨?_, ?_⟩
    · rw [hX]; first | rfl | simp [tell]
    rw [hX]; exact (((hs.mem.to 1 rfl).drop.to 1 rfl).drop.to 1 rfl).drop
  · refine wp_region_lit (go hs (pM rfl <| pV rfl (fun a hs => y_faddr (k' := 1) 1 hs (by kernel_rfl) rfl rfl) <| pV rfl (fun a hs => y_load hs Tryd.underlying9 rfl rfl (fun w hw => (hw.to 2 rfl).cellV rfl)) <| ?_)); clear hs a; intro a hs
    refine a_eff rfl (e_callB Tryd.func75 rfl rfl hs rfl rfl (tree_named.calls _ s.f1 (nameOk s.f1) _ (tnamed_ok s.f1 hsm.1)) ?_); clear hs a; intro a w hs
    refine go hs (pV rfl (fun a hs => y_bneB hs Tryd.underlying4 rfl rfl rfl) <| pM rfl <| ?_); clear hs a; intro a hs
    rcases hs.know (d := 42) rfl with ⟨h42, hs1⟩ | ⟨h42, hs1⟩ <;> replace hs := hs1 <;> clear hs1
    · refine go hs (pS rfl <| pS rfl <| pS rfl <| pS rfl <| pS rfl <| pS rfl <| pS rfl <| pT rfl rfl <| pM rfl <| pS rfl <| pS rfl <| pS rfl <| pS rfl <| pS rfl <| pT rfl rfl <| pM rfl <| pS rfl <| pS rfl <| pS rfl <| pS rfl <| pS rfl <| pT rfl rfl <| pM rfl <| pS rfl <| pS rfl <| pS rfl <| pS rfl <| pS rfl <| pS rfl <| pS rfl <| pS rfl <| pT rfl rfl <| ?_); clear hs a; intro a hs
      refine wpList_nil (then_normal ?_)
      refine wp_cond_true (hs.ev rfl) ?_
      refine wp_seq (wp_region_lit ?_)
      refine go hs (pA rfl <| ?_); clear hs a; intro a hs
      refine wpList_nil (then_normal (wp_ret (then_ret ?_)))
      have hH : ¬ headS s := by
        rintro ⟨nm, a, p, r, h1, h2, h3, h4, h5, h6⟩
        rw [hsp] at h1
        simp only [Option.some.injEq, Prod.mk.injEq] at h1
        obtain ⟨rfl, rfl, rfl, rfl⟩ := h1
        first | omega | (have := h3 rfl; omega) | (have := h6 rfl; omega) | (rw [h2] at h42; cases h42)
      have hX : xshape (q + 1) s left = (false, left - 1) := by rw [xshape, if_neg (by omega), if_neg hH]
      refine fin_ret hs (.tmp (hs.slots _ _ rfl) .nil) ⟨?_, ?_⟩
      · rw [hX]; first | rfl | simp [tell]
      rw [hX]; exact (((hs.mem.to 1 rfl).drop.to 1 rfl).drop.to 1 rfl).drop
    refine go hs (pG rfl (fun a hs => y_move hs rfl) <| pG rfl (fun a hs => y_not hs rfl) <| pG rfl (fun a hs => y_move hs rfl) <| pG rfl (fun a hs => y_faddr (k' := 1) 1 hs (by kernel_rfl) rfl rfl) <| pG rfl (fun a hs => y_load hs Tryd.underlying9 rfl rfl (fun w hw => (hw.to 2 rfl).cellV rfl)) <| pG rfl (fun a hs => y_sneE hs rfl rfl) <| pG rfl (fun a hs => y_pickT hs rfl rfl rfl) <| pF rfl rfl <| pM rfl <| ?_); clear hs a; intro a hs
    rcases hs.know (d := 51) rfl with ⟨h51, hs1⟩ | ⟨h51, hs1⟩ <;> replace hs := hs1 <;> clear hs1
    · replace h51 := of_decide_eq_true h51
      refine go hs (pS rfl <| pS rfl <| pS rfl <| pS rfl <| pS rfl <| pT rfl rfl <| pM rfl <| pS rfl <| pS rfl <| pS rfl <| pS rfl <| pS rfl <| pT rfl rfl <| pM rfl <| pS rfl <| pS rfl <| pS rfl <| pS rfl <| pS rfl <| pS rfl <| pS rfl <| pS rfl <| pT rfl rfl <| ?_); clear hs a; intro a hs
      refine wpList_nil (then_normal ?_)
      refine wp_cond_true (hs.ev rfl) ?_
      refine wp_seq (wp_region_lit ?_)
      refine go hs (pA rfl <| ?_); clear hs a; intro a hs
      refine wpList_nil (then_normal (wp_ret (then_ret ?_)))
      have hH : ¬ headS s := by
        rintro ⟨nm, a, p, r, h1, h2, h3, h4, h5, h6⟩
        rw [hsp] at h1
        simp only [Option.some.injEq, Prod.mk.injEq] at h1
        obtain ⟨rfl, rfl, rfl, rfl⟩ := h1
        first | omega | (have := h3 rfl; omega) | (have := h6 rfl; omega) | (rw [h2] at h42; cases h42)
      have hX : xshape (q + 1) s left = (false, left - 1) := by rw [xshape, if_neg (by omega), if_neg hH]
      refine fin_ret hs (.tmp (hs.slots _ _ rfl) .nil) ⟨?_, ?_⟩
      · rw [hX]; first | rfl | simp [tell]
      rw [hX]; exact (((hs.mem.to 1 rfl).drop.to 1 rfl).drop.to 1 rfl).drop
    replace h51 := of_decide_eq_false h51
    refine go hs (pG rfl (fun a hs => y_faddr (k' := 2) 2 hs (by kernel_rfl) rfl rfl) <| pG rfl (fun a hs => y_load hs Tryd.underlying23 rfl rfl (fun w hw => (hw.to 2 rfl).cellV rfl)) <| pG rfl (fun a hs => y_lenL hs Tryd.underlying23 rfl) <| pG rfl (fun a hs => y_move hs rfl) <| pG rfl (fun a hs => y_cmp hs rfl rfl rfl) <| pF rfl rfl <| pM rfl <| ?_); clear hs a; intro a hs
    rcases hs.know (d := 58) rfl with ⟨h58, hs1⟩ | ⟨h58, hs1⟩ <;> replace hs := hs1 <;> clear hs1
    · replace h58 := bne_iff_ne.1 h58
      refine go hs (pS rfl <| pS rfl <| pS rfl <| pS rfl <| pS rfl <| pT rfl rfl <| pM rfl <| pS rfl <| pS rfl <| pS rfl <| pS rfl <| pS rfl <| pS rfl <| pS rfl <| pS rfl <| pT rfl rfl <| ?_); clear hs a; intro a hs
      refine wpList_nil (then_normal ?_)
      refine wp_cond_true (hs.ev rfl) ?_
      refine wp_seq (wp_region_lit ?_)
      refine go hs (pA rfl <| ?_); clear hs a; intro a hs
      refine wpList_nil (then_normal (wp_ret (then_ret ?_)))
      have hH : ¬ headS s := by
        rintro ⟨nm, a, p, r, h1, h2, h3, h4, h5, h6⟩
        rw [hsp] at h1
        simp only [Option.some.injEq, Prod.mk.injEq] at h1
        obtain ⟨rfl, rfl, rfl, rfl⟩ := h1
        first | omega | (have := h3 rfl; omega) | (have := h6 rfl; omega) | (rw [h2] at h42; cases h42)
      have hX : xshape (q + 1) s left = (false, left - 1) := by rw [xshape, if_neg (by omega), if_neg hH]
      refine fin_ret hs (.tmp (hs.slots _ _ rfl) .nil) ⟨?_, ?_⟩
      · rw [hX]; first | rfl | simp [tell]
      rw [hX]; exact (((hs.mem.to 1 rfl).drop.to 1 rfl).drop.to 1 rfl).drop
    replace h58 := bne_eq_false_iff_eq.1 h58
    refine go hs (pG rfl (fun a hs => y_faddr (k' := 3) 3 hs (by kernel_rfl) rfl rfl) <| pG rfl (fun a hs => y_load hs Tryd.underlying39 rfl rfl (fun w hw => (hw.to 2 rfl).cellV rfl)) <| pG rfl (fun a hs => y_lenL hs Tryd.underlying39 rfl) <| pG rfl (fun a hs => y_move hs rfl) <| pG rfl (fun a hs => y_cmp hs rfl rfl rfl) <| pF rfl rfl <| pM rfl <| ?_); clear hs a; intro a hs
    rcases hs.know (d := 65) rfl with ⟨h65, hs1⟩ | ⟨h65, hs1⟩ <;> replace hs := hs1 <;> clear hs1
    · replace h65 := bne_iff_ne.1 h65
      refine go hs (pS rfl <| pS rfl <| pS rfl <| pS rfl <| pS rfl <| pS rfl <| pS rfl <| pS rfl <| pT rfl rfl <| ?_); clear hs a; intro a hs
      refine wpList_nil (then_normal ?_)
      refine wp_cond_true (hs.ev rfl) ?_
      refine wp_seq (wp_region_lit ?_)
      refine go hs (pA rfl <| ?_); clear hs a; intro a hs
      refine wpList_nil (then_normal (wp_ret (then_ret ?_)))
      have hH : ¬ headS s := by
        rintro ⟨nm, a, p, r, h1, h2, h3, h4, h5, h6⟩
        rw [hsp] at h1
        simp only [Option.some.injEq, Prod.mk.injEq] at h1
        obtain ⟨rfl, rfl, rfl, rfl⟩ := h1
        first | omega | (have := h3 rfl; omega) | (have := h6 rfl; omega) | (rw [h2] at h42; cases h42)
      have hX : xshape (q + 1) s left = (false, left - 1) := by rw [xshape, if_neg (by omega), if_neg hH]
      refine fin_ret hs (.tmp (hs.slots _ _ rfl) .nil) ⟨?_, ?_⟩
      · rw [hX]; first | rfl | simp [tell]
      rw [hX]; exact (((hs.mem.to 1 rfl).drop.to 1 rfl).drop.to 1 rfl).drop
    replace h65 := bne_eq_false_iff_eq.1 h65
    refine go hs (pG rfl (fun a hs => y_move hs rfl) <| pG rfl (fun a hs => y_not hs rfl) <| pG rfl (fun a hs => y_move hs rfl) <| pG rfl (fun a hs => y_faddr (k' := 4) 4 hs (by kernel_rfl) rfl rfl) <| pG rfl (fun a hs => y_load hs Tryd.underlying40 rfl rfl (fun w hw => (hw.to 2 rfl).cellV rfl)) <| pG rfl (fun a hs => y_lenL hs Tryd.underlying40 rfl) <| pG rfl (fun a hs => y_cmp hs rfl rfl rfl) <| pG rfl (fun a hs => y_pickT hs rfl rfl rfl) <| pF rfl rfl <| ?_); clear hs a; intro a hs
    refine wpList_nil (then_normal ?_)
    refine wp_cond_split (hs.ev rfl) (fun h74 => ?_) (fun h74 => ?_)
    · replace h74 := of_decide_eq_true h74
      refine wp_seq (wp_region_lit ?_)
      refine go hs (pA rfl <| ?_); clear hs a; intro a hs
      refine wpList_nil (then_normal (wp_ret (then_ret ?_)))
      have hH : ¬ headS s := by
        rintro ⟨nm, a, p, r, h1, h2, h3, h4, h5, h6⟩
        rw [hsp] at h1
        simp only [Option.some.injEq, Prod.mk.injEq] at h1
        obtain ⟨rfl, rfl, rfl, rfl⟩ := h1
        first | omega | (have := h3 rfl; omega) | (have := h6 rfl; omega) | (rw [h2] at h42; cases h42)
      have hX : xshape (q + 1) s left = (false, left - 1) := by rw [xshape, if_neg (by omega), if_neg hH]
      refine fin_ret hs (.tmp (hs.slots _ _ rfl) .nil) ⟨?_, ?_⟩
      · rw [hX]; first | rfl | simp [tell]
      rw [hX]; exact (((hs.mem.to 1 rfl).drop.to 1 rfl).drop.to 1 rfl).drop
    replace h74 := of_decide_eq_false h74
    have hH : headS s := ⟨_, _, _, _, hsp, (by simpa using h42), (fun _ => by omega), by omega, by omega, (fun _ => by omega)⟩
    obtain ⟨RR, hRR0⟩ : ∃ RR : Bool × Int, RR = (true, left - 1) := ⟨_, rfl⟩
    have hR : rowsS s (left - 1) = RR := by unfold rowsS; rw [if_neg (by omega), hRR0]
    have hR1 : RR.1 = true := by rw [hRR0]
    have hRR : 0 ≤ RR.2 ∧ RR.2 ≤ 8192 := by rw [hRR0]; exact ⟨by show 0 ≤ left - 1; omega, by show left - 1 ≤ 8192; omega⟩
    rw [show left - 1 = RR.2 by rw [hRR0]] at hs
    refine wp_skip (then_normal (wp_seq ?_))
    refine wp_seq (wp_region_lit ?_)
    refine go hs (pM rfl <| pM rfl <| pS rfl <| pS rfl <| pS rfl <| pS rfl <| pS rfl <| pF rfl rfl <| pM rfl <| pG rfl (fun a hs => y_load hs Tryd.underlying72 rfl rfl (fun w hw => (hw.to 3 rfl).cellV rfl)) <| pG rfl (fun a hs => y_faddr (k' := 2) 2 hs (by kernel_rfl) rfl rfl) <| pG rfl (fun a hs => y_load hs Tryd.underlying23 rfl rfl (fun w hw => (hw.to 2 rfl).cellV rfl)) <| ?_); clear hs a; intro a hs
    refine a_effG hs rfl (e_callX Tryd.func77 rfl rfl hs rfl rfl (walk_exprs g A2 c2 s.f2 RR.2 _ w0 _ hA2 hsm.2.1 hRR hs.mem) (fun e w1 ⟨he, hm⟩ => ⟨_, he, _, hm, ?_⟩)); clear hs a; intro a hs
    refine go hs (pG rfl (fun a hs => y_not hs rfl) <| pF rfl rfl <| ?_); clear hs a; intro a hs
    refine wpList_nil (then_normal ?_)
    refine wp_cond_split (hs.ev rfl) (fun h89 => ?_) (fun h89 => ?_)
    · replace h89 := (not_t h89)
      refine wp_seq (wp_region_lit ?_)
      refine go hs (pA rfl <| ?_); clear hs a; intro a hs
      refine wpList_nil (then_normal (wp_ret (then_ret ?_)))
      have hX : xshape (q + 1) s left = (false, (xlist stE s.f2 RR.2).2) := by rw [xshape, if_neg (by omega), if_pos hH, hR, if_pos hR1, if_neg (by rw [h89]; exact Bool.false_ne_true), ← h89]
      refine fin_ret hs (.tmp (hs.slots _ _ rfl) .nil) ⟨?_, ?_⟩
      · rw [hX]; first | rfl | simp [tell]
      rw [hX]; exact (((hs.mem.to 1 rfl).drop.to 1 rfl).drop.to 1 rfl).drop
    replace h89 := (not_f h89)
    have hxf := xlist_left s.f2 RR.2 (fun p _ l h => stE_falls p l h) hRR.1
    have hRE : 0 ≤ (xlist stE s.f2 RR.2).2 ∧ (xlist stE s.f2 RR.2).2 ≤ 8192 := ⟨hxf.2.2 h89, by have := hxf.2.1; omega⟩
    refine wp_skip (then_normal (wp_seq ?_))
    refine wp_region_lit (go hs (pV rfl (fun a hs => y_faddr (k' := 3) 3 hs (by kernel_rfl) rfl rfl) <| pV rfl (fun a hs => y_load hs Tryd.underlying39 rfl rfl (fun w hw => (hw.to 2 rfl).cellV rfl)) <| pV rfl (fun a hs => y_func hs rfl rfl) <| ?_)); clear hs a; intro a hs
    refine a_eff rfl (e_callX Tryd.func78 rfl rfl hs rfl rfl (contains_S g 79 _ [.pointer (some ⟨gc, 0, none⟩), .pointer (some ⟨gv, 0, none⟩)] (xshape q) A3 c3 s.f3 (xlist stE s.f2 RR.2).2 (pt gv #[.int .i64 ((q + 1 : Nat) : Int)] 3 :: pt gx #[.int .u8 s.f0, .string s.f1, .slice A2 s.f2.length c2, .slice A3 s.f3.length c3, .slice A4 s.f4.length c4, .int .i64 s.f5, .int .i64 s.f6] 42 :: pt gc #[.pointer (some ⟨g, 0, none⟩)] 72 :: bs) w0 _ Tryd.func79 rfl rfl hA3 (fun p hp cs lf w1 hK hlen hlf h => by obtain ⟨B2, d2, B3, d3, B4, d4, rfl, e2, C2, e3, C3, e4, C4⟩ := k42_open hK; exact shape_one q hn (ih q rfl) g gc gv p B2 B3 B4 d2 d3 d4 lf _ bs w0 w1 C2 C3 C4 (hsm.2.2.1 p hp) hlf h) (fun p hp lf h => xshape_falls q p lf h) hRE hs.mem) (fun e w1 ⟨he, hm⟩ => ⟨_, he, _, hm, ?_⟩)); clear hs a; intro a hs
    refine go hs (pV rfl (fun a hs => y_not hs rfl) <| pA rfl <| ?_); clear hs a; intro a hs
    refine wpList_nil (then_normal (wp_ret ?_))
    have hX : xshape (q + 1) s left = xlist (xshape q) s.f3 (xlist stE s.f2 RR.2).2 := by rw [xshape, if_neg (by omega), if_pos hH, hR, if_pos hR1, if_pos h89]
    refine fin_ret hs (.tmp (hs.slots _ _ rfl) .nil) ⟨?_, ?_⟩
    · rw [hX]; first | rfl | simp [tell]
    rw [hX]; exact (((hs.mem.to 1 rfl).drop.to 1 rfl).drop.to 1 rfl).drop
  · refine wp_region_lit (go hs (pM rfl <| pV rfl (fun a hs => y_faddr (k' := 1) 1 hs (by kernel_rfl) rfl rfl) <| pV rfl (fun a hs => y_load hs Tryd.underlying9 rfl rfl (fun w hw => (hw.to 2 rfl).cellV rfl)) <| ?_)); clear hs a; intro a hs
    refine a_eff rfl (e_callB Tryd.func75 rfl rfl hs rfl rfl (tree_named.calls _ s.f1 (nameOk s.f1) _ (tnamed_ok s.f1 hsm.1)) ?_); clear hs a; intro a w hs
    refine go hs (pV rfl (fun a hs => y_bneB hs Tryd.underlying4 rfl rfl rfl) <| pM rfl <| ?_); clear hs a; intro a hs
    rcases hs.know (d := 42) rfl with ⟨h42, hs1⟩ | ⟨h42, hs1⟩ <;> replace hs := hs1 <;> clear hs1
    · refine go hs (pS rfl <| pS rfl <| pS rfl <| pS rfl <| pS rfl <| pS rfl <| pS rfl <| pT rfl rfl <| pM rfl <| pS rfl <| pS rfl <| pS rfl <| pS rfl <| pS rfl <| pT rfl rfl <| pM rfl <| pS rfl <| pS rfl <| pS rfl <| pS rfl <| pS rfl <| pT rfl rfl <| pM rfl <| pS rfl <| pS rfl <| pS rfl <| pS rfl <| pS rfl <| pS rfl <| pS rfl <| pS rfl <| pT rfl rfl <| ?_); clear hs a; intro a hs
      refine wpList_nil (then_normal ?_)
      refine wp_cond_true (hs.ev rfl) ?_
      refine wp_seq (wp_region_lit ?_)
      refine go hs (pA rfl <| ?_); clear hs a; intro a hs
      refine wpList_nil (then_normal (wp_ret (then_ret ?_)))
      have hH : ¬ headS s := by
        rintro ⟨nm, a, p, r, h1, h2, h3, h4, h5, h6⟩
        rw [hsp] at h1
        simp only [Option.some.injEq, Prod.mk.injEq] at h1
        obtain ⟨rfl, rfl, rfl, rfl⟩ := h1
        first | omega | (have := h3 rfl; omega) | (have := h6 rfl; omega) | (rw [h2] at h42; cases h42)
      have hX : xshape (q + 1) s left = (false, left - 1) := by rw [xshape, if_neg (by omega), if_neg hH]
      refine fin_ret hs (.tmp (hs.slots _ _ rfl) .nil) ⟨?_, ?_⟩
      · rw [hX]; first | rfl | simp [tell]
      rw [hX]; exact (((hs.mem.to 1 rfl).drop.to 1 rfl).drop.to 1 rfl).drop
    refine go hs (pG rfl (fun a hs => y_move hs rfl) <| pG rfl (fun a hs => y_not hs rfl) <| pG rfl (fun a hs => y_move hs rfl) <| pG rfl (fun a hs => y_faddr (k' := 1) 1 hs (by kernel_rfl) rfl rfl) <| pG rfl (fun a hs => y_load hs Tryd.underlying9 rfl rfl (fun w hw => (hw.to 2 rfl).cellV rfl)) <| pG rfl (fun a hs => y_sneE hs rfl rfl) <| pG rfl (fun a hs => y_pickT hs rfl rfl rfl) <| pF rfl rfl <| pM rfl <| ?_); clear hs a; intro a hs
    rcases hs.know (d := 51) rfl with ⟨h51, hs1⟩ | ⟨h51, hs1⟩ <;> replace hs := hs1 <;> clear hs1
    · replace h51 := of_decide_eq_true h51
      refine go hs (pS rfl <| pS rfl <| pS rfl <| pS rfl <| pS rfl <| pT rfl rfl <| pM rfl <| pS rfl <| pS rfl <| pS rfl <| pS rfl <| pS rfl <| pT rfl rfl <| pM rfl <| pS rfl <| pS rfl <| pS rfl <| pS rfl <| pS rfl <| pS rfl <| pS rfl <| pS rfl <| pT rfl rfl <| ?_); clear hs a; intro a hs
      refine wpList_nil (then_normal ?_)
      refine wp_cond_true (hs.ev rfl) ?_
      refine wp_seq (wp_region_lit ?_)
      refine go hs (pA rfl <| ?_); clear hs a; intro a hs
      refine wpList_nil (then_normal (wp_ret (then_ret ?_)))
      have hH : ¬ headS s := by
        rintro ⟨nm, a, p, r, h1, h2, h3, h4, h5, h6⟩
        rw [hsp] at h1
        simp only [Option.some.injEq, Prod.mk.injEq] at h1
        obtain ⟨rfl, rfl, rfl, rfl⟩ := h1
        first | omega | (have := h3 rfl; omega) | (have := h6 rfl; omega) | (rw [h2] at h42; cases h42)
      have hX : xshape (q + 1) s left = (false, left - 1) := by rw [xshape, if_neg (by omega), if_neg hH]
      refine fin_ret hs (.tmp (hs.slots _ _ rfl) .nil) ⟨?_, ?_⟩
      · rw [hX]; first | rfl | simp [tell]
      rw [hX]; exact (((hs.mem.to 1 rfl).drop.to 1 rfl).drop.to 1 rfl).drop
    replace h51 := of_decide_eq_false h51
    refine go hs (pG rfl (fun a hs => y_faddr (k' := 2) 2 hs (by kernel_rfl) rfl rfl) <| pG rfl (fun a hs => y_load hs Tryd.underlying23 rfl rfl (fun w hw => (hw.to 2 rfl).cellV rfl)) <| pG rfl (fun a hs => y_lenL hs Tryd.underlying23 rfl) <| pG rfl (fun a hs => y_move hs rfl) <| pG rfl (fun a hs => y_cmp hs rfl rfl rfl) <| pF rfl rfl <| pM rfl <| ?_); clear hs a; intro a hs
    rcases hs.know (d := 58) rfl with ⟨h58, hs1⟩ | ⟨h58, hs1⟩ <;> replace hs := hs1 <;> clear hs1
    · replace h58 := bne_iff_ne.1 h58
      refine go hs (pS rfl <| pS rfl <| pS rfl <| pS rfl <| pS rfl <| pT rfl rfl <| pM rfl <| pS rfl <| pS rfl <| pS rfl <| pS rfl <| pS rfl <| pS rfl <| pS rfl <| pS rfl <| pT rfl rfl <| ?_); clear hs a; intro a hs
      refine wpList_nil (then_normal ?_)
      refine wp_cond_true (hs.ev rfl) ?_
      refine wp_seq (wp_region_lit ?_)
      refine go hs (pA rfl <| ?_); clear hs a; intro a hs
      refine wpList_nil (then_normal (wp_ret (then_ret ?_)))
      have hH : ¬ headS s := by
        rintro ⟨nm, a, p, r, h1, h2, h3, h4, h5, h6⟩
        rw [hsp] at h1
        simp only [Option.some.injEq, Prod.mk.injEq] at h1
        obtain ⟨rfl, rfl, rfl, rfl⟩ := h1
        first | omega | (have := h3 rfl; omega) | (have := h6 rfl; omega) | (rw [h2] at h42; cases h42)
      have hX : xshape (q + 1) s left = (false, left - 1) := by rw [xshape, if_neg (by omega), if_neg hH]
      refine fin_ret hs (.tmp (hs.slots _ _ rfl) .nil) ⟨?_, ?_⟩
      · rw [hX]; first | rfl | simp [tell]
      rw [hX]; exact (((hs.mem.to 1 rfl).drop.to 1 rfl).drop.to 1 rfl).drop
    replace h58 := bne_eq_false_iff_eq.1 h58
    refine go hs (pG rfl (fun a hs => y_faddr (k' := 3) 3 hs (by kernel_rfl) rfl rfl) <| pG rfl (fun a hs => y_load hs Tryd.underlying39 rfl rfl (fun w hw => (hw.to 2 rfl).cellV rfl)) <| pG rfl (fun a hs => y_lenL hs Tryd.underlying39 rfl) <| pG rfl (fun a hs => y_move hs rfl) <| pG rfl (fun a hs => y_cmp hs rfl rfl rfl) <| pF rfl rfl <| pM rfl <| ?_); clear hs a; intro a hs
    rcases hs.know (d := 65) rfl with ⟨h65, hs1⟩ | ⟨h65, hs1⟩ <;> replace hs := hs1 <;> clear hs1
    · replace h65 := bne_iff_ne.1 h65
      refine go hs (pS rfl <| pS rfl <| pS rfl <| pS rfl <| pS rfl <| pS rfl <| pS rfl <| pS rfl <| pT rfl rfl <| ?_); clear hs a; intro a hs
      refine wpList_nil (then_normal ?_)
      refine wp_cond_true (hs.ev rfl) ?_
      refine wp_seq (wp_region_lit ?_)
      refine go hs (pA rfl <| ?_); clear hs a; intro a hs
      refine wpList_nil (then_normal (wp_ret (then_ret ?_)))
      have hH : ¬ headS s := by
        rintro ⟨nm, a, p, r, h1, h2, h3, h4, h5, h6⟩
        rw [hsp] at h1
        simp only [Option.some.injEq, Prod.mk.injEq] at h1
        obtain ⟨rfl, rfl, rfl, rfl⟩ := h1
        first | omega | (have := h3 rfl; omega) | (have := h6 rfl; omega) | (rw [h2] at h42; cases h42)
      have hX : xshape (q + 1) s left = (false, left - 1) := by rw [xshape, if_neg (by omega), if_neg hH]
      refine fin_ret hs (.tmp (hs.slots _ _ rfl) .nil) ⟨?_, ?_⟩
      · rw [hX]; first | rfl | simp [tell]
      rw [hX]; exact (((hs.mem.to 1 rfl).drop.to 1 rfl).drop.to 1 rfl).drop
    replace h65 := bne_eq_false_iff_eq.1 h65
    refine go hs (pG rfl (fun a hs => y_move hs rfl) <| pG rfl (fun a hs => y_not hs rfl) <| pG rfl (fun a hs => y_move hs rfl) <| pG rfl (fun a hs => y_faddr (k' := 4) 4 hs (by kernel_rfl) rfl rfl) <| pG rfl (fun a hs => y_load hs Tryd.underlying40 rfl rfl (fun w hw => (hw.to 2 rfl).cellV rfl)) <| pG rfl (fun a hs => y_lenL hs Tryd.underlying40 rfl) <| pG rfl (fun a hs => y_cmp hs rfl rfl rfl) <| pG rfl (fun a hs => y_pickT hs rfl rfl rfl) <| pF rfl rfl <| ?_); clear hs a; intro a hs
    refine wpList_nil (then_normal ?_)
    refine wp_cond_split (hs.ev rfl) (fun h74 => ?_) (fun h74 => ?_)
    · replace h74 := of_decide_eq_true h74
      refine wp_seq (wp_region_lit ?_)
      refine go hs (pA rfl <| ?_); clear hs a; intro a hs
      refine wpList_nil (then_normal (wp_ret (then_ret ?_)))
      have hH : ¬ headS s := by
        rintro ⟨nm, a, p, r, h1, h2, h3, h4, h5, h6⟩
        rw [hsp] at h1
        simp only [Option.some.injEq, Prod.mk.injEq] at h1
        obtain ⟨rfl, rfl, rfl, rfl⟩ := h1
        first | omega | (have := h3 rfl; omega) | (have := h6 rfl; omega) | (rw [h2] at h42; cases h42)
      have hX : xshape (q + 1) s left = (false, left - 1) := by rw [xshape, if_neg (by omega), if_neg hH]
      refine fin_ret hs (.tmp (hs.slots _ _ rfl) .nil) ⟨?_, ?_⟩
      · rw [hX]; first | rfl | simp [tell]
      rw [hX]; exact (((hs.mem.to 1 rfl).drop.to 1 rfl).drop.to 1 rfl).drop
    replace h74 := of_decide_eq_false h74
    have hH : headS s := ⟨_, _, _, _, hsp, (by simpa using h42), (fun _ => by omega), by omega, by omega, (fun _ => by omega)⟩
    obtain ⟨RR, hRR0⟩ : ∃ RR : Bool × Int, RR = (true, left - 1) := ⟨_, rfl⟩
    have hR : rowsS s (left - 1) = RR := by unfold rowsS; rw [if_neg (by omega), hRR0]
    have hR1 : RR.1 = true := by rw [hRR0]
    have hRR : 0 ≤ RR.2 ∧ RR.2 ≤ 8192 := by rw [hRR0]; exact ⟨by show 0 ≤ left - 1; omega, by show left - 1 ≤ 8192; omega⟩
    rw [show left - 1 = RR.2 by rw [hRR0]] at hs
    refine wp_skip (then_normal (wp_seq ?_))
    refine wp_seq (wp_region_lit ?_)
    refine go hs (pM rfl <| pM rfl <| pS rfl <| pS rfl <| pS rfl <| pS rfl <| pS rfl <| pF rfl rfl <| pM rfl <| pG rfl (fun a hs => y_load hs Tryd.underlying72 rfl rfl (fun w hw => (hw.to 3 rfl).cellV rfl)) <| pG rfl (fun a hs => y_faddr (k' := 2) 2 hs (by kernel_rfl) rfl rfl) <| pG rfl (fun a hs => y_load hs Tryd.underlying23 rfl rfl (fun w hw => (hw.to 2 rfl).cellV rfl)) <| ?_); clear hs a; intro a hs
    refine a_effG hs rfl (e_callX Tryd.func77 rfl rfl hs rfl rfl (walk_exprs g A2 c2 s.f2 RR.2 _ w0 _ hA2 hsm.2.1 hRR hs.mem) (fun e w1 ⟨he, hm⟩ => ⟨_, he, _, hm, ?_⟩)); clear hs a; intro a hs
    refine go hs (pG rfl (fun a hs => y_not hs rfl) <| pF rfl rfl <| ?_); clear hs a; intro a hs
    refine wpList_nil (then_normal ?_)
    refine wp_cond_split (hs.ev rfl) (fun h89 => ?_) (fun h89 => ?_)
    · replace h89 := (not_t h89)
      refine wp_seq (wp_region_lit ?_)
      refine go hs (pA rfl <| ?_); clear hs a; intro a hs
      refine wpList_nil (then_normal (wp_ret (then_ret ?_)))
      have hX : xshape (q + 1) s left = (false, (xlist stE s.f2 RR.2).2) := by rw [xshape, if_neg (by omega), if_pos hH, hR, if_pos hR1, if_neg (by rw [h89]; exact Bool.false_ne_true), ← h89]
      refine fin_ret hs (.tmp (hs.slots _ _ rfl) .nil) ⟨?_, ?_⟩
      · rw [hX]; first | rfl | simp [tell]
      rw [hX]; exact (((hs.mem.to 1 rfl).drop.to 1 rfl).drop.to 1 rfl).drop
    replace h89 := (not_f h89)
    have hxf := xlist_left s.f2 RR.2 (fun p _ l h => stE_falls p l h) hRR.1
    have hRE : 0 ≤ (xlist stE s.f2 RR.2).2 ∧ (xlist stE s.f2 RR.2).2 ≤ 8192 := ⟨hxf.2.2 h89, by have := hxf.2.1; omega⟩
    refine wp_skip (then_normal (wp_seq ?_))
    refine wp_region_lit (go hs (pV rfl (fun a hs => y_faddr (k' := 3) 3 hs (by kernel_rfl) rfl rfl) <| pV rfl (fun a hs => y_load hs Tryd.underlying39 rfl rfl (fun w hw => (hw.to 2 rfl).cellV rfl)) <| pV rfl (fun a hs => y_func hs rfl rfl) <| ?_)); clear hs a; intro a hs
    refine a_eff rfl (e_callX Tryd.func78 rfl rfl hs rfl rfl (contains_S g 79 _ [.pointer (some ⟨gc, 0, none⟩), .pointer (some ⟨gv, 0, none⟩)] (xshape q) A3 c3 s.f3 (xlist stE s.f2 RR.2).2 (pt gv #[.int .i64 ((q + 1 : Nat) : Int)] 3 :: pt gx #[.int .u8 s.f0, .string s.f1, .slice A2 s.f2.length c2, .slice A3 s.f3.length c3, .slice A4 s.f4.length c4, .int .i64 s.f5, .int .i64 s.f6] 42 :: pt gc #[.pointer (some ⟨g, 0, none⟩)] 72 :: bs) w0 _ Tryd.func79 rfl rfl hA3 (fun p hp cs lf w1 hK hlen hlf h => by obtain ⟨B2, d2, B3, d3, B4, d4, rfl, e2, C2, e3, C3, e4, C4⟩ := k42_open hK; exact shape_one q hn (ih q rfl) g gc gv p B2 B3 B4 d2 d3 d4 lf _ bs w0 w1 C2 C3 C4 (hsm.2.2.1 p hp) hlf h) (fun p hp lf h => xshape_falls q p lf h) hRE hs.mem) (fun e w1 ⟨he, hm⟩ => ⟨_, he, _, hm, ?_⟩)); clear hs a; intro a hs
    refine go hs (pV rfl (fun a hs => y_not hs rfl) <| pA rfl <| ?_); clear hs a; intro a hs
    refine wpList_nil (then_normal (wp_ret ?_))
    have hX : xshape (q + 1) s left = xlist (xshape q) s.f3 (xlist stE s.f2 RR.2).2 := by rw [xshape, if_neg (by omega), if_pos hH, hR, if_pos hR1, if_pos h89]
    refine fin_ret hs (.tmp (hs.slots _ _ rfl) .nil) ⟨?_, ?_⟩
    · rw [hX]; first | rfl | simp [tell]
    rw [hX]; exact (((hs.mem.to 1 rfl).drop.to 1 rfl).drop.to 1 rfl).drop
  refine wp_region_lit (go hs (pM rfl <| pV rfl (fun a hs => y_faddr (k' := 1) 1 hs (by kernel_rfl) rfl rfl) <| pV rfl (fun a hs => y_load hs Tryd.underlying9 rfl rfl (fun w hw => (hw.to 2 rfl).cellV rfl)) <| ?_)); clear hs a; intro a hs
  refine a_eff rfl (e_callB Tryd.func75 rfl rfl hs rfl rfl (tree_named.calls _ s.f1 (nameOk s.f1) _ (tnamed_ok s.f1 hsm.1)) ?_); clear hs a; intro a w hs
  refine go hs (pV rfl (fun a hs => y_bneB hs Tryd.underlying4 rfl rfl rfl) <| pM rfl <| ?_); clear hs a; intro a hs
  rcases hs.know (d := 42) rfl with ⟨h42, hs1⟩ | ⟨h42, hs1⟩ <;> replace hs := hs1 <;> clear hs1
  · refine go hs (pS rfl <| pS rfl <| pS rfl <| pS rfl <| pS rfl <| pS rfl <| pS rfl <| pT rfl rfl <| pM rfl <| pS rfl <| pS rfl <| pS rfl <| pS rfl <| pS rfl <| pT rfl rfl <| pM rfl <| pS rfl <| pS rfl <| pS rfl <| pS rfl <| pS rfl <| pT rfl rfl <| pM rfl <| pS rfl <| pS rfl <| pS rfl <| pS rfl <| pS rfl <| pS rfl <| pS rfl <| pS rfl <| pT rfl rfl <| ?_); clear hs a; intro a hs
    refine wpList_nil (then_normal ?_)
    refine wp_cond_true (hs.ev rfl) ?_
    refine wp_seq (wp_region_lit ?_)
    refine go hs (pA rfl <| ?_); clear hs a; intro a hs
    refine wpList_nil (then_normal (wp_ret (then_ret ?_)))
    have hH : ¬ headS s := by
      rintro ⟨nm, a, p, r, h1, h2, h3, h4, h5, h6⟩
      rw [hsp] at h1
      simp only [Option.some.injEq, Prod.mk.injEq] at h1
      obtain ⟨rfl, rfl, rfl, rfl⟩ := h1
      first | omega | (have := h3 rfl; omega) | (have := h6 rfl; omega) | (rw [h2] at h42; cases h42)
    have hX : xshape (q + 1) s left = (false, left - 1) := by rw [xshape, if_neg (by omega), if_neg hH]
    refine fin_ret hs (.tmp (hs.slots _ _ rfl) .nil) ⟨?_, ?_⟩
    · rw [hX]; first | rfl | simp [tell]
    rw [hX]; exact (((hs.mem.to 1 rfl).drop.to 1 rfl).drop.to 1 rfl).drop
  refine go hs (pG rfl (fun a hs => y_move hs rfl) <| pG rfl (fun a hs => y_not hs rfl) <| pG rfl (fun a hs => y_move hs rfl) <| pG rfl (fun a hs => y_faddr (k' := 1) 1 hs (by kernel_rfl) rfl rfl) <| pG rfl (fun a hs => y_load hs Tryd.underlying9 rfl rfl (fun w hw => (hw.to 2 rfl).cellV rfl)) <| pG rfl (fun a hs => y_sneE hs rfl rfl) <| pG rfl (fun a hs => y_pickT hs rfl rfl rfl) <| pF rfl rfl <| pM rfl <| ?_); clear hs a; intro a hs
  rcases hs.know (d := 51) rfl with ⟨h51, hs1⟩ | ⟨h51, hs1⟩ <;> replace hs := hs1 <;> clear hs1
  · replace h51 := of_decide_eq_true h51
    refine go hs (pS rfl <| pS rfl <| pS rfl <| pS rfl <| pS rfl <| pT rfl rfl <| pM rfl <| pS rfl <| pS rfl <| pS rfl <| pS rfl <| pS rfl <| pT rfl rfl <| pM rfl <| pS rfl <| pS rfl <| pS rfl <| pS rfl <| pS rfl <| pS rfl <| pS rfl <| pS rfl <| pT rfl rfl <| ?_); clear hs a; intro a hs
    refine wpList_nil (then_normal ?_)
    refine wp_cond_true (hs.ev rfl) ?_
    refine wp_seq (wp_region_lit ?_)
    refine go hs (pA rfl <| ?_); clear hs a; intro a hs
    refine wpList_nil (then_normal (wp_ret (then_ret ?_)))
    have hH : ¬ headS s := by
      rintro ⟨nm, a, p, r, h1, h2, h3, h4, h5, h6⟩
      rw [hsp] at h1
      simp only [Option.some.injEq, Prod.mk.injEq] at h1
      obtain ⟨rfl, rfl, rfl, rfl⟩ := h1
      first | omega | (have := h3 rfl; omega) | (have := h6 rfl; omega) | (rw [h2] at h42; cases h42)
    have hX : xshape (q + 1) s left = (false, left - 1) := by rw [xshape, if_neg (by omega), if_neg hH]
    refine fin_ret hs (.tmp (hs.slots _ _ rfl) .nil) ⟨?_, ?_⟩
    · rw [hX]; first | rfl | simp [tell]
    rw [hX]; exact (((hs.mem.to 1 rfl).drop.to 1 rfl).drop.to 1 rfl).drop
  replace h51 := of_decide_eq_false h51
  refine go hs (pG rfl (fun a hs => y_faddr (k' := 2) 2 hs (by kernel_rfl) rfl rfl) <| pG rfl (fun a hs => y_load hs Tryd.underlying23 rfl rfl (fun w hw => (hw.to 2 rfl).cellV rfl)) <| pG rfl (fun a hs => y_lenL hs Tryd.underlying23 rfl) <| pG rfl (fun a hs => y_move hs rfl) <| pG rfl (fun a hs => y_cmp hs rfl rfl rfl) <| pF rfl rfl <| pM rfl <| ?_); clear hs a; intro a hs
  rcases hs.know (d := 58) rfl with ⟨h58, hs1⟩ | ⟨h58, hs1⟩ <;> replace hs := hs1 <;> clear hs1
  · replace h58 := bne_iff_ne.1 h58
    refine go hs (pS rfl <| pS rfl <| pS rfl <| pS rfl <| pS rfl <| pT rfl rfl <| pM rfl <| pS rfl <| pS rfl <| pS rfl <| pS rfl <| pS rfl <| pS rfl <| pS rfl <| pS rfl <| pT rfl rfl <| ?_); clear hs a; intro a hs
    refine wpList_nil (then_normal ?_)
    refine wp_cond_true (hs.ev rfl) ?_
    refine wp_seq (wp_region_lit ?_)
    refine go hs (pA rfl <| ?_); clear hs a; intro a hs
    refine wpList_nil (then_normal (wp_ret (then_ret ?_)))
    have hH : ¬ headS s := by
      rintro ⟨nm, a, p, r, h1, h2, h3, h4, h5, h6⟩
      rw [hsp] at h1
      simp only [Option.some.injEq, Prod.mk.injEq] at h1
      obtain ⟨rfl, rfl, rfl, rfl⟩ := h1
      first | omega | (have := h3 rfl; omega) | (have := h6 rfl; omega) | (rw [h2] at h42; cases h42)
    have hX : xshape (q + 1) s left = (false, left - 1) := by rw [xshape, if_neg (by omega), if_neg hH]
    refine fin_ret hs (.tmp (hs.slots _ _ rfl) .nil) ⟨?_, ?_⟩
    · rw [hX]; first | rfl | simp [tell]
    rw [hX]; exact (((hs.mem.to 1 rfl).drop.to 1 rfl).drop.to 1 rfl).drop
  replace h58 := bne_eq_false_iff_eq.1 h58
  refine go hs (pG rfl (fun a hs => y_faddr (k' := 3) 3 hs (by kernel_rfl) rfl rfl) <| pG rfl (fun a hs => y_load hs Tryd.underlying39 rfl rfl (fun w hw => (hw.to 2 rfl).cellV rfl)) <| pG rfl (fun a hs => y_lenL hs Tryd.underlying39 rfl) <| pG rfl (fun a hs => y_move hs rfl) <| pG rfl (fun a hs => y_cmp hs rfl rfl rfl) <| pF rfl rfl <| pM rfl <| ?_); clear hs a; intro a hs
  rcases hs.know (d := 65) rfl with ⟨h65, hs1⟩ | ⟨h65, hs1⟩ <;> replace hs := hs1 <;> clear hs1
  · replace h65 := bne_iff_ne.1 h65
    refine go hs (pS rfl <| pS rfl <| pS rfl <| pS rfl <| pS rfl <| pS rfl <| pS rfl <| pS rfl <| pT rfl rfl <| ?_); clear hs a; intro a hs
    refine wpList_nil (then_normal ?_)
    refine wp_cond_true (hs.ev rfl) ?_
    refine wp_seq (wp_region_lit ?_)
    refine go hs (pA rfl <| ?_); clear hs a; intro a hs
    refine wpList_nil (then_normal (wp_ret (then_ret ?_)))
    have hH : ¬ headS s := by
      rintro ⟨nm, a, p, r, h1, h2, h3, h4, h5, h6⟩
      rw [hsp] at h1
      simp only [Option.some.injEq, Prod.mk.injEq] at h1
      obtain ⟨rfl, rfl, rfl, rfl⟩ := h1
      first | omega | (have := h3 rfl; omega) | (have := h6 rfl; omega) | (rw [h2] at h42; cases h42)
    have hX : xshape (q + 1) s left = (false, left - 1) := by rw [xshape, if_neg (by omega), if_neg hH]
    refine fin_ret hs (.tmp (hs.slots _ _ rfl) .nil) ⟨?_, ?_⟩
    · rw [hX]; first | rfl | simp [tell]
    rw [hX]; exact (((hs.mem.to 1 rfl).drop.to 1 rfl).drop.to 1 rfl).drop
  replace h65 := bne_eq_false_iff_eq.1 h65
  refine go hs (pG rfl (fun a hs => y_move hs rfl) <| pG rfl (fun a hs => y_not hs rfl) <| pG rfl (fun a hs => y_move hs rfl) <| pS rfl <| pS rfl <| pS rfl <| pS rfl <| pG rfl (fun a hs => y_pickF hs rfl rfl rfl) <| pF rfl rfl <| ?_); clear hs a; intro a hs
  refine wpList_nil (then_normal ?_)
  refine wp_cond_false (hs.ev rfl) ?_
  refine wp_skip (then_normal (wp_seq ?_))
  refine wp_seq ?_
  have hH : headS s := ⟨_, _, _, _, hsp, (by simpa using h42), (fun _ => by omega), by omega, by omega, (fun h => by cases h)⟩
  obtain ⟨RR, hRR0⟩ : ∃ RR, RR = rowsF s.f4 (left - 1) := ⟨_, rfl⟩
  have hR : rowsS s (left - 1) = RR := by unfold rowsS; rw [if_pos (by omega), hRR0]
  refine wp_region_lit (go hs (pM rfl <| pM rfl <| pG rfl (fun a hs => y_load hs Tryd.underlying72 rfl rfl (fun w hw => (hw.to 3 rfl).cellV rfl)) <| pG rfl (fun a hs => y_faddr (k' := 4) 4 hs (by kernel_rfl) rfl rfl) <| pG rfl (fun a hs => y_load hs Tryd.underlying40 rfl rfl (fun w hw => (hw.to 2 rfl).cellV rfl)) <| ?_)); clear hs a; intro a hs
  refine a_effG hs rfl (e_callX Tryd.func76 rfl rfl hs rfl rfl (walk_rows g A4 c4 s.f4 (left - 1) _ w0 _ hA4 hsm.2.2.2 (by omega) hs.mem) (fun e w1 ⟨he, hm⟩ => ⟨_, he, _, hm, ?_⟩)); clear hs a; intro a hs
  refine go hs (pG rfl (fun a hs => y_not hs rfl) <| pT rfl rfl <| pM rfl <| ?_); clear hs a; intro a hs
  rcases hs.know (d := 83) rfl with ⟨h83, hs1⟩ | ⟨h83, hs1⟩ <;> replace hs := hs1 <;> clear hs1
  · replace h83 := (not_t h83)
    refine go hs (pS rfl <| pS rfl <| pS rfl <| pS rfl <| pS rfl <| pT rfl rfl <| ?_); clear hs a; intro a hs
    refine wpList_nil (then_normal ?_)
    refine wp_cond_true (hs.ev rfl) ?_
    refine wp_seq (wp_region_lit ?_)
    refine go hs (pA rfl <| ?_); clear hs a; intro a hs
    refine wpList_nil (then_normal (wp_ret (then_ret ?_)))
    have hX : xshape (q + 1) s left = (false, (rowsF s.f4 (left - 1)).2) := by rw [xshape, if_neg (by omega), if_pos hH, hR, if_neg (by rw [hRR0, h83]; exact Bool.false_ne_true), hRR0, ← h83]
    refine fin_ret hs (.tmp (hs.slots _ _ rfl) .nil) ⟨?_, ?_⟩
    · rw [hX]; first | rfl | simp [tell]
    rw [hX]; exact (((hs.mem.to 1 rfl).drop.to 1 rfl).drop.to 1 rfl).drop
  replace h83 := (not_f h83)
  have hR1 : RR.1 = true := by rw [hRR0]; exact h83
  have hrf := rowsF_falls s.f4 (left - 1) (by omega)
  have hRR : 0 ≤ RR.2 ∧ RR.2 ≤ 8192 := by rw [hRR0]; exact ⟨hrf.2.2 h83, by have := hrf.2.1; omega⟩
  rw [show (rowsF s.f4 (left - 1)).2 = RR.2 by rw [hRR0]] at hs
  refine go hs (pG rfl (fun a hs => y_load hs Tryd.underlying72 rfl rfl (fun w hw => (hw.to 3 rfl).cellV rfl)) <| pG rfl (fun a hs => y_faddr (k' := 2) 2 hs (by kernel_rfl) rfl rfl) <| pG rfl (fun a hs => y_load hs Tryd.underlying23 rfl rfl (fun w hw => (hw.to 2 rfl).cellV rfl)) <| ?_); clear hs a; intro a hs
  refine a_effG hs rfl (e_callX Tryd.func77 rfl rfl hs rfl rfl (walk_exprs g A2 c2 s.f2 RR.2 _ w0 _ hA2 hsm.2.1 hRR hs.mem) (fun e w1 ⟨he, hm⟩ => ⟨_, he, _, hm, ?_⟩)); clear hs a; intro a hs
  refine go hs (pG rfl (fun a hs => y_not hs rfl) <| pF rfl rfl <| ?_); clear hs a; intro a hs
  refine wpList_nil (then_normal ?_)
  refine wp_cond_split (hs.ev rfl) (fun h89 => ?_) (fun h89 => ?_)
  · replace h89 := (not_t h89)
    refine wp_seq (wp_region_lit ?_)
    refine go hs (pA rfl <| ?_); clear hs a; intro a hs
    refine wpList_nil (then_normal (wp_ret (then_ret ?_)))
    have hX : xshape (q + 1) s left = (false, (xlist stE s.f2 RR.2).2) := by rw [xshape, if_neg (by omega), if_pos hH, hR, if_pos hR1, if_neg (by rw [h89]; exact Bool.false_ne_true), ← h89]
    refine fin_ret hs (.tmp (hs.slots _ _ rfl) .nil) ⟨?_, ?_⟩
    · rw [hX]; first | rfl | simp [tell]
    rw [hX]; exact (((hs.mem.to 1 rfl).drop.to 1 rfl).drop.to 1 rfl).drop
  replace h89 := (not_f h89)
  have hxf := xlist_left s.f2 RR.2 (fun p _ l h => stE_falls p l h) hRR.1
  have hRE : 0 ≤ (xlist stE s.f2 RR.2).2 ∧ (xlist stE s.f2 RR.2).2 ≤ 8192 := ⟨hxf.2.2 h89, by have := hxf.2.1; omega⟩
  refine wp_skip (then_normal (wp_seq ?_))
  refine wp_region_lit (go hs (pV rfl (fun a hs => y_faddr (k' := 3) 3 hs (by kernel_rfl) rfl rfl) <| pV rfl (fun a hs => y_load hs Tryd.underlying39 rfl rfl (fun w hw => (hw.to 2 rfl).cellV rfl)) <| pV rfl (fun a hs => y_func hs rfl rfl) <| ?_)); clear hs a; intro a hs
  refine a_eff rfl (e_callX Tryd.func78 rfl rfl hs rfl rfl (contains_S g 79 _ [.pointer (some ⟨gc, 0, none⟩), .pointer (some ⟨gv, 0, none⟩)] (xshape q) A3 c3 s.f3 (xlist stE s.f2 RR.2).2 (pt gv #[.int .i64 ((q + 1 : Nat) : Int)] 3 :: pt gx #[.int .u8 s.f0, .string s.f1, .slice A2 s.f2.length c2, .slice A3 s.f3.length c3, .slice A4 s.f4.length c4, .int .i64 s.f5, .int .i64 s.f6] 42 :: pt gc #[.pointer (some ⟨g, 0, none⟩)] 72 :: bs) w0 _ Tryd.func79 rfl rfl hA3 (fun p hp cs lf w1 hK hlen hlf h => by obtain ⟨B2, d2, B3, d3, B4, d4, rfl, e2, C2, e3, C3, e4, C4⟩ := k42_open hK; exact shape_one q hn (ih q rfl) g gc gv p B2 B3 B4 d2 d3 d4 lf _ bs w0 w1 C2 C3 C4 (hsm.2.2.1 p hp) hlf h) (fun p hp lf h => xshape_falls q p lf h) hRE hs.mem) (fun e w1 ⟨he, hm⟩ => ⟨_, he, _, hm, ?_⟩)); clear hs a; intro a hs
  refine go hs (pV rfl (fun a hs => y_not hs rfl) <| pA rfl <| ?_); clear hs a; intro a hs
  refine wpList_nil (then_normal (wp_ret ?_))
  have hX : xshape (q + 1) s left = xlist (xshape q) s.f3 (xlist stE s.f2 RR.2).2 := by rw [xshape, if_neg (by omega), if_pos hH, hR, if_pos hR1, if_pos h89]
  refine fin_ret hs (.tmp (hs.slots _ _ rfl) .nil) ⟨?_, ?_⟩
  · rw [hX]; first | rfl | simp [tell]
  rw [hX]; exact (((hs.mem.to 1 rfl).drop.to 1 rfl).drop.to 1 rfl).drop
theorem walk_shape : ∀ n : Nat, n ≤ 1000 → ShapeOk n := fun n => by
  induction n using Nat.strongRecOn with
  | _ n ih => exact fun hn s A2 A3 A4 c2 c3 c4 g left bs w0 w hA2 hA3 hA4 hsm hl h => walk_shape_step n hn (fun q hq => ih q (by omega) (by omega)) s A2 A3 A4 c2 c3 c4 g left bs w0 w hA2 hA3 hA4 hsm hl h
end Go.Proofs.YtibaidddhmdafaaDoor.E
end
section
namespace Go.Proofs.YtibaidddhmdafaaDoor.E
open Go Go.RowKit Go.Proofs.YtibaidddhmdafaaDoorW.PrintWords Go.Proofs.YtibaidddhmdafaaDoorW.PrintLast Go.Proofs.YtibaidddhmdafaaDoorW.PrintMore Go.Proofs.YtibaidddhmdafaaDoor.PA
set_option linter.unusedVariables false
set_option linter.unusedSimpArgs false
def noExprB (x : XE) : Bool := decide (x.f0 = 0 ∧ x.f1 = 0 ∧ x.f2.size = 0 ∧ x.f3.length = 0 ∧ x.f4 = 0 ∧ x.f5 = 0)
def noShapeB (s : XS) : Bool := decide (s.f0 = 0 ∧ s.f1.size = 0 ∧ s.f2.length = 0 ∧ s.f3.length = 0 ∧ s.f4.length = 0 ∧ s.f5 = 0 ∧ s.f6 = 0)
theorem sub_at {cs : Array Value} {vs : List Value} {off k : Nat} {v : Value} (n : Nat) (h : (cs.toList.drop off).take n = vs) (hk : vs[k]? = some v) : cs[off + k]? = some v := by
  subst h
  rw [List.getElem?_take] at hk
  split at hk
  · rw [List.getElem?_drop] at hk
    rw [← Array.getElem?_toList]; exact hk
  · cases hk
def smallI (x : XI) : Prop := x.f1.size ≤ 9223372036854775807 ∧ smallX 16 x.f2 ∧ smallS 16 x.f3 ∧ ∀ p ∈ x.f5, smallX 16 p
/-- What an item of its kind and placement has: a name, a value, a shape, a list. -/
def itemParts (k p : Int) : Option (Bool × Bool × Bool × Bool) :=
  if k = 1 then some (true, true, false, false) else if k = 3 then some (true, false, false, false) else if k = 2 then some (true, false, true, false)
  else if k = 4 ∨ k = 6 then some (false, true, false, false)
  else if k = 5 then (if p = 3 then some (false, true, false, false) else if p = 4 then some (false, false, false, true) else if p = 1 ∨ p = 2 then some (false, false, false, false) else none) else none
theorem items_cases {k p : Int} {nm v sh li : Bool} (h : itemParts k p = some (nm, v, sh, li)) : (nm = true ∧ v = true ∧ sh = false ∧ li = false ∧ k = 1) ∨ (nm = true ∧ v = false ∧ sh = false ∧ li = false ∧ k = 3) ∨ (nm = true ∧ v = false ∧ sh = true ∧ li = false ∧ k = 2) ∨ (nm = false ∧ v = true ∧ sh = false ∧ li = false ∧ (k = 4 ∨ k = 6 ∨ k = 5 ∧ p = 3)) ∨ (nm = false ∧ v = false ∧ sh = false ∧ li = true ∧ k = 5 ∧ p = 4) ∨ (nm = false ∧ v = false ∧ sh = false ∧ li = false ∧ k = 5 ∧ (p = 1 ∨ p = 2)) := by
  unfold itemParts at h
  repeat' split at h
  all_goals first | (simp only [Option.some.injEq, Prod.mk.injEq] at h; obtain ⟨rfl, rfl, rfl, rfl⟩ := h; simp; omega) | (simp only [Option.some.injEq, Prod.mk.injEq] at h; obtain ⟨rfl, rfl, rfl, rfl⟩ := h; simp_all) | cases h
/-- Is an item's head well? -/
def headI (x : XI) : Prop := ∃ nm v sh li, itemParts x.f0 x.f4 = some (nm, v, sh, li) ∧ (nm = true → nameOk x.f1 = true) ∧ (nm = false → x.f1.size = 0) ∧ (x.f0 ≠ 5 → x.f4 = 0) ∧ (li = true → 1 ≤ x.f5.length ∧ x.f5.length ≤ 64) ∧ (li = false → x.f5.length = 0) ∧ (v = false → noExprB x.f2 = true) ∧ (sh = false → noShapeB x.f3 = true)
def hasV (x : XI) : Prop := x.f0 = 1 ∨ x.f0 = 4 ∨ x.f0 = 6 ∨ x.f0 = 5 ∧ x.f4 = 3
instance (x : XI) : Decidable (hasV x) := by unfold hasV; infer_instance
def valI (x : XI) (left : Int) : Bool × Int := if hasV x then stE x.f2 left else (true, left)
noncomputable def shI (x : XI) (left : Int) : Bool × Int := if x.f0 = 2 then xshape 16 x.f3 left else (true, left)
open Classical in
noncomputable def itemF (x : XI) (left : Int) : Bool × Int := if left - 1 < 0 then (false, left - 1) else if headI x then
    (if (valI x (left - 1)).1 = true then (if (shI x (valI x (left - 1)).2).1 = true then xlist stE x.f5 (shI x (valI x (left - 1)).2).2 else shI x (valI x (left - 1)).2) else valI x (left - 1))
  else (false, left - 1)
theorem valI_falls (x : XI) (lf : Int) (h : 0 ≤ lf) : fallsB (valI x lf) lf := by
  unfold valI
  split
  · exact stE_falls _ _ h
  · exact ⟨by show -1 ≤ lf; omega, Int.le_refl _, fun _ => h⟩
theorem shI_falls (x : XI) (lf : Int) (h : 0 ≤ lf) : fallsB (shI x lf) lf := by
  unfold shI
  split
  · exact xshape_falls _ _ _ h
  · exact ⟨by show -1 ≤ lf; omega, Int.le_refl _, fun _ => h⟩
theorem itemF_falls (x : XI) (lf : Int) (h : 0 ≤ lf) : fallsB (itemF x lf) lf := by
  have h0 : fallsB (false, lf - 1) lf := ⟨by show -1 ≤ lf - 1; omega, by show lf - 1 ≤ lf; omega, fun h => by cases h⟩
  unfold itemF
  split
  · exact h0
  · split
    · have h1 := valI_falls x (lf - 1) (by omega)
      split
      · rename_i c1
        have h2 := shI_falls x _ (h1.2.2 c1)
        split
        · rename_i c2
          have h3 := xlist_left x.f5 _ (fun p _ l h => stE_falls p l h) (h2.2.2 c2)
          exact ⟨h3.1, by have := h1.2.1; have := h2.2.1; have := h3.2.1; omega, h3.2.2⟩
        · exact ⟨h2.1, by have := h1.2.1; have := h2.2.1; omega, h2.2.2⟩
      · exact ⟨h1.1, by have := h1.2.1; omega, h1.2.2⟩
    · exact h0
end Go.Proofs.YtibaidddhmdafaaDoor.E
end
section
namespace Go.Proofs.YtibaidddhmdafaaDoor.E
open Go Go.RowKit Go.Proofs.YtibaidddhmdafaaDoorW.PrintWords Go.Proofs.YtibaidddhmdafaaDoorW.PrintLast Go.Proofs.YtibaidddhmdafaaDoorW.PrintMore Go.Proofs.YtibaidddhmdafaaDoor.PA
set_option linter.unusedVariables false
set_option linter.unusedSimpArgs false
set_option maxRecDepth 100000 in
theorem tree_noExpr (x : XE) (A : Option Addr) (C : Nat) (v0 : World) :
    Calls Tryd.prog 82 #[.agg #[.int .u8 x.f0, .int .i64 x.f1, .string x.f2, .slice A x.f3.length C, .int .i64 x.f4, .int .i64 x.f5]] v0 fun e w' => e = .returned (.bool (noExprB x)) ∧ Below v0.heap.size v0 w' := by
  refine calls_enter (N := 32) (n := 31) (args := [.agg #[.int .u8 x.f0, .int .i64 x.f1, .string x.f2, .slice A x.f3.length C, .int .i64 x.f4, .int .i64 x.f5]]) Tryd.func82 rfl rfl rfl (H.init v0) (fun a hs => ?_)
  refine wp_seq (wp_region_lit ?_)
  refine a_eff rfl (e_box (cs := #[_, _, _, _, _, _]) hs rfl rfl rfl ?_); clear hs a; intro gx a w hs
  refine go hs (pA rfl <| ?_); clear hs a; intro a hs
  refine wpList_nil (then_normal (wp_seq ?_))
  refine wp_region_lit (go hs (pV rfl (fun a hs => y_faddr (k' := 0) 0 hs (by kernel_rfl) rfl rfl) <| pV rfl (fun a hs => y_load hs Tryd.underlying22 rfl rfl (fun w hw => (hw.to 0 rfl).cellV rfl)) <| pV rfl (fun a hs => y_cmp hs rfl rfl rfl) <| pM rfl <| ?_)); clear hs a; intro a hs
  rcases hs.know (d := 6) rfl with ⟨h6, hs1⟩ | ⟨h6, hs1⟩ <;> replace hs := hs1 <;> clear hs1
  · replace h6 := eq_of_beq h6
    refine go hs (pG rfl (fun a hs => y_faddr (k' := 1) 1 hs (by kernel_rfl) rfl rfl) <| pG rfl (fun a hs => y_load hs Tryd.underlying3 rfl rfl (fun w hw => (hw.to 0 rfl).cellV rfl)) <| pG rfl (fun a hs => y_cmp hs rfl rfl rfl) <| pT rfl rfl <| pM rfl <| ?_); clear hs a; intro a hs
    rcases hs.know (d := 11) rfl with ⟨h11, hs1⟩ | ⟨h11, hs1⟩ <;> replace hs := hs1 <;> clear hs1
    · replace h11 := eq_of_beq h11
      refine go hs (pG rfl (fun a hs => y_faddr (k' := 2) 2 hs (by kernel_rfl) rfl rfl) <| pG rfl (fun a hs => y_load hs Tryd.underlying9 rfl rfl (fun w hw => (hw.to 0 rfl).cellV rfl)) <| pG rfl (fun a hs => y_seqE hs rfl rfl) <| pT rfl rfl <| pM rfl <| ?_); clear hs a; intro a hs
      rcases hs.know (d := 16) rfl with ⟨h16, hs1⟩ | ⟨h16, hs1⟩ <;> replace hs := hs1 <;> clear hs1
      · replace h16 := of_decide_eq_true h16
        refine go hs (pG rfl (fun a hs => y_faddr (k' := 3) 3 hs (by kernel_rfl) rfl rfl) <| pG rfl (fun a hs => y_load hs Tryd.underlying23 rfl rfl (fun w hw => (hw.to 0 rfl).cellV rfl)) <| pG rfl (fun a hs => y_lenL hs Tryd.underlying23 rfl) <| pG rfl (fun a hs => y_cmp hs rfl rfl rfl) <| pT rfl rfl <| pM rfl <| ?_); clear hs a; intro a hs
        rcases hs.know (d := 22) rfl with ⟨h22, hs1⟩ | ⟨h22, hs1⟩ <;> replace hs := hs1 <;> clear hs1
        · replace h22 := eq_of_beq h22
          refine go hs (pG rfl (fun a hs => y_faddr (k' := 4) 4 hs (by kernel_rfl) rfl rfl) <| pG rfl (fun a hs => y_load hs Tryd.underlying3 rfl rfl (fun w hw => (hw.to 0 rfl).cellV rfl)) <| pG rfl (fun a hs => y_cmp hs rfl rfl rfl) <| pT rfl rfl <| pM rfl <| ?_); clear hs a; intro a hs
          rcases hs.know (d := 27) rfl with ⟨h27, hs1⟩ | ⟨h27, hs1⟩ <;> replace hs := hs1 <;> clear hs1
          · replace h27 := eq_of_beq h27
            refine go hs (pG rfl (fun a hs => y_faddr (k' := 5) 5 hs (by kernel_rfl) rfl rfl) <| pG rfl (fun a hs => y_load hs Tryd.underlying3 rfl rfl (fun w hw => (hw.to 0 rfl).cellV rfl)) <| pG rfl (fun a hs => y_cmp hs rfl rfl rfl) <| pT rfl rfl <| pA rfl <| ?_); clear hs a; intro a hs
            refine wpList_nil (then_normal (wp_ret ?_))
            refine fin_ret hs (.tmp (hs.slots _ _ rfl) .nil) ⟨?_, hs.mem.base⟩
            first | (rw [show noExprB x = false from decide_eq_false (by omega)]; rfl) | (rw [show noExprB x = (x.f5 == 0) from by unfold noExprB; rw [Bool.eq_iff_iff]; simp only [decide_eq_true_eq, beq_iff_eq]; omega]; rfl)
          replace h27 := ne_of_beq_false h27
          refine go hs (pS rfl <| pS rfl <| pS rfl <| pF rfl rfl <| pA rfl <| ?_); clear hs a; intro a hs
          refine wpList_nil (then_normal (wp_ret ?_))
          refine fin_ret hs (.tmp (hs.slots _ _ rfl) .nil) ⟨?_, hs.mem.base⟩
          first | (rw [show noExprB x = false from decide_eq_false (by omega)]; rfl) | (rw [show noExprB x = (x.f5 == 0) from by unfold noExprB; rw [Bool.eq_iff_iff]; simp only [decide_eq_true_eq, beq_iff_eq]; omega]; rfl)
        replace h22 := ne_of_beq_false h22
        refine go hs (pS rfl <| pS rfl <| pS rfl <| pF rfl rfl <| pM rfl <| pS rfl <| pS rfl <| pS rfl <| pF rfl rfl <| pA rfl <| ?_); clear hs a; intro a hs
        refine wpList_nil (then_normal (wp_ret ?_))
        refine fin_ret hs (.tmp (hs.slots _ _ rfl) .nil) ⟨?_, hs.mem.base⟩
        first | (rw [show noExprB x = false from decide_eq_false (by omega)]; rfl) | (rw [show noExprB x = (x.f5 == 0) from by unfold noExprB; rw [Bool.eq_iff_iff]; simp only [decide_eq_true_eq, beq_iff_eq]; omega]; rfl)
      replace h16 := of_decide_eq_false h16
      refine go hs (pS rfl <| pS rfl <| pS rfl <| pS rfl <| pF rfl rfl <| pM rfl <| pS rfl <| pS rfl <| pS rfl <| pF rfl rfl <| pM rfl <| pS rfl <| pS rfl <| pS rfl <| pF rfl rfl <| pA rfl <| ?_); clear hs a; intro a hs
      refine wpList_nil (then_normal (wp_ret ?_))
      refine fin_ret hs (.tmp (hs.slots _ _ rfl) .nil) ⟨?_, hs.mem.base⟩
      first | (rw [show noExprB x = false from decide_eq_false (by omega)]; rfl) | (rw [show noExprB x = (x.f5 == 0) from by unfold noExprB; rw [Bool.eq_iff_iff]; simp only [decide_eq_true_eq, beq_iff_eq]; omega]; rfl)
    replace h11 := ne_of_beq_false h11
    refine go hs (pS rfl <| pS rfl <| pS rfl <| pF rfl rfl <| pM rfl <| pS rfl <| pS rfl <| pS rfl <| pS rfl <| pF rfl rfl <| pM rfl <| pS rfl <| pS rfl <| pS rfl <| pF rfl rfl <| pM rfl <| pS rfl <| pS rfl <| pS rfl <| pF rfl rfl <| pA rfl <| ?_); clear hs a; intro a hs
    refine wpList_nil (then_normal (wp_ret ?_))
    refine fin_ret hs (.tmp (hs.slots _ _ rfl) .nil) ⟨?_, hs.mem.base⟩
    first | (rw [show noExprB x = false from decide_eq_false (by omega)]; rfl) | (rw [show noExprB x = (x.f5 == 0) from by unfold noExprB; rw [Bool.eq_iff_iff]; simp only [decide_eq_true_eq, beq_iff_eq]; omega]; rfl)
  replace h6 := ne_of_beq_false h6
  refine go hs (pS rfl <| pS rfl <| pS rfl <| pF rfl rfl <| pM rfl <| pS rfl <| pS rfl <| pS rfl <| pF rfl rfl <| pM rfl <| pS rfl <| pS rfl <| pS rfl <| pS rfl <| pF rfl rfl <| pM rfl <| pS rfl <| pS rfl <| pS rfl <| pF rfl rfl <| pM rfl <| pS rfl <| pS rfl <| pS rfl <| pF rfl rfl <| pA rfl <| ?_); clear hs a; intro a hs
  refine wpList_nil (then_normal (wp_ret ?_))
  refine fin_ret hs (.tmp (hs.slots _ _ rfl) .nil) ⟨?_, hs.mem.base⟩
  first | (rw [show noExprB x = false from decide_eq_false (by omega)]; rfl) | (rw [show noExprB x = (x.f5 == 0) from by unfold noExprB; rw [Bool.eq_iff_iff]; simp only [decide_eq_true_eq, beq_iff_eq]; omega]; rfl)
set_option maxRecDepth 100000 in
theorem tree_noShape (s : XS) (A2 A3 A4 : Option Addr) (c2 c3 c4 : Nat) (v0 : World) :
    Calls Tryd.prog 83 #[.agg #[.int .u8 s.f0, .string s.f1, .slice A2 s.f2.length c2, .slice A3 s.f3.length c3, .slice A4 s.f4.length c4, .int .i64 s.f5, .int .i64 s.f6]] v0 fun e w' => e = .returned (.bool (noShapeB s)) ∧ Below v0.heap.size v0 w' := by
  refine calls_enter (N := 39) (n := 38) (args := [.agg #[.int .u8 s.f0, .string s.f1, .slice A2 s.f2.length c2, .slice A3 s.f3.length c3, .slice A4 s.f4.length c4, .int .i64 s.f5, .int .i64 s.f6]]) Tryd.func83 rfl rfl rfl (H.init v0) (fun a hs => ?_)
  refine wp_seq (wp_region_lit ?_)
  refine a_eff rfl (e_box (cs := #[_, _, _, _, _, _, _]) hs rfl rfl rfl ?_); clear hs a; intro gx a w hs
  refine go hs (pA rfl <| ?_); clear hs a; intro a hs
  refine wpList_nil (then_normal (wp_seq ?_))
  refine wp_region_lit (go hs (pV rfl (fun a hs => y_faddr (k' := 0) 0 hs (by kernel_rfl) rfl rfl) <| pV rfl (fun a hs => y_load hs Tryd.underlying38 rfl rfl (fun w hw => (hw.to 0 rfl).cellV rfl)) <| pV rfl (fun a hs => y_cmp hs rfl rfl rfl) <| pM rfl <| ?_)); clear hs a; intro a hs
  rcases hs.know (d := 6) rfl with ⟨h6, hs1⟩ | ⟨h6, hs1⟩ <;> replace hs := hs1 <;> clear hs1
  · replace h6 := eq_of_beq h6
    refine go hs (pG rfl (fun a hs => y_faddr (k' := 1) 1 hs (by kernel_rfl) rfl rfl) <| pG rfl (fun a hs => y_load hs Tryd.underlying9 rfl rfl (fun w hw => (hw.to 0 rfl).cellV rfl)) <| pG rfl (fun a hs => y_seqE hs rfl rfl) <| pT rfl rfl <| pM rfl <| ?_); clear hs a; intro a hs
    rcases hs.know (d := 11) rfl with ⟨h11, hs1⟩ | ⟨h11, hs1⟩ <;> replace hs := hs1 <;> clear hs1
    · replace h11 := of_decide_eq_true h11
      refine go hs (pG rfl (fun a hs => y_faddr (k' := 2) 2 hs (by kernel_rfl) rfl rfl) <| pG rfl (fun a hs => y_load hs Tryd.underlying23 rfl rfl (fun w hw => (hw.to 0 rfl).cellV rfl)) <| pG rfl (fun a hs => y_lenL hs Tryd.underlying23 rfl) <| pG rfl (fun a hs => y_cmp hs rfl rfl rfl) <| pT rfl rfl <| pM rfl <| ?_); clear hs a; intro a hs
      rcases hs.know (d := 17) rfl with ⟨h17, hs1⟩ | ⟨h17, hs1⟩ <;> replace hs := hs1 <;> clear hs1
      · replace h17 := eq_of_beq h17
        refine go hs (pG rfl (fun a hs => y_faddr (k' := 3) 3 hs (by kernel_rfl) rfl rfl) <| pG rfl (fun a hs => y_load hs Tryd.underlying39 rfl rfl (fun w hw => (hw.to 0 rfl).cellV rfl)) <| pG rfl (fun a hs => y_lenL hs Tryd.underlying39 rfl) <| pG rfl (fun a hs => y_cmp hs rfl rfl rfl) <| pT rfl rfl <| pM rfl <| ?_); clear hs a; intro a hs
        rcases hs.know (d := 23) rfl with ⟨h23, hs1⟩ | ⟨h23, hs1⟩ <;> replace hs := hs1 <;> clear hs1
        · replace h23 := eq_of_beq h23
          refine go hs (pG rfl (fun a hs => y_faddr (k' := 4) 4 hs (by kernel_rfl) rfl rfl) <| pG rfl (fun a hs => y_load hs Tryd.underlying40 rfl rfl (fun w hw => (hw.to 0 rfl).cellV rfl)) <| pG rfl (fun a hs => y_lenL hs Tryd.underlying40 rfl) <| pG rfl (fun a hs => y_cmp hs rfl rfl rfl) <| pT rfl rfl <| pM rfl <| ?_); clear hs a; intro a hs
          rcases hs.know (d := 29) rfl with ⟨h29, hs1⟩ | ⟨h29, hs1⟩ <;> replace hs := hs1 <;> clear hs1
          · replace h29 := eq_of_beq h29
            refine go hs (pG rfl (fun a hs => y_faddr (k' := 5) 5 hs (by kernel_rfl) rfl rfl) <| pG rfl (fun a hs => y_load hs Tryd.underlying3 rfl rfl (fun w hw => (hw.to 0 rfl).cellV rfl)) <| pG rfl (fun a hs => y_cmp hs rfl rfl rfl) <| pT rfl rfl <| pM rfl <| ?_); clear hs a; intro a hs
            rcases hs.know (d := 34) rfl with ⟨h34, hs1⟩ | ⟨h34, hs1⟩ <;> replace hs := hs1 <;> clear hs1
            · replace h34 := eq_of_beq h34
              refine go hs (pG rfl (fun a hs => y_faddr (k' := 6) 6 hs (by kernel_rfl) rfl rfl) <| pG rfl (fun a hs => y_load hs Tryd.underlying3 rfl rfl (fun w hw => (hw.to 0 rfl).cellV rfl)) <| pG rfl (fun a hs => y_cmp hs rfl rfl rfl) <| pT rfl rfl <| pA rfl <| ?_); clear hs a; intro a hs
              refine wpList_nil (then_normal (wp_ret ?_))
              refine fin_ret hs (.tmp (hs.slots _ _ rfl) .nil) ⟨?_, hs.mem.base⟩
              first | (rw [show noShapeB s = false from decide_eq_false (by omega)]; rfl) | (rw [show noShapeB s = (s.f6 == 0) from by unfold noShapeB; rw [Bool.eq_iff_iff]; simp only [decide_eq_true_eq, beq_iff_eq]; omega]; rfl)
            replace h34 := ne_of_beq_false h34
            refine go hs (pS rfl <| pS rfl <| pS rfl <| pF rfl rfl <| pA rfl <| ?_); clear hs a; intro a hs
            refine wpList_nil (then_normal (wp_ret ?_))
            refine fin_ret hs (.tmp (hs.slots _ _ rfl) .nil) ⟨?_, hs.mem.base⟩
            first | (rw [show noShapeB s = false from decide_eq_false (by omega)]; rfl) | (rw [show noShapeB s = (s.f6 == 0) from by unfold noShapeB; rw [Bool.eq_iff_iff]; simp only [decide_eq_true_eq, beq_iff_eq]; omega]; rfl)
          replace h29 := ne_of_beq_false h29
          refine go hs (pS rfl <| pS rfl <| pS rfl <| pF rfl rfl <| pM rfl <| pS rfl <| pS rfl <| pS rfl <| pF rfl rfl <| pA rfl <| ?_); clear hs a; intro a hs
          refine wpList_nil (then_normal (wp_ret ?_))
          refine fin_ret hs (.tmp (hs.slots _ _ rfl) .nil) ⟨?_, hs.mem.base⟩
          first | (rw [show noShapeB s = false from decide_eq_false (by omega)]; rfl) | (rw [show noShapeB s = (s.f6 == 0) from by unfold noShapeB; rw [Bool.eq_iff_iff]; simp only [decide_eq_true_eq, beq_iff_eq]; omega]; rfl)
        replace h23 := ne_of_beq_false h23
        refine go hs (pS rfl <| pS rfl <| pS rfl <| pS rfl <| pF rfl rfl <| pM rfl <| pS rfl <| pS rfl <| pS rfl <| pF rfl rfl <| pM rfl <| pS rfl <| pS rfl <| pS rfl <| pF rfl rfl <| pA rfl <| ?_); clear hs a; intro a hs
        refine wpList_nil (then_normal (wp_ret ?_))
        refine fin_ret hs (.tmp (hs.slots _ _ rfl) .nil) ⟨?_, hs.mem.base⟩
        first | (rw [show noShapeB s = false from decide_eq_false (by omega)]; rfl) | (rw [show noShapeB s = (s.f6 == 0) from by unfold noShapeB; rw [Bool.eq_iff_iff]; simp only [decide_eq_true_eq, beq_iff_eq]; omega]; rfl)
      replace h17 := ne_of_beq_false h17
      refine go hs (pS rfl <| pS rfl <| pS rfl <| pS rfl <| pF rfl rfl <| pM rfl <| pS rfl <| pS rfl <| pS rfl <| pS rfl <| pF rfl rfl <| pM rfl <| pS rfl <| pS rfl <| pS rfl <| pF rfl rfl <| pM rfl <| pS rfl <| pS rfl <| pS rfl <| pF rfl rfl <| pA rfl <| ?_); clear hs a; intro a hs
      refine wpList_nil (then_normal (wp_ret ?_))
      refine fin_ret hs (.tmp (hs.slots _ _ rfl) .nil) ⟨?_, hs.mem.base⟩
      first | (rw [show noShapeB s = false from decide_eq_false (by omega)]; rfl) | (rw [show noShapeB s = (s.f6 == 0) from by unfold noShapeB; rw [Bool.eq_iff_iff]; simp only [decide_eq_true_eq, beq_iff_eq]; omega]; rfl)
    replace h11 := of_decide_eq_false h11
    refine go hs (pS rfl <| pS rfl <| pS rfl <| pS rfl <| pF rfl rfl <| pM rfl <| pS rfl <| pS rfl <| pS rfl <| pS rfl <| pF rfl rfl <| pM rfl <| pS rfl <| pS rfl <| pS rfl <| pS rfl <| pF rfl rfl <| pM rfl <| pS rfl <| pS rfl <| pS rfl <| pF rfl rfl <| pM rfl <| pS rfl <| pS rfl <| pS rfl <| pF rfl rfl <| pA rfl <| ?_); clear hs a; intro a hs
    refine wpList_nil (then_normal (wp_ret ?_))
    refine fin_ret hs (.tmp (hs.slots _ _ rfl) .nil) ⟨?_, hs.mem.base⟩
    first | (rw [show noShapeB s = false from decide_eq_false (by omega)]; rfl) | (rw [show noShapeB s = (s.f6 == 0) from by unfold noShapeB; rw [Bool.eq_iff_iff]; simp only [decide_eq_true_eq, beq_iff_eq]; omega]; rfl)
  replace h6 := ne_of_beq_false h6
  refine go hs (pS rfl <| pS rfl <| pS rfl <| pF rfl rfl <| pM rfl <| pS rfl <| pS rfl <| pS rfl <| pS rfl <| pF rfl rfl <| pM rfl <| pS rfl <| pS rfl <| pS rfl <| pS rfl <| pF rfl rfl <| pM rfl <| pS rfl <| pS rfl <| pS rfl <| pS rfl <| pF rfl rfl <| pM rfl <| pS rfl <| pS rfl <| pS rfl <| pF rfl rfl <| pM rfl <| pS rfl <| pS rfl <| pS rfl <| pF rfl rfl <| pA rfl <| ?_); clear hs a; intro a hs
  refine wpList_nil (then_normal (wp_ret ?_))
  refine fin_ret hs (.tmp (hs.slots _ _ rfl) .nil) ⟨?_, hs.mem.base⟩
  first | (rw [show noShapeB s = false from decide_eq_false (by omega)]; rfl) | (rw [show noShapeB s = (s.f6 == 0) from by unfold noShapeB; rw [Bool.eq_iff_iff]; simp only [decide_eq_true_eq, beq_iff_eq]; omega]; rfl)
end Go.Proofs.YtibaidddhmdafaaDoor.E
end
section
namespace Go.Proofs.YtibaidddhmdafaaDoor.E
open Go Go.RowKit Go.Proofs.YtibaidddhmdafaaDoorW.PrintWords Go.Proofs.YtibaidddhmdafaaDoorW.PrintLast Go.Proofs.YtibaidddhmdafaaDoorW.PrintMore Go.Proofs.YtibaidddhmdafaaDoor.PA
set_option linter.unusedVariables false
set_option linter.unusedSimpArgs false
set_option maxRecDepth 100000 in
theorem w_say (g ga : Nat) (l : List ByteArray) (toks : List XT) (A1 : Option Addr) (c1 c : Nat) (ta : TypeId) (bs : List Res) (w0 w : World) (hz : ∀ s ∈ l, s.size ≤ 9223372036854775807) (ht : toks.length + l.length ≤ 1000000) (h : H w0 (pt g #[.slice A1 (toks).length c1] 90 :: row 94 5 (.slice A1 (toks).length c1) (toks).length ((toks).flatMap tokC) :: pt ga (l.map Value.string).toArray ta :: bs) w) :
    Calls Tryd.prog 65 #[.pointer (some ⟨g, 0, none⟩), .slice (some ⟨ga, 0, none⟩) l.length c] w fun e w' => ∃ A2 c2, e = .returned (.tuple #[]) ∧ H w0 (pt g #[.slice A2 (toks ++ l.map sayT).length c2] 90 :: row 94 5 (.slice A2 (toks ++ l.map sayT).length c2) (toks ++ l.map sayT).length ((toks ++ l.map sayT).flatMap tokC) :: pt ga (l.map Value.string).toArray ta :: bs) w' := by
  refine calls_enter (N := 34) (n := 32) (args := [.pointer (some ⟨g, 0, none⟩), .slice (some ⟨ga, 0, none⟩) l.length c]) Tryd.func65 rfl rfl rfl (h) (fun a hs => ?_)
  refine wp_seq (wp_region_lit ?_)
  refine go hs (pM rfl <| pV rfl (fun a hs => y_lenL hs Tryd.underlying116 rfl) <| pM rfl <| ?_); clear hs a; intro a hs
  refine wpList_nil (then_normal (wp_block ?_))
  refine wp_loopN (fun m a w1 => ∃ (i : Nat) (A2 : Option Addr) (c2 : Nat), (i + m = l.length) ∧ St 34 w0 [(0, .pointer (some ⟨g, 0, none⟩)), (7, .slice (some ⟨ga, 0, none⟩) l.length c), (8, .int .i64 (l.length : Int)), (9, .int .i64 ((i : Nat) : Int))] (pt g #[.slice A2 (toks ++ (l.take i).map sayT).length c2] 90 :: row 94 5 (.slice A2 (toks ++ (l.take i).map sayT).length c2) (toks ++ (l.take i).map sayT).length ((toks ++ (l.take i).map sayT).flatMap tokC) :: pt ga (l.map Value.string).toArray ta :: bs) a w1) (l.length) ⟨0, A1, c1, by omega, ?_⟩ (fun m a w1 hJ => ?_)
  · rw [show toks = toks ++ (l.take 0).map sayT by simp] at hs
    exact (hs.mem_to (((hs.mem.to 2 rfl).to 2 rfl).to 2 rfl)).cut _ ⟨rfl, rfl, rfl, rfl, trivial⟩
  clear hs
  obtain ⟨i, A2, c2, hi, hs⟩ := hJ
  refine wp_seq (wp_region_lit ?_)
  refine go hs (pV rfl (fun a hs => y_cmp hs rfl rfl rfl) <| ?_); clear hs a; intro a hs
  refine wpList_nil (then_normal (wp_seq ?_))
  refine wp_cond_split (hs.ev rfl) (fun h10 => ?_) (fun h10 => ?_)
  · replace h10 := of_decide_eq_true h10
    obtain ⟨s, hsi⟩ : ∃ s, l[i]? = some s := ⟨_, List.getElem?_eq_getElem (by omega)⟩
    have hsz := hz s (List.mem_of_getElem? hsi)
    have hla : (toks ++ (l.take i).map sayT).length ≤ 1000000 := by rw [List.length_append, List.length_map, List.length_take]; omega
    refine wp_skip (then_normal (wp_seq ?_))
    refine wp_block (wp_seq ?_)
    refine wp_region_lit (go hs (pV rfl (fun a hs => y_idxB (size := 1) (off := 0 + i * 1) hs Tryd.underlying116 (by kernel_rfl) rfl rfl (by omega) (by omega) (by simp)) <| pV rfl (fun a hs => y_load (v := .string s) hs Tryd.underlying9 rfl rfl (fun w hw => ((hw.to 2 rfl).cell).trans (by simp [hsi]))) <| pA rfl <| ?_)); clear hs a; intro a hs
    refine wpList_nil (then_normal (wp_seq ?_))
    refine wp_region_lit (go hs (pM rfl <| pV rfl (fun a hs => y_struct (zc := #[.int .u8 0, .string ⟨#[]⟩, .int .i64 0, .int .i64 0, .int .i64 0]) (pl := [(0, 1), (1, 1), (2, 1), (3, 1), (4, 1)]) (cl := [_, _, .int .i64 0, .int .i64 0, .int .i64 0]) hs (by kernel_rfl) rfl (by rfl) rfl) <| ?_)); clear hs a; intro a hs
    refine a_eff rfl (e_alloc (z := .agg #[.int .u8 0, .string ⟨#[]⟩, .int .i64 0, .int .i64 0, .int .i64 0]) (cs := #[.int .u8 0, .string ⟨#[]⟩, .int .i64 0, .int .i64 0, .int .i64 0]) hs rfl (by kernel_rfl) rfl ?_); clear hs a; intro gt a w hs
    refine a_eff rfl (e_store (cl := [_, _, _, _, _]) 0 rfl hs rfl rfl (by kernel_rfl) rfl rfl rfl ?_); clear hs a; intro a w hs
    refine wpList_nil (then_normal (wp_seq ?_))
    refine wp_seq (wp_region_lit ?_)
    refine go hs (pV rfl (fun a hs => y_loadPt 0 rfl hs Tryd.underlying94 rfl (by kernel_rfl) rfl) <| ?_); clear hs a; intro a hs
    refine a_eff rfl (e_callB Tryd.func90 rfl rfl hs rfl rfl (token_May.calls (s.size + 3) 2 s 0 0 0 (mayB (tk 2 s)) _ (may_prog (tk 2 s) hsz)) ?_); clear hs a; intro a w hs
    refine go hs (pV rfl (fun a hs => y_not hs rfl) <| ?_); clear hs a; intro a hs
    refine wpList_nil (then_normal ?_)
    refine wp_cond_split (hs.ev rfl) (fun h17 => ?_) (fun h17 => ?_)
    · replace h17 := (not_t h17)
      refine wp_region_lit (go hs (pV rfl (fun a hs => y_faddr (k' := 0) 0 hs (by kernel_rfl) rfl rfl) <| ?_)); clear hs a; intro a hs
      refine a_eff rfl (e_store (cl := [_, _, _, _, _]) 0 rfl hs rfl rfl (by kernel_rfl) rfl rfl rfl ?_); clear hs a; intro a w hs
      refine wpList_nil (then_normal (wp_seq ?_))
      refine wp_seq (wp_region_lit ?_)
      refine go hs (pV rfl (fun a hs => y_loadPt 0 rfl hs Tryd.underlying94 rfl (by kernel_rfl) rfl) <| ?_); clear hs a; intro a hs
      refine a_eff rfl (e_callB Tryd.func90 rfl rfl hs rfl rfl (token_May.calls (s.size + 3) 1 s 0 0 0 (mayB (tk 1 s)) _ (may_prog (tk 1 s) hsz)) ?_); clear hs a; intro a w hs
      refine go hs (pV rfl (fun a hs => y_not hs rfl) <| ?_); clear hs a; intro a hs
      refine wpList_nil (then_normal ?_)
      refine wp_cond_split (hs.ev rfl) (fun h21 => ?_) (fun h21 => ?_)
      · replace h21 := (not_t h21)
        have hT : sayT s = tk 4 s := by unfold sayT; rw [if_neg (by rw [h17]; exact Bool.false_ne_true), if_neg (by rw [h21]; exact Bool.false_ne_true)]
        refine wp_region_lit (go hs (pV rfl (fun a hs => y_faddr (k' := 0) 0 hs (by kernel_rfl) rfl rfl) <| ?_)); clear hs a; intro a hs
        refine a_eff rfl (e_store (cl := [_, _, _, _, _]) 0 rfl hs rfl rfl (by kernel_rfl) rfl rfl rfl ?_); clear hs a; intro a w hs
        refine wpList_nil (then_normal ?_)
        refine b_enter [0, 3] (by kernel_rfl) hs #[false, false, false, false, false, false, false, false, false, false, false] (by rfl) 11 (by rfl) ?_; clear hs; intro w hs
        refine b_take 0 rfl #[true, false, false, false, false, false, false, false, false, false, false] rfl (by kernel_rfl) hs ((((hs.mem.to 3 rfl).to 1 rfl).first 2)) rfl rfl rfl (fun _ _ _ h => h) (y_move hs rfl) ?_; clear hs a; intro a hs
        refine b_take 1 rfl #[true, true, false, false, false, false, false, false, false, false, false] rfl (by kernel_rfl) hs ((((hs.mem.to 3 rfl).to 1 rfl).first 2)) rfl rfl rfl (fun _ _ _ h => h) (y_move hs rfl) ?_; clear hs a; intro a hs
        refine b_take 2 rfl #[true, true, true, false, false, false, false, false, false, false, false] rfl (by kernel_rfl) hs ((((hs.mem.to 3 rfl).to 1 rfl).first 2)) rfl rfl rfl (fun _ _ _ h => h) (y_nilchk hs rfl) ?_; clear hs a; intro a hs
        refine b_take 3 rfl #[true, true, true, true, false, false, false, false, false, false, false] rfl (by kernel_rfl) hs ((((hs.mem.to 3 rfl).to 1 rfl).first 2)) rfl rfl rfl (fun _ _ _ h => h) (y_faddr (k' := 0) 0 hs (by kernel_rfl) rfl rfl) ?_; clear hs a; intro a hs
        refine b_take 5 rfl #[true, true, true, true, false, true, false, false, false, false, false] rfl (by kernel_rfl) hs ((((hs.mem.to 3 rfl).to 1 rfl).first 2)) rfl rfl rfl (fun _ _ _ h => h) (y_loadPt 0 rfl hs Tryd.underlying94 rfl (by kernel_rfl) rfl) ?_; clear hs a; intro a hs
        refine b_eff2 4 6 (by kernel_rfl) rfl rfl #[true, true, true, true, true, true, false, false, false, false, false] #[true, true, true, true, false, true, true, false, false, false, false] rfl rfl hs rfl rfl (e_yield hs rfl rfl (y_load hs Tryd.underlying88 rfl rfl (fun w hw => (hw.to 1 rfl).cellV rfl)) ?_) (e_bslice (z := .agg #[.int .u8 0, .string ⟨#[]⟩, .int .i64 0, .int .i64 0, .int .i64 0]) (size := 5) (zc := #[.int .u8 0, .string ⟨#[]⟩, .int .i64 0, .int .i64 0, .int .i64 0]) (cl := [_, _, _, _, _]) hs rfl Tryd.underlying88 (by kernel_rfl) rfl rfl rfl (by kernel_rfl) (by rfl) rfl ?_)
        · clear hs a; intro a hs
          refine ⟨(((hs.mem.to 3 rfl).to 1 rfl).first 2), ?_⟩
          refine b_eff 6 (by kernel_rfl) rfl #[true, true, true, true, true, true, true, false, false, false, false] rfl hs rfl (e_bslice (z := .agg #[.int .u8 0, .string ⟨#[]⟩, .int .i64 0, .int .i64 0, .int .i64 0]) (size := 5) (zc := #[.int .u8 0, .string ⟨#[]⟩, .int .i64 0, .int .i64 0, .int .i64 0]) (cl := [_, _, _, _, _]) hs rfl Tryd.underlying88 (by kernel_rfl) rfl rfl rfl (by kernel_rfl) (by rfl) rfl ?_); clear hs a; intro gk a w hs
          refine ⟨(((hs.mem.to 4 rfl).to 2 rfl).first 2), ?_⟩
          refine b_eff 7 (by kernel_rfl) rfl #[true, true, true, true, true, true, true, true, false, false, false] rfl hs rfl (e_appL (z := .agg #[.int .u8 0, .string ⟨#[]⟩, .int .i64 0, .int .i64 0, .int .i64 0]) (size := 5) (bytes := 48) tokC (toks ++ (l.take i).map sayT) ([tk 4 s]) 3 rfl 0 rfl hs rfl Tryd.underlying88 (by kernel_rfl) rfl rfl tokC_len rfl rfl rfl rfl (oneT _) (by unfold maxLen; simp only [List.length_cons, List.length_nil]; omega) (by simp only [List.length_cons, List.length_nil]; omega) ?_); clear hs a; intro A3 c3 a w hs
          refine ⟨(((hs.mem.to 4 rfl).to 3 rfl).first 2), ?_⟩
          refine b_take 8 rfl #[true, true, true, true, true, true, true, true, true, false, false] rfl (by kernel_rfl) hs ((((hs.mem.to 4 rfl).to 3 rfl).first 2)) rfl rfl rfl (fun _ _ _ h => h) (y_nilchk hs rfl) ?_; clear hs a; intro a hs
          refine b_take 9 rfl #[true, true, true, true, true, true, true, true, true, true, false] rfl (by kernel_rfl) hs ((((hs.mem.to 4 rfl).to 3 rfl).first 2)) rfl rfl rfl (fun _ _ _ h => h) (y_faddr (k' := 0) 0 hs (by kernel_rfl) rfl rfl) ?_; clear hs a; intro a hs
          refine b_eff 10 (by kernel_rfl) rfl #[true, true, true, true, true, true, true, true, true, true, true] rfl hs rfl (e_store (cl := [_]) 3 rfl hs rfl rfl (by kernel_rfl) rfl rfl rfl ?_); clear hs a; intro a w hs
          refine ⟨(((hs.mem.to 4 rfl).to 4 rfl).first 2), ?_⟩
          refine b_done (by kernel_rfl) (in_normal (then_normal ?_))
          refine wp_region_lit (go hs (pV rfl (fun a hs => y_add hs rfl rfl (by omega)) <| pM rfl <| ?_)); clear hs a; intro a hs
          refine wpList_nil (then_normal ?_)
          have hacc : (toks ++ (l.take i).map sayT) ++ [tk 4 s] = toks ++ (l.take (i + 1)).map sayT := by rw [List.take_add_one, hsi, List.map_append, List.append_assoc, ← hT]; rfl
          rw [hacc] at hs
          refine ⟨m - 1, by omega, i + 1, A3, c3, by omega, ?_⟩
          exact (hs.mem_to (((((hs.mem.to 2 rfl).drop.to 2 rfl).drop.to 2 rfl).to 2 rfl).to 2 rfl)).cut _ ⟨rfl, rfl, rfl, rfl, trivial⟩
        clear hs a; intro gk a w hs
        refine ⟨(((hs.mem.to 4 rfl).to 2 rfl).first 2), ?_⟩
        refine b_eff 4 (by kernel_rfl) rfl #[true, true, true, true, true, true, true, false, false, false, false] rfl hs rfl (e_yield hs rfl rfl (y_load hs Tryd.underlying88 rfl rfl (fun w hw => (hw.to 2 rfl).cellV rfl)) ?_); clear hs a; intro a hs
        refine ⟨(((hs.mem.to 4 rfl).to 2 rfl).first 2), ?_⟩
        refine b_eff 7 (by kernel_rfl) rfl #[true, true, true, true, true, true, true, true, false, false, false] rfl hs rfl (e_appL (z := .agg #[.int .u8 0, .string ⟨#[]⟩, .int .i64 0, .int .i64 0, .int .i64 0]) (size := 5) (bytes := 48) tokC (toks ++ (l.take i).map sayT) ([tk 4 s]) 3 rfl 0 rfl hs rfl Tryd.underlying88 (by kernel_rfl) rfl rfl tokC_len rfl rfl rfl rfl (oneT _) (by unfold maxLen; simp only [List.length_cons, List.length_nil]; omega) (by simp only [List.length_cons, List.length_nil]; omega) ?_); clear hs a; intro A3 c3 a w hs
        refine ⟨(((hs.mem.to 4 rfl).to 3 rfl).first 2), ?_⟩
        refine b_take 8 rfl #[true, true, true, true, true, true, true, true, true, false, false] rfl (by kernel_rfl) hs ((((hs.mem.to 4 rfl).to 3 rfl).first 2)) rfl rfl rfl (fun _ _ _ h => h) (y_nilchk hs rfl) ?_; clear hs a; intro a hs
        refine b_take 9 rfl #[true, true, true, true, true, true, true, true, true, true, false] rfl (by kernel_rfl) hs ((((hs.mem.to 4 rfl).to 3 rfl).first 2)) rfl rfl rfl (fun _ _ _ h => h) (y_faddr (k' := 0) 0 hs (by kernel_rfl) rfl rfl) ?_; clear hs a; intro a hs
        refine b_eff 10 (by kernel_rfl) rfl #[true, true, true, true, true, true, true, true, true, true, true] rfl hs rfl (e_store (cl := [_]) 3 rfl hs rfl rfl (by kernel_rfl) rfl rfl rfl ?_); clear hs a; intro a w hs
        refine ⟨(((hs.mem.to 4 rfl).to 4 rfl).first 2), ?_⟩
        refine b_done (by kernel_rfl) (in_normal (then_normal ?_))
        refine wp_region_lit (go hs (pV rfl (fun a hs => y_add hs rfl rfl (by omega)) <| pM rfl <| ?_)); clear hs a; intro a hs
        refine wpList_nil (then_normal ?_)
        have hacc : (toks ++ (l.take i).map sayT) ++ [tk 4 s] = toks ++ (l.take (i + 1)).map sayT := by rw [List.take_add_one, hsi, List.map_append, List.append_assoc, ← hT]; rfl
        rw [hacc] at hs
        refine ⟨m - 1, by omega, i + 1, A3, c3, by omega, ?_⟩
        exact (hs.mem_to (((((hs.mem.to 2 rfl).drop.to 2 rfl).drop.to 2 rfl).to 2 rfl).to 2 rfl)).cut _ ⟨rfl, rfl, rfl, rfl, trivial⟩
      replace h21 := (not_f h21)
      have hT : sayT s = tk 1 s := by unfold sayT; rw [if_neg (by rw [h17]; exact Bool.false_ne_true), if_pos h21]
      refine wp_skip (then_normal ?_)
      refine b_enter [0, 3] (by kernel_rfl) hs #[false, false, false, false, false, false, false, false, false, false, false] (by rfl) 11 (by rfl) ?_; clear hs; intro w hs
      refine b_take 0 rfl #[true, false, false, false, false, false, false, false, false, false, false] rfl (by kernel_rfl) hs ((((hs.mem.to 3 rfl).to 1 rfl).first 2)) rfl rfl rfl (fun _ _ _ h => h) (y_move hs rfl) ?_; clear hs a; intro a hs
      refine b_take 1 rfl #[true, true, false, false, false, false, false, false, false, false, false] rfl (by kernel_rfl) hs ((((hs.mem.to 3 rfl).to 1 rfl).first 2)) rfl rfl rfl (fun _ _ _ h => h) (y_move hs rfl) ?_; clear hs a; intro a hs
      refine b_take 2 rfl #[true, true, true, false, false, false, false, false, false, false, false] rfl (by kernel_rfl) hs ((((hs.mem.to 3 rfl).to 1 rfl).first 2)) rfl rfl rfl (fun _ _ _ h => h) (y_nilchk hs rfl) ?_; clear hs a; intro a hs
      refine b_take 3 rfl #[true, true, true, true, false, false, false, false, false, false, false] rfl (by kernel_rfl) hs ((((hs.mem.to 3 rfl).to 1 rfl).first 2)) rfl rfl rfl (fun _ _ _ h => h) (y_faddr (k' := 0) 0 hs (by kernel_rfl) rfl rfl) ?_; clear hs a; intro a hs
      refine b_take 5 rfl #[true, true, true, true, false, true, false, false, false, false, false] rfl (by kernel_rfl) hs ((((hs.mem.to 3 rfl).to 1 rfl).first 2)) rfl rfl rfl (fun _ _ _ h => h) (y_loadPt 0 rfl hs Tryd.underlying94 rfl (by kernel_rfl) rfl) ?_; clear hs a; intro a hs
      refine b_eff2 4 6 (by kernel_rfl) rfl rfl #[true, true, true, true, true, true, false, false, false, false, false] #[true, true, true, true, false, true, true, false, false, false, false] rfl rfl hs rfl rfl (e_yield hs rfl rfl (y_load hs Tryd.underlying88 rfl rfl (fun w hw => (hw.to 1 rfl).cellV rfl)) ?_) (e_bslice (z := .agg #[.int .u8 0, .string ⟨#[]⟩, .int .i64 0, .int .i64 0, .int .i64 0]) (size := 5) (zc := #[.int .u8 0, .string ⟨#[]⟩, .int .i64 0, .int .i64 0, .int .i64 0]) (cl := [_, _, _, _, _]) hs rfl Tryd.underlying88 (by kernel_rfl) rfl rfl rfl (by kernel_rfl) (by rfl) rfl ?_)
      · clear hs a; intro a hs
        refine ⟨(((hs.mem.to 3 rfl).to 1 rfl).first 2), ?_⟩
        refine b_eff 6 (by kernel_rfl) rfl #[true, true, true, true, true, true, true, false, false, false, false] rfl hs rfl (e_bslice (z := .agg #[.int .u8 0, .string ⟨#[]⟩, .int .i64 0, .int .i64 0, .int .i64 0]) (size := 5) (zc := #[.int .u8 0, .string ⟨#[]⟩, .int .i64 0, .int .i64 0, .int .i64 0]) (cl := [_, _, _, _, _]) hs rfl Tryd.underlying88 (by kernel_rfl) rfl rfl rfl (by kernel_rfl) (by rfl) rfl ?_); clear hs a; intro gk a w hs
        refine ⟨(((hs.mem.to 4 rfl).to 2 rfl).first 2), ?_⟩
        refine b_eff 7 (by kernel_rfl) rfl #[true, true, true, true, true, true, true, true, false, false, false] rfl hs rfl (e_appL (z := .agg #[.int .u8 0, .string ⟨#[]⟩, .int .i64 0, .int .i64 0, .int .i64 0]) (size := 5) (bytes := 48) tokC (toks ++ (l.take i).map sayT) ([tk 1 s]) 3 rfl 0 rfl hs rfl Tryd.underlying88 (by kernel_rfl) rfl rfl tokC_len rfl rfl rfl rfl (oneT _) (by unfold maxLen; simp only [List.length_cons, List.length_nil]; omega) (by simp only [List.length_cons, List.length_nil]; omega) ?_); clear hs a; intro A3 c3 a w hs
        refine ⟨(((hs.mem.to 4 rfl).to 3 rfl).first 2), ?_⟩
        refine b_take 8 rfl #[true, true, true, true, true, true, true, true, true, false, false] rfl (by kernel_rfl) hs ((((hs.mem.to 4 rfl).to 3 rfl).first 2)) rfl rfl rfl (fun _ _ _ h => h) (y_nilchk hs rfl) ?_; clear hs a; intro a hs
        refine b_take 9 rfl #[true, true, true, true, true, true, true, true, true, true, false] rfl (by kernel_rfl) hs ((((hs.mem.to 4 rfl).to 3 rfl).first 2)) rfl rfl rfl (fun _ _ _ h => h) (y_faddr (k' := 0) 0 hs (by kernel_rfl) rfl rfl) ?_; clear hs a; intro a hs
        refine b_eff 10 (by kernel_rfl) rfl #[true, true, true, true, true, true, true, true, true, true, true] rfl hs rfl (e_store (cl := [_]) 3 rfl hs rfl rfl (by kernel_rfl) rfl rfl rfl ?_); clear hs a; intro a w hs
        refine ⟨(((hs.mem.to 4 rfl).to 4 rfl).first 2), ?_⟩
        refine b_done (by kernel_rfl) (in_normal (then_normal ?_))
        refine wp_region_lit (go hs (pV rfl (fun a hs => y_add hs rfl rfl (by omega)) <| pM rfl <| ?_)); clear hs a; intro a hs
        refine wpList_nil (then_normal ?_)
        have hacc : (toks ++ (l.take i).map sayT) ++ [tk 1 s] = toks ++ (l.take (i + 1)).map sayT := by rw [List.take_add_one, hsi, List.map_append, List.append_assoc, ← hT]; rfl
        rw [hacc] at hs
        refine ⟨m - 1, by omega, i + 1, A3, c3, by omega, ?_⟩
        exact (hs.mem_to (((((hs.mem.to 2 rfl).drop.to 2 rfl).drop.to 2 rfl).to 2 rfl).to 2 rfl)).cut _ ⟨rfl, rfl, rfl, rfl, trivial⟩
      clear hs a; intro gk a w hs
      refine ⟨(((hs.mem.to 4 rfl).to 2 rfl).first 2), ?_⟩
      refine b_eff 4 (by kernel_rfl) rfl #[true, true, true, true, true, true, true, false, false, false, false] rfl hs rfl (e_yield hs rfl rfl (y_load hs Tryd.underlying88 rfl rfl (fun w hw => (hw.to 2 rfl).cellV rfl)) ?_); clear hs a; intro a hs
      refine ⟨(((hs.mem.to 4 rfl).to 2 rfl).first 2), ?_⟩
      refine b_eff 7 (by kernel_rfl) rfl #[true, true, true, true, true, true, true, true, false, false, false] rfl hs rfl (e_appL (z := .agg #[.int .u8 0, .string ⟨#[]⟩, .int .i64 0, .int .i64 0, .int .i64 0]) (size := 5) (bytes := 48) tokC (toks ++ (l.take i).map sayT) ([tk 1 s]) 3 rfl 0 rfl hs rfl Tryd.underlying88 (by kernel_rfl) rfl rfl tokC_len rfl rfl rfl rfl (oneT _) (by unfold maxLen; simp only [List.length_cons, List.length_nil]; omega) (by simp only [List.length_cons, List.length_nil]; omega) ?_); clear hs a; intro A3 c3 a w hs
      refine ⟨(((hs.mem.to 4 rfl).to 3 rfl).first 2), ?_⟩
      refine b_take 8 rfl #[true, true, true, true, true, true, true, true, true, false, false] rfl (by kernel_rfl) hs ((((hs.mem.to 4 rfl).to 3 rfl).first 2)) rfl rfl rfl (fun _ _ _ h => h) (y_nilchk hs rfl) ?_; clear hs a; intro a hs
      refine b_take 9 rfl #[true, true, true, true, true, true, true, true, true, true, false] rfl (by kernel_rfl) hs ((((hs.mem.to 4 rfl).to 3 rfl).first 2)) rfl rfl rfl (fun _ _ _ h => h) (y_faddr (k' := 0) 0 hs (by kernel_rfl) rfl rfl) ?_; clear hs a; intro a hs
      refine b_eff 10 (by kernel_rfl) rfl #[true, true, true, true, true, true, true, true, true, true, true] rfl hs rfl (e_store (cl := [_]) 3 rfl hs rfl rfl (by kernel_rfl) rfl rfl rfl ?_); clear hs a; intro a w hs
      refine ⟨(((hs.mem.to 4 rfl).to 4 rfl).first 2), ?_⟩
      refine b_done (by kernel_rfl) (in_normal (then_normal ?_))
      refine wp_region_lit (go hs (pV rfl (fun a hs => y_add hs rfl rfl (by omega)) <| pM rfl <| ?_)); clear hs a; intro a hs
      refine wpList_nil (then_normal ?_)
      have hacc : (toks ++ (l.take i).map sayT) ++ [tk 1 s] = toks ++ (l.take (i + 1)).map sayT := by rw [List.take_add_one, hsi, List.map_append, List.append_assoc, ← hT]; rfl
      rw [hacc] at hs
      refine ⟨m - 1, by omega, i + 1, A3, c3, by omega, ?_⟩
      exact (hs.mem_to (((((hs.mem.to 2 rfl).drop.to 2 rfl).drop.to 2 rfl).to 2 rfl).to 2 rfl)).cut _ ⟨rfl, rfl, rfl, rfl, trivial⟩
    replace h17 := (not_f h17)
    have hT : sayT s = tk 2 s := by unfold sayT; rw [if_pos h17]
    refine wp_skip (then_normal (wp_seq ?_))
    refine wp_seq (wp_region_lit ?_)
    refine go hs (pV rfl (fun a hs => y_loadPt 0 rfl hs Tryd.underlying94 rfl (by kernel_rfl) rfl) <| ?_); clear hs a; intro a hs
    refine a_eff rfl (e_callB Tryd.func90 rfl rfl hs rfl rfl (token_May.calls (s.size + 3) 2 s 0 0 0 true _ ((may_prog (tk 2 s) hsz).trans (congrArg some h17))) ?_); clear hs a; intro a w hs
    refine go hs (pV rfl (fun a hs => y_not hs rfl) <| ?_); clear hs a; intro a hs
    refine wpList_nil (then_normal ?_)
    refine wp_cond_false (hs.ev rfl) ?_
    refine wp_skip (then_normal ?_)
    refine b_enter [0, 3] (by kernel_rfl) hs #[false, false, false, false, false, false, false, false, false, false, false] (by rfl) 11 (by rfl) ?_; clear hs; intro w hs
    refine b_take 0 rfl #[true, false, false, false, false, false, false, false, false, false, false] rfl (by kernel_rfl) hs ((((hs.mem.to 3 rfl).to 1 rfl).first 2)) rfl rfl rfl (fun _ _ _ h => h) (y_move hs rfl) ?_; clear hs a; intro a hs
    refine b_take 1 rfl #[true, true, false, false, false, false, false, false, false, false, false] rfl (by kernel_rfl) hs ((((hs.mem.to 3 rfl).to 1 rfl).first 2)) rfl rfl rfl (fun _ _ _ h => h) (y_move hs rfl) ?_; clear hs a; intro a hs
    refine b_take 2 rfl #[true, true, true, false, false, false, false, false, false, false, false] rfl (by kernel_rfl) hs ((((hs.mem.to 3 rfl).to 1 rfl).first 2)) rfl rfl rfl (fun _ _ _ h => h) (y_nilchk hs rfl) ?_; clear hs a; intro a hs
    refine b_take 3 rfl #[true, true, true, true, false, false, false, false, false, false, false] rfl (by kernel_rfl) hs ((((hs.mem.to 3 rfl).to 1 rfl).first 2)) rfl rfl rfl (fun _ _ _ h => h) (y_faddr (k' := 0) 0 hs (by kernel_rfl) rfl rfl) ?_; clear hs a; intro a hs
    refine b_take 5 rfl #[true, true, true, true, false, true, false, false, false, false, false] rfl (by kernel_rfl) hs ((((hs.mem.to 3 rfl).to 1 rfl).first 2)) rfl rfl rfl (fun _ _ _ h => h) (y_loadPt 0 rfl hs Tryd.underlying94 rfl (by kernel_rfl) rfl) ?_; clear hs a; intro a hs
    refine b_eff2 4 6 (by kernel_rfl) rfl rfl #[true, true, true, true, true, true, false, false, false, false, false] #[true, true, true, true, false, true, true, false, false, false, false] rfl rfl hs rfl rfl (e_yield hs rfl rfl (y_load hs Tryd.underlying88 rfl rfl (fun w hw => (hw.to 1 rfl).cellV rfl)) ?_) (e_bslice (z := .agg #[.int .u8 0, .string ⟨#[]⟩, .int .i64 0, .int .i64 0, .int .i64 0]) (size := 5) (zc := #[.int .u8 0, .string ⟨#[]⟩, .int .i64 0, .int .i64 0, .int .i64 0]) (cl := [_, _, _, _, _]) hs rfl Tryd.underlying88 (by kernel_rfl) rfl rfl rfl (by kernel_rfl) (by rfl) rfl ?_)
    · clear hs a; intro a hs
      refine ⟨(((hs.mem.to 3 rfl).to 1 rfl).first 2), ?_⟩
      refine b_eff 6 (by kernel_rfl) rfl #[true, true, true, true, true, true, true, false, false, false, false] rfl hs rfl (e_bslice (z := .agg #[.int .u8 0, .string ⟨#[]⟩, .int .i64 0, .int .i64 0, .int .i64 0]) (size := 5) (zc := #[.int .u8 0, .string ⟨#[]⟩, .int .i64 0, .int .i64 0, .int .i64 0]) (cl := [_, _, _, _, _]) hs rfl Tryd.underlying88 (by kernel_rfl) rfl rfl rfl (by kernel_rfl) (by rfl) rfl ?_); clear hs a; intro gk a w hs
      refine ⟨(((hs.mem.to 4 rfl).to 2 rfl).first 2), ?_⟩
      refine b_eff 7 (by kernel_rfl) rfl #[true, true, true, true, true, true, true, true, false, false, false] rfl hs rfl (e_appL (z := .agg #[.int .u8 0, .string ⟨#[]⟩, .int .i64 0, .int .i64 0, .int .i64 0]) (size := 5) (bytes := 48) tokC (toks ++ (l.take i).map sayT) ([tk 2 s]) 3 rfl 0 rfl hs rfl Tryd.underlying88 (by kernel_rfl) rfl rfl tokC_len rfl rfl rfl rfl (oneT _) (by unfold maxLen; simp only [List.length_cons, List.length_nil]; omega) (by simp only [List.length_cons, List.length_nil]; omega) ?_); clear hs a; intro A3 c3 a w hs
      refine ⟨(((hs.mem.to 4 rfl).to 3 rfl).first 2), ?_⟩
      refine b_take 8 rfl #[true, true, true, true, true, true, true, true, true, false, false] rfl (by kernel_rfl) hs ((((hs.mem.to 4 rfl).to 3 rfl).first 2)) rfl rfl rfl (fun _ _ _ h => h) (y_nilchk hs rfl) ?_; clear hs a; intro a hs
      refine b_take 9 rfl #[true, true, true, true, true, true, true, true, true, true, false] rfl (by kernel_rfl) hs ((((hs.mem.to 4 rfl).to 3 rfl).first 2)) rfl rfl rfl (fun _ _ _ h => h) (y_faddr (k' := 0) 0 hs (by kernel_rfl) rfl rfl) ?_; clear hs a; intro a hs
      refine b_eff 10 (by kernel_rfl) rfl #[true, true, true, true, true, true, true, true, true, true, true] rfl hs rfl (e_store (cl := [_]) 3 rfl hs rfl rfl (by kernel_rfl) rfl rfl rfl ?_); clear hs a; intro a w hs
      refine ⟨(((hs.mem.to 4 rfl).to 4 rfl).first 2), ?_⟩
      refine b_done (by kernel_rfl) (in_normal (then_normal ?_))
      refine wp_region_lit (go hs (pV rfl (fun a hs => y_add hs rfl rfl (by omega)) <| pM rfl <| ?_)); clear hs a; intro a hs
      refine wpList_nil (then_normal ?_)
      have hacc : (toks ++ (l.take i).map sayT) ++ [tk 2 s] = toks ++ (l.take (i + 1)).map sayT := by rw [List.take_add_one, hsi, List.map_append, List.append_assoc, ← hT]; rfl
      rw [hacc] at hs
      refine ⟨m - 1, by omega, i + 1, A3, c3, by omega, ?_⟩
      exact (hs.mem_to (((((hs.mem.to 2 rfl).drop.to 2 rfl).drop.to 2 rfl).to 2 rfl).to 2 rfl)).cut _ ⟨rfl, rfl, rfl, rfl, trivial⟩
    clear hs a; intro gk a w hs
    refine ⟨(((hs.mem.to 4 rfl).to 2 rfl).first 2), ?_⟩
    refine b_eff 4 (by kernel_rfl) rfl #[true, true, true, true, true, true, true, false, false, false, false] rfl hs rfl (e_yield hs rfl rfl (y_load hs Tryd.underlying88 rfl rfl (fun w hw => (hw.to 2 rfl).cellV rfl)) ?_); clear hs a; intro a hs
    refine ⟨(((hs.mem.to 4 rfl).to 2 rfl).first 2), ?_⟩
    refine b_eff 7 (by kernel_rfl) rfl #[true, true, true, true, true, true, true, true, false, false, false] rfl hs rfl (e_appL (z := .agg #[.int .u8 0, .string ⟨#[]⟩, .int .i64 0, .int .i64 0, .int .i64 0]) (size := 5) (bytes := 48) tokC (toks ++ (l.take i).map sayT) ([tk 2 s]) 3 rfl 0 rfl hs rfl Tryd.underlying88 (by kernel_rfl) rfl rfl tokC_len rfl rfl rfl rfl (oneT _) (by unfold maxLen; simp only [List.length_cons, List.length_nil]; omega) (by simp only [List.length_cons, List.length_nil]; omega) ?_); clear hs a; intro A3 c3 a w hs
    refine ⟨(((hs.mem.to 4 rfl).to 3 rfl).first 2), ?_⟩
    refine b_take 8 rfl #[true, true, true, true, true, true, true, true, true, false, false] rfl (by kernel_rfl) hs ((((hs.mem.to 4 rfl).to 3 rfl).first 2)) rfl rfl rfl (fun _ _ _ h => h) (y_nilchk hs rfl) ?_; clear hs a; intro a hs
    refine b_take 9 rfl #[true, true, true, true, true, true, true, true, true, true, false] rfl (by kernel_rfl) hs ((((hs.mem.to 4 rfl).to 3 rfl).first 2)) rfl rfl rfl (fun _ _ _ h => h) (y_faddr (k' := 0) 0 hs (by kernel_rfl) rfl rfl) ?_; clear hs a; intro a hs
    refine b_eff 10 (by kernel_rfl) rfl #[true, true, true, true, true, true, true, true, true, true, true] rfl hs rfl (e_store (cl := [_]) 3 rfl hs rfl rfl (by kernel_rfl) rfl rfl rfl ?_); clear hs a; intro a w hs
    refine ⟨(((hs.mem.to 4 rfl).to 4 rfl).first 2), ?_⟩
    refine b_done (by kernel_rfl) (in_normal (then_normal ?_))
    refine wp_region_lit (go hs (pV rfl (fun a hs => y_add hs rfl rfl (by omega)) <| pM rfl <| ?_)); clear hs a; intro a hs
    refine wpList_nil (then_normal ?_)
    have hacc : (toks ++ (l.take i).map sayT) ++ [tk 2 s] = toks ++ (l.take (i + 1)).map sayT := by rw [List.take_add_one, hsi, List.map_append, List.append_assoc, ← hT]; rfl
    rw [hacc] at hs
    refine ⟨m - 1, by omega, i + 1, A3, c3, by omega, ?_⟩
    exact (hs.mem_to (((((hs.mem.to 2 rfl).drop.to 2 rfl).drop.to 2 rfl).to 2 rfl).to 2 rfl)).cut _ ⟨rfl, rfl, rfl, rfl, trivial⟩
  replace h10 := of_decide_eq_false h10
  rw [List.take_of_length_le (by omega)] at hs
  refine wp_exit (then_exit (then_exit (in_here ?_)))
  refine fin_end hs .nil ⟨A2, c2, rfl, (((hs.mem.to 2 rfl).to 2 rfl).to 2 rfl)⟩
set_option maxRecDepth 100000 in
theorem tree_operator (k : Int) (hk : 4 ≤ k ∧ k ≤ 8) (v0 : World) :
    Calls Tryd.prog 66 #[.int .u8 k] v0 fun e w' => e = .returned (.string (opS k)) ∧ Below v0.heap.size v0 w' := by
  refine calls_enter (N := 6) (n := 5) (args := [.int .u8 k]) Tryd.func66 rfl rfl rfl (H.init v0) (fun a hs => ?_)
  refine wp_seq (wp_region_lit ?_)
  refine go hs (pA rfl <| ?_); clear hs a; intro a hs
  refine wpList_nil (then_normal (wp_seq ?_))
  refine wp_region_lit (go hs (pV rfl (fun a hs => y_arr (zc := #[.string ⟨#[]⟩, .string ⟨#[]⟩, .string ⟨#[]⟩, .string ⟨#[]⟩, .string ⟨#[]⟩, .string ⟨#[]⟩, .string ⟨#[]⟩, .string ⟨#[]⟩, .string ⟨#[]⟩]) (size := 1) (cl := [.string ⟨#[]⟩, .string ⟨#[]⟩, .string ⟨#[]⟩, .string ⟨#[]⟩, _, _, _, _, _]) hs (by kernel_rfl) rfl (by rfl) rfl) <| pM rfl <| pV rfl (fun a hs => y_idxArr (v := .string (opS k)) hs Tryd.underlying113 Tryd.underlying9 rfl (by kernel_rfl) rfl rfl (by omega) (by omega) (by rcases (show k = 4 ∨ k = 5 ∨ k = 6 ∨ k = 7 ∨ k = 8 by omega) with rfl | rfl | rfl | rfl | rfl <;> rfl)) <| pA rfl <| ?_)); clear hs a; intro a hs
  refine wpList_nil (then_normal (wp_ret ?_))
  refine fin_ret hs (.tmp (hs.slots _ _ rfl) .nil) ⟨?_, hs.mem.base⟩
  rfl
/-- What the writer does with an expression of a shape that may be. -/
def WrOk (n : Nat) : Prop := ∀ (x : XE) (A : Option Addr) (C g : Nat) (toks : List XT) (A1 : Option Addr) (c1 : Nat) (bs : List Res) (w0 w : World), Kd.C k25 w0 A x.f3.length x.f3 → shapeX n x → toks.length + 3 * 2 ^ n ≤ 1000000 → H w0 (pt g #[.slice A1 (toks).length c1] 90 :: row 94 5 (.slice A1 (toks).length c1) (toks).length ((toks).flatMap tokC) :: bs) w →
    Calls Tryd.prog 32 #[.pointer (some ⟨g, 0, none⟩), .agg #[.int .u8 x.f0, .int .i64 x.f1, .string x.f2, .slice A x.f3.length C, .int .i64 x.f4, .int .i64 x.f5]] w fun e w' => ∃ A2 c2, e = .returned (.tuple #[]) ∧ H w0 (pt g #[.slice A2 (toks ++ toksX n x).length c2] 90 :: row 94 5 (.slice A2 (toks ++ toksX n x).length c2) (toks ++ toksX n x).length ((toks ++ toksX n x).flatMap tokC) :: bs) w'
set_option maxRecDepth 100000 in
theorem w_expr_step (n : Nat) (hn : n ≤ 16) (ih : ∀ q, q + 1 = n → WrOk q) (x : XE) (A : Option Addr) (C g : Nat) (toks : List XT) (A1 : Option Addr) (c1 : Nat) (bs : List Res) (w0 w : World) (hA : Kd.C k25 w0 A x.f3.length x.f3) (hS : shapeX n x) (hl : toks.length + 3 * 2 ^ n ≤ 1000000) (h : H w0 (pt g #[.slice A1 (toks).length c1] 90 :: row 94 5 (.slice A1 (toks).length c1) (toks).length ((toks).flatMap tokC) :: bs) w) :
    Calls Tryd.prog 32 #[.pointer (some ⟨g, 0, none⟩), .agg #[.int .u8 x.f0, .int .i64 x.f1, .string x.f2, .slice A x.f3.length C, .int .i64 x.f4, .int .i64 x.f5]] w fun e w' => ∃ A2 c2, e = .returned (.tuple #[]) ∧ H w0 (pt g #[.slice A2 (toks ++ toksX n x).length c2] 90 :: row 94 5 (.slice A2 (toks ++ toksX n x).length c2) (toks ++ toksX n x).length ((toks ++ toksX n x).flatMap tokC) :: bs) w' := by
  refine calls_enter (N := 62) (n := 60) (args := [.pointer (some ⟨g, 0, none⟩), .agg #[.int .u8 x.f0, .int .i64 x.f1, .string x.f2, .slice A x.f3.length C, .int .i64 x.f4, .int .i64 x.f5]]) Tryd.func32 rfl rfl rfl (h) (fun a hs => ?_)
  obtain ⟨q, rfl⟩ : ∃ q, n = q + 1 := by cases n with | zero => exact hS.elim | succ q => exact ⟨q, rfl⟩
  obtain ⟨hp, hq⟩ := hS
  have hk := parts_kind hp
  have h2p : 2 ^ (q + 1) = 2 * 2 ^ q := by rw [Nat.pow_succ]; omega
  have h2q : 0 < 2 ^ q := Nat.pow_pos (by decide)
  refine wp_seq (wp_region_lit ?_)
  refine a_eff rfl (e_box (cs := #[_, _, _, _, _, _]) hs rfl rfl rfl ?_); clear hs a; intro gx a w hs
  refine wpList_nil (then_normal (wp_seq ?_))
  refine wp_region_lit (go hs (pV rfl (fun a hs => y_faddr (k' := 0) 0 hs (by kernel_rfl) rfl rfl) <| pV rfl (fun a hs => y_load hs Tryd.underlying22 rfl rfl (fun w hw => (hw.to 0 rfl).cellV rfl)) <| ?_)); clear hs a; intro a hs
  refine wpList_nil (then_normal (wp_block ?_))
  refine wp_seq (wp_region_lit ?_)
  refine go hs (pV rfl (fun a hs => y_cmp hs rfl rfl rfl) <| pA rfl <| ?_); clear hs a; intro a hs
  refine wpList_nil (then_normal ?_)
  refine wp_cond_split (hs.ev rfl) (fun h30 => ?_) (fun h30 => ?_)
  · replace h30 := eq_of_beq h30
    replace hk : x.f0 = 1 ∧ x.f3.length = 0 := by omega
    refine b_enter [0] (by kernel_rfl) hs #[false, false, false, false, false, false, false, false, false, false, false, false, false] (by rfl) 13 (by rfl) ?_; clear hs; intro w hs
    refine b_take 0 rfl #[true, false, false, false, false, false, false, false, false, false, false, false, false] rfl (by kernel_rfl) hs ((hs.mem.first 1)) rfl rfl rfl (fun _ _ _ h => h) (y_move hs rfl) ?_; clear hs a; intro a hs
    refine b_take 1 rfl #[true, true, false, false, false, false, false, false, false, false, false, false, false] rfl (by kernel_rfl) hs ((hs.mem.first 1)) rfl rfl rfl (fun _ _ _ h => h) (y_move hs rfl) ?_; clear hs a; intro a hs
    refine b_take 2 rfl #[true, true, true, false, false, false, false, false, false, false, false, false, false] rfl (by kernel_rfl) hs ((hs.mem.first 1)) rfl rfl rfl (fun _ _ _ h => h) (y_nilchk hs rfl) ?_; clear hs a; intro a hs
    refine b_take 3 rfl #[true, true, true, true, false, false, false, false, false, false, false, false, false] rfl (by kernel_rfl) hs ((hs.mem.first 1)) rfl rfl rfl (fun _ _ _ h => h) (y_faddr (k' := 0) 0 hs (by kernel_rfl) rfl rfl) ?_; clear hs a; intro a hs
    refine b_take 5 rfl #[true, true, true, true, false, true, false, false, false, false, false, false, false] rfl (by kernel_rfl) hs ((hs.mem.first 1)) rfl rfl rfl (fun _ _ _ h => h) (y_faddr (k' := 1) 1 hs (by kernel_rfl) rfl rfl) ?_; clear hs a; intro a hs
    refine b_take 6 rfl #[true, true, true, true, false, true, true, false, false, false, false, false, false] rfl (by kernel_rfl) hs ((hs.mem.first 1)) rfl rfl rfl (fun _ _ _ h => h) (y_load hs Tryd.underlying3 rfl rfl (fun w hw => (hw.to 0 rfl).cellV rfl)) ?_; clear hs a; intro a hs
    refine b_take 7 rfl #[true, true, true, true, false, true, true, true, false, false, false, false, false] rfl (by kernel_rfl) hs ((hs.mem.first 1)) rfl rfl rfl (fun _ _ _ h => h) (y_struct (zc := #[.int .u8 0, .string ⟨#[]⟩, .int .i64 0, .int .i64 0, .int .i64 0]) (pl := [(0, 1), (1, 1), (2, 1), (3, 1), (4, 1)]) (cl := [_, .string ⟨#[]⟩, _, .int .i64 0, .int .i64 0]) hs (by kernel_rfl) rfl (by rfl) rfl) ?_; clear hs a; intro a hs
    refine b_eff2 4 8 (by kernel_rfl) rfl rfl #[true, true, true, true, true, true, true, true, false, false, false, false, false] #[true, true, true, true, false, true, true, true, true, false, false, false, false] rfl rfl hs rfl rfl (e_yield hs rfl rfl (y_load hs Tryd.underlying88 rfl rfl (fun w hw => (hw.to 1 rfl).cellV rfl)) ?_) (e_bslice (z := .agg #[.int .u8 0, .string ⟨#[]⟩, .int .i64 0, .int .i64 0, .int .i64 0]) (size := 5) (zc := #[.int .u8 0, .string ⟨#[]⟩, .int .i64 0, .int .i64 0, .int .i64 0]) (cl := [_, _, _, _, _]) hs rfl Tryd.underlying88 (by kernel_rfl) rfl rfl rfl (by kernel_rfl) (by rfl) rfl ?_)
    · clear hs a; intro a hs
      refine ⟨(hs.mem.first 1), ?_⟩
      refine b_eff 8 (by kernel_rfl) rfl #[true, true, true, true, true, true, true, true, true, false, false, false, false] rfl hs rfl (e_bslice (z := .agg #[.int .u8 0, .string ⟨#[]⟩, .int .i64 0, .int .i64 0, .int .i64 0]) (size := 5) (zc := #[.int .u8 0, .string ⟨#[]⟩, .int .i64 0, .int .i64 0, .int .i64 0]) (cl := [_, _, _, _, _]) hs rfl Tryd.underlying88 (by kernel_rfl) rfl rfl rfl (by kernel_rfl) (by rfl) rfl ?_); clear hs a; intro gk a w hs
      refine ⟨((hs.mem.to 1 rfl).first 1), ?_⟩
      refine b_eff 9 (by kernel_rfl) rfl #[true, true, true, true, true, true, true, true, true, true, false, false, false] rfl hs rfl (e_appL (z := .agg #[.int .u8 0, .string ⟨#[]⟩, .int .i64 0, .int .i64 0, .int .i64 0]) (size := 5) (bytes := 48) tokC (toks) ([⟨3, ⟨#[]⟩, x.f1, 0, 0⟩]) 3 rfl 0 rfl hs rfl Tryd.underlying88 (by kernel_rfl) rfl rfl tokC_len rfl rfl rfl rfl (oneT _) (by unfold maxLen; simp only [List.length_cons, List.length_nil]; omega) (by simp only [List.length_cons, List.length_nil]; omega) ?_); clear hs a; intro A2 c2 a w hs
      refine ⟨((hs.mem.to 2 rfl).first 1), ?_⟩
      refine b_take 10 rfl #[true, true, true, true, true, true, true, true, true, true, true, false, false] rfl (by kernel_rfl) hs (((hs.mem.to 2 rfl).first 1)) rfl rfl rfl (fun _ _ _ h => h) (y_nilchk hs rfl) ?_; clear hs a; intro a hs
      refine b_take 11 rfl #[true, true, true, true, true, true, true, true, true, true, true, true, false] rfl (by kernel_rfl) hs (((hs.mem.to 2 rfl).first 1)) rfl rfl rfl (fun _ _ _ h => h) (y_faddr (k' := 0) 0 hs (by kernel_rfl) rfl rfl) ?_; clear hs a; intro a hs
      refine b_eff 12 (by kernel_rfl) rfl #[true, true, true, true, true, true, true, true, true, true, true, true, true] rfl hs rfl (e_store (cl := [_]) 3 rfl hs rfl rfl (by kernel_rfl) rfl rfl rfl ?_); clear hs a; intro a w hs
      refine ⟨((hs.mem.to 3 rfl).first 1), ?_⟩
      refine b_done (by kernel_rfl) (in_normal ?_)
      have hX : toks ++ toksX (q + 1) x = (toks ++ [⟨3, ⟨#[]⟩, x.f1, 0, 0⟩]) := by rw [toksX, if_pos (by omega)]
      refine fin_end hs .nil ⟨A2, c2, rfl, ?_⟩
      rw [hX]; exact ((((hs.mem.to 2 rfl).drop.to 2 rfl).drop.to 1 rfl).to 1 rfl)
    clear hs a; intro gk a w hs
    refine ⟨((hs.mem.to 1 rfl).first 1), ?_⟩
    refine b_eff 4 (by kernel_rfl) rfl #[true, true, true, true, true, true, true, true, true, false, false, false, false] rfl hs rfl (e_yield hs rfl rfl (y_load hs Tryd.underlying88 rfl rfl (fun w hw => (hw.to 2 rfl).cellV rfl)) ?_); clear hs a; intro a hs
    refine ⟨((hs.mem.to 1 rfl).first 1), ?_⟩
    refine b_eff 9 (by kernel_rfl) rfl #[true, true, true, true, true, true, true, true, true, true, false, false, false] rfl hs rfl (e_appL (z := .agg #[.int .u8 0, .string ⟨#[]⟩, .int .i64 0, .int .i64 0, .int .i64 0]) (size := 5) (bytes := 48) tokC (toks) ([⟨3, ⟨#[]⟩, x.f1, 0, 0⟩]) 3 rfl 0 rfl hs rfl Tryd.underlying88 (by kernel_rfl) rfl rfl tokC_len rfl rfl rfl rfl (oneT _) (by unfold maxLen; simp only [List.length_cons, List.length_nil]; omega) (by simp only [List.length_cons, List.length_nil]; omega) ?_); clear hs a; intro A2 c2 a w hs
    refine ⟨((hs.mem.to 2 rfl).first 1), ?_⟩
    refine b_take 10 rfl #[true, true, true, true, true, true, true, true, true, true, true, false, false] rfl (by kernel_rfl) hs (((hs.mem.to 2 rfl).first 1)) rfl rfl rfl (fun _ _ _ h => h) (y_nilchk hs rfl) ?_; clear hs a; intro a hs
    refine b_take 11 rfl #[true, true, true, true, true, true, true, true, true, true, true, true, false] rfl (by kernel_rfl) hs (((hs.mem.to 2 rfl).first 1)) rfl rfl rfl (fun _ _ _ h => h) (y_faddr (k' := 0) 0 hs (by kernel_rfl) rfl rfl) ?_; clear hs a; intro a hs
    refine b_eff 12 (by kernel_rfl) rfl #[true, true, true, true, true, true, true, true, true, true, true, true, true] rfl hs rfl (e_store (cl := [_]) 3 rfl hs rfl rfl (by kernel_rfl) rfl rfl rfl ?_); clear hs a; intro a w hs
    refine ⟨((hs.mem.to 3 rfl).first 1), ?_⟩
    refine b_done (by kernel_rfl) (in_normal ?_)
    have hX : toks ++ toksX (q + 1) x = (toks ++ [⟨3, ⟨#[]⟩, x.f1, 0, 0⟩]) := by rw [toksX, if_pos (by omega)]
    refine fin_end hs .nil ⟨A2, c2, rfl, ?_⟩
    rw [hX]; exact ((((hs.mem.to 2 rfl).drop.to 2 rfl).drop.to 1 rfl).to 1 rfl)
  replace h30 := ne_of_beq_false h30
  refine wp_seq (wp_region_lit ?_)
  refine go hs (pV rfl (fun a hs => y_cmp hs rfl rfl rfl) <| pA rfl <| ?_); clear hs a; intro a hs
  refine wpList_nil (then_normal ?_)
  refine wp_cond_split (hs.ev rfl) (fun h44 => ?_) (fun h44 => ?_)
  · replace h44 := eq_of_beq h44
    replace hk : x.f0 = 2 ∧ x.f3.length = 0 ∧ nameOk x.f2 = true := by rcases hk with h | h | h | h <;> first | exact h | omega
    refine wp_region_lit (go hs (pM rfl <| pV rfl (fun a hs => y_faddr (k' := 2) 2 hs (by kernel_rfl) rfl rfl) <| pV rfl (fun a hs => y_load hs Tryd.underlying9 rfl rfl (fun w hw => (hw.to 0 rfl).cellV rfl)) <| ?_)); clear hs a; intro a hs
    refine a_eff rfl (e_bslice (z := .string ⟨#[]⟩) (size := 1) (zc := #[.string ⟨#[]⟩]) (cl := [_]) hs rfl Tryd.underlying116 (by kernel_rfl) rfl rfl rfl (by kernel_rfl) (by rfl) rfl ?_); clear hs a; intro g1 a w hs
    refine a_eff rfl (e_callX Tryd.func65 rfl rfl hs rfl rfl (w_say g g1 [x.f2] (toks) _ _ 1 _ _ w0 _ (fun t ht => by rw [List.mem_singleton] at ht; subst ht; have := nameOk_size hk.2.2; omega) (by simp only [List.length_cons, List.length_append, List.length_nil]; omega) ((hs.mem.to 3 rfl).to 3 rfl)) (fun e w1 ⟨A2, c2, he, hm⟩ => ⟨_, he, _, hm, ?_⟩)); clear hs a; intro a hs
    refine wpList_nil (in_normal ?_)
    have hX : toks ++ toksX (q + 1) x = (toks ++ [sayT (x.f2)]) := by rw [toksX, if_neg (by omega), if_pos (by omega)]
    refine fin_end hs .nil ⟨A2, c2, rfl, ?_⟩
    rw [hX]; exact ((((hs.mem.to 2 rfl).drop.to 2 rfl).drop.to 1 rfl).to 1 rfl)
  replace h44 := ne_of_beq_false h44
  refine wp_seq (wp_region_lit ?_)
  refine go hs (pV rfl (fun a hs => y_cmp hs rfl rfl rfl) <| pA rfl <| ?_); clear hs a; intro a hs
  refine wpList_nil (then_normal ?_)
  refine wp_cond_split (hs.ev rfl) (fun h51 => ?_) (fun h51 => ?_)
  · replace h51 := eq_of_beq h51
    replace hk : x.f0 = 3 ∧ x.f3.length = 1 := by omega
    obtain ⟨g0, o, rfl, hcell⟩ := C_atG (show 0 < 6 by decide) hA (by omega)
    obtain ⟨cs0, hK0, hc0⟩ := hcell 0 (part x 0) (part_mem (by omega)).1
    obtain ⟨D0, d0, rfl, hlc0, hC0⟩ := k25_open hK0
    have htl0 := toks_len q (part x 0)
    refine wp_seq (wp_region_lit ?_)
    refine go hs (pM rfl <| ?_); clear hs a; intro a hs
    refine a_eff rfl (e_bslice (z := .string ⟨#[]⟩) (size := 1) (zc := #[.string ⟨#[]⟩]) (cl := [_]) hs rfl Tryd.underlying116 (by kernel_rfl) rfl rfl rfl (by kernel_rfl) (by rfl) rfl ?_); clear hs a; intro g1 a w hs
    refine a_eff rfl (e_callX Tryd.func65 rfl rfl hs rfl rfl (w_say g g1 [⟨#[45]⟩] (toks) _ _ 1 _ _ w0 _ (fun t ht => by rw [List.mem_singleton] at ht; subst ht; decide) (by simp only [List.length_cons, List.length_append, List.length_nil]; omega) ((hs.mem.to 3 rfl).to 3 rfl)) (fun e w1 ⟨A2, c2, he, hm⟩ => ⟨_, he, _, hm, ?_⟩)); clear hs a; intro a hs
    refine wpList_nil (then_normal (wp_region_lit ?_))
    refine go hs (pM rfl <| pV rfl (fun a hs => y_faddr (k' := 3) 3 hs (by kernel_rfl) rfl rfl) <| pV rfl (fun a hs => y_load hs Tryd.underlying23 rfl rfl (fun w hw => (hw.to 3 rfl).cellV rfl)) <| pV rfl (fun a hs => y_idxB (size := 6) (off := o + 0 * 6) hs Tryd.underlying23 (by kernel_rfl) rfl rfl (by omega) (by omega) (by simp)) <| pV rfl (fun a hs => y_loadAgg (vs := [.int .u8 (part x 0).f0, .int .i64 (part x 0).f1, .string (part x 0).f2, .slice D0 (part x 0).f3.length d0, .int .i64 (part x 0).f4, .int .i64 (part x 0).f5]) hs Tryd.underlying25 rfl (by kernel_rfl) rfl (fun w hw k v hk => hc0 w hw.base k v hk)) <| ?_); clear hs a; intro a hs
    refine a_eff rfl (e_callX Tryd.func32 rfl rfl hs rfl rfl (ih q rfl (part x 0) D0 d0 g ((toks ++ [sayT (⟨#[45]⟩)])) _ _ _ w0 _ hC0 (hq _ (part_mem (by omega)).2) (by simp only [List.length_cons, List.length_append, List.length_nil]; omega) ((hs.mem.to 1 rfl).to 1 rfl)) (fun e w1 ⟨A3, c3, he, hm⟩ => ⟨_, he, _, hm, ?_⟩)); clear hs a; intro a hs
    refine wpList_nil (in_normal ?_)
    have hX : toks ++ toksX (q + 1) x = ((toks ++ [sayT (⟨#[45]⟩)]) ++ toksX q (part x 0)) := by rw [toksX, if_neg (by omega), if_neg (by omega), if_pos (by omega)]; simp only [List.append_assoc, List.cons_append, List.nil_append]
    refine fin_end hs .nil ⟨A3, c3, rfl, ?_⟩
    rw [hX]; exact ((((hs.mem.to 2 rfl).drop.to 2 rfl).drop.to 1 rfl).to 1 rfl)
  replace h51 := ne_of_beq_false h51
  replace hk : 4 ≤ x.f0 ∧ x.f0 ≤ 8 ∧ x.f3.length = 2 := by omega
  obtain ⟨g0, o, rfl, hcell⟩ := C_atG (show 0 < 6 by decide) hA (by omega)
  obtain ⟨cs0, hK0, hc0⟩ := hcell 0 (part x 0) (part_mem (by omega)).1
  obtain ⟨D0, d0, rfl, hlc0, hC0⟩ := k25_open hK0
  have htl0 := toks_len q (part x 0)
  obtain ⟨cs1, hK1, hc1⟩ := hcell 1 (part x 1) (part_mem (by omega)).1
  obtain ⟨D1, d1, rfl, hlc1, hC1⟩ := k25_open hK1
  have htl1 := toks_len q (part x 1)
  refine wp_seq (wp_region_lit ?_)
  refine go hs (pM rfl <| ?_); clear hs a; intro a hs
  refine a_eff rfl (e_bslice (z := .string ⟨#[]⟩) (size := 1) (zc := #[.string ⟨#[]⟩]) (cl := [_]) hs rfl Tryd.underlying116 (by kernel_rfl) rfl rfl rfl (by kernel_rfl) (by rfl) rfl ?_); clear hs a; intro g1 a w hs
  refine a_eff rfl (e_callX Tryd.func65 rfl rfl hs rfl rfl (w_say g g1 [⟨#[40]⟩] (toks) _ _ 1 _ _ w0 _ (fun t ht => by rw [List.mem_singleton] at ht; subst ht; decide) (by simp only [List.length_cons, List.length_append, List.length_nil]; omega) ((hs.mem.to 3 rfl).to 3 rfl)) (fun e w1 ⟨A2, c2, he, hm⟩ => ⟨_, he, _, hm, ?_⟩)); clear hs a; intro a hs
  refine wpList_nil (then_normal (wp_seq ?_))
  refine wp_region_lit (go hs (pM rfl <| pV rfl (fun a hs => y_faddr (k' := 3) 3 hs (by kernel_rfl) rfl rfl) <| pV rfl (fun a hs => y_load hs Tryd.underlying23 rfl rfl (fun w hw => (hw.to 3 rfl).cellV rfl)) <| pV rfl (fun a hs => y_idxB (size := 6) (off := o + 0 * 6) hs Tryd.underlying23 (by kernel_rfl) rfl rfl (by omega) (by omega) (by simp)) <| pV rfl (fun a hs => y_loadAgg (vs := [.int .u8 (part x 0).f0, .int .i64 (part x 0).f1, .string (part x 0).f2, .slice D0 (part x 0).f3.length d0, .int .i64 (part x 0).f4, .int .i64 (part x 0).f5]) hs Tryd.underlying25 rfl (by kernel_rfl) rfl (fun w hw k v hk => hc0 w hw.base k v hk)) <| ?_)); clear hs a; intro a hs
  refine a_eff rfl (e_callX Tryd.func32 rfl rfl hs rfl rfl (ih q rfl (part x 0) D0 d0 g ((toks ++ [sayT (⟨#[40]⟩)])) _ _ _ w0 _ hC0 (hq _ (part_mem (by omega)).2) (by simp only [List.length_cons, List.length_append, List.length_nil]; omega) ((hs.mem.to 1 rfl).to 1 rfl)) (fun e w1 ⟨A3, c3, he, hm⟩ => ⟨_, he, _, hm, ?_⟩)); clear hs a; intro a hs
  refine wpList_nil (then_normal (wp_seq ?_))
  refine wp_region_lit (go hs (pM rfl <| pV rfl (fun a hs => y_faddr (k' := 0) 0 hs (by kernel_rfl) rfl rfl) <| pV rfl (fun a hs => y_load hs Tryd.underlying22 rfl rfl (fun w hw => (hw.to 3 rfl).cellV rfl)) <| ?_)); clear hs a; intro a hs
  refine a_eff rfl (e_callB Tryd.func66 rfl rfl hs rfl rfl (tree_operator x.f0 (by omega) _) ?_); clear hs a; intro a w hs
  refine a_eff rfl (e_bslice (z := .string ⟨#[]⟩) (size := 1) (zc := #[.string ⟨#[]⟩]) (cl := [_]) hs rfl Tryd.underlying116 (by kernel_rfl) rfl rfl rfl (by kernel_rfl) (by rfl) rfl ?_); clear hs a; intro g2 a w hs
  refine a_eff rfl (e_callX Tryd.func65 rfl rfl hs rfl rfl (w_say g g2 [opS x.f0] (((toks ++ [sayT (⟨#[40]⟩)]) ++ toksX q (part x 0))) _ _ 1 _ _ w0 _ (fun t ht => by rw [List.mem_singleton] at ht; subst ht; rw [opS_size]; decide) (by simp only [List.length_cons, List.length_append, List.length_nil]; omega) ((hs.mem.to 2 rfl).to 2 rfl)) (fun e w1 ⟨A4, c4, he, hm⟩ => ⟨_, he, _, hm, ?_⟩)); clear hs a; intro a hs
  refine wpList_nil (then_normal (wp_seq ?_))
  refine wp_region_lit (go hs (pM rfl <| pV rfl (fun a hs => y_faddr (k' := 3) 3 hs (by kernel_rfl) rfl rfl) <| pV rfl (fun a hs => y_load hs Tryd.underlying23 rfl rfl (fun w hw => (hw.to 4 rfl).cellV rfl)) <| pV rfl (fun a hs => y_idxB (size := 6) (off := o + 1 * 6) hs Tryd.underlying23 (by kernel_rfl) rfl rfl (by omega) (by omega) (by simp)) <| pV rfl (fun a hs => y_loadAgg (vs := [.int .u8 (part x 1).f0, .int .i64 (part x 1).f1, .string (part x 1).f2, .slice D1 (part x 1).f3.length d1, .int .i64 (part x 1).f4, .int .i64 (part x 1).f5]) hs Tryd.underlying25 rfl (by kernel_rfl) rfl (fun w hw k v hk => hc1 w hw.base k v hk)) <| ?_)); clear hs a; intro a hs
  refine a_eff rfl (e_callX Tryd.func32 rfl rfl hs rfl rfl (ih q rfl (part x 1) D1 d1 g ((((toks ++ [sayT (⟨#[40]⟩)]) ++ toksX q (part x 0)) ++ [sayT (opS x.f0)])) _ _ _ w0 _ hC1 (hq _ (part_mem (by omega)).2) (by simp only [List.length_cons, List.length_append, List.length_nil]; omega) ((hs.mem.to 1 rfl).to 1 rfl)) (fun e w1 ⟨A5, c5, he, hm⟩ => ⟨_, he, _, hm, ?_⟩)); clear hs a; intro a hs
  refine wpList_nil (then_normal (wp_region_lit ?_))
  refine go hs (pM rfl <| ?_); clear hs a; intro a hs
  refine a_eff rfl (e_bslice (z := .string ⟨#[]⟩) (size := 1) (zc := #[.string ⟨#[]⟩]) (cl := [_]) hs rfl Tryd.underlying116 (by kernel_rfl) rfl rfl rfl (by kernel_rfl) (by rfl) rfl ?_); clear hs a; intro g3 a w hs
  refine a_eff rfl (e_callX Tryd.func65 rfl rfl hs rfl rfl (w_say g g3 [⟨#[41]⟩] (((((toks ++ [sayT (⟨#[40]⟩)]) ++ toksX q (part x 0)) ++ [sayT (opS x.f0)]) ++ toksX q (part x 1))) _ _ 1 _ _ w0 _ (fun t ht => by rw [List.mem_singleton] at ht; subst ht; decide) (by simp only [List.length_cons, List.length_append, List.length_nil]; omega) ((hs.mem.to 2 rfl).to 2 rfl)) (fun e w1 ⟨A6, c6, he, hm⟩ => ⟨_, he, _, hm, ?_⟩)); clear hs a; intro a hs
  refine wpList_nil (in_normal ?_)
  have hX : toks ++ toksX (q + 1) x = (((((toks ++ [sayT (⟨#[40]⟩)]) ++ toksX q (part x 0)) ++ [sayT (opS x.f0)]) ++ toksX q (part x 1)) ++ [sayT (⟨#[41]⟩)]) := by rw [toksX, if_neg (by omega), if_neg (by omega), if_neg (by omega)]; simp only [List.append_assoc, List.cons_append, List.nil_append]
  refine fin_end hs .nil ⟨A6, c6, rfl, ?_⟩
  rw [hX]; exact ((((((hs.mem.to 2 rfl).drop.to 2 rfl).drop.to 2 rfl).drop.to 2 rfl).drop.to 1 rfl).to 1 rfl)
theorem w_expr : ∀ n : Nat, n ≤ 16 → WrOk n := fun n => by
  induction n using Nat.strongRecOn with
  | _ n ih => exact fun hn x A C g toks A1 c1 bs w0 w hA hS hl h => w_expr_step n hn (fun q hq => ih q (by omega) (by omega)) x A C g toks A1 c1 bs w0 w hA hS hl h
end Go.Proofs.YtibaidddhmdafaaDoor.E
end
section
namespace Go.Proofs.YtibaidddhmdafaaDoor.E
open Go Go.RowKit Go.Proofs.YtibaidddhmdafaaDoorW.PrintWords Go.Proofs.YtibaidddhmdafaaDoorW.PrintLast Go.Proofs.YtibaidddhmdafaaDoorW.PrintMore Go.Proofs.YtibaidddhmdafaaDoor.PA
set_option linter.unusedVariables false
set_option linter.unusedSimpArgs false
set_option maxRecDepth 100000 in
theorem expr_put (g gx : Nat) (x : XE) (A : Option Addr) (C : Nat) (bs : List Res) (w0 w : World) (hA : Kd.C k25 w0 A x.f3.length x.f3) (hS : shapeX 16 x) (h : H w0 (pt g #[.slice none 0 0] 90 :: row 94 5 (.slice none 0 0) 0 [] :: pt gx #[.int .u8 x.f0, .int .i64 x.f1, .string x.f2, .slice A x.f3.length C, .int .i64 x.f4, .int .i64 x.f5] 25 :: bs) w) :
    Calls Tryd.prog 31 #[.pointer (some ⟨g, 0, none⟩), .pointer (some ⟨gx, 0, none⟩)] w fun e w' => ∃ A2 c2, e = .returned (.tuple #[]) ∧ H w0 (pt g #[.slice A2 (toksX 16 x).length c2] 90 :: row 94 5 (.slice A2 (toksX 16 x).length c2) (toksX 16 x).length ((toksX 16 x).flatMap tokC) :: pt gx #[.int .u8 x.f0, .int .i64 x.f1, .string x.f2, .slice A x.f3.length C, .int .i64 x.f4, .int .i64 x.f5] 25 :: bs) w' := by
  refine calls_enter (N := 6) (n := 4) (args := [.pointer (some ⟨g, 0, none⟩), .pointer (some ⟨gx, 0, none⟩)]) Tryd.func31 rfl rfl rfl (h) (fun a hs => ?_)
  refine wp_region_lit (go hs (pM rfl <| pV rfl (fun a hs => y_loadPt 2 rfl hs Tryd.underlying25 rfl (by kernel_rfl) rfl) <| ?_)); clear hs a; intro a hs
  refine a_eff rfl (e_callX Tryd.func32 rfl rfl hs rfl rfl (w_expr 16 (by decide) x A C g [] none 0 _ w0 _ hA hS (by decide) ((hs.mem.to 1 rfl).to 1 rfl)) (fun e w1 ⟨A2, c2, he, hm⟩ => ⟨_, he, _, hm, ?_⟩)); clear hs a; intro a hs
  refine wpList_nil ?_
  refine fin_end hs .nil ⟨A2, c2, rfl, (((hs.mem.to 2 rfl).to 2 rfl).to 2 rfl)⟩
set_option maxRecDepth 100000 in
theorem text_expr (gx : Nat) (x : XE) (A : Option Addr) (C : Nat) (bs : List Res) (w0 w : World) (hA : Kd.C k25 w0 A x.f3.length x.f3) (hS : shapeX 16 x) (hP : Pow10 w0) (h : H w0 (pt gx #[.int .u8 x.f0, .int .i64 x.f1, .string x.f2, .slice A x.f3.length C, .int .i64 x.f4, .int .i64 x.f5] 25 :: bs) w) :
    Calls Tryd.prog 30 #[.func (.func 31) #[] #[.pointer (some ⟨gx, 0, none⟩)]] w fun e w' => e = .returned (.tuple #[.string (joinF (toksX 16 x)).1, .int .i64 (joinF (toksX 16 x)).2]) ∧ H w0 (pt gx #[.int .u8 x.f0, .int .i64 x.f1, .string x.f2, .slice A x.f3.length C, .int .i64 x.f4, .int .i64 x.f5] 25 :: bs) w' := by
  refine calls_enter (N := 12) (n := 11) (args := [.func (.func 31) #[] #[.pointer (some ⟨gx, 0, none⟩)]]) Tryd.func30 rfl rfl rfl (h) (fun a hs => ?_)
  refine wp_seq (wp_region_lit ?_)
  refine go hs (pA rfl <| pA rfl <| ?_); clear hs a; intro a hs
  refine wpList_nil (then_normal (wp_seq ?_))
  refine wp_region_lit ?_
  refine a_eff rfl (e_alloc (z := .agg #[.slice none 0 0]) (cs := #[.slice none 0 0]) hs rfl (by kernel_rfl) rfl ?_); clear hs a; intro gw a w hs
  refine wpList_nil (then_normal (wp_seq ?_))
  refine wp_region_lit (go hs (pM rfl <| ?_)); clear hs a; intro a hs
  refine a_eff rfl (e_callF Tryd.func31 rfl rfl hs rfl rfl rfl (expr_put gw gx x A C _ w0 _ hA hS ((hs.mem.nilRow 94 5).to 1 rfl)) (fun e w1 ⟨A2, c2, he, hm⟩ => ⟨_, he, _, hm, ?_⟩)); clear hs a; intro a hs
  refine wpList_nil (then_normal (wp_seq ?_))
  refine wp_region_lit (go hs (pV rfl (fun a hs => y_faddr (k' := 0) 0 hs (by kernel_rfl) rfl rfl) <| pV rfl (fun a hs => y_load hs Tryd.underlying88 rfl rfl (fun w hw => (hw.to 0 rfl).cellV rfl)) <| ?_)); clear hs a; intro a hs
  have htl := toks_len 16 x
  refine a_eff rfl (e_callB Tryd.func64 rfl rfl hs rfl rfl (token_Join A2 c2 (toksX 16 x) _ ((hs.mem.to 1 rfl).rowC tokC_K tokC_len rfl rfl (by omega)).1 (by omega) (toks_size 16 x hS) (varKeep hs.mem.base hP)) ?_); clear hs a; intro a w hs
  refine go hs (pV rfl (fun a hs => y_extract hs rfl rfl) <| pV rfl (fun a hs => y_extract hs rfl rfl) <| pA rfl <| pA rfl <| ?_); clear hs a; intro a hs
  refine wpList_nil (then_normal (wp_ret ?_))
  refine fin_ret hs (.tmp (hs.slots _ _ rfl) (.tmp (hs.slots _ _ rfl) .nil)) ⟨rfl, ((hs.mem.to 0 rfl).drop.to 0 rfl).drop⟩
/-- An expression's text, or the error. -/
def textX (x : XE) : ByteArray × Int := if deepX x = 0 then (⟨#[]⟩, 2) else joinF (toksX 16 x)
set_option maxRecDepth 100000 in
theorem tree_ExprText (x : XE) (A : Option Addr) (C : Nat) (v0 : World) (hA : Kd.C k25 v0 A x.f3.length x.f3) (hsm : smallX 16 x) (hP : Pow10 v0) :
    Calls Tryd.prog 10 #[.agg #[.int .u8 x.f0, .int .i64 x.f1, .string x.f2, .slice A x.f3.length C, .int .i64 x.f4, .int .i64 x.f5]] v0 fun e w' => e = .returned (.tuple #[.string (textX x).1, .int .i64 (textX x).2]) ∧ Below v0.heap.size v0 w' := by
  refine calls_enter (N := 11) (n := 10) (args := [.agg #[.int .u8 x.f0, .int .i64 x.f1, .string x.f2, .slice A x.f3.length C, .int .i64 x.f4, .int .i64 x.f5]]) Tryd.func10 rfl rfl rfl (H.init v0) (fun a hs => ?_)
  refine wp_seq (wp_region_lit ?_)
  refine a_eff rfl (e_box (cs := #[_, _, _, _, _, _]) hs rfl rfl rfl ?_); clear hs a; intro gx a w hs
  refine go hs (pA rfl <| pA rfl <| ?_); clear hs a; intro a hs
  refine wpList_nil (then_normal (wp_seq ?_))
  refine wp_seq (wp_region_lit ?_)
  refine go hs (pV rfl (fun a hs => y_loadPt 0 rfl hs Tryd.underlying25 rfl (by kernel_rfl) rfl) <| ?_); clear hs a; intro a hs
  refine a_eff rfl (e_callB Tryd.func11 rfl rfl hs rfl rfl (tree_MayExpr x A C _ (Kd.C_below hA hs.mem.base) hsm) ?_); clear hs a; intro a w hs
  refine go hs (pV rfl (fun a hs => y_not hs rfl) <| ?_); clear hs a; intro a hs
  refine wpList_nil (then_normal ?_)
  refine wp_cond_split (hs.ev rfl) (fun h6 => ?_) (fun h6 => ?_)
  · replace h6 := of_decide_eq_false (not_t h6)
    refine wp_seq (wp_region_lit ?_)
    refine go hs (pA rfl <| pA rfl <| ?_); clear hs a; intro a hs
    refine wpList_nil (then_normal (wp_ret (then_ret ?_)))
    refine fin_ret hs (.tmp (hs.slots _ _ rfl) (.tmp (hs.slots _ _ rfl) .nil)) ⟨?_, hs.mem.base⟩
    unfold textX; rw [if_pos (by omega)]; rfl
  replace h6 := of_decide_eq_true (not_f h6)
  refine wp_skip (then_normal (wp_seq ?_))
  refine wp_region_lit (go hs (pV rfl (fun a hs => y_func hs rfl rfl) <| ?_)); clear hs a; intro a hs
  refine a_eff rfl (e_callX Tryd.func30 rfl rfl hs rfl rfl (text_expr gx x A C _ v0 _ hA (shape_of 16 x 8192 (by unfold deepX at h6; omega)) hP hs.mem) (fun e w1 ⟨he, hm⟩ => ⟨_, he, _, hm, ?_⟩)); clear hs a; intro a hs
  refine go hs (pV rfl (fun a hs => y_extract hs rfl rfl) <| pV rfl (fun a hs => y_extract hs rfl rfl) <| pA rfl <| pA rfl <| ?_); clear hs a; intro a hs
  refine wpList_nil (then_normal (wp_ret ?_))
  refine fin_ret hs (.tmp (hs.slots _ _ rfl) (.tmp (hs.slots _ _ rfl) .nil)) ⟨?_, hs.mem.base⟩
  unfold textX; rw [if_neg (by omega)]; rfl
end Go.Proofs.YtibaidddhmdafaaDoor.E
end
section
namespace Go.Proofs.YtibaidddhmdafaaDoor.E
open Go Go.RowKit Go.Proofs.YtibaidddhmdafaaDoorW.PrintWords Go.Proofs.YtibaidddhmdafaaDoorW.PrintLast Go.Proofs.YtibaidddhmdafaaDoorW.PrintMore Go.Proofs.YtibaidddhmdafaaDoor.PA
set_option linter.unusedVariables false
set_option linter.unusedSimpArgs false
theorem may_signs : ∀ s ∈ [(⟨#[45]⟩ : ByteArray), ⟨#[40]⟩, ⟨#[41]⟩, ⟨#[43]⟩, ⟨#[42]⟩, ⟨#[47]⟩, ⟨#[37]⟩], mayB (sayT s) = true := by decide +kernel
theorem toks_may : ∀ (n : Nat) (x : XE), shapeX n x → ∀ t ∈ toksX n x, mayB t = true
  | 0, _, h, _, _ => h.elim
  | n + 1, x, h, t, ht => by
    obtain ⟨hp, hq⟩ := h
    have hk := parts_kind hp
    rw [toksX] at ht
    split at ht
    · rename_i h1
      simp only [List.mem_cons, List.not_mem_nil, or_false] at ht; subst ht
      have h2 : 0 ≤ x.f1 ∧ x.f1 ≤ 2147483647 := by omega
      unfold mayB
      rw [if_neg (show ¬ (3 : Int) = 1 by decide), if_neg (show ¬ (3 : Int) = 2 by decide), if_pos rfl]
      show (decide ((⟨#[]⟩ : ByteArray).size = 0) && (decide (0 ≤ x.f1) && decide (x.f1 ≤ 2147483647))) = true
      rw [decide_eq_true h2.1, decide_eq_true h2.2]; rfl
    · split at ht
      · rename_i h1 h2
        have hn : nameOk x.f2 = true := by rcases hk with h | h | h | h <;> first | exact h.2.2 | omega
        simp only [List.mem_cons, List.not_mem_nil, or_false] at ht; subst ht
        have h1 : mayB (tk 1 x.f2) = true := by unfold mayB; simp [tk, hn]
        unfold sayT
        split
        · assumption
        · exact h1
      · split at ht
        · rename_i h3
          rcases List.mem_cons.1 ht with rfl | ht
          · exact may_signs _ (by simp)
          · exact toks_may n _ (hq _ (part_mem (by omega)).2) t ht
        · have hl : x.f3.length = 2 := by omega
          simp only [List.mem_cons, List.mem_append, List.not_mem_nil, or_false] at ht
          rcases ht with rfl | ht | rfl | ht | rfl
          · exact may_signs _ (by simp)
          · exact toks_may n _ (hq _ (part_mem (by omega)).2) t ht
          · refine may_signs _ ?_
            unfold opS
            repeat' split
            all_goals simp
          · exact toks_may n _ (hq _ (part_mem (by omega)).2) t ht
          · exact may_signs _ (by simp)
theorem joinF_all {l : List XT} (h : ∀ t ∈ l, mayB t = true) : joinF l = if (catF l ⟨#[]⟩ 0).size > 65536 then (⟨#[]⟩, 4) else (catF l ⟨#[]⟩ 0, 0) := by
  unfold joinF
  rw [if_pos (List.all_eq_true.2 h), join_cat l ⟨#[]⟩ 0 (by decide)]
  split
  · rename_i s hs
    split at hs
    · cases hs
    · rename_i h1; rw [if_neg h1]; cases hs; rfl
  · rename_i hs
    split at hs
    · rename_i h1; rw [if_pos h1]
    · cases hs
end Go.Proofs.YtibaidddhmdafaaDoor.E
end
section
namespace Go.Proofs.YtibaidddhmdafaaDoor.E
open Go Go.RowKit Go.Proofs.YtibaidddhmdafaaDoorW.PrintWords Go.Proofs.YtibaidddhmdafaaDoorW.PrintLast Go.Proofs.YtibaidddhmdafaaDoorW.PrintMore Go.Proofs.YtibaidddhmdafaaDoor.PA
set_option linter.unusedVariables false
set_option linter.unusedSimpArgs false
def anchOne : XE := ⟨1, 1, ⟨#[]⟩, [], 0, 0⟩
def anchA : XE := ⟨2, 0, ⟨#[97]⟩, [], 0, 0⟩
def anchX : XE := ⟨4, 0, ⟨#[]⟩, [anchOne, anchA], 0, 0⟩
def zeroX : XE := ⟨0, 0, ⟨#[]⟩, [], 0, 0⟩
theorem small_leaf (n : Nat) (a b : Int) (s : ByteArray) (h : s.size ≤ 9223372036854775807) : smallX n ⟨a, b, s, [], 0, 0⟩ := by
  cases n with
  | zero => trivial
  | succ n => exact ⟨h, fun p hp => absurd hp (by simp)⟩
theorem anch_small : smallX 16 anchX := by
  refine ⟨by decide, fun p hp => ?_⟩
  rcases List.mem_cons.1 hp with rfl | hp
  · exact small_leaf _ _ _ _ (by decide)
  · rw [List.mem_singleton] at hp; subst hp; exact small_leaf _ _ _ _ (by decide)
theorem anch_text : textX anchX = (⟨#[40, 32, 49, 32, 43, 32, 97, 32, 41]⟩, 0) := by kernel_rfl
theorem zero_deep : decide (0 < deepX zeroX) = false := by kernel_rfl
theorem anch_C (g : Nat) (bs : List Res) (w0 w : World) (h : H w0 (pt g #[.int .u8 1, .int .i64 1, .string ⟨#[]⟩, .slice none 0 0, .int .i64 0, .int .i64 0, .int .u8 2, .int .i64 0, .string ⟨#[97]⟩, .slice none 0 0, .int .i64 0, .int .i64 0] 25 :: bs) w) : Kd.C k25 w (some ⟨g, 0, none⟩) 2 [anchOne, anchA] := by
  refine h.ptCG (l := [anchOne, anchA]) (by decide) (fun i => if i = 0 then [.int .u8 anchOne.f0, .int .i64 anchOne.f1, .string anchOne.f2, .slice none anchOne.f3.length 0, .int .i64 anchOne.f4, .int .i64 anchOne.f5] else [.int .u8 anchA.f0, .int .i64 anchA.f1, .string anchA.f2, .slice none anchA.f3.length 0, .int .i64 anchA.f4, .int .i64 anchA.f5]) (fun i x hi => ?_)
  match i, hi with
  | 0, hi =>
    obtain rfl := Option.some.inj hi
    refine ⟨k25_mk _ _ (Nat.le_refl 0) (nilC _ _), rfl, fun j v hj => ?_⟩
    match j, hj with
    | 0, hj | 1, hj | 2, hj | 3, hj | 4, hj | 5, hj => exact hj
  | 1, hi =>
    obtain rfl := Option.some.inj hi
    refine ⟨k25_mk _ _ (Nat.le_refl 0) (nilC _ _), rfl, fun j v hj => ?_⟩
    match j, hj with
    | 0, hj | 1, hj | 2, hj | 3, hj | 4, hj | 5, hj => exact hj
set_option maxRecDepth 100000 in
theorem law_anchored (v0 : World) (hP : Pow10 v0) :
    Calls Tryd.prog 12 #[] v0 fun e w' => e = .returned (.bool true) ∧ Below v0.heap.size v0 w' := by
  refine calls_enter (N := 24) (n := 24) (args := []) Tryd.func12 rfl rfl rfl (H.init v0) (fun a hs => ?_)
  refine wp_seq (wp_region_lit ?_)
  refine go hs (pA rfl <| ?_); clear hs a; intro a hs
  refine wpList_nil (then_normal (wp_seq ?_))
  refine wp_region_lit (go hs (pV rfl (fun a hs => y_struct (zc := #[.int .u8 0, .int .i64 0, .string ⟨#[]⟩, .slice none 0 0, .int .i64 0, .int .i64 0]) (pl := [(0, 1), (1, 1), (2, 1), (3, 1), (4, 1), (5, 1)]) (cl := [_, _, .string ⟨#[]⟩, .slice none 0 0, .int .i64 0, .int .i64 0]) hs (by kernel_rfl) rfl (by rfl) rfl) <| ?_)); clear hs a; intro a hs
  refine a_eff rfl (e_alloc (z := .agg #[.int .u8 0, .int .i64 0, .string ⟨#[]⟩, .slice none 0 0, .int .i64 0, .int .i64 0]) (cs := #[.int .u8 0, .int .i64 0, .string ⟨#[]⟩, .slice none 0 0, .int .i64 0, .int .i64 0]) hs rfl (by kernel_rfl) rfl ?_); clear hs a; intro g1 a w hs
  refine a_eff rfl (e_store (cl := [_, _, _, _, _, _]) 0 rfl hs rfl rfl (by kernel_rfl) rfl rfl rfl ?_); clear hs a; intro a w hs
  refine wpList_nil (then_normal (wp_seq ?_))
  refine wp_region_lit (go hs (pV rfl (fun a hs => y_loadPt 0 rfl hs Tryd.underlying25 rfl (by kernel_rfl) rfl) <| pV rfl (fun a hs => y_struct (zc := #[.int .u8 0, .int .i64 0, .string ⟨#[]⟩, .slice none 0 0, .int .i64 0, .int .i64 0]) (pl := [(0, 1), (1, 1), (2, 1), (3, 1), (4, 1), (5, 1)]) (cl := [_, .int .i64 0, _, .slice none 0 0, .int .i64 0, .int .i64 0]) hs (by kernel_rfl) rfl (by rfl) rfl) <| ?_)); clear hs a; intro a hs
  refine a_eff rfl (e_bslice (z := .agg #[.int .u8 0, .int .i64 0, .string ⟨#[]⟩, .slice none 0 0, .int .i64 0, .int .i64 0]) (size := 6) (zc := #[.int .u8 0, .int .i64 0, .string ⟨#[]⟩, .slice none 0 0, .int .i64 0, .int .i64 0, .int .u8 0, .int .i64 0, .string ⟨#[]⟩, .slice none 0 0, .int .i64 0, .int .i64 0]) (cl := [_, _, _, _, _, _, _, _, _, _, _, _]) hs rfl Tryd.underlying23 (by kernel_rfl) rfl rfl rfl (by kernel_rfl) (by rfl) rfl ?_); clear hs a; intro gl a w hs
  refine go hs (pV rfl (fun a hs => y_struct (zc := #[.int .u8 0, .int .i64 0, .string ⟨#[]⟩, .slice none 0 0, .int .i64 0, .int .i64 0]) (pl := [(0, 1), (1, 1), (2, 1), (3, 1), (4, 1), (5, 1)]) (cl := [_, .int .i64 0, .string ⟨#[]⟩, _, .int .i64 0, .int .i64 0]) hs (by kernel_rfl) rfl (by rfl) rfl) <| ?_); clear hs a; intro a hs
  refine a_eff rfl (e_callB Tryd.func10 rfl rfl hs rfl rfl (by have h := tree_ExprText anchX (some ⟨gl, 0, none⟩) 2 _ (anch_C gl _ _ _ hs.mem) anch_small (varKeep hs.mem.base hP); rw [anch_text] at h; exact h) ?_); clear hs a; intro a w hs
  refine go hs (pM rfl <| pV rfl (fun a hs => y_extract hs rfl rfl) <| pV rfl (fun a hs => y_extract hs rfl rfl) <| pA rfl <| pA rfl <| ?_); clear hs a; intro a hs
  refine wpList_nil (then_normal (wp_seq ?_))
  refine wp_region_lit (go hs (pM rfl <| pV rfl (fun a hs => y_cmp (b := true) hs rfl rfl rfl) <| pM rfl <| pG rfl (fun a hs => y_move hs rfl) <| pG rfl (fun a hs => y_seqB (b := true) hs rfl rfl (by decide +kernel)) <| pT rfl rfl <| pM rfl <| pG rfl (fun a hs => y_struct (zc := #[.int .u8 0, .int .i64 0, .string ⟨#[]⟩, .slice none 0 0, .int .i64 0, .int .i64 0]) (pl := [(0, 1), (1, 1), (2, 1), (3, 1), (4, 1), (5, 1)]) (cl := [.int .u8 0, .int .i64 0, .string ⟨#[]⟩, .slice none 0 0, .int .i64 0, .int .i64 0]) hs (by kernel_rfl) rfl (by rfl) rfl) <| ?_)); clear hs a; intro a hs
  refine a_effG hs rfl (e_callB Tryd.func11 rfl rfl hs rfl rfl (by have h := tree_MayExpr zeroX none 0 w (nilC _ w) (small_leaf _ _ _ _ (by decide)); rw [zero_deep] at h; exact h) ?_); clear hs a; intro a w hs
  refine go hs (pG rfl (fun a hs => y_not hs rfl) <| pT rfl rfl <| pA rfl <| ?_); clear hs a; intro a hs
  refine wpList_nil (then_normal (wp_ret ?_))
  refine fin_ret hs (.tmp (hs.slots _ _ rfl) .nil) ⟨rfl, hs.mem.base⟩
end Go.Proofs.YtibaidddhmdafaaDoor.E
end
