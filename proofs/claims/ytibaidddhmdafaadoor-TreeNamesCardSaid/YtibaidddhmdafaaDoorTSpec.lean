/- Expressions: which may be, how deep they are, their tokens; in plain words. No conditions. -/
import Derived.Test.YtibaidddhmdafaaDoorJoin
import Derived.Test.YtibaidddhmdafaaDoorEng8
namespace Go.Proofs.YtibaidddhmdafaaDoor.E
open Go Go.RowKit Go.Proofs.YtibaidddhmdafaaDoorW.PrintWords Go.Proofs.YtibaidddhmdafaaDoorW.PrintLast Go.Proofs.YtibaidddhmdafaaDoorW.PrintMore Go.Proofs.YtibaidddhmdafaaDoor.PA
set_option linter.unusedVariables false
set_option linter.unusedSimpArgs false
abbrev XE := S25
abbrev XT := S94
/-- How many parts an expression of its kind has; none: it may not be. -/
def exprParts (x : XE) : Option Nat :=
  if x.f0 = 1 then (if 0 ≤ x.f1 ∧ x.f1 ≤ 2147483647 ∧ x.f2.size = 0 then some 0 else none)
  else if x.f0 = 2 then (if x.f1 = 0 ∧ nameOk x.f2 = true then some 0 else none)
  else if x.f0 = 3 then (if x.f1 = 0 ∧ x.f2.size = 0 then some 1 else none)
  else if 4 ≤ x.f0 ∧ x.f0 ≤ 8 then (if x.f1 = 0 ∧ x.f2.size = 0 then some 2 else none)
  else none
theorem exprParts_le {x : XE} {p : Nat} (h : exprParts x = some p) : p ≤ 2 := by
  unfold exprParts at h
  repeat' split at h
  all_goals first | (cases h; omega) | cases h
def xexprs (f : XE → Int → Nat × Int) : List XE → Nat → Int → Nat × Int
  | [], d, left => (d + 1, left)
  | p :: ps, d, left => if (f p left).1 = 0 then (0, (f p left).2) else xexprs f ps (max d (f p left).1) (f p left).2
/-- How deep an expression is, so many levels being allowed (0: it may not be), and how many nodes are left behind it. -/
def xexpr : Nat → XE → Int → Nat × Int
  | 0, _, left => (0, left)
  | n + 1, x, left => if left - 1 < 0 then (0, left - 1) else
    match exprParts x with
    | none => (0, left - 1)
    | some p => if x.f3.length = p then xexprs (xexpr n) x.f3 0 (left - 1) else (0, left - 1)
theorem xexprs_le {f : XE → Int → Nat × Int} {k : Nat} (hf : ∀ x l, (f x l).1 ≤ k) : ∀ (ps : List XE) (d : Nat) (left : Int), d ≤ k → (xexprs f ps d left).1 ≤ k + 1
  | [], d, left, h => by rw [xexprs]; show d + 1 ≤ _; omega
  | p :: ps, d, left, h => by
    rw [xexprs]
    split
    · exact Nat.zero_le _
    · exact xexprs_le hf ps _ _ (by have := hf p left; omega)
theorem xexpr_le : ∀ (n : Nat) (x : XE) (left : Int), (xexpr n x left).1 ≤ n
  | 0, _, _ => Nat.le_refl _
  | n + 1, x, left => by
    rw [xexpr]
    split
    · exact Nat.zero_le _
    · split
      · exact Nat.zero_le _
      · split
        · exact xexprs_le (fun y l => xexpr_le n y l) _ _ _ (Nat.zero_le _)
        · exact Nat.zero_le _
/-- How far the nodes that are left may fall. -/
def falls (r : Nat × Int) (l : Int) : Prop := -1 ≤ r.2 ∧ r.2 ≤ l ∧ (r.1 ≠ 0 → 0 ≤ r.2)
theorem xexprs_left {f : XE → Int → Nat × Int} (hf : ∀ x l, 0 ≤ l → falls (f x l) l) : ∀ (ps : List XE) (d : Nat) (left : Int), 0 ≤ left → falls (xexprs f ps d left) left
  | [], d, left, h => ⟨by rw [xexprs]; show -1 ≤ left; omega, Int.le_refl _, fun _ => h⟩
  | p :: ps, d, left, h => by
    obtain ⟨a, b, c⟩ := hf p left h
    rw [xexprs]
    split
    · exact ⟨a, b, fun h => absurd rfl h⟩
    · rename_i h0
      obtain ⟨x, y, z⟩ := xexprs_left hf ps (max d (f p left).1) (f p left).2 (c h0)
      exact ⟨x, by omega, z⟩
theorem xexpr_left : ∀ (n : Nat) (x : XE) (left : Int), 0 ≤ left → falls (xexpr n x left) left
  | 0, _, left, h => ⟨by show -1 ≤ left; omega, Int.le_refl _, fun h => absurd rfl h⟩
  | n + 1, x, left, h => by
    have h0 : falls (0, left - 1) left := ⟨by show -1 ≤ left - 1; omega, by show left - 1 ≤ left; omega, fun h => absurd rfl h⟩
    rw [xexpr]
    split
    · exact h0
    · split
      · exact h0
      · split
        · obtain ⟨a, b, c⟩ := xexprs_left (fun y l h => xexpr_left n y l h) x.f3 0 (left - 1) (by omega)
          exact ⟨a, by omega, c⟩
        · exact h0
/-- The shape of an expression that may be. -/
def shapeX : Nat → XE → Prop
  | 0, _ => False
  | n + 1, x => exprParts x = some x.f3.length ∧ ∀ p ∈ x.f3, shapeX n p
theorem xexprs_all {f : XE → Int → Nat × Int} : ∀ (ps : List XE) (d : Nat) (left : Int), (xexprs f ps d left).1 ≠ 0 → ∀ p ∈ ps, ∃ l, (f p l).1 ≠ 0
  | [], _, _, _, _, hp => absurd hp (by simp)
  | q :: ps, d, left, h, p, hp => by
    rw [xexprs] at h
    split at h
    · exact absurd rfl h
    · rename_i h0
      rcases List.mem_cons.1 hp with rfl | hp
      · exact ⟨left, h0⟩
      · exact xexprs_all ps _ _ h p hp
theorem shape_of : ∀ (n : Nat) (x : XE) (left : Int), (xexpr n x left).1 ≠ 0 → shapeX n x
  | 0, _, _, h => absurd rfl h
  | n + 1, x, left, h => by
    rw [xexpr] at h
    split at h
    · exact absurd rfl h
    · split at h
      · exact absurd rfl h
      · rename_i p hp
        split at h
        · rename_i hl
          refine ⟨by rw [hp, hl], fun q hq => ?_⟩
          obtain ⟨l, hl⟩ := xexprs_all _ _ _ h q hq
          exact shape_of n q l hl
        · exact absurd rfl h
def smallX : Nat → XE → Prop
  | 0, _ => True
  | n + 1, x => x.f2.size ≤ 9223372036854775807 ∧ ∀ p ∈ x.f3, smallX n p
/-! tokens -/
def tk (k : Int) (s : ByteArray) : XT := ⟨k, s, 0, 0, 0⟩
/-- The token of a text: a word, a name or a sign. -/
def sayT (s : ByteArray) : XT := if mayB (tk 2 s) = true then tk 2 s else if mayB (tk 1 s) = true then tk 1 s else tk 4 s
def opS (k : Int) : ByteArray := if k = 4 then ⟨#[43]⟩ else if k = 5 then ⟨#[45]⟩ else if k = 6 then ⟨#[42]⟩ else if k = 7 then ⟨#[47]⟩ else ⟨#[37]⟩
def part (x : XE) (i : Nat) : XE := x.f3.getD i z25
def toksX : Nat → XE → List XT
  | 0, _ => []
  | n + 1, x => if x.f0 = 1 then [⟨3, ⟨#[]⟩, x.f1, 0, 0⟩] else if x.f0 = 2 then [sayT x.f2] else if x.f0 = 3 then sayT ⟨#[45]⟩ :: toksX n (part x 0)
    else sayT ⟨#[40]⟩ :: (toksX n (part x 0) ++ sayT (opS x.f0) :: (toksX n (part x 1) ++ [sayT ⟨#[41]⟩]))
theorem toks_len : ∀ (n : Nat) (x : XE), (toksX n x).length + 3 ≤ 3 * 2 ^ n
  | 0, _ => by simp [toksX]
  | n + 1, x => by
    have h0 := toks_len n (part x 0); have h1 := toks_len n (part x 1)
    have h2 : 2 ^ (n + 1) = 2 * 2 ^ n := by rw [Nat.pow_succ]; omega
    rw [toksX, h2]
    split
    · simp only [List.length_cons, List.length_nil]; omega
    · split
      · simp only [List.length_cons, List.length_nil]; omega
      · split
        · simp only [List.length_cons]; omega
        · simp only [List.length_cons, List.length_append, List.length_nil]; omega
theorem tokC_len (x : XT) : (tokC x).length = 5 := rfl
theorem part_mem {x : XE} {i : Nat} (h : i < x.f3.length) : x.f3[i]? = some (part x i) ∧ part x i ∈ x.f3 := by
  have e : x.f3[i]? = some (part x i) := by
    unfold part
    rw [List.getD_eq_getElem?_getD, List.getElem?_eq_getElem h]; rfl
  exact ⟨e, List.mem_of_getElem? e⟩
theorem sayT_f1 (s : ByteArray) : (sayT s).f1 = s := by unfold sayT; (repeat' split) <;> rfl
theorem parts_kind {x : XE} {p : Nat} (h : exprParts x = some p) : (x.f0 = 1 ∧ p = 0 ∧ 0 ≤ x.f1 ∧ x.f1 ≤ 2147483647) ∨ (x.f0 = 2 ∧ p = 0 ∧ nameOk x.f2 = true) ∨ (x.f0 = 3 ∧ p = 1) ∨ (4 ≤ x.f0 ∧ x.f0 ≤ 8 ∧ p = 2) := by
  unfold exprParts at h
  split at h
  · split at h
    · rename_i h1 h2; cases h; exact .inl ⟨h1, rfl, h2.1, h2.2.1⟩
    · cases h
  · split at h
    · split at h
      · rename_i h1 h2; cases h; exact .inr (.inl ⟨h1, rfl, h2.2⟩)
      · cases h
    · split at h
      · split at h
        · rename_i h1 h2; cases h; exact .inr (.inr (.inl ⟨h1, rfl⟩))
        · cases h
      · split at h
        · split at h
          · rename_i h1 h2; cases h; exact .inr (.inr (.inr ⟨h1.1, h1.2, rfl⟩))
          · cases h
        · cases h
theorem nameOk_size {s : ByteArray} (h : nameOk s = true) : s.size ≤ 16 := by
  unfold nameOk at h
  simp only [Bool.and_eq_true] at h
  exact name_size h.1
theorem opS_size (k : Int) : (opS k).size = 1 := by unfold opS; repeat' split
                                                    all_goals rfl
theorem toks_size : ∀ (n : Nat) (x : XE), shapeX n x → ∀ t ∈ toksX n x, t.f1.size ≤ 9223372036854775807
  | 0, _, h, _, _ => h.elim
  | n + 1, x, h, t, ht => by
    obtain ⟨hp, hq⟩ := h
    have hk := parts_kind hp
    rw [toksX] at ht
    split at ht
    · simp only [List.mem_cons, List.not_mem_nil, or_false] at ht; subst ht; show (⟨#[]⟩ : ByteArray).size ≤ 9223372036854775807; decide
    · split at ht
      · rename_i h2
        simp only [List.mem_cons, List.not_mem_nil, or_false] at ht; subst ht
        rw [sayT_f1]
        rcases hk with h | h | h | h <;> first | (have := nameOk_size h.2.2; omega) | omega
      · split at ht
        · rename_i h3
          rcases List.mem_cons.1 ht with rfl | ht
          · rw [sayT_f1]; decide
          · exact toks_size n _ (hq _ (part_mem (by omega)).2) t ht
        · have hl : x.f3.length = 2 := by omega
          simp only [List.mem_cons, List.mem_append, List.not_mem_nil, or_false] at ht
          rcases ht with rfl | ht | rfl | ht | rfl
          · rw [sayT_f1]; decide
          · exact toks_size n _ (hq _ (part_mem (by omega)).2) t ht
          · rw [sayT_f1, opS_size]; decide
          · exact toks_size n _ (hq _ (part_mem (by omega)).2) t ht
          · rw [sayT_f1]; decide
theorem oneT (l : List XT) : ∀ u ∈ l.flatMap tokC, u.oneCell' = true := by
  intro u hu
  obtain ⟨t, _, h⟩ := List.mem_flatMap.1 hu
  simp only [tokC, List.mem_cons, List.not_mem_nil, or_false] at h
  rcases h with rfl | rfl | rfl | rfl | rfl <;> rfl
theorem tokC_K (w : World) (x : XT) : k94.K w x (tokC x) := k94_mk w x
end Go.Proofs.YtibaidddhmdafaaDoor.E
