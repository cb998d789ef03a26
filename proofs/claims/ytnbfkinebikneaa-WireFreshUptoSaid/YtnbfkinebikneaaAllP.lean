/-
  All of a list of bytes, chunk by chunk, in plain words; all of some chunks' forms is these chunks.
-/
import Derived.Test.YtnbfkinebikneaaPA1027
import Derived.Test.YtnbfkinebikneaaPA1028
import Derived.Test.YtnbfkinebikneaaTextP
namespace Go.Proofs.Ytnbfkinebikneaa.PA
open Go Go.RowKit Go.Proofs.YtnbfkinebikneaaW.PrintWords Go.Proofs.YtnbfkinebikneaaW.PrintLast Go.Proofs.YtnbfkinebikneaaW.PrintMore Go.Proofs.Ytnbfkinebikneaa.Num
set_option linter.unusedVariables false
set_option linter.unusedSimpArgs false

/-- What All answers: from a place on, with what was found ahead of it. -/
def allA : Nat → List Int → Nat → List S53 → List S53 × Int × Int
  | 0, _, p, acc => (acc, p, 0)
  | f + 1, l, p, acc => if p < l.length then
      (if (readChunkA (l.drop p)).2.2.2 = 0 then allA f l (p + (readChunkA (l.drop p)).2.2.1.toNat) (acc ++ [⟨(readChunkA (l.drop p)).1, (readChunkA (l.drop p)).2.1⟩]) else ([], p, (readChunkA (l.drop p)).2.2.2))
    else (acc, p, 0)

theorem All_l0 (l : List Int) (hl : Bytes l) (h : l.length ≤ 1073741824) (d : Nat) : ∀ (k p : Nat) (acc : List S53), l.length - p ≤ d → p ≤ l.length → acc.length ≤ p → d + 20 < k → wire_All.l0 k l acc (p : Int) = some (allA (d + 1) l p acc) := by
  induction d with
  | zero =>
    intro k p acc hd hp ha hk
    obtain ⟨k, rfl⟩ : ∃ m, k = m + 1 := ⟨k - 1, by omega⟩
    simp only [wire_All.l0, allA]
    rw [if_neg (by omega), if_neg (by omega)]
  | succ d ih =>
    intro k p acc hd hp ha hk
    obtain ⟨k, rfl⟩ : ∃ m, k = m + 1 := ⟨k - 1, by omega⟩
    rw [allA]
    simp only [wire_All.l0]
    by_cases hlt : p < l.length
    · rw [if_pos (by omega), if_pos (by omega), if_pos (by omega), if_pos hlt, Int.toNat_natCast, Read_f k (by omega) _ (hl.drop p) (by rw [List.length_drop]; omega), Option.bind_some]
      by_cases he : (readChunkA (l.drop p)).2.2.2 = 0
      · obtain ⟨f1, f2, f3, f4, f5, f6, f7⟩ := form_of_read _ (hl.drop p) he
        rw [List.length_drop] at f3
        rw [if_pos he, if_pos he, if_pos (by omega), wrap64_id (by omega) (by omega)]
        have := ih k (p + (readChunkA (l.drop p)).2.2.1.toNat) (acc ++ [⟨(readChunkA (l.drop p)).1, (readChunkA (l.drop p)).2.1⟩]) (by omega) (by omega) (by rw [List.length_append, List.length_singleton]; omega) (by omega)
        rw [show ((p + (readChunkA (l.drop p)).2.2.1.toNat : Nat) : Int) = (p : Int) + (readChunkA (l.drop p)).2.2.1 by omega] at this
        exact this
      · rw [if_neg he, if_neg he]
    · rw [if_neg (by omega), if_neg hlt]
theorem rAll_l0 (l : List Int) (hl : Bytes l) (h : l.length ≤ 1073741824) (d : Nat) : ∀ (k p : Nat) (acc : List S53), l.length - p ≤ d → p ≤ l.length → acc.length ≤ p → d + 10 * l.length + 21 < k → recoupref08_All.l0 k l acc (p : Int) = some (allA (d + 1) l p acc) := by
  induction d with
  | zero =>
    intro k p acc hd hp ha hk
    obtain ⟨k, rfl⟩ : ∃ m, k = m + 1 := ⟨k - 1, by omega⟩
    simp only [recoupref08_All.l0, allA]
    rw [if_neg (by omega), if_neg (by omega)]
  | succ d ih =>
    intro k p acc hd hp ha hk
    obtain ⟨k, rfl⟩ : ∃ m, k = m + 1 := ⟨k - 1, by omega⟩
    rw [allA]
    simp only [recoupref08_All.l0]
    by_cases hlt : p < l.length
    · rw [if_pos (by omega), if_pos (by omega), if_pos (by omega), if_pos hlt, Int.toNat_natCast, rRead_f k _ (hl.drop p) (by rw [List.length_drop]; omega) (by rw [List.length_drop]; omega), Option.bind_some]
      by_cases he : (readChunkA (l.drop p)).2.2.2 = 0
      · obtain ⟨f1, f2, f3, f4, f5, f6, f7⟩ := form_of_read _ (hl.drop p) he
        rw [List.length_drop] at f3
        rw [if_pos he, if_pos he, if_pos (by omega), wrap64_id (by omega) (by omega)]
        have := ih k (p + (readChunkA (l.drop p)).2.2.1.toNat) (acc ++ [⟨(readChunkA (l.drop p)).1, (readChunkA (l.drop p)).2.1⟩]) (by omega) (by omega) (by rw [List.length_append, List.length_singleton]; omega) (by omega)
        rw [show ((p + (readChunkA (l.drop p)).2.2.1.toNat : Nat) : Int) = (p : Int) + (readChunkA (l.drop p)).2.2.1 by omega] at this
        exact this
      · rw [if_neg he, if_neg he]
    · rw [if_neg (by omega), if_neg hlt]
theorem All_f (k : Nat) (l : List Int) (hl : Bytes l) (h : l.length ≤ 1073741824) (hk : l.length + 21 ≤ k) : wire_All.f k l = some (allA (l.length + 1) l 0 []) := All_l0 l hl h l.length k 0 [] (by omega) (by omega) (by simp) (by omega)
theorem rAll_f (k : Nat) (l : List Int) (hl : Bytes l) (h : l.length ≤ 1073741824) (hk : 11 * l.length + 22 ≤ k) : recoupref08_All.f k l = some (allA (l.length + 1) l 0 []) := rAll_l0 l hl h l.length k 0 [] (by omega) (by omega) (by simp) (by omega)

/-- Chunks' forms, one behind the other. -/
def forms (l : List S53) : List Int := (l.map fun c => (writeA c.f0 c.f1).1).flatten
theorem forms_append (a b : List S53) : forms (a ++ b) = forms a ++ forms b := by unfold forms; simp
theorem forms_cons (c : S53) (b : List S53) : forms (c :: b) = (writeA c.f0 c.f1).1 ++ forms b := by unfold forms; simp
/-- May a chunk be written? -/
def Fine (c : S53) : Prop := (0 ≤ c.f0 ∧ c.f0 ≤ 255) ∧ Bytes c.f1 ∧ c.f1.length ≤ 4194304
theorem writeA_bytes (c : S53) (h : Fine c) : Bytes (writeA c.f0 c.f1).1 := by
  obtain ⟨hr, he, h6, hlen⟩ := read_back c.f0 c.f1 [] h.1 h.2.1 h.2.2
  have h9 : (writeA c.f0 c.f1).1 = (c.f0 :: (textA c.f1).1) ++ four (sumA (c.f0 :: (textA c.f1).1)) := by
    unfold writeA at he ⊢
    by_cases h0 : (textA c.f1).2 = 0
    · rw [if_pos h0]
    · rw [if_neg h0] at he; exact absurd he h0
  rw [h9]
  exact ((textA_bytes c.f1 h.2.1).cons h.1).append (bytes_four _)
theorem forms_bytes (l : List S53) (h : ∀ c ∈ l, Fine c) : Bytes (forms l) := by
  induction l with
  | nil => intro x hx; simp [forms] at hx
  | cons c l ih => rw [forms_cons]; exact (writeA_bytes c (h c (by simp))).append (ih (fun d hd => h d (by simp [hd])))
theorem all_forms (suf : List S53) : ∀ (pre : List S53) (f : Nat), (∀ c ∈ suf, Fine c) → suf.length < f →
    allA f (forms (pre ++ suf)) (forms pre).length pre = (pre ++ suf, ((forms (pre ++ suf)).length : Int), 0) := by
  induction suf with
  | nil =>
    intro pre f hs hf
    obtain ⟨f, rfl⟩ : ∃ m, f = m + 1 := ⟨f - 1, by omega⟩
    rw [List.append_nil, allA, if_neg (by omega)]
  | cons c suf ih =>
    intro pre f hs hf
    obtain ⟨f, rfl⟩ : ∃ m, f = m + 1 := ⟨f - 1, by omega⟩
    have hc := hs c (by simp)
    obtain ⟨hr, he, h6, hlen⟩ := read_back c.f0 c.f1 (forms suf) hc.1 hc.2.1 hc.2.2
    rw [allA]
    have hd : (forms (pre ++ c :: suf)).drop (forms pre).length = (writeA c.f0 c.f1).1 ++ forms suf := by rw [forms_append, List.drop_left, forms_cons]
    rw [hd, hr]
    simp only
    rw [if_pos (by rw [forms_append, forms_cons, List.length_append, List.length_append]; omega), if_pos trivial, Int.toNat_natCast]
    have := ih (pre ++ [c]) f (fun d hd => hs d (by simp [hd])) (by simp only [List.length_cons] at hf; omega)
    rw [List.append_assoc, List.singleton_append] at this
    rw [← this]
    congr 1
    rw [forms_append, List.length_append, forms_cons]; simp [forms]
theorem forms_len (l : List S53) (h : ∀ c ∈ l, Fine c) : (forms l).length ≤ (l.map fun c => c.f1.length + 14).sum := by
  induction l with
  | nil => simp [forms]
  | cons c l ih =>
    have hc := h c (by simp)
    obtain ⟨hr, he, h6, hlen⟩ := read_back c.f0 c.f1 [] hc.1 hc.2.1 hc.2.2
    have := ih (fun d hd => h d (by simp [hd]))
    rw [forms_cons, List.length_append, List.map_cons, List.sum_cons]; omega
end Go.Proofs.Ytnbfkinebikneaa.PA
