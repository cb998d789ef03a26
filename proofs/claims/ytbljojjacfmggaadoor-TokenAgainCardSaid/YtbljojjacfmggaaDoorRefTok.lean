/- What the document's answer computes for tokens, in plain words. Conditions: texts of at most 65536 bytes. -/
import Derived.Test.YtbljojjacfmggaaDoorPA1011
import Derived.Test.YtbljojjacfmggaaDoorPA1024
import Derived.Test.YtbljojjacfmggaaDoorPA1028
import Derived.Test.YtbljojjacfmggaaDoorPA5017
namespace Go.Proofs.YtbljojjacfmggaaDoor.E
open Go Go.RowKit Go.Proofs.YtbljojjacfmggaaDoorW.PrintWords Go.Proofs.YtbljojjacfmggaaDoorW.PrintLast Go.Proofs.YtbljojjacfmggaaDoorW.PrintMore Go.Proofs.YtbljojjacfmggaaDoor.PA
theorem up {α : Type} {f : Nat → Option α} (hm : ∀ k, LeO (f k) (f (k + 1))) {k m : Nat} (h : k ≤ m) {r : α} (e : f k = some r) : f m = some r := by
  induction m with
  | zero => obtain rfl : k = 0 := by omega
            exact e
  | succ m ih =>
    by_cases c : k = m + 1
    · subst c; exact e
    · exact hm m r (ih (by omega))
theorem w64 {n : Int} (h : -9223372036854775808 ≤ n) (h1 : n < 9223372036854775808) : wrap64 n = n := by unfold wrap64; omega
/-! words and names -/
theorem word_at_drop (i : Nat) (h : i < 17) : wordList.drop i = rdOf ByteArray.empty wordList (i : Int) :: wordList.drop (i + 1) := by
  have h1 : i < wordList.length := by rw [wordList_length]; exact h
  rw [List.drop_eq_getElem_cons h1]
  unfold rdOf
  rw [Int.toNat_natCast, List.getD_eq_getElem?_getD, List.getElem?_eq_getElem h1]; rfl
theorem refWord_l (a : ByteArray) : ∀ (m i k : Nat), i + m = 17 → recoupref09_Word.l0 (k + m + 1) a wordList (i : Int) = some (wordIn (wordList.drop i) a)
  | 0, i, k, h => by
    simp only [recoupref09_Word.l0]
    rw [wordList_length, if_neg (by omega), List.drop_eq_nil_of_le (by rw [wordList_length]; omega)]
    rfl
  | m + 1, i, k, h => by
    have ih := refWord_l a m (i + 1) k (by omega)
    show recoupref09_Word.l0 ((k + m + 1) + 1) a wordList (i : Int) = _
    generalize k + m + 1 = K at ih ⊢
    simp only [recoupref09_Word.l0]
    rw [wordList_length, if_pos (by omega), if_pos (by omega), word_at_drop i (by omega)]
    unfold wordIn
    rw [List.any_cons]
    by_cases e : (rdOf ByteArray.empty wordList (i : Int)).toList = a.toList
    · rw [if_pos e, decide_eq_true e.symm]; rfl
    · rw [if_neg e, decide_eq_false (fun h => e h.symm), Bool.false_or, w64 (by omega) (by omega)]
      exact ih
theorem refWord (a : ByteArray) : recoupref09_Word.f 18 a = some (wordIn wordList a) := by
  have h := refWord_l a 17 0 0 (by omega)
  exact h
theorem refLetter (c : Int) : recoupref09_letter.f c = some (isLetter c) := by
  unfold recoupref09_letter.f isLetter
  by_cases h : c ≥ 97
  · rw [if_pos h]; exact congrArg some (decide_eq_decide.2 (by omega))
  · rw [if_neg h]; exact congrArg some (decide_eq_false (by omega)).symm
theorem refDigit (c : Int) : recoupref09_digit.f c = some (isDigit c) := by
  unfold recoupref09_digit.f isDigit
  by_cases h : c ≥ 48
  · rw [if_pos h]; exact congrArg some (decide_eq_decide.2 (by omega))
  · rw [if_neg h]; exact congrArg some (decide_eq_false (by omega)).symm
def allLD (s : ByteArray) : Nat → Nat → Bool
  | 0, _ => true
  | m + 1, i => (isLetter (bt s i) || isDigit (bt s i)) && allLD s m (i + 1)
theorem allLD_name (s : ByteArray) : ∀ (m i : Nat), 1 ≤ i → nameFrom s m i = allLD s m i
  | 0, _, _ => rfl
  | m + 1, i, h => by
    have e : decide (i ≠ 0) = true := decide_eq_true (by omega)
    show ((isLetter (bt s i) || (isDigit (bt s i) && decide (i ≠ 0))) && nameFrom s m (i + 1)) = _
    rw [e, Bool.and_true, allLD_name s m (i + 1) (by omega)]; rfl
theorem refName_l (s : ByteArray) (hs : s.size ≤ 9223372036854775807) : ∀ (m i k : Nat), i + m = s.size → recoupref09_Name.l0 (k + m + 1) s (i : Int) = some (allLD s m i)
  | 0, i, k, h => by
    simp only [recoupref09_Name.l0]
    rw [if_neg (by omega)]; rfl
  | m + 1, i, k, h => by
    have ih := refName_l s hs m (i + 1) k (by omega)
    show recoupref09_Name.l0 ((k + m + 1) + 1) s (i : Int) = some ((isLetter (bt s i) || isDigit (bt s i)) && allLD s m (i + 1))
    generalize k + m + 1 = K at ih ⊢
    simp only [recoupref09_Name.l0]
    have ew : wrap64 ((i : Int) + 1) = ((i + 1 : Nat) : Int) := by rw [w64 (by omega) (by omega)]; omega
    rw [if_pos (by omega), if_pos (by omega), refLetter, refDigit, ew, ih]
    cases isLetter (bt s i) <;> cases isDigit (bt s i) <;> simp
theorem refName (s : ByteArray) (hs : s.size ≤ 9223372036854775807) : recoupref09_Name.f (s.size + 20) s = some (nameOk s) := by
  unfold recoupref09_Name.f nameOk nameText
  by_cases c1 : (s.size : Int) < 1
  · rw [if_pos c1]
    have c1' : ¬ 1 ≤ s.size := by omega
    rw [decide_eq_false c1', Bool.false_and, Bool.and_false, Bool.false_and]
    simp only [recoupref09_Name.j0, if_true]
  · rw [if_neg c1]
    by_cases c2 : (s.size : Int) > 16
    · rw [if_pos c2]
      have c2' : ¬ s.size ≤ 16 := by omega
      rw [decide_eq_false c2', Bool.and_false, Bool.and_false, Bool.false_and]
      simp only [recoupref09_Name.j0, if_true]
    · rw [if_neg c2, if_pos (by omega), refLetter]
      have c1' : 1 ≤ s.size := by omega
      have c2' : s.size ≤ 16 := by omega
      obtain ⟨m, hm⟩ : ∃ m, s.size = m + 1 := ⟨s.size - 1, by omega⟩
      have hw := up (f := fun k => recoupref09_Word.f k s) (recoupref09_Word.mono s) (show 18 ≤ s.size + 20 by omega) (refWord s)
      have hl := refName_l s hs s.size 0 18 (by omega)
      rw [decide_eq_true c1', decide_eq_true c2', Bool.and_true, Bool.and_true]
      simp only [Option.bind_some]
      have hn : nameFrom s s.size 0 = (isLetter (bt s 0) && allLD s m 1) := by
        rw [hm]
        show ((isLetter (bt s (0 : Nat)) || (isDigit (bt s (0 : Nat)) && decide (0 ≠ 0))) && nameFrom s m 1) = _
        rw [allLD_name s m 1 (by omega)]
        simp
      rw [hn]
      cases h0 : isLetter (bt s 0)
      · simp only [recoupref09_Name.j0, Bool.false_eq_true, if_false, if_true, Bool.false_and]
      · have ha : allLD s s.size 0 = allLD s m 1 := by
          rw [hm]
          show ((isLetter (bt s (0 : Nat)) || isDigit (bt s (0 : Nat))) && allLD s m 1) = _
          have h0' : isLetter (bt s ((0 : Nat) : Int)) = true := h0
          rw [h0']; simp
        have hw' : recoupref09_Word.f (s.size + 20) s = some (wordIn wordList s) := hw
        rw [if_pos rfl, hw', Option.bind_some, Bool.true_and]
        have hl' : recoupref09_Name.l0 (s.size + 19) s 0 = some (allLD s s.size 0) := by
          have : 18 + s.size + 1 = s.size + 19 := by omega
          rw [this] at hl; exact hl
        cases wordIn wordList s
        · show recoupref09_Name.j0 ((s.size + 19) + 1) s false = _
          simp only [recoupref09_Name.j0, Bool.false_eq_true, if_false]
          rw [hl', ha]; simp
        · simp [recoupref09_Name.j0]
/-! signs -/
def signB (c : Int) : Bool := decide (c = 61 ∨ c = 59 ∨ c = 44 ∨ c = 40 ∨ c = 41 ∨ c = 91 ∨ c = 93 ∨ c = 43 ∨ c = 45 ∨ c = 42 ∨ c = 47 ∨ c = 37)
theorem signs_at (i : Nat) : bt (⟨#[61, 59, 44, 40, 41, 91, 93, 43, 45, 42, 47, 37]⟩ : ByteArray) (i : Int) = ([61, 59, 44, 40, 41, 91, 93, 43, 45, 42, 47, 37] : List Int).getD i 0 := by
  rcases Nat.lt_or_ge i 12 with h | h
  · match i, h with
    | 0, _ | 1, _ | 2, _ | 3, _ | 4, _ | 5, _ | 6, _ | 7, _ | 8, _ | 9, _ | 10, _ | 11, _ => rfl
  · have h1 : ¬ ((i : Int)).toNat < (⟨#[61, 59, 44, 40, 41, 91, 93, 43, 45, 42, 47, 37]⟩ : ByteArray).size := by
      have : (⟨#[61, 59, 44, 40, 41, 91, 93, 43, 45, 42, 47, 37]⟩ : ByteArray).size = 12 := rfl
      omega
    unfold bt
    rw [dif_neg h1, List.getD_eq_getElem?_getD, List.getElem?_eq_none (by simp; omega)]; rfl
theorem sign_l (c : Int) : ∀ (m i k : Nat), i + m = 12 → recoupref09_sign.l0 (k + m + 1) c (i : Int) = some ((([61, 59, 44, 40, 41, 91, 93, 43, 45, 42, 47, 37] : List Int).drop i).any (fun x => decide (x = c)))
  | 0, i, k, h => by
    simp only [recoupref09_sign.l0]
    rw [if_neg (by omega), List.drop_eq_nil_of_le (by simp; omega)]; rfl
  | m + 1, i, k, h => by
    have ih := sign_l c m (i + 1) k (by omega)
    show recoupref09_sign.l0 ((k + m + 1) + 1) c (i : Int) = _
    generalize k + m + 1 = K at ih ⊢
    simp only [recoupref09_sign.l0]
    have hl : i < ([61, 59, 44, 40, 41, 91, 93, 43, 45, 42, 47, 37] : List Int).length := by simp; omega
    rw [if_pos (by omega), if_pos (by omega), signs_at, List.drop_eq_getElem_cons hl, List.any_cons, List.getD_eq_getElem?_getD, List.getElem?_eq_getElem hl, Option.getD_some]
    by_cases e : ([61, 59, 44, 40, 41, 91, 93, 43, 45, 42, 47, 37] : List Int)[i] = c
    · rw [if_pos e, decide_eq_true e]; rfl
    · rw [if_neg e, decide_eq_false e, Bool.false_or, w64 (by omega) (by omega)]; exact ih
theorem refSign (c : Int) : recoupref09_sign.f 13 c = some (signB c) := by
  have h := sign_l c 12 0 0 (by omega)
  have e : (([61, 59, 44, 40, 41, 91, 93, 43, 45, 42, 47, 37] : List Int).drop 0).any (fun x => decide (x = c)) = signB c := by
    unfold signB
    rw [Bool.eq_iff_iff]
    simp only [List.drop_zero, List.any_cons, List.any_nil, Bool.or_false, Bool.or_eq_true, decide_eq_true_eq]
    constructor <;> intro h <;> omega
  rw [e] at h
  exact h
theorem kind_sign_all : ∀ n : Fin 256, (kindOf (n.val : Int) = 3) ↔ (signB (n.val : Int) = true) := by decide +kernel
theorem kindOf_sign (b : UInt8) : kindOf ((b.toNat : Nat) : Int) = 3 ↔ signB ((b.toNat : Nat) : Int) = true := by
  have h := kind_sign_all ⟨b.toNat, by have := b.toNat_lt; omega⟩
  exact h
/-! where letters and digits end -/
def endF (s : ByteArray) (b : Bool) : Nat → Nat → Nat
  | 0, p => p
  | n + 1, p => if p < s.size ∧ (isDigit (bt s p) || (b && isLetter (bt s p))) = true then endF s b n (p + 1) else p
theorem end_l (s : ByteArray) (hz : s.size ≤ 65536) (b : Bool) : ∀ (m p k : Nat), p + m = s.size → recoupref09_end.l0 (k + m + 1) s (p : Int) b = some ((endF s b m p : Nat) : Int)
  | 0, p, k, h => by
    simp only [recoupref09_end.l0]
    rw [if_neg (by omega)]; rfl
  | m + 1, p, k, h => by
    have ih := end_l s hz b m (p + 1) k (by omega)
    show recoupref09_end.l0 ((k + m + 1) + 1) s (p : Int) b = _
    generalize k + m + 1 = K at ih ⊢
    simp only [recoupref09_end.l0]
    have ew : wrap64 ((p : Int) + 1) = ((p + 1 : Nat) : Int) := by rw [w64 (by omega) (by omega)]; omega
    rw [if_pos (by omega), if_pos (by omega), refLetter, refDigit, ew, ih]
    rw [endF]
    cases hd : isDigit (bt s p) <;> cases b <;> cases hl : isLetter (bt s p) <;> simp [show p < s.size by omega]
theorem endF_le (s : ByteArray) (b : Bool) : ∀ (m p : Nat), p ≤ s.size → p ≤ endF s b m p ∧ endF s b m p ≤ s.size
  | 0, p, h => ⟨Nat.le_refl _, h⟩
  | m + 1, p, h => by
    rw [endF]
    split
    · rename_i hc
      have ih := endF_le s b m (p + 1) (by omega)
      exact ⟨by omega, ih.2⟩
    · exact ⟨Nat.le_refl _, h⟩
/-- The end of a run of letters and digits (or digits alone). -/
def endP (s : ByteArray) (b : Bool) (p : Nat) : Nat := endF s b (s.size - p) p
theorem refEnd (s : ByteArray) (hz : s.size ≤ 65536) (b : Bool) (p : Nat) (hp : p ≤ s.size) : recoupref09_end.f (s.size - p + 1) s (p : Int) b = some ((endP s b p : Nat) : Int) := by
  have h := end_l s hz b (s.size - p) p 0 (by omega)
  rw [Nat.zero_add] at h
  exact h
/-! places -/
/-- The line and the column of a byte. -/
def posF (s : ByteArray) : Nat → Nat × Nat
  | 0 => (1, 1)
  | p + 1 => if bt s p = 10 then ((posF s p).1 + 1, 1) else ((posF s p).1, (posF s p).2 + 1)
theorem posF_le (s : ByteArray) : ∀ p, (posF s p).1 ≤ p + 1 ∧ (posF s p).2 ≤ p + 1
  | 0 => ⟨Nat.le_refl _, Nat.le_refl _⟩
  | p + 1 => by
    have ih := posF_le s p
    rw [posF]
    split <;> constructor <;> dsimp only <;> omega
theorem where_l (s : ByteArray) (hz : s.size ≤ 65536) (q : Nat) (hq : q ≤ s.size) : ∀ (m p k : Nat), p + m = q → recoupref09_Where.l0 (k + 2 * m + 2) s (q : Int) ((posF s p).1 : Int) ((posF s p).2 : Int) (p : Int) = some (((posF s q).1 : Int), ((posF s q).2 : Int))
  | 0, p, k, h => by
    obtain rfl : p = q := by omega
    simp only [recoupref09_Where.l0, recoupref09_Where.j1]
    by_cases c : (p : Int) < (s.size : Int)
    · rw [if_pos c, decide_eq_false (by omega)]; simp
    · rw [if_neg c]; simp
  | m + 1, p, k, h => by
    have ih := where_l s hz q hq m (p + 1) k (by omega)
    have hb := posF_le s p
    show recoupref09_Where.l0 ((k + 2 * m + 2) + 1 + 1) s (q : Int) _ _ (p : Int) = _
    generalize k + 2 * m + 2 = K at ih ⊢
    simp only [recoupref09_Where.l0, recoupref09_Where.j1]
    have ew : wrap64 ((p : Int) + 1) = ((p + 1 : Nat) : Int) := by rw [w64 (by omega) (by omega)]; omega
    rw [if_pos (by omega), decide_eq_true (by omega)]
    simp only [if_true]
    rw [if_pos (by omega), if_pos (by omega), ew]
    rw [posF] at ih
    by_cases c : bt s (p : Int) = 10
    · rw [if_pos c] at ih ⊢
      rw [w64 (by omega) (by omega)]
      exact ih
    · rw [if_neg c] at ih ⊢
      rw [w64 (by omega) (by omega)]
      exact ih
theorem refFault (s : ByteArray) (hz : s.size ≤ 65536) (q : Nat) (hq : q ≤ s.size) : recoupref09_Fault.f (2 * q + 2) 90 s (q : Int) = some (90, ((posF s q).1 : Int), ((posF s q).2 : Int)) := by
  have h := where_l s hz q hq q 0 0 (by omega)
  rw [Nat.zero_add] at h
  unfold recoupref09_Fault.f recoupref09_Where.f
  have h' : recoupref09_Where.l0 (2 * q + 2) s (q : Int) 1 1 0 = some (((posF s q).1 : Int), ((posF s q).2 : Int)) := h
  rw [h']; rfl
/-! numbers -/
def numG (s : ByteArray) : Nat → Nat → Nat → Int
  | 0, _, acc => if bt s 0 = 48 ∧ s.size > 1 then -1 else acc
  | m + 1, p, acc => if 10 * (acc : Int) + ((bt s p - 48) % 256) > 2147483647 then -1 else numG s m (p + 1) (10 * acc + ((bt s p - 48) % 256).toNat)
theorem num_l (s : ByteArray) (hz : s.size ≤ 65536) (h0 : 0 < s.size) : ∀ (m p k acc : Nat), p + m = s.size → acc ≤ 2147483647 → recoupref09_number.l0 (k + m + 1) s (acc : Int) (p : Int) = some (numG s m p acc)
  | 0, p, k, acc, h, ha => by
    simp only [recoupref09_number.l0]
    rw [if_neg (by omega), if_pos (by omega)]
    unfold numG
    by_cases c : bt s 0 = 48
    · rw [if_pos c]
      by_cases c2 : (s.size : Int) > 1
      · rw [if_pos c2, if_pos ⟨c, by omega⟩]
      · rw [if_neg c2, if_neg (fun h => c2 (by have := h.2; omega))]
    · rw [if_neg c, if_neg (fun h => c h.1)]
  | m + 1, p, k, acc, h, ha => by
    show recoupref09_number.l0 ((k + m + 1) + 1) s (acc : Int) (p : Int) = _
    have ew : wrap64 ((p : Int) + 1) = ((p + 1 : Nat) : Int) := by rw [w64 (by omega) (by omega)]; omega
    have hm : 0 ≤ (bt s p - 48) % 256 ∧ (bt s p - 48) % 256 < 256 := by omega
    have e2 : wrap64 (wrap64 (10 * (acc : Int)) + (bt s p - 48) % 256) = 10 * (acc : Int) + (bt s p - 48) % 256 := by rw [w64 (n := 10 * (acc : Int)) (by omega) (by omega), w64 (by omega) (by omega)]
    rw [numG]
    by_cases c : 10 * (acc : Int) + (bt s p - 48) % 256 > 2147483647
    · rw [if_pos c]
      simp only [recoupref09_number.l0]
      rw [if_pos (by omega), if_pos (by omega), e2, if_pos c]
    · rw [if_neg c]
      have ih := num_l s hz h0 m (p + 1) k (10 * acc + ((bt s p - 48) % 256).toNat) (by omega) (by omega)
      generalize k + m + 1 = K at ih ⊢
      simp only [recoupref09_number.l0]
      rw [if_pos (by omega), if_pos (by omega), e2, if_neg c, ew]
      rw [show (((10 * acc + ((bt s p - 48) % 256).toNat : Nat) : Int)) = 10 * (acc : Int) + (bt s p - 48) % 256 by omega] at ih
      exact ih
def numP (t : ByteArray) : Int := numG t t.size 0 0
theorem refNumberT (t : ByteArray) (hz : t.size ≤ 65536) (h0 : 0 < t.size) : recoupref09_number.f (t.size + 1) t = some (numP t) := by
  have h := num_l t hz h0 t.size 0 0 0 (by omega) (by omega)
  rw [Nat.zero_add] at h
  exact h
theorem endP_le (s : ByteArray) (b : Bool) (p : Nat) (hp : p ≤ s.size) : p ≤ endP s b p ∧ endP s b p ≤ s.size := endF_le s b (s.size - p) p hp
theorem endP_lt (s : ByteArray) (b : Bool) (p : Nat) (hp : p < s.size) (h : (isDigit (bt s p) || (b && isLetter (bt s p))) = true) : p < endP s b p := by
  unfold endP
  rw [show s.size - p = (s.size - (p + 1)) + 1 by omega, endF, if_pos ⟨hp, h⟩]
  have := (endF_le s b (s.size - (p + 1)) (p + 1) (by omega)).1
  omega
/-! words and digits -/
theorem bytes_eq {a b : ByteArray} (h : a.toList = b.toList) : a = b := by
  rw [ByteArray.toList_eq, ByteArray.toList_eq] at h
  cases a; cases b
  exact congrArg ByteArray.mk (Array.toList_inj.1 h)
theorem word_name {t : ByteArray} (h : wordIn wordList t = true) : nameText t = true := by
  unfold wordIn at h
  obtain ⟨x, hx, he⟩ := List.any_eq_true.1 h
  have e : t = x := bytes_eq (of_decide_eq_true he)
  have hall : ∀ y ∈ wordList, nameText y = true := by decide +kernel
  rw [e]; exact hall x hx
end Go.Proofs.YtbljojjacfmggaaDoor.E
