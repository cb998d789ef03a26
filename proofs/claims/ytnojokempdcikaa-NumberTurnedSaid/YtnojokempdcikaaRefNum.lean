/-
  Names, expressions and environments: what the document's answer tells of them is what the program tells.
-/
import Derived.Test.YtnojokempdcikaaPAM2
import Derived.Test.YtnojokempdcikaaPAM1
import Derived.Test.YtnojokempdcikaaPAKinds
namespace Go.Proofs.Ytnojokempdcikaa.Pure
open Go Go.RowKit Go.Proofs.Ytnojokempdcikaa.PA Go.Proofs.YtnojokempdcikaaW.PrintWords Go.Proofs.YtnojokempdcikaaW.PrintLast Go.Proofs.YtnojokempdcikaaW.PrintMore

theorem up {α : Type} {f : Nat → Option α} (hm : ∀ k, LeO (f k) (f (k + 1))) {k m : Nat} (h : k ≤ m) {r : α} (e : f k = some r) : f m = some r := by
  induction m with
  | zero => obtain rfl : k = 0 := by omega
            exact e
  | succ m ih =>
    by_cases c : k = m + 1
    · subst c; exact e
    · exact hm m r (ih (by omega))
theorem w64 {n : Int} (h : -9223372036854775808 ≤ n) (h1 : n < 9223372036854775808) : wrap64 n = n := by unfold wrap64; omega
/-! words and names -/
theorem word_at_drop (i : Nat) (h : i < 17) : wordList.drop i = rdOf ByteArray.empty wordList (i : Int) :: wordList.drop (i + 1) := by
  have h1 : i < wordList.length := by rw [wordList_length]; exact h
  rw [List.drop_eq_getElem_cons h1]
  unfold rdOf
  rw [Int.toNat_natCast, List.getD_eq_getElem?_getD, List.getElem?_eq_getElem h1]; rfl
theorem refWord_l (a : ByteArray) : ∀ (m i k : Nat), i + m = 17 → recoupref09_Word.l0 (k + m + 1) a wordList (i : Int) = some (wordIn (wordList.drop i) a)
  | 0, i, k, h => by
    simp only [recoupref09_Word.l0]
    rw [wordList_length, if_neg (by omega), List.drop_eq_nil_of_le (by rw [wordList_length]; omega)]
    rfl
  | m + 1, i, k, h => by
    have ih := refWord_l a m (i + 1) k (by omega)
    show recoupref09_Word.l0 ((k + m + 1) + 1) a wordList (i : Int) = _
    generalize k + m + 1 = K at ih ⊢
    simp only [recoupref09_Word.l0]
    rw [wordList_length, if_pos (by omega), if_pos (by omega), word_at_drop i (by omega)]
    unfold wordIn
    rw [List.any_cons]
    by_cases e : (rdOf ByteArray.empty wordList (i : Int)).toList = a.toList
    · rw [if_pos e, decide_eq_true e.symm]; rfl
    · rw [if_neg e, decide_eq_false (fun h => e h.symm), Bool.false_or, w64 (by omega) (by omega)]
      exact ih
theorem refWord (a : ByteArray) : recoupref09_Word.f 18 a = some (wordIn wordList a) := by
  have h := refWord_l a 17 0 0 (by omega)
  exact h
theorem refLetter (c : Int) : recoupref09_letter.f c = some (isLetter c) := by
  unfold recoupref09_letter.f isLetter
  by_cases h : c ≥ 97
  · rw [if_pos h]; exact congrArg some (decide_eq_decide.2 (by omega))
  · rw [if_neg h]; exact congrArg some (decide_eq_false (by omega)).symm
theorem refDigit (c : Int) : recoupref09_digit.f c = some (isDigit c) := by
  unfold recoupref09_digit.f isDigit
  by_cases h : c ≥ 48
  · rw [if_pos h]; exact congrArg some (decide_eq_decide.2 (by omega))
  · rw [if_neg h]; exact congrArg some (decide_eq_false (by omega)).symm
def allLD (s : ByteArray) : Nat → Nat → Bool
  | 0, _ => true
  | m + 1, i => (isLetter (bt s i) || isDigit (bt s i)) && allLD s m (i + 1)
theorem allLD_name (s : ByteArray) : ∀ (m i : Nat), 1 ≤ i → nameFrom s m i = allLD s m i
  | 0, _, _ => rfl
  | m + 1, i, h => by
    have e : decide (i ≠ 0) = true := decide_eq_true (by omega)
    show ((isLetter (bt s i) || (isDigit (bt s i) && decide (i ≠ 0))) && nameFrom s m (i + 1)) = _
    rw [e, Bool.and_true, allLD_name s m (i + 1) (by omega)]; rfl
theorem refName_l (s : ByteArray) (hs : s.size ≤ 9223372036854775807) : ∀ (m i k : Nat), i + m = s.size → recoupref09_Name.l0 (k + m + 1) s (i : Int) = some (allLD s m i)
  | 0, i, k, h => by
    simp only [recoupref09_Name.l0]
    rw [if_neg (by omega)]; rfl
  | m + 1, i, k, h => by
    have ih := refName_l s hs m (i + 1) k (by omega)
    show recoupref09_Name.l0 ((k + m + 1) + 1) s (i : Int) = some ((isLetter (bt s i) || isDigit (bt s i)) && allLD s m (i + 1))
    generalize k + m + 1 = K at ih ⊢
    simp only [recoupref09_Name.l0]
    have ew : wrap64 ((i : Int) + 1) = ((i + 1 : Nat) : Int) := by rw [w64 (by omega) (by omega)]; omega
    rw [if_pos (by omega), if_pos (by omega), refLetter, refDigit, ew, ih]
    cases isLetter (bt s i) <;> cases isDigit (bt s i) <;> simp
theorem refName (s : ByteArray) (hs : s.size ≤ 9223372036854775807) : recoupref09_Name.f (s.size + 20) s = some (nameOk s) := by
  unfold recoupref09_Name.f nameOk nameText
  by_cases c1 : (s.size : Int) < 1
  · rw [if_pos c1]
    have c1' : ¬ 1 ≤ s.size := by omega
    rw [decide_eq_false c1', Bool.false_and, Bool.and_false, Bool.false_and]
    simp only [recoupref09_Name.j0, if_true]
  · rw [if_neg c1]
    by_cases c2 : (s.size : Int) > 16
    · rw [if_pos c2]
      have c2' : ¬ s.size ≤ 16 := by omega
      rw [decide_eq_false c2', Bool.and_false, Bool.and_false, Bool.false_and]
      simp only [recoupref09_Name.j0, if_true]
    · rw [if_neg c2, if_pos (by omega), refLetter]
      have c1' : 1 ≤ s.size := by omega
      have c2' : s.size ≤ 16 := by omega
      obtain ⟨m, hm⟩ : ∃ m, s.size = m + 1 := ⟨s.size - 1, by omega⟩
      have hw := up (f := fun k => recoupref09_Word.f k s) (recoupref09_Word.mono s) (show 18 ≤ s.size + 20 by omega) (refWord s)
      have hl := refName_l s hs s.size 0 18 (by omega)
      rw [decide_eq_true c1', decide_eq_true c2', Bool.and_true, Bool.and_true]
      simp only [Option.bind_some]
      have hn : nameFrom s s.size 0 = (isLetter (bt s 0) && allLD s m 1) := by
        rw [hm]
        show ((isLetter (bt s (0 : Nat)) || (isDigit (bt s (0 : Nat)) && decide (0 ≠ 0))) && nameFrom s m 1) = _
        rw [allLD_name s m 1 (by omega)]
        simp
      rw [hn]
      cases h0 : isLetter (bt s 0)
      · simp only [recoupref09_Name.j0, Bool.false_eq_true, if_false, if_true, Bool.false_and]
      · have ha : allLD s s.size 0 = allLD s m 1 := by
          rw [hm]
          show ((isLetter (bt s (0 : Nat)) || isDigit (bt s (0 : Nat))) && allLD s m 1) = _
          have h0' : isLetter (bt s ((0 : Nat) : Int)) = true := h0
          rw [h0']; simp
        have hw' : recoupref09_Word.f (s.size + 20) s = some (wordIn wordList s) := hw
        rw [if_pos rfl, hw', Option.bind_some, Bool.true_and]
        have hl' : recoupref09_Name.l0 (s.size + 19) s 0 = some (allLD s s.size 0) := by
          have : 18 + s.size + 1 = s.size + 19 := by omega
          rw [this] at hl; exact hl
        cases wordIn wordList s
        · show recoupref09_Name.j0 ((s.size + 19) + 1) s false = _
          simp only [recoupref09_Name.j0, Bool.false_eq_true, if_false]
          rw [hl', ha]; simp
        · simp [recoupref09_Name.j0]
/-! expressions -/
theorem small_of : ∀ (n : Nat) (x : S25), G25 x → smallB n x = true
  | 0, _, _ => rfl
  | n + 1, x, h => by
    obtain ⟨_, _, h2, ⟨_, h3⟩, _, _⟩ := (G25_iff x).1 h
    have h2' : x.f2.size ≤ 9223372036854775807 := h2
    simp only [smallB, Bool.and_eq_true, decide_eq_true_iff, List.all_eq_true]
    exact ⟨h2', fun y hy => small_of n y (h3 y hy)⟩
theorem xexprs_le (f : S25 → Int → Int × Int) (n : Nat) (hn : n ≤ 1000000) (hf : ∀ x left, 0 ≤ left → left ≤ 8192 → 0 ≤ (f x left).1 ∧ (f x left).1 ≤ n ∧ ((f x left).1 ≠ 0 → 0 ≤ (f x left).2 ∧ (f x left).2 ≤ 8192)) :
    ∀ (l : List S25) (d left : Int), 0 ≤ d → d ≤ n → 0 ≤ left → left ≤ 8192 → 0 ≤ (xexprs f l d left).1 ∧ (xexprs f l d left).1 ≤ n + 1 ∧ ((xexprs f l d left).1 ≠ 0 → 0 ≤ (xexprs f l d left).2 ∧ (xexprs f l d left).2 ≤ 8192)
  | [], d, left, hd, hdn, h0, h1 => by
    simp only [xexprs]
    rw [w64 (by omega) (by omega)]
    exact ⟨by omega, by omega, fun _ => ⟨h0, h1⟩⟩
  | p :: ps, d, left, hd, hdn, h0, h1 => by
    obtain ⟨a, b, c⟩ := hf p left h0 h1
    simp only [xexprs]
    by_cases e : (f p left).1 = 0
    · rw [if_pos e]; exact ⟨by simp, by simp; omega, fun h => absurd rfl h⟩
    · rw [if_neg e]
      exact xexprs_le f n hn hf ps _ _ (by split <;> omega) (by split <;> omega) (c e).1 (c e).2
theorem xexpr_le : ∀ (n : Nat), n ≤ 1000000 → ∀ (x : S25) (left : Int), 0 ≤ left → left ≤ 8192 → 0 ≤ (xexpr n x left).1 ∧ (xexpr n x left).1 ≤ n ∧ ((xexpr n x left).1 ≠ 0 → 0 ≤ (xexpr n x left).2 ∧ (xexpr n x left).2 ≤ 8192)
  | 0, _, x, left, h0, h1 => by simp [xexpr]
  | n + 1, hn, x, left, h0, h1 => by
    have ih := xexpr_le n (by omega)
    simp only [xexpr]
    rw [w64 (n := left - 1) (by omega) (by omega)]
    by_cases c : left - 1 < 0
    · rw [if_pos c]; exact ⟨by simp, by simp; omega, fun h => absurd rfl h⟩
    · rw [if_neg c]
      cases exprParts x with
      | none => exact ⟨by simp, by simp; omega, fun h => absurd rfl h⟩
      | some p =>
        dsimp only
        by_cases e : (x.f3.length : Int) = p
        · rw [if_pos e]
          have h := xexprs_le (xexpr n) n (by omega) ih x.f3 0 (left - 1) (by omega) (by omega) (by omega) (by omega)
          refine ⟨h.1, ?_, h.2.2⟩
          have := h.2.1; push_cast; omega
        · rw [if_neg e]; exact ⟨by simp, by simp; omega, fun h => absurd rfl h⟩
def rleft (p : Int × Int) : Int := if p.1 = 0 then -1 else p.2
def refE (k : Nat) (x : S25) (left deep : Int) : Option Int := recoupref10_expr.f k x.f0 x.f1 x.f2 x.f3 x.f4 x.f5 left deep
theorem refE_mono (x : S25) (left deep : Int) (k : Nat) : LeO (refE k x left deep) (refE (k + 1) x left deep) := recoupref10_expr.mono _ _ _ _ _ _ _ _ k
def refL (k : Nat) (x : S25) (left deep i : Int) : Option Int := recoupref10_expr.l0 k left deep i x.f0 x.f1 x.f2 x.f3 x.f4 x.f5
theorem refL_mono (x : S25) (left deep i : Int) (k : Nat) : LeO (refL k x left deep i) (refL (k + 1) x left deep i) := (recoupref10_expr.mono_l k).2.2.2.2 _ _ _ _ _ _ _ _ _
theorem refL_none (x : S25) (deep : Int) (i : Int) : refL 1 x (-1) deep i = some (-1) := by
  unfold refL
  simp only [recoupref10_expr.l0]
  split
  · rw [if_neg (by omega)]
  · rfl
theorem refL_ok (x : S25) (n : Nat) (hn : n ≤ 1000000) (hl : x.f3.length ≤ 2) (ih : ∀ y ∈ x.f3, ∀ left, 0 ≤ left → left ≤ 8192 → ∃ k, refE k y left n = some (rleft (xexpr n y left))) :
    ∀ (m i : Nat) (d left : Int), i + m = x.f3.length → 0 ≤ d → d ≤ n → 0 ≤ left → left ≤ 8192 → ∃ k, refL k x left ((n : Int) + 1) (i : Int) = some (rleft (xexprs (xexpr n) (x.f3.drop i) d left))
  | 0, i, d, left, h, hd, hdn, h0, h1 => by
    refine ⟨1, ?_⟩
    unfold refL
    simp only [recoupref10_expr.l0]
    rw [if_neg (by omega), List.drop_eq_nil_of_le (by omega)]
    have hr : rleft (wrap64 (d + 1), left) = left := by
      unfold rleft
      exact if_neg (by show ¬ wrap64 (d + 1) = 0; rw [w64 (by omega) (by omega)]; omega)
    simp only [xexprs]
    rw [hr]
  | m + 1, i, d, left, h, hd, hdn, h0, h1 => by
    have hik : i < x.f3.length := by omega
    obtain ⟨k1, hk1⟩ := ih _ (rd_mem25 x.f3 i hik) left h0 h1
    have hb := xexpr_le n hn (rd_T25 x.f3 (i : Int)) left h0 h1
    rw [rd_drop25 x.f3 i hik]
    simp only [xexprs]
    have ew : wrap64 ((i : Int) + 1) = ((i + 1 : Nat) : Int) := by rw [w64 (by omega) (by omega)]; omega
    have ed : wrap64 ((n : Int) + 1 - 1) = (n : Int) := by rw [w64 (by omega) (by omega)]; omega
    by_cases e : (xexpr n (rd_T25 x.f3 (i : Int)) left).1 = 0
    · rw [if_pos e]
      have hr : rleft (xexpr n (rd_T25 x.f3 (i : Int)) left) = -1 := by unfold rleft; rw [if_pos e]
      rw [hr] at hk1
      have a := up (refE_mono _ _ _) (show k1 ≤ k1 + 1 by omega) hk1
      have b := up (refL_mono x (-1) ((n : Int) + 1) ((i + 1 : Nat) : Int)) (show 1 ≤ k1 + 1 by omega) (refL_none x _ _)
      refine ⟨k1 + 1 + 1, ?_⟩
      unfold refL refE at *
      generalize k1 + 1 = KK at a b ⊢
      simp only [recoupref10_expr.l0]
      rw [if_pos (by omega), if_pos (by omega), if_pos (by omega), ed, ew, a, Option.bind_some, b]
      rfl
    · rw [if_neg e]
      have hr : rleft (xexpr n (rd_T25 x.f3 (i : Int)) left) = (xexpr n (rd_T25 x.f3 (i : Int)) left).2 := by unfold rleft; rw [if_neg e]
      rw [hr] at hk1
      obtain ⟨k2, hk2⟩ := refL_ok x n hn hl ih m (i + 1) (if d < (xexpr n (rd_T25 x.f3 (i : Int)) left).1 then (xexpr n (rd_T25 x.f3 (i : Int)) left).1 else d) _ (by omega) (by split <;> omega) (by split <;> omega) (hb.2.2 e).1 (hb.2.2 e).2
      have a := up (refE_mono _ _ _) (show k1 ≤ k1 + k2 by omega) hk1
      have b := up (refL_mono x _ _ _) (show k2 ≤ k1 + k2 by omega) hk2
      refine ⟨k1 + k2 + 1, ?_⟩
      unfold refL refE at *
      generalize k1 + k2 = KK at a b ⊢
      simp only [recoupref10_expr.l0]
      rw [if_pos (by omega), if_pos (by omega), if_pos (by omega), ed, ew, a, Option.bind_some]
      exact b
def refJ1 (k : Nat) (x : S25) (left deep want : Int) : Option Int := recoupref10_expr.j1 k left deep want x.f0 x.f1 x.f2 x.f3 x.f4 x.f5
theorem refJ1_mono (x : S25) (left deep want : Int) (k : Nat) : LeO (refJ1 k x left deep want) (refJ1 (k + 1) x left deep want) := (recoupref10_expr.mono_l k).2.2.1 _ _ _ _ _ _ _ _ _
theorem refJ1_ok (x : S25) (left deep p : Int) (k : Nat) (r : Int) (hl : (x.f3.length : Int) = p) (hp : p > 0 → x.f1 = 0 ∧ x.f2.toList = ([] : List UInt8)) (h : refL k x left deep 0 = some r) : refJ1 (k + 2) x left deep p = some r := by
  unfold refJ1 refL at *
  simp only [recoupref10_expr.j1]
  rw [if_pos hl]
  by_cases c : p > 0
  · obtain ⟨h1, h2⟩ := hp c
    have e : (x.f2.toList != ([] : List UInt8)) = false := bne_eq_false_iff_eq.mpr h2
    rw [if_pos c, if_pos h1, e]
    simp only [recoupref10_expr.j2, Bool.false_eq_true, if_false]
    exact h
  · rw [if_neg c]
    simp only [recoupref10_expr.j2, Bool.false_eq_true, if_false]
    exact h
theorem refJ1_no (x : S25) (left deep p : Int) (k : Nat) (h : (x.f3.length : Int) ≠ p ∨ (p > 0 ∧ ¬ (x.f1 = 0 ∧ x.f2.toList = ([] : List UInt8)))) : refJ1 (k + 2) x left deep p = some (-1) := by
  unfold refJ1
  simp only [recoupref10_expr.j1, recoupref10_expr.j2, if_true]
  by_cases hl : (x.f3.length : Int) = p
  · rw [if_pos hl]
    rcases h with h | ⟨h1, h2⟩
    · exact absurd hl h
    · rw [if_pos h1]
      by_cases c : x.f1 = 0
      · have e : (x.f2.toList != ([] : List UInt8)) = true := bne_iff_ne.mpr (fun e => h2 ⟨c, e⟩)
        rw [if_pos c, e]; simp
      · rw [if_neg c]
  · rw [if_neg hl]
theorem refE_ok : ∀ (n : Nat), n ≤ 1000000 → ∀ (x : S25), G25 x → ∀ left, 0 ≤ left → left ≤ 8192 → ∃ k, refE k x left n = some (rleft (xexpr n x left))
  | 0, _, x, _, left, h0, h1 => by
    refine ⟨2, ?_⟩
    unfold refE
    simp only [recoupref10_expr.f, recoupref10_expr.j0, xexpr, rleft, if_true]
    split <;> rfl
  | n + 1, hn, x, hx, left, h0, h1 => by
    obtain ⟨_, _, h2, ⟨_, h3⟩, _, _⟩ := (G25_iff x).1 hx
    have h2' : x.f2.size ≤ 9223372036854775807 := h2
    have hw : wrap64 (left - 1) = left - 1 := w64 (by omega) (by omega)
    have hd : (((n + 1 : Nat) : Int) == 0) = false := beq_eq_false_iff_ne.2 (by omega)
    have hne : ¬ (((n + 1 : Nat) : Int)) = 0 := by omega
    by_cases c : left - 1 < 0
    · refine ⟨2, ?_⟩
      unfold refE
      simp only [recoupref10_expr.f, recoupref10_expr.j0, xexpr, hw]
      rw [if_pos c, if_pos trivial, if_pos c]; rfl
    · -- the parts' loop
      have hloop : ∀ p : Int, exprParts x = some p → (x.f3.length : Int) = p → ∃ k, refL k x (left - 1) ((n : Int) + 1) 0 = some (rleft (xexpr (n + 1) x left)) := by
        intro p hp he
        have hle := exprParts_le x p hp
        obtain ⟨k, hk⟩ := refL_ok x n (by omega) (by omega) (fun y hy => refE_ok n (by omega) y (h3 y hy)) x.f3.length 0 0 (left - 1) (by omega) (by omega) (by omega) (by omega) (by omega)
        refine ⟨k, ?_⟩
        have e : xexpr (n + 1) x left = xexprs (xexpr n) x.f3 0 (left - 1) := by
          simp only [xexpr, hw]
          rw [if_neg c, hp]
          dsimp only
          rw [if_pos he]
        rw [e]
        exact hk
      have hno : (∀ p : Int, exprParts x = some p → (x.f3.length : Int) ≠ p) → rleft (xexpr (n + 1) x left) = -1 := by
        intro h
        simp only [xexpr, hw]
        rw [if_neg c]
        cases hp : exprParts x with
        | none => rfl
        | some p => dsimp only; rw [if_neg (h p hp)]; rfl
      have e1 : (((n + 1 : Nat) : Int)) = (n : Int) + 1 := by push_cast; rfl
      have fin : ∀ p : Int, exprParts x = some p → (p > 0 → x.f1 = 0 ∧ x.f2.toList = ([] : List UInt8)) → ∃ k, refJ1 k x (left - 1) ((n : Int) + 1) p = some (rleft (xexpr (n + 1) x left)) := by
        intro p hp h0
        by_cases hl : (x.f3.length : Int) = p
        · obtain ⟨k, hk⟩ := hloop p hp hl
          exact ⟨k + 2, refJ1_ok x _ _ p k _ hl h0 hk⟩
        · refine ⟨2, ?_⟩
          rw [hno (fun p' hp' => by rw [hp] at hp'; cases hp'; exact hl)]
          exact refJ1_no x _ _ p 0 (.inl hl)
      have finNo : ∀ p : Int, p > 0 → exprParts x = none → ¬ (x.f1 = 0 ∧ x.f2.toList = ([] : List UInt8)) → ∃ k, refJ1 k x (left - 1) ((n : Int) + 1) p = some (rleft (xexpr (n + 1) x left)) := by
        intro p hp h0 hb
        refine ⟨2, ?_⟩
        rw [hno (fun p' hp' => by rw [h0] at hp'; cases hp')]
        exact refJ1_no x _ _ p 0 (.inr ⟨hp, hb⟩)
      have no : exprParts x = none → rleft (xexpr (n + 1) x left) = -1 := fun h => hno (fun p' hp' => by rw [h] at hp'; cases hp')
      rw [e1]
      have start : ∀ k, refE (k + 2) x left ((n : Int) + 1) = recoupref10_expr.j0 (k + 1) (left - 1) ((n : Int) + 1) false x.f0 x.f1 x.f2 x.f3 x.f4 x.f5 := by
        intro k
        unfold refE
        simp only [recoupref10_expr.f, hw]
        rw [if_neg c, ← e1, hd]
      have lift : ∀ p : Int, (∀ k, refJ1 k x (left - 1) ((n : Int) + 1) p = recoupref10_expr.j0 (k + 1) (left - 1) ((n : Int) + 1) false x.f0 x.f1 x.f2 x.f3 x.f4 x.f5) → (∃ k, refJ1 k x (left - 1) ((n : Int) + 1) p = some (rleft (xexpr (n + 1) x left))) → ∃ k, refE k x left ((n : Int) + 1) = some (rleft (xexpr (n + 1) x left)) := by
        rintro p h ⟨k, hk⟩
        exact ⟨k + 2, by rw [start, ← h]; exact hk⟩
      by_cases k1 : x.f0 = 1
      · by_cases d1 : x.f1 < 0
        · have hp : exprParts x = none := by unfold exprParts; rw [if_pos k1, if_pos d1]
          refine ⟨2, ?_⟩
          rw [start, no hp]
          simp only [recoupref10_expr.j0, Bool.false_eq_true, if_false]
          rw [if_pos k1, if_pos d1]
        · by_cases d2 : x.f1 > 2147483647
          · have hp : exprParts x = none := by unfold exprParts; rw [if_pos k1, if_neg d1, if_pos d2]
            refine ⟨2, ?_⟩
            rw [start, no hp]
            simp only [recoupref10_expr.j0, Bool.false_eq_true, if_false]
            rw [if_pos k1, if_neg d1, if_pos d2]
          · by_cases d3 : x.f2.toList = ([] : List UInt8)
            · have hp : exprParts x = some 0 := by unfold exprParts; rw [if_pos k1, if_neg d1, if_neg d2, if_pos d3]
              refine lift 0 (fun k => ?_) (fin 0 hp (fun h => by omega))
              simp only [recoupref10_expr.j0, Bool.false_eq_true, if_false]
              rw [if_pos k1, if_neg d1, if_neg d2, if_pos d3]; rfl
            · have hp : exprParts x = none := by unfold exprParts; rw [if_pos k1, if_neg d1, if_neg d2, if_neg d3]
              refine ⟨2, ?_⟩
              rw [start, no hp]
              simp only [recoupref10_expr.j0, Bool.false_eq_true, if_false]
              rw [if_pos k1, if_neg d1, if_neg d2, if_neg d3]
      · by_cases k2 : x.f0 = 2
        · by_cases d1 : x.f1 = 0
          · have hN := refName x.f2 h2'
            cases d2 : nameOk x.f2 with
            | true =>
              have hp : exprParts x = some 0 := by unfold exprParts; rw [if_neg k1, if_pos k2, if_pos d1, if_pos d2]
              obtain ⟨k, hk⟩ := fin 0 hp (fun h => by omega)
              have a := up (refJ1_mono x _ _ _) (show k ≤ k + (x.f2.size + 20) by omega) hk
              have b := up (f := fun k => recoupref09_Name.f k x.f2) (recoupref09_Name.mono x.f2) (show x.f2.size + 20 ≤ k + (x.f2.size + 20) by omega) hN
              refine ⟨k + (x.f2.size + 20) + 2, ?_⟩
              rw [start]
              unfold refJ1 at a
              generalize k + (x.f2.size + 20) = KK at a b ⊢
              try dsimp only at b
              simp only [recoupref10_expr.j0, Bool.false_eq_true, if_false]
              rw [if_neg k1, if_pos k2, if_pos d1, b, d2, Option.bind_some, if_pos rfl]
              exact a
            | false =>
              have hp : exprParts x = none := by unfold exprParts; rw [if_neg k1, if_pos k2, if_pos d1, d2]; rfl
              refine ⟨(x.f2.size + 20) + 2, ?_⟩
              rw [start, no hp]
              generalize x.f2.size + 20 = KK at hN ⊢
              simp only [recoupref10_expr.j0, Bool.false_eq_true, if_false]
              rw [if_neg k1, if_pos k2, if_pos d1, hN, d2, Option.bind_some, if_neg (by simp)]
          · have hp : exprParts x = none := by unfold exprParts; rw [if_neg k1, if_pos k2, if_neg d1]
            refine ⟨2, ?_⟩
            rw [start, no hp]
            simp only [recoupref10_expr.j0, Bool.false_eq_true, if_false]
            rw [if_neg k1, if_pos k2, if_neg d1]
        · have two : ∀ p : Int, p > 0 → (exprParts x = (if x.f1 = 0 then (if x.f2.toList = ([] : List UInt8) then some p else none) else none)) → ∃ k, refJ1 k x (left - 1) ((n : Int) + 1) p = some (rleft (xexpr (n + 1) x left)) := by
            intro p hp0 hp
            by_cases d1 : x.f1 = 0
            · by_cases d3 : x.f2.toList = ([] : List UInt8)
              · rw [if_pos d1, if_pos d3] at hp
                exact fin p hp (fun _ => ⟨d1, d3⟩)
              · rw [if_pos d1, if_neg d3] at hp
                exact finNo p hp0 hp (fun h => d3 h.2)
            · rw [if_neg d1] at hp
              exact finNo p hp0 hp (fun h => d1 h.1)
          by_cases k3 : x.f0 = 3
          · refine lift 1 (fun k => ?_) (two 1 (by omega) (by unfold exprParts; rw [if_neg k1, if_neg k2, if_pos k3]))
            simp only [recoupref10_expr.j0, Bool.false_eq_true, if_false]
            rw [if_neg k1, if_neg k2, if_pos k3]; rfl
          · by_cases k4 : x.f0 = 4 ∨ x.f0 = 5 ∨ x.f0 = 6 ∨ x.f0 = 7 ∨ x.f0 = 8
            · refine lift 2 (fun k => ?_) (two 2 (by omega) (by unfold exprParts; rw [if_neg k1, if_neg k2, if_neg k3, if_pos k4]))
              simp only [recoupref10_expr.j0, Bool.false_eq_true, if_false]
              rw [if_neg k1, if_neg k2, if_neg k3]
              rcases k4 with h | h | h | h | h <;> rw [h] <;> simp [refJ1, h]
            · have hp : exprParts x = none := by unfold exprParts; rw [if_neg k1, if_neg k2, if_neg k3, if_neg k4]
              refine ⟨2, ?_⟩
              rw [start, no hp]
              simp only [recoupref10_expr.j0, Bool.false_eq_true, if_false]
              simp only [not_or] at k4
              rw [if_neg k1, if_neg k2, if_neg k3, if_neg k4.1, if_neg k4.2.1, if_neg k4.2.2.1, if_neg k4.2.2.2.1, if_neg k4.2.2.2.2]
/-- May an expression be? -/
def mayE (x : S25) : Bool := decide ((xexpr 16 x 8192).1 > 0)
theorem may_prog (x : S25) (h : G25 x) : tree_MayExpr.f x.f0 x.f1 x.f2 x.f3 x.f4 x.f5 = some (mayE x) := by
  unfold tree_MayExpr.f mayE
  rw [if_pos (show smallB 16 ⟨x.f0, x.f1, x.f2, x.f3, x.f4, x.f5⟩ = true from small_of 16 x h)]
  rfl
theorem may_ref (x : S25) (h : G25 x) : ∃ k, recoupref10_MayExpr.f k x.f0 x.f1 x.f2 x.f3 x.f4 x.f5 = some (mayE x) := by
  obtain ⟨k, hk⟩ := refE_ok 16 (by omega) x h 8192 (by omega) (by omega)
  have hb := xexpr_le 16 (by omega) x 8192 (by omega) (by omega)
  refine ⟨k, ?_⟩
  unfold recoupref10_MayExpr.f
  have hk' : recoupref10_expr.f k x.f0 x.f1 x.f2 x.f3 x.f4 x.f5 8192 16 = some (rleft (xexpr 16 x 8192)) := hk
  rw [hk', Option.bind_some]
  unfold mayE rleft
  by_cases e : (xexpr 16 x 8192).1 = 0
  · rw [if_pos e]; exact congrArg some (by rw [decide_eq_false (by omega), decide_eq_false (by omega)])
  · rw [if_neg e]
    have h1 := hb.2.2 e
    exact congrArg some (by rw [decide_eq_true (by omega), decide_eq_true (by omega)])
/-! environments -/
def refM0 (k : Nat) (l : List S54) (i : Int) : Option Bool := recoupref12_MayEnv.l0 k l i
theorem refM0_mono (l : List S54) (i : Int) (k : Nat) : LeO (refM0 k l i) (refM0 (k + 1) l i) := (recoupref12_MayEnv.mono_l k).1 _ _
theorem envGet_none : ∀ (l : List S54) (s : ByteArray), (∀ c ∈ l, c.f0.toList ≠ s.toList) → (envGet l s).isSome = false
  | [], _, _ => rfl
  | c :: l, s, h => by
    simp only [envGet]
    rw [if_neg (fun e => h c List.mem_cons_self ((envGet_toList _ _).1 e).symm)]
    exact envGet_none l s (fun d hd => h d (List.mem_cons_of_mem _ hd))
theorem envGet_some : ∀ (l : List S54) (s : ByteArray) (c : S54), c ∈ l → c.f0.toList = s.toList → (envGet l s).isSome = true
  | d :: l, s, c, hm, h => by
    simp only [envGet]
    by_cases e : s.data.toList = d.f0.data.toList
    · rw [if_pos e]; rfl
    · rw [if_neg e]
      rcases List.mem_cons.1 hm with rfl | hm
      · exact absurd ((envGet_toList _ _).2 h.symm) e
      · exact envGet_some l s c hm h
theorem take_memC (l : List S54) (i j : Nat) (h : j < i) (hi : i < l.length) : rd_T54 l (j : Int) ∈ l.take i := by
  have hj : j < l.length := by omega
  have : rd_T54 l (j : Int) = (l.take i)[j]'(by rw [List.length_take]; omega) := by
    unfold rd_T54
    rw [Int.toNat_natCast, List.getD_eq_getElem?_getD, List.getElem?_eq_getElem hj, List.getElem_take]; rfl
  rw [this]; exact List.getElem_mem _
theorem take_memC' (l : List S54) (i : Nat) (hi : i < l.length) (c : S54) (h : c ∈ l.take i) : ∃ j, j < i ∧ c = rd_T54 l (j : Int) := by
  obtain ⟨j, hj, rfl⟩ := List.mem_iff_getElem.1 h
  have hj' : j < i := by rw [List.length_take] at hj; omega
  refine ⟨j, hj', ?_⟩
  unfold rd_T54
  rw [Int.toNat_natCast, List.getD_eq_getElem?_getD, List.getElem?_eq_getElem (by omega), List.getElem_take]; rfl
/-- The inner loop: is a name among the first ones? -/
theorem refM1 (l : List S54) (hl : l.length ≤ 4611686018427387903) (i : Nat) (hi : i < l.length) (K : Nat) (r : Bool) (hr : refM0 K l ((i + 1 : Nat) : Int) = some r) : ∀ (m j : Nat), j + m = i → (∀ j', j' < j → (rd_T54 l (j' : Int)).f0.toList ≠ (rd_T54 l (i : Int)).f0.toList) →
    recoupref12_MayEnv.l1 (K + m + 1) l (i : Int) (j : Int) = some (if (envGet (l.take i) (rd_T54 l (i : Int)).f0).isSome = true then false else r)
  | 0, j, h, hno => by
    have ew : wrap64 ((i : Int) + 1) = ((i + 1 : Nat) : Int) := by rw [w64 (by omega) (by omega)]; omega
    have hn : (envGet (l.take i) (rd_T54 l (i : Int)).f0).isSome = false := envGet_none _ _ (fun c hc => by
      obtain ⟨j', hj', rfl⟩ := take_memC' l i hi c hc
      exact hno j' (by omega))
    unfold refM0 at hr
    simp only [recoupref12_MayEnv.l1]
    rw [if_neg (by omega), ew, hn, if_neg (by simp)]
    exact hr
  | m + 1, j, h, hno => by
    have ew : wrap64 ((j : Int) + 1) = ((j + 1 : Nat) : Int) := by rw [w64 (by omega) (by omega)]; omega
    show recoupref12_MayEnv.l1 ((K + m + 1) + 1) l (i : Int) (j : Int) = _
    by_cases e : (rd_T54 l (j : Int)).f0.toList = (rd_T54 l (i : Int)).f0.toList
    · have hy : (envGet (l.take i) (rd_T54 l (i : Int)).f0).isSome = true := envGet_some _ _ _ (take_memC l i j (by omega) hi) e
      generalize K + m + 1 = KK
      simp only [recoupref12_MayEnv.l1]
      rw [if_pos (by omega), if_pos (by omega), if_pos (by omega), if_pos (by omega), if_pos (by omega), if_pos e, hy, if_pos rfl]
    · have ih := refM1 l hl i hi K r hr m (j + 1) (by omega) (fun j' hj' => by
        by_cases c : j' = j
        · subst c; exact e
        · exact hno j' (by omega))
      generalize K + m + 1 = KK at ih ⊢
      simp only [recoupref12_MayEnv.l1]
      rw [if_pos (by omega), if_pos (by omega), if_pos (by omega), if_pos (by omega), if_pos (by omega), if_neg e, ew]
      exact ih
theorem refNumber (n : Int) : recoupref12_Number.f n = some (numOk n) := by
  unfold recoupref12_Number.f numOk
  by_cases c : n ≥ -2147483647
  · rw [if_pos c]; exact congrArg some (decide_eq_decide.2 (by omega))
  · rw [if_neg c]; exact congrArg some (decide_eq_false (by omega)).symm
theorem refEnv (l : List S54) (hl : l.length ≤ 4611686018427387903) (hg : ∀ c ∈ l, c.f0.size ≤ 9223372036854775807) : ∀ (m i : Nat), i + m = l.length → ∃ k r, refM0 k l (i : Int) = some r ∧ knownGo (l.drop i) (l.take i) = some r
  | 0, i, h => by
    refine ⟨1, true, ?_, ?_⟩
    · unfold refM0
      simp only [recoupref12_MayEnv.l0]
      rw [if_neg (by omega)]
    · rw [List.drop_eq_nil_of_le (by omega)]; rfl
  | m + 1, i, h => by
    have hi : i < l.length := by omega
    obtain ⟨K, r, h1, h2⟩ := refEnv l hl hg m (i + 1) (by omega)
    have hmem : rd_T54 l (i : Int) ∈ l := by
      unfold rd_T54
      rw [Int.toNat_natCast, List.getD_eq_getElem?_getD, List.getElem?_eq_getElem hi]; exact List.getElem_mem hi
    have hz := hg _ hmem
    have hN := refName _ hz
    have hj := refM1 l hl i hi K r h1 i 0 (by omega) (fun j' hj' => absurd hj' (by omega))
    rw [rd_drop54 l i hi]
    simp only [knownGo]
    rw [if_pos hz]
    have htk := rd_take54 l i hi
    rw [htk] at h2
    -- enough rounds for all
    obtain ⟨J, hJ⟩ : ∃ J, J = K + i + 1 + ((rd_T54 l (i : Int)).f0.size + 20) := ⟨_, rfl⟩
    have a := up (f := fun k => recoupref09_Name.f k (rd_T54 l (i : Int)).f0) (recoupref09_Name.mono _) (show (rd_T54 l (i : Int)).f0.size + 20 ≤ J + 1 by omega) hN
    have b := up (f := fun k => recoupref12_MayEnv.l1 k l (i : Int) ((0 : Nat) : Int)) (fun k => (recoupref12_MayEnv.mono_l k).2.2 _ _ _) (show K + i + 1 ≤ J by omega) hj
    try dsimp only at a b
    clear hJ hj hN
    have s1 : ∀ v, refM0 (J + 2) l (i : Int) = v ↔ ((recoupref09_Name.f (J + 1) (rd_T54 l (i : Int)).f0).bind fun t => (if t = true then ((recoupref12_Number.f (rd_T54 l (i : Int)).f1).bind fun t => (recoupref12_MayEnv.j1 (J + 1) l (i : Int) (!t))) else (recoupref12_MayEnv.j1 (J + 1) l (i : Int) true))) = v := by
      intro v
      unfold refM0
      simp only [recoupref12_MayEnv.l0]
      rw [if_pos (by omega), if_pos (by omega)]
    refine ⟨J + 2, if (envGet (l.take i) (rd_T54 l (i : Int)).f0).isSome = true then false else if (nameOk (rd_T54 l (i : Int)).f0 && numOk (rd_T54 l (i : Int)).f1) = true then r else false, ?_, ?_⟩
    · rw [s1, a, refNumber]
      simp only [Option.bind_some]
      cases nameOk (rd_T54 l (i : Int)).f0
      · simp [recoupref12_MayEnv.j1]
      · cases numOk (rd_T54 l (i : Int)).f1
        · simp [recoupref12_MayEnv.j1]
        · simp only [if_true, Bool.not_true, recoupref12_MayEnv.j1, Bool.false_eq_true, if_false, Bool.and_self]
          exact b
    · by_cases c : (envGet (l.take i) (rd_T54 l (i : Int)).f0).isSome = true
      · rw [if_pos c, if_pos c]
      · rw [if_neg c, if_neg c]
        by_cases d : (nameOk (rd_T54 l (i : Int)).f0 && numOk (rd_T54 l (i : Int)).f1) = true
        · rw [if_pos d, if_pos d]; exact h2
        · rw [if_neg d, if_neg d]
theorem env_ref (l : List S54) (hl : l.length ≤ 4611686018427387903) (hg : ∀ c ∈ l, c.f0.size ≤ 9223372036854775807) : ∃ k r, recoupref12_MayEnv.f k l = some r ∧ knownGo l [] = some r := by
  obtain ⟨k, r, h1, h2⟩ := refEnv l hl hg l.length 0 (by omega)
  exact ⟨k, r, h1, h2⟩
/-! what expressions come to -/
theorem number_f (a : Int) : recoupref12_Number.f a = some (decide (-2147483647 ≤ a ∧ a ≤ 2147483647)) := refNumber a
theorem answer_f (n : Int) : ((recoupref12_Number.f n).bind fun t => if t = true then some (n, (0 : Int)) else some (0, 120)) = some (if -2147483647 ≤ n ∧ n ≤ 2147483647 then (n, 0) else (0, 120)) := by
  rw [number_f]
  simp only [Option.bind_some]
  by_cases c : -2147483647 ≤ n ∧ n ≤ 2147483647
  · rw [decide_eq_true c, if_pos rfl, if_pos c]
  · rw [decide_eq_false c, if_neg (by decide), if_neg c]
theorem wrap_small (n : Int) (h : -4611686014132420609 ≤ n ∧ n ≤ 4611686014132420609) : wrap64 n = n := by unfold wrap64; omega
theorem refWork (op a b : Int) (k : Nat) : recoupref12_Work.f (k + 2) op a b = some (workPair op a b) := by
  unfold recoupref12_Work.f workPair
  by_cases c : 3 ≤ op ∧ op ≤ 8 ∧ (-2147483647 ≤ a ∧ a ≤ 2147483647) ∧ (-2147483647 ≤ b ∧ b ≤ 2147483647)
  · obtain ⟨h3, h8, ha, hb⟩ := c
    rw [if_neg (by omega), if_neg (by omega), number_f, number_f, decide_eq_true ha, decide_eq_true hb, if_pos ⟨h3, h8, ha, hb⟩]
    simp only [Option.bind_some, if_true, Bool.not_true, recoupref12_Work.j0, Bool.false_eq_true, if_false, recoupref12_Work.j1]
    have hs : -4611686014132420609 ≤ a * b ∧ a * b ≤ 4611686014132420609 := op_mul a b ha hb
    rw [wrap_small (-a) (by omega), wrap_small (a + b) (by omega), wrap_small (a - b) (by omega), wrap_small (a * b) hs, op_tdiv a b ha]
    simp only [answer_f]
    have ho : op = 3 ∨ op = 4 ∨ op = 5 ∨ op = 6 ∨ op = 7 ∨ op = 8 := by omega
    by_cases z : b = 0
    · subst z
      rcases ho with rfl | rfl | rfl | rfl | rfl | rfl <;> simp
    · rcases ho with rfl | rfl | rfl | rfl | rfl | rfl <;> simp [z]
  · rw [if_neg c]
    by_cases c3 : op < 3
    · rw [if_pos c3]; simp only [recoupref12_Work.j0, if_true]
    · rw [if_neg c3]
      by_cases c8 : op > 8
      · rw [if_pos c8]; simp only [recoupref12_Work.j0, if_true]
      · rw [if_neg c8, number_f, number_f]
        simp only [Option.bind_some]
        by_cases ha : -2147483647 ≤ a ∧ a ≤ 2147483647
        · rw [decide_eq_true ha, if_pos rfl, decide_eq_false (fun hb => c ⟨by omega, by omega, ha, hb⟩)]
          simp only [recoupref12_Work.j0, Bool.not_false, if_true]
        · rw [decide_eq_false ha, if_neg (by decide)]
          simp only [recoupref12_Work.j0, if_true]
theorem xexprs_parts (f : S25 → Int → Int × Int) : ∀ (l : List S25) (d left : Int), (xexprs f l d left).1 ≠ 0 → ∀ p ∈ l, ∃ lf, (f p lf).1 ≠ 0
  | [], _, _, _ => fun p hp => by cases hp
  | q :: ps, d, left, h => by
    simp only [xexprs] at h
    by_cases e : (f q left).1 = 0
    · rw [if_pos e] at h; exact absurd rfl h
    · rw [if_neg e] at h
      intro p hp
      rcases List.mem_cons.1 hp with rfl | hp
      · exact ⟨left, e⟩
      · exact xexprs_parts f ps _ _ h p hp
theorem xparts_both (f g : S25 → Option (Int × Int × Int × Int)) : ∀ (l : List S25), (∀ p ∈ l, ∃ r, f p = some r ∧ g p = some r) → ∀ (i : Nat) (a b : Int), ∃ R, xparts f l i a b = some R ∧ xparts g l i a b = some R
  | [], _, i, a, b => ⟨_, rfl, rfl⟩
  | q :: ps, h, i, a, b => by
    obtain ⟨r, h1, h2⟩ := h q List.mem_cons_self
    simp only [xparts, h1, h2, Option.bind_some]
    by_cases c : r.2.1 = 0
    · rw [if_pos c, if_pos c]
      exact xparts_both f g ps (fun p hp => h p (List.mem_cons_of_mem _ hp)) _ _ _
    · rw [if_neg c, if_neg c]; exact ⟨_, rfl, rfl⟩
theorem parts_kind (x : S25) (p : Int) (h : exprParts x = some p) : 1 ≤ x.f0 ∧ x.f0 ≤ 8 ∧ (x.f0 ≤ 2 → p = 0) := by
  unfold exprParts at h
  by_cases k1 : x.f0 = 1
  · rw [if_pos k1] at h
    repeat' split at h
    all_goals first | (cases h; omega) | cases h
  · rw [if_neg k1] at h
    by_cases k2 : x.f0 = 2
    · rw [if_pos k2] at h
      repeat' split at h
      all_goals first | (cases h; omega) | cases h
    · rw [if_neg k2] at h
      by_cases k3 : x.f0 = 3
      · omega
      · rw [if_neg k3] at h
        by_cases k4 : x.f0 = 4 ∨ x.f0 = 5 ∨ x.f0 = 6 ∨ x.f0 = 7 ∨ x.f0 = 8
        · omega
        · rw [if_neg k4] at h; cases h
/-- What both evaluations come to, of an expression that may be. -/
theorem value_both (l1 : List S54) : ∀ (n : Nat) (x : S25), G25 x → ∀ left, (xexpr n x left).1 ≠ 0 → ∃ r, xeval (envGet l1) n x = some r ∧ xvalue l1 n x = some r
  | 0, x, _, left, h => by simp [xexpr] at h
  | n + 1, x, hx, left, h => by
    obtain ⟨_, _, h2, ⟨_, h3⟩, _, _⟩ := (G25_iff x).1 hx
    have h2' : x.f2.size ≤ 9223372036854775807 := h2
    simp only [xexpr] at h
    by_cases c : wrap64 (left - 1) < 0
    · rw [if_pos c] at h; exact absurd rfl h
    · rw [if_neg c] at h
      cases hp : exprParts x with
      | none => rw [hp] at h; exact absurd rfl h
      | some p =>
        rw [hp] at h
        dsimp only at h
        by_cases e : (x.f3.length : Int) = p
        · rw [if_pos e] at h
          have hle := exprParts_le x p hp
          obtain ⟨q1, q8, q2⟩ := parts_kind x p hp
          have hl : x.f3.length ≤ 2 := by omega
          have hb := xparts_both (xeval (envGet l1) n) (xvalue l1 n) x.f3 (fun y hy => by
            obtain ⟨lf, hlf⟩ := xexprs_parts _ _ _ _ h y hy
            exact value_both l1 n y (h3 y hy) lf hlf) 0 0 0
          obtain ⟨R, r1, r2⟩ := hb
          have B : xvalue l1 (n + 1) x = (if R.2.1 = 0 then (if x.f0 = 1 then some (x.f1, 0, 0, 0) else if x.f0 = 2 then (if (envGet l1 x.f2).isSome = true then some ((envGet l1 x.f2).getD 0, 0, 0, 0) else some (0, 121, x.f4, x.f5))
              else (recoupref12_Work.f 2 x.f0 R.1.1 R.1.2).bind fun q => if q.2 = 0 then some (q.1, 0, 0, 0) else some (0, q.2, x.f4, x.f5)) else some (0, R.2)) := by
            simp only [xvalue]
            rw [if_pos hl, r2, Option.bind_some]
          by_cases k1 : x.f0 = 1
          · have h0 : x.f3 = [] := List.length_eq_zero_iff.1 (by have := q2 (by omega); omega)
            rw [h0] at r2
            simp only [xparts, Option.some.injEq] at r2
            subst r2
            refine ⟨(x.f1, 0, 0, 0), ?_, ?_⟩
            · simp only [xeval]; rw [if_pos k1]
            · rw [B, if_pos rfl, if_pos k1]
          · by_cases k2 : x.f0 = 2
            · have h0 : x.f3 = [] := List.length_eq_zero_iff.1 (by have := q2 (by omega); omega)
              rw [h0] at r2
              simp only [xparts, Option.some.injEq] at r2
              subst r2
              cases hs : (envGet l1 x.f2).isSome with
              | true =>
                refine ⟨((envGet l1 x.f2).getD 0, 0, 0, 0), ?_, ?_⟩
                · simp only [xeval]; rw [if_neg k1, if_pos k2, if_pos h2', hs, if_pos rfl]
                · rw [B, if_pos rfl, if_neg k1, if_pos k2, hs, if_pos rfl]
              | false =>
                refine ⟨(0, 121, x.f4, x.f5), ?_, ?_⟩
                · simp only [xeval]; rw [if_neg k1, if_pos k2, if_pos h2', hs, if_neg (by simp)]
                · rw [B, if_pos rfl, if_neg k1, if_pos k2, hs, if_neg (by simp)]
            · have A : xeval (envGet l1) (n + 1) x = (if R.2.1 = 0 then (number_Work.f x.f0 R.1.1 R.1.2).bind fun q => if q.2 = 0 then some (q.1, 0, 0, 0) else some (0, q.2, x.f4, x.f5) else some (0, R.2)) := by
                simp only [xeval]
                rw [if_neg k1, if_neg k2, if_pos hl, r1, Option.bind_some]
              have w1 : number_Work.f x.f0 R.1.1 R.1.2 = some (workPair x.f0 R.1.1 R.1.2) := by unfold number_Work.f; rw [if_pos ⟨by omega, by omega⟩]
              rw [A, B, if_neg k1, if_neg k2, w1, refWork _ _ _ 0, Option.bind_some]
              by_cases z : R.2.1 = 0
              · rw [if_pos z]
                by_cases z2 : (workPair x.f0 R.1.1 R.1.2).2 = 0
                · rw [if_pos z2]; exact ⟨_, rfl, rfl⟩
                · rw [if_neg z2]; exact ⟨_, rfl, rfl⟩
              · rw [if_neg z]; exact ⟨_, rfl, rfl⟩
        · rw [if_neg e] at h; exact absurd rfl h
end Go.Proofs.Ytnojokempdcikaa.Pure
