/- What Cut tells is fit for Join and stands in order, in plain words. No conditions. -/
import Derived.Test.YtbljojjacfmggaaDoorPureBack
namespace Go.Proofs.YtbljojjacfmggaaDoor.E
open Go Go.RowKit Go.Proofs.YtbljojjacfmggaaDoorW.PrintWords Go.Proofs.YtbljojjacfmggaaDoorW.PrintLast Go.Proofs.YtbljojjacfmggaaDoorW.PrintMore Go.Proofs.YtbljojjacfmggaaDoor.PA
def lexlt (a b c d : Int) : Prop := a < c ∨ (a = c ∧ b < d)
def okSeq : List S34 → Int → Int → Prop
  | [], _, _ => True
  | t :: r, a, b => lexlt a b t.f3 t.f4 ∧ okSeq r t.f3 t.f4
theorem lex_trans {a b c d e f : Int} (h1 : lexlt a b c d) (h2 : lexlt c d e f) : lexlt a b e f := by
  unfold lexlt at *; omega
theorem pos_step (s : ByteArray) (p : Nat) : lexlt (posF s p).1 (posF s p).2 (posF s (p + 1)).1 (posF s (p + 1)).2 := by
  rw [pos_next]
  unfold lexlt
  by_cases h : bt s (p : Int) = 10
  · rw [if_pos h, if_pos h]; left; dsimp only; omega
  · rw [if_neg h, if_neg h]; right; dsimp only; omega
theorem pos_lt (s : ByteArray) : ∀ (m p : Nat), lexlt (posF s p).1 (posF s p).2 (posF s (p + m + 1)).1 (posF s (p + m + 1)).2
  | 0, p => pos_step s p
  | m + 1, p => lex_trans (pos_lt s m p) (pos_step s (p + m + 1))
theorem pos_less {s : ByteArray} {p q : Nat} (h : p < q) : lexlt (posF s p).1 (posF s p).2 (posF s q).1 (posF s q).2 := by
  have := pos_lt s (q - p - 1) p
  rwa [show p + (q - p - 1) + 1 = q by omega] at this
theorem pos_one (s : ByteArray) : ∀ p, 1 ≤ (posF s p).1 ∧ 1 ≤ (posF s p).2
  | 0 => ⟨Nat.le_refl _, Nat.le_refl _⟩
  | p + 1 => by
    have := pos_one s p
    rw [posF]
    split <;> constructor <;> dsimp only <;> omega
theorem value_le (f : ByteArray) (h : (valueF f).2 = true) : (valueF f).1 ≤ 2147483647 := by
  unfold valueF at h ⊢
  split at h
  · cases h
  · rename_i hz
    rw [if_neg hz]
    cases hA : Lib.atoiAll f.data.toList <;> rw [hA] at h <;> first | exact of_decide_eq_true h | cases h
theorem ext_one (s : ByteArray) (p : Nat) (h : p < s.size) : (s.extract p (p + 1)).size = 1 ∧ bt (s.extract p (p + 1)) 0 = bt s (p : Int) := by
  have hz : (s.extract p (p + 1)).size = 1 := by rw [ByteArray.size_extract]; omega
  refine ⟨hz, ?_⟩
  have h0 : (0 : Nat) < (s.extract p (p + 1)).size := by omega
  have e1 := bt_list (s.extract p (p + 1)) 0 h0
  have e2 := bt_list s p h
  have hg : (s.extract p (p + 1)).data.toList[0]'h0 = s.data.toList[p]'h := by
    have h1 : (s.extract p (p + 1)).data.toList[0]? = s.data.toList[p]? := by
      rw [ByteArray.data_extract, Array.toList_extract]
      show ((s.data.toList.drop p).take (p + 1 - p))[0]? = _
      rw [List.getElem?_take, if_pos (by omega), List.getElem?_drop, Nat.add_zero]
    rw [List.getElem?_eq_getElem (l := (s.extract p (p + 1)).data.toList) h0, List.getElem?_eq_getElem (l := s.data.toList) h] at h1
    exact Option.some.inj h1
  rw [hg] at e1
  exact e1.trans e2.symm
def CutGood (s : ByteArray) (p : Nat) (l : List S34) : Prop := ∃ k R, cutF s k p (posF s p).1 (posF s p).2 l = some R ∧ (R.1.2.2 = false → 1 ≤ R.1.1 ∧ 1 ≤ R.1.2.1) ∧ ∃ M, R.2 = l ++ M ∧ M.length ≤ s.size - p ∧ (∀ t ∈ M, mayB t = true) ∧ ∀ a b, lexlt a b (posF s p).1 (posF s p).2 → okSeq M a b
theorem good_stop {s : ByteArray} {p k : Nat} {l : List S34} {q r : Int} {b : Bool} (h : cutF s k p (posF s p).1 (posF s p).2 l = some ((q, r, b), l)) (hq : b = false → 1 ≤ q ∧ 1 ≤ r) : CutGood s p l :=
  ⟨k, _, h, hq, [], by simp, by simp, by simp, fun _ _ _ => trivial⟩
theorem good_skip {s : ByteArray} {p q : Nat} {l : List S34} (hpq : p < q) (h : ∀ k, cutF s (k + 1) p (posF s p).1 (posF s p).2 l = cutF s k q (posF s q).1 (posF s q).2 l) (hg : CutGood s q l) : CutGood s p l := by
  obtain ⟨k, R, h1, h2, M, h3, h4, h5, h6⟩ := hg
  exact ⟨k + 1, R, (h k).trans h1, h2, M, h3, by omega, h5, fun a b hab => h6 a b (lex_trans hab (pos_less hpq))⟩
theorem good_push {s : ByteArray} {p q : Nat} {l : List S34} {t : S34} (hpq : p < q) (hq : q ≤ s.size) (h : ∀ k, cutF s (k + 1) p (posF s p).1 (posF s p).2 l = cutF s k q (posF s q).1 (posF s q).2 (l ++ [t])) (hm : mayB t = true) (h3 : t.f3 = ((posF s p).1 : Int)) (h4 : t.f4 = ((posF s p).2 : Int)) (hg : CutGood s q (l ++ [t])) : CutGood s p l := by
  obtain ⟨k, R, g1, g2, M, g3, g4, g5, g6⟩ := hg
  refine ⟨k + 1, R, (h k).trans g1, g2, t :: M, by rw [g3]; simp, by rw [List.length_cons]; omega, fun u hu => ?_, fun a b hab => ⟨by rw [h3, h4]; exact hab, by rw [h3, h4]; exact g6 _ _ (pos_less hpq)⟩⟩
  rcases List.mem_cons.1 hu with rfl | hu
  · exact hm
  · exact g5 u hu
theorem cut_good (s : ByteArray) : ∀ (d p : Nat) (l : List S34), s.size - p ≤ d → p ≤ s.size → CutGood s p l := by
  intro d
  induction d with
  | zero =>
    intro p l hd hp
    exact good_stop (k := 1) (q := 0) (r := 0) (b := true) (by rw [cutF, if_pos (by omega)]) (by simp)
  | succ d ih =>
    intro p l hd hp
    by_cases hpe : p = s.size
    · exact good_stop (k := 1) (q := 0) (r := 0) (b := true) (by rw [cutF, if_pos hpe]) (by simp)
    have hlt : p < s.size := by omega
    have o1 := pos_one s p
    by_cases k4 : kd s p = 4
    · exact good_skip (q := p + 1) (by omega) (fun k => by rw [cutF, if_neg hpe, if_pos k4, pos_next]) (ih (p + 1) l (by omega) (by omega))
    by_cases k5 : kd s p = 5
    · have hb := (kd_remark hlt).1 k5
      have hle := rem_le s (s.size - p) p (posF s p).1 (posF s p).2 hp
      have hpos := rem_pos s (s.size - p) p
      have hgt : p < (remTo s (s.size - p) p (posF s p).1 (posF s p).2).1 := by
        rw [show s.size - p = (s.size - (p + 1)) + 1 by omega, remTo, if_pos ⟨hlt, by omega⟩]
        have := (rem_le s (s.size - (p + 1)) (p + 1) (if bt s p = 10 then (posF s p).1 + 1 else (posF s p).1) (if bt s p = 10 then 1 else (posF s p).2 + 1) (by omega)).1
        omega
      exact good_skip hgt (fun k => by rw [cutF, if_neg hpe, if_neg k4, if_pos k5, hpos]) (ih _ l (by omega) hle.2)
    by_cases k1 : kd s p = 1
    · have hl := (kd_letter hlt).1 k1
      have hgt := endP_lt s true p hlt (by rw [hl]; simp)
      have hle := (endF_le s true (s.size - p) p hp).2
      have hle' : endP s true p ≤ s.size := hle
      by_cases hn : nameText (s.extract p (endP s true p)) = true
      · refine good_push hgt hle' (fun k => cut_name hlt hl rfl rfl hn) ?_ ?_ ?_ (ih _ _ (by omega) hle')
        · by_cases hw : wordIn wordList (s.extract p (endP s true p)) = true
          · rw [if_pos hw]
            unfold mayB
            rw [if_neg (show ¬ (2 : Int) = 1 by decide), if_pos rfl, hw]; rfl
          · rw [if_neg hw]
            unfold mayB nameOk
            rw [if_pos rfl, hn, Bool.eq_false_iff.2 hw]; rfl
        · split <;> rfl
        · split <;> rfl
      · exact good_stop (k := 1) (q := (posF s p).1) (r := (posF s p).2) (b := false) (by rw [cutF, if_neg hpe, if_neg k4, if_neg k5, if_pos k1, run12, if_neg hn]) (fun _ => by omega)
    by_cases k2 : kd s p = 2
    · have hl := (kd_digit hlt).1 k2
      have hgt := endP_lt s false p hlt (by rw [hl]; simp)
      have hle' : endP s false p ≤ s.size := (endF_le s false (s.size - p) p hp).2
      have hsz : 0 < (s.extract p (endP s false p)).size := by rw [ByteArray.size_extract]; omega
      obtain ⟨v1, v2⟩ := value_num _ hsz (ext_digits s p)
      by_cases hv : (valueF (s.extract p (endP s false p))).2 = true
      · by_cases hl2 : kd s (endP s false p) = 1
        · have o2 := pos_one s (endP s false p)
          exact good_stop (k := 1) (q := (posF s (endP s false p)).1) (r := (posF s (endP s false p)).2) (b := false) (by rw [cutF, if_neg hpe, if_neg k4, if_neg k5, if_neg k1, if_pos k2, run2, if_pos hv, if_pos hl2]) (fun _ => by omega)
        · refine good_push hgt hle' (fun k => cut_num hlt hl rfl rfl hv hl2) ?_ rfl rfl (ih _ _ (by omega) hle')
          have hn := v1.1 hv
          have he := v2 hv
          have hm := value_le _ hv
          unfold mayB
          rw [if_neg (show ¬ (3 : Int) = 1 by decide), if_neg (show ¬ (3 : Int) = 2 by decide), if_pos rfl]
          simp only [Bool.and_eq_true, decide_eq_true_eq]
          exact ⟨rfl, by omega, hm⟩
      · exact good_stop (k := 1) (q := (posF s p).1) (r := (posF s p).2) (b := false) (by rw [cutF, if_neg hpe, if_neg k4, if_neg k5, if_neg k1, if_pos k2, run2, if_neg hv]) (fun _ => by omega)
    by_cases k3 : kd s p = 3
    · have hl := (kd_sign hlt).1 k3
      obtain ⟨x1, x2⟩ := ext_one s p hlt
      refine good_push (q := p + 1) (by omega) (by omega) (fun k => cut_sign hlt hl) ?_ rfl rfl (ih _ _ (by omega) (by omega))
      unfold mayB
      rw [if_neg (show ¬ (4 : Int) = 1 by decide), if_neg (show ¬ (4 : Int) = 2 by decide), if_neg (show ¬ (4 : Int) = 3 by decide), if_pos rfl]
      simp only [Bool.and_eq_true, decide_eq_true_eq]
      exact ⟨trivial, x1, by rw [x2]; exact hl⟩
    exact good_stop (k := 1) (q := (posF s p).1) (r := (posF s p).2) (b := false) (by rw [cutF, if_neg hpe, if_neg k4, if_neg k5, if_neg k1, if_neg k2, if_neg k3]) (fun _ => by omega)
/-- What Cut tells of a text. -/
theorem again_cut (s : ByteArray) : ∃ k L f1 f2 f3, cutS s k = some (L, f1, f2, f3) ∧ L.length ≤ 65536 ∧
    ((f1 = 0 ∧ f2 = 0 ∧ f3 = 0 ∧ (∀ t ∈ L, mayB t = true) ∧ okSeq L 0 0) ∨ (f1 ≠ 0 ∧ L = [] ∧ 1 ≤ f2 ∧ 1 ≤ f3)) := by
  by_cases hb : s.size > 65536
  · exact ⟨0, [], 4, 1, 1, if_pos hb, by simp, .inr ⟨by decide, rfl, by decide, by decide⟩⟩
  · obtain ⟨k, R, h1, h2, M, h3, h4, h5, h6⟩ := cut_good s s.size 0 [] (by omega) (by omega)
    have h1' : cutF s k 0 1 1 [] = some R := h1
    rw [List.nil_append] at h3
    by_cases ho : R.1.2.2 = true
    · refine ⟨k, M, 0, 0, 0, ?_, by omega, .inl ⟨rfl, rfl, rfl, h5, h6 0 0 ?_⟩⟩
      · unfold cutS
        rw [if_neg hb, h1']
        show (if R.1.2.2 = true then some (R.2, (0 : Int), (0 : Int), (0 : Int)) else some ([], 90, R.1.1, R.1.2.1)) = _
        rw [if_pos ho, h3]
      · left; show (0 : Int) < ((1 : Nat) : Int); decide
    · obtain ⟨q1, q2⟩ := h2 (by simpa using ho)
      refine ⟨k, [], 90, R.1.1, R.1.2.1, ?_, by simp, .inr ⟨by decide, rfl, q1, q2⟩⟩
      unfold cutS
      rw [if_neg hb, h1']
      show (if R.1.2.2 = true then some (R.2, (0 : Int), (0 : Int), (0 : Int)) else some ([], 90, R.1.1, R.1.2.1)) = _
      rw [if_neg ho]
theorem join_limit (l : List S34) (hall : ∀ t ∈ l, mayB t = true) (h : (joinF l).2 ≠ 0) : joinF l = (⟨#[]⟩, 4) := by
  have h2 := h
  rw [joins_same] at h2 ⊢
  unfold refJ at h2 ⊢
  rw [if_pos (List.all_eq_true.2 hall)] at h2 ⊢
  split at h2
  · rename_i hs; rw [if_pos hs]
  · exact absurd rfl h2
theorem cut_empty : cutS ⟨#[]⟩ 1 = some ([], 0, 0, 0) := by kernel_rfl
end Go.Proofs.YtbljojjacfmggaaDoor.E
