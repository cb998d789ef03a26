/- The program's cut and the document's tell the same tokens and the same fault. No conditions. -/
import Derived.Test.YtbljojjacfmggaaDoorLawCuts
namespace Go.Proofs.YtbljojjacfmggaaDoor.E
open Go Go.RowKit Go.Proofs.YtbljojjacfmggaaDoorW.PrintWords Go.Proofs.YtbljojjacfmggaaDoorW.PrintLast Go.Proofs.YtbljojjacfmggaaDoorW.PrintMore Go.Proofs.YtbljojjacfmggaaDoor.PA
/-! kinds -/
theorem kd_lt {s : ByteArray} {p : Nat} (hp : p < s.size) : kd s p = kindOf (bt s (p : Int)) := by unfold kd; rw [if_pos hp]
theorem kd_letter {s : ByteArray} {p : Nat} (hp : p < s.size) : kd s p = 1 ↔ isLetter (bt s (p : Int)) = true := by rw [kd_lt hp]; exact kindOf_letter _
theorem kd_digit {s : ByteArray} {p : Nat} (hp : p < s.size) : kd s p = 2 ↔ isDigit (bt s (p : Int)) = true := by rw [kd_lt hp]; exact kindOf_digit _
theorem kd_sign {s : ByteArray} {p : Nat} (hp : p < s.size) : kd s p = 3 ↔ signB (bt s (p : Int)) = true := by
  obtain ⟨c, hc⟩ : ∃ c, s[p]? = some c := ⟨_, getElem?_pos s p hp⟩
  rw [kd_lt hp, bt_of hc]; exact kindOf_sign c
theorem kind_blank_all : ∀ n : Fin 256, (kindOf (n.val : Int) = 4) ↔ ((n.val : Int) = 32 ∨ (n.val : Int) = 9 ∨ (n.val : Int) = 10) := by decide +kernel
theorem kind_remark_all : ∀ n : Fin 256, (kindOf (n.val : Int) = 5) ↔ ((n.val : Int) = 35) := by decide +kernel
theorem kd_blank {s : ByteArray} {p : Nat} (hp : p < s.size) : kd s p = 4 ↔ (bt s (p : Int) = 32 ∨ bt s (p : Int) = 9 ∨ bt s (p : Int) = 10) := by
  obtain ⟨c, hc⟩ : ∃ c, s[p]? = some c := ⟨_, getElem?_pos s p hp⟩
  rw [kd_lt hp, bt_of hc]; exact kind_blank_all ⟨c.toNat, c.toNat_lt⟩
theorem kd_remark {s : ByteArray} {p : Nat} (hp : p < s.size) : kd s p = 5 ↔ bt s (p : Int) = 35 := by
  obtain ⟨c, hc⟩ : ∃ c, s[p]? = some c := ⟨_, getElem?_pos s p hp⟩
  rw [kd_lt hp, bt_of hc]; exact kind_remark_all ⟨c.toNat, c.toNat_lt⟩
theorem letter_not {c : Int} (h : isLetter c = true) : c ≠ 10 := by unfold isLetter at h; have := of_decide_eq_true h; omega
theorem digit_not {c : Int} (h : isDigit c = true) : c ≠ 10 := by unfold isDigit at h; have := of_decide_eq_true h; omega
/-! runs -/
theorem contains12 (k : Int) : ([1, 2] : List Int).contains k = true ↔ (k = 1 ∨ k = 2) := by simp
theorem contains2 (k : Int) : ([2] : List Int).contains k = true ↔ k = 2 := by simp
theorem run_end (s : ByteArray) (b : Bool) (l : List Int) (hl : ∀ p, p < s.size → (l.contains (kd s p) = true ↔ (isDigit (bt s (p : Int)) || (b && isLetter (bt s (p : Int)))) = true)) :
    ∀ (n p : Nat), runTo s l n p (posF s p).1 (posF s p).2 = (endF s b n p, (posF s (endF s b n p)).1, (posF s (endF s b n p)).2)
  | 0, p => rfl
  | n + 1, p => by
    rw [runTo]
    by_cases hp : p < s.size
    · by_cases hc : (isDigit (bt s (p : Int)) || (b && isLetter (bt s (p : Int)))) = true
      · have hne : bt s (p : Int) ≠ 10 := by
          have h2 := hc
          simp only [Bool.or_eq_true, Bool.and_eq_true] at h2
          rcases h2 with h | h
          · exact digit_not h
          · exact letter_not h.2
        have e : endF s b (n + 1) p = endF s b n (p + 1) := by rw [endF, if_pos ⟨hp, hc⟩]
        have ih := run_end s b l hl n (p + 1)
        have e1 : (posF s (p + 1)).1 = (posF s p).1 := by rw [posF, if_neg hne]
        have e2 : (posF s (p + 1)).2 = (posF s p).2 + 1 := by rw [posF, if_neg hne]
        rw [e1, e2] at ih
        rw [e, if_pos ⟨hp, (hl p hp).2 hc⟩, if_neg hne, if_neg hne, ih]
      · have e : endF s b (n + 1) p = p := by rw [endF, if_neg (fun h => hc h.2)]
        rw [e, if_neg (fun h => hc ((hl p hp).1 h.2))]
    · have e : endF s b (n + 1) p = p := by rw [endF, if_neg (fun h => hp h.1)]
      rw [e, if_neg (fun h => hp h.1)]
theorem run12 (s : ByteArray) (p : Nat) : runTo s [1, 2] (s.size - p) p (posF s p).1 (posF s p).2 = (endP s true p, (posF s (endP s true p)).1, (posF s (endP s true p)).2) :=
  run_end s true [1, 2] (fun p hp => by
    rw [contains12, kd_letter hp, kd_digit hp]
    simp only [Bool.or_eq_true, Bool.and_eq_true, true_and]
    exact Or.comm) (s.size - p) p
theorem run2 (s : ByteArray) (p : Nat) : runTo s [2] (s.size - p) p (posF s p).1 (posF s p).2 = (endP s false p, (posF s (endP s false p)).1, (posF s (endP s false p)).2) :=
  run_end s false [2] (fun p hp => by
    rw [contains2, kd_digit hp]
    simp) (s.size - p) p
theorem pos_run (s : ByteArray) (b : Bool) : ∀ (n p : Nat), posF s (endF s b n p) = ((posF s p).1, (posF s p).2 + (endF s b n p - p))
  | 0, p => by simp [endF]
  | n + 1, p => by
    rw [endF]
    split
    · rename_i hc
      have hne : bt s (p : Int) ≠ 10 := by
        have h2 := hc.2
        simp only [Bool.or_eq_true, Bool.and_eq_true] at h2
        rcases h2 with h | h
        · exact digit_not h
        · exact letter_not h.2
      have ih := pos_run s b n (p + 1)
      have hle : p + 1 ≤ endF s b n (p + 1) := (endF_le s b n (p + 1) (by omega)).1
      rw [ih, posF, if_neg hne]
      simp only [Prod.mk.injEq, true_and]
      omega
    · simp
theorem pos_end (s : ByteArray) (b : Bool) (p : Nat) : (posF s (endP s b p)).1 = (posF s p).1 ∧ (posF s (endP s b p)).2 = (posF s p).2 + (endP s b p - p) := by
  have h := pos_run s b (s.size - p) p
  unfold endP
  rw [h]
  exact ⟨rfl, rfl⟩
/-- A remark's end. -/
theorem rem_pos (s : ByteArray) : ∀ (n p : Nat), (remTo s n p (posF s p).1 (posF s p).2).2 = posF s (remTo s n p (posF s p).1 (posF s p).2).1
  | 0, p => rfl
  | n + 1, p => by
    rw [remTo]
    split
    · rename_i hc
      have ih := rem_pos s n (p + 1)
      rw [posF, if_neg hc.2] at ih
      rw [if_neg hc.2, if_neg hc.2]
      exact ih
    · rfl
theorem rem_le (s : ByteArray) : ∀ (n p q r : Nat), p ≤ s.size → p ≤ (remTo s n p q r).1 ∧ (remTo s n p q r).1 ≤ s.size
  | 0, p, q, r, hp => ⟨Nat.le_refl _, hp⟩
  | n + 1, p, q, r, hp => by
    rw [remTo]
    split
    · rename_i hc
      have ih := rem_le s n (p + 1) (if bt s p = 10 then q + 1 else q) (if bt s p = 10 then 1 else r + 1) (by omega)
      exact ⟨by omega, ih.2⟩
    · exact ⟨Nat.le_refl _, hp⟩
/-- The document's cut goes over a remark byte by byte. -/
theorem ref_rem (s : ByteArray) (l : List S34) (X : List S34 × Int × Int × Int) : ∀ (d p : Nat), s.size - p = d → p ≤ s.size →
    (∃ k, refF s k (remTo s d p (posF s p).1 (posF s p).2).1 (posF s (remTo s d p (posF s p).1 (posF s p).2).1).1 (posF s (remTo s d p (posF s p).1 (posF s p).2).1).2 false l = some X) →
    ∃ k, refF s k p (posF s p).1 (posF s p).2 true l = some X
  | 0, p, hd, hp, ⟨k, hk⟩ => by
    refine ⟨k, ?_⟩
    cases k with
    | zero => exact absurd hk (by simp [refF])
    | succ k =>
      simp only [remTo] at hk
      rw [refF, if_neg (by omega)] at hk ⊢
      exact hk
  | d + 1, p, hd, hp, ⟨k, hk⟩ => by
    have hlt : p < s.size := by omega
    by_cases h10 : bt s (p : Int) = 10
    · refine ⟨k, ?_⟩
      rw [remTo, if_neg (fun h => h.2 h10)] at hk
      cases k with
      | zero => exact absurd hk (by simp [refF])
      | succ k =>
        rw [refF, if_pos hlt, if_pos h10] at hk ⊢
        exact hk
    · rw [remTo, if_pos ⟨hlt, h10⟩, if_neg h10, if_neg h10] at hk
      have ih := ref_rem s l X d (p + 1) (by omega) (by omega)
      have e1 : (posF s (p + 1)).1 = (posF s p).1 := by rw [posF, if_neg h10]
      have e2 : (posF s (p + 1)).2 = (posF s p).2 + 1 := by rw [posF, if_neg h10]
      rw [e1, e2] at ih
      obtain ⟨k1, h1⟩ := ih ⟨k, hk⟩
      refine ⟨k1 + 1, ?_⟩
      rw [refF, if_pos hlt, if_neg h10, if_neg (by simp), if_neg (by simp), if_neg (by simp)]
      by_cases h35 : bt s (p : Int) = 35
      · rw [if_pos h35]; exact h1
      · rw [if_neg h35, if_neg (by simp)]; exact h1
/-! numbers -/
def numL : List UInt8 → Nat → Option Nat
  | [], acc => some acc
  | c :: r, acc => if 10 * acc + (c.toNat - 48) > 2147483647 then none else numL r (10 * acc + (c.toNat - 48))
theorem parse_big : ∀ (l : List UInt8) (acc : Nat), (∀ c ∈ l, 48 ≤ c.toNat ∧ c.toNat ≤ 57) → Lib.parseUint10 acc l = .range ∨ ∃ u, acc ≤ u ∧ Lib.parseUint10 acc l = .ok u
  | [], acc, _ => .inr ⟨acc, Nat.le_refl _, rfl⟩
  | c :: r, acc, h => by
    rw [Lib.parseUint10, if_pos (h c (by simp))]
    split
    · exact .inl rfl
    · split
      · exact .inl rfl
      · rcases parse_big r (acc * 10 + (c.toNat - 48)) (fun x hx => h x (by simp [hx])) with h1 | ⟨u, h1, h2⟩
        · exact .inl h1
        · exact .inr ⟨u, by omega, h2⟩
theorem parse_num : ∀ (l : List UInt8) (acc : Nat), acc ≤ 2147483647 → (∀ c ∈ l, 48 ≤ c.toNat ∧ c.toNat ≤ 57) → match numL l acc with
    | some v => Lib.parseUint10 acc l = .ok v ∧ v ≤ 2147483647
    | none => Lib.parseUint10 acc l = .range ∨ ∃ u, 2147483647 < u ∧ Lib.parseUint10 acc l = .ok u
  | [], acc, ha, _ => ⟨rfl, ha⟩
  | c :: r, acc, ha, h => by
    have hc := h c (by simp)
    rw [Lib.parseUint10, if_pos hc, numL]
    by_cases hb : 10 * acc + (c.toNat - 48) > 2147483647
    · rw [if_pos hb]
      show _ ∨ _
      rw [if_neg (by omega), if_neg (by omega)]
      rcases parse_big r (acc * 10 + (c.toNat - 48)) (fun x hx => h x (by simp [hx])) with h1 | ⟨u, h1, h2⟩
      · exact .inl h1
      · exact .inr ⟨u, by omega, h2⟩
    · rw [if_neg hb, if_neg (by omega), if_neg (by omega), show acc * 10 + (c.toNat - 48) = 10 * acc + (c.toNat - 48) by omega]
      exact parse_num r _ (by omega) (fun x hx => h x (by simp [hx]))
theorem bt_list (t : ByteArray) (i : Nat) (h : i < t.size) : bt t (i : Int) = (((t.data.toList[i]'h).toNat : Nat) : Int) := by
  unfold bt
  rw [dif_pos (show ((i : Int)).toNat < t.size from h)]
  rfl
theorem num_list (t : ByteArray) (hd : ∀ c ∈ t.data.toList, 48 ≤ c.toNat ∧ c.toNat ≤ 57) : ∀ (m p acc : Nat), p + m = t.size → numG t m p acc = match numL (t.data.toList.drop p) acc with
    | some v => if bt t 0 = 48 ∧ t.size > 1 then -1 else (v : Int)
    | none => -1
  | 0, p, acc, h => by
    have e : t.data.toList.drop p = [] := List.drop_eq_nil_of_le (by show t.size ≤ p; omega)
    rw [e]; rfl
  | m + 1, p, acc, h => by
    have hp : p < t.size := by omega
    have hp' : p < t.data.toList.length := hp
    rw [List.drop_eq_getElem_cons hp', numG, numL, bt_list t p hp]
    have hc := hd _ (List.getElem_mem hp')
    have ih := num_list t hd m (p + 1) (10 * acc + (t.data.toList[p].toNat - 48)) (by omega)
    have e1 : ((((t.data.toList[p]'hp').toNat : Nat) : Int) - 48) % 256 = ((t.data.toList[p].toNat - 48 : Nat) : Int) := by omega
    rw [e1]
    by_cases hb : 10 * acc + (t.data.toList[p].toNat - 48) > 2147483647
    · rw [if_pos (by omega), if_pos hb]
    · rw [if_neg (by omega), if_neg hb, ← ih]; rfl
theorem value_num (t : ByteArray) (h0 : 0 < t.size) (hd : ∀ c ∈ t.data.toList, 48 ≤ c.toNat ∧ c.toNat ≤ 57) : ((valueF t).2 = true ↔ ¬ numP t < 0) ∧ ((valueF t).2 = true → (valueF t).1 = numP t) := by
  have hn := num_list t hd t.size 0 0 (by omega)
  rw [List.drop_zero] at hn
  have hpz := parse_num t.data.toList 0 (by omega) hd
  have hne : t.data.toList ≠ [] := fun e => by
    have : t.size = 0 := by show t.data.toList.length = 0; rw [e]; rfl
    omega
  have hat : ∀ r, Lib.parseUint10 0 t.data.toList = r → (r = .range → Lib.atoiAll t.data.toList = .range) ∧ ∀ u, r = .ok u → Lib.atoiAll t.data.toList = if 9223372036854775808 ≤ u then .range else .ok (u : Int) := by
    intro r hr
    cases hl : t.data.toList with
    | nil => exact absurd hl hne
    | cons c l =>
      rw [hl] at hr
      have hc := hd c (by rw [hl]; simp)
      have hn45 : ¬ c.toNat = 45 := by omega
      simp only [Lib.atoiAll]
      rw [if_neg (by omega), show Lib.parseMag (c :: l) = Lib.parseUint10 0 (c :: l) from if_neg (by simp), hr]
      refine ⟨fun e => ?_, fun u e => ?_⟩
      · rw [e]
      · rw [e]; simp [hn45]
  unfold numP
  rw [hn]
  unfold valueF
  by_cases hz : t.size > 1 ∧ bt t 0 = 48
  · rw [if_pos hz]
    cases hL : numL t.data.toList 0 with
    | none => simp
    | some v => simp only [if_pos (And.intro hz.2 hz.1)]; simp
  · rw [if_neg hz]
    cases hL : numL t.data.toList 0 with
    | none =>
      rw [hL] at hpz
      rcases hpz with h1 | ⟨u, h1, h2⟩
      · rw [(hat _ h1).1 rfl]; simp
      · rw [(hat _ h2).2 u rfl]
        by_cases hb : 9223372036854775808 ≤ u
        · simp [hb]
        · simp [hb]; omega
    | some v =>
      rw [hL] at hpz
      obtain ⟨h1, h2⟩ := hpz
      have hz2 : ¬ (bt t 0 = 48 ∧ t.size > 1) := fun h => hz ⟨h.2, h.1⟩
      rw [(hat _ h1).2 v rfl]
      have hb : ¬ 9223372036854775808 ≤ v := by omega
      simp only [if_neg hb, if_neg hz2]
      simp
      omega
/-! words and digits -/
theorem bytes_eq {a b : ByteArray} (h : a.toList = b.toList) : a = b := by
  rw [ByteArray.toList_eq, ByteArray.toList_eq] at h
  cases a; cases b
  exact congrArg ByteArray.mk (Array.toList_inj.1 h)
theorem word_name {t : ByteArray} (h : wordIn wordList t = true) : nameText t = true := by
  unfold wordIn at h
  obtain ⟨x, hx, he⟩ := List.any_eq_true.1 h
  have e : t = x := bytes_eq (of_decide_eq_true he)
  have hall : ∀ y ∈ wordList, nameText y = true := by decide +kernel
  rw [e]; exact hall x hx
theorem endF_all (s : ByteArray) (b : Bool) : ∀ (n p i : Nat), p ≤ i → i < endF s b n p → i < s.size ∧ (isDigit (bt s (i : Int)) || (b && isLetter (bt s (i : Int)))) = true
  | 0, p, i, h1, h2 => by rw [endF] at h2; omega
  | n + 1, p, i, h1, h2 => by
    rw [endF] at h2
    split at h2
    · rename_i hc
      by_cases e : i = p
      · subst e; exact hc
      · exact endF_all s b n (p + 1) i (by omega) h2
    · omega
theorem ext_digits (s : ByteArray) (p : Nat) : ∀ c ∈ (s.extract p (endP s false p)).data.toList, 48 ≤ c.toNat ∧ c.toNat ≤ 57 := by
  intro c hc
  rw [ByteArray.data_extract, List.mem_iff_getElem] at hc
  obtain ⟨i, hi, rfl⟩ := hc
  have hi' : i < (s.data.extract p (endP s false p)).size := hi
  have hs : (s.data.extract p (endP s false p)).size = min (endP s false p) s.data.size - p := Array.size_extract
  obtain ⟨h1, h2⟩ := endF_all s false (s.size - p) p (p + i) (by omega) (by show _ < endP s false p; omega)
  have hb : bt s ((p + i : Nat) : Int) = (((s.data[p + i]'h1).toNat : Nat) : Int) := by
    unfold bt
    rw [dif_pos (show (((p + i : Nat) : Int)).toNat < s.size from h1)]
    rfl
  rw [hb] at h2
  have h3 : isDigit (((s.data[p + i]'h1).toNat : Nat) : Int) = true := by simpa using h2
  have h4 := of_decide_eq_true h3
  rw [Array.getElem_toList, Array.getElem_extract]
  omega
theorem pos_next {s : ByteArray} {p : Nat} : posF s (p + 1) = ((if bt s (p : Int) = 10 then (posF s p).1 + 1 else (posF s p).1), (if bt s (p : Int) = 10 then 1 else (posF s p).2 + 1)) := by
  rw [posF]
  split <;> rfl
/-- What the document's cut must tell. -/
def told (R : (Int × Int × Bool) × List S34) : List S34 × Int × Int × Int := if R.1.2.2 = true then (R.2, 0, 0, 0) else ([], 90, R.1.1, R.1.2.1)
def Same (s : ByteArray) (p : Nat) (l : List S34) : Prop := ∃ k k2 R, cutF s k p (posF s p).1 (posF s p).2 l = some R ∧ refF s k2 p (posF s p).1 (posF s p).2 false l = some (told R) ∧ R.2.length ≤ l.length + (s.size - p)
theorem cuts_same (s : ByteArray) : ∀ (d p : Nat) (l : List S34), s.size - p ≤ d → p ≤ s.size → Same s p l := by
  intro d
  induction d with
  | zero =>
    intro p l hd hp
    have hp' : p = s.size := by omega
    refine ⟨1, 1, ((0, 0, true), l), ?_, ?_, by simp⟩
    · rw [cutF, if_pos hp']
    · rw [refF, if_neg (by omega)]; rfl
  | succ d ih =>
    intro p l hd hp
    by_cases hpe : p = s.size
    · refine ⟨1, 1, ((0, 0, true), l), ?_, ?_, by simp⟩
      · rw [cutF, if_pos hpe]
      · rw [refF, if_neg (by omega)]; rfl
    have hlt : p < s.size := by omega
    have b0 := bt_range s (p : Int)
    by_cases k4 : kd s p = 4
    · obtain ⟨k, k2, R, h1, h2, h3⟩ := ih (p + 1) l (by omega) (by omega)
      rw [pos_next] at h1 h2
      refine ⟨k + 1, k2 + 1, R, ?_, ?_, by omega⟩
      · rw [cutF, if_neg hpe, if_pos k4]; exact h1
      · have hb := (kd_blank hlt).1 k4
        rw [refF, if_pos hlt]
        by_cases h10 : bt s (p : Int) = 10
        · simp only [if_pos h10] at h2
          rw [if_pos h10]; exact h2
        · simp only [if_neg h10] at h2
          have nl : ¬ (false = false ∧ isLetter (bt s (p : Int)) = true) := fun h => by
            have := of_decide_eq_true h.2; omega
          have nd : ¬ (false = false ∧ isDigit (bt s (p : Int)) = true) := fun h => by
            have := of_decide_eq_true h.2; omega
          have ns : ¬ (false = false ∧ signB (bt s (p : Int)) = true) := fun h => by
            have := of_decide_eq_true h.2; omega
          rw [if_neg h10, if_neg nl, if_neg nd, if_neg ns, if_neg (by omega), if_neg (fun h => by rcases hb with e | e | e <;> simp [e] at h h10)]
          exact h2
    by_cases k5 : kd s p = 5
    · have hb := (kd_remark hlt).1 k5
      have hle := rem_le s (s.size - p) p (posF s p).1 (posF s p).2 hp
      have hpos := rem_pos s (s.size - p) p
      have hgt : p < (remTo s (s.size - p) p (posF s p).1 (posF s p).2).1 := by
        rw [show s.size - p = (s.size - (p + 1)) + 1 by omega, remTo, if_pos ⟨hlt, by omega⟩]
        have := (rem_le s (s.size - (p + 1)) (p + 1) (if bt s p = 10 then (posF s p).1 + 1 else (posF s p).1) (if bt s p = 10 then 1 else (posF s p).2 + 1) (by omega)).1
        omega
      obtain ⟨k, k2, R, h1, h2, h3⟩ := ih (remTo s (s.size - p) p (posF s p).1 (posF s p).2).1 l (by omega) hle.2
      have hr := ref_rem s l (told R) (s.size - (p + 1)) (p + 1) rfl (by omega)
      have e10 : ¬ bt s (p : Int) = 10 := by omega
      have e1 : (posF s (p + 1)).1 = (posF s p).1 := by rw [posF, if_neg e10]
      have e2 : (posF s (p + 1)).2 = (posF s p).2 + 1 := by rw [posF, if_neg e10]
      have er : remTo s (s.size - p) p (posF s p).1 (posF s p).2 = remTo s (s.size - (p + 1)) (p + 1) (posF s p).1 ((posF s p).2 + 1) := by
        rw [show s.size - p = (s.size - (p + 1)) + 1 by omega, remTo, if_pos ⟨hlt, e10⟩, if_neg e10, if_neg e10]
      rw [e1, e2] at hr
      rw [er] at h2
      obtain ⟨k3, h4⟩ := hr ⟨k2, h2⟩
      refine ⟨k + 1, k3 + 1, R, ?_, ?_, by omega⟩
      · rw [cutF, if_neg hpe, if_neg k4, if_pos k5, hpos]; exact h1
      · have nl : ¬ (false = false ∧ isLetter (bt s (p : Int)) = true) := fun h => by
          have := of_decide_eq_true h.2; omega
        have nd : ¬ (false = false ∧ isDigit (bt s (p : Int)) = true) := fun h => by
          have := of_decide_eq_true h.2; omega
        have ns : ¬ (false = false ∧ signB (bt s (p : Int)) = true) := fun h => by
          have := of_decide_eq_true h.2; omega
        rw [refF, if_pos hlt, if_neg e10, if_neg nl, if_neg nd, if_neg ns, if_pos hb]
        exact h4
    by_cases k1 : kd s p = 1
    · have hl := (kd_letter hlt).1 k1
      have e10 := letter_not hl
      have hgt := endP_lt s true p hlt (by rw [hl]; simp)
      have hle := (endP_le s true p hp).2
      obtain ⟨q1, q2⟩ := pos_end s true p
      have hrun := run12 s p
      obtain ⟨k, k2, R, h1, h2, h3⟩ := ih (endP s true p) (l ++ [if wordIn wordList (s.extract p (endP s true p)) = true then ⟨2, s.extract p (endP s true p), 0, ((posF s p).1 : Int), ((posF s p).2 : Int)⟩ else ⟨1, s.extract p (endP s true p), 0, ((posF s p).1 : Int), ((posF s p).2 : Int)⟩]) (by omega) hle
      simp only [List.length_append, List.length_cons, List.length_nil] at h3
      by_cases hn : nameText (s.extract p (endP s true p)) = true
      · refine ⟨k + 1, k2 + 1, R, ?_, ?_, by omega⟩
        · rw [cutF, if_neg hpe, if_neg k4, if_neg k5, if_pos k1, hrun, if_pos hn]; exact h1
        · rw [refF, if_pos hlt, if_neg e10, if_pos ⟨rfl, hl⟩, ← q1, ← q2]
          by_cases hw : wordIn wordList (s.extract p (endP s true p)) = true
          · rw [if_pos hw] at h2 ⊢; rw [q1] at h2 ⊢; exact h2
          · rw [if_neg hw] at h2 ⊢
            have ho : nameOk (s.extract p (endP s true p)) = true := by
              unfold nameOk; rw [hn, Bool.eq_false_iff.2 hw]; rfl
            rw [if_pos ho]; rw [q1] at h2 ⊢; exact h2
      · refine ⟨1, 1, (((posF s p).1, (posF s p).2, false), l), ?_, ?_, by simp⟩
        · rw [cutF, if_neg hpe, if_neg k4, if_neg k5, if_pos k1, hrun, if_neg hn]
        · have hw : ¬ wordIn wordList (s.extract p (endP s true p)) = true := fun h => hn (word_name h)
          have ho : ¬ nameOk (s.extract p (endP s true p)) = true := fun h => hn (by
            unfold nameOk at h; exact (Bool.and_eq_true_iff.1 h).1)
          rw [refF, if_pos hlt, if_neg e10, if_pos ⟨rfl, hl⟩, if_neg hw, if_neg ho]
          rfl
    have nl : ¬ (false = false ∧ isLetter (bt s (p : Int)) = true) := fun h => k1 ((kd_letter hlt).2 h.2)
    have e10 : ¬ bt s (p : Int) = 10 := fun h => k4 ((kd_blank hlt).2 (by omega))
    by_cases k2' : kd s p = 2
    · have hl := (kd_digit hlt).1 k2'
      have hgt := endP_lt s false p hlt (by rw [hl]; simp)
      have hle := (endP_le s false p hp).2
      obtain ⟨q1, q2⟩ := pos_end s false p
      have hrun := run2 s p
      have hsz : 0 < (s.extract p (endP s false p)).size := by rw [ByteArray.size_extract]; omega
      obtain ⟨v1, v2⟩ := value_num _ hsz (ext_digits s p)
      by_cases hv : (valueF (s.extract p (endP s false p))).2 = true
      · have hn := v1.1 hv
        have hve := v2 hv
        by_cases hl2 : kd s (endP s false p) = 1
        · have hlt2 : endP s false p < s.size := by
            rcases Nat.lt_or_ge (endP s false p) s.size with h | h
            · exact h
            · rw [kd_end (by omega)] at hl2; exact absurd hl2 (by decide)
          refine ⟨1, 1, (((posF s (endP s false p)).1, (posF s (endP s false p)).2, false), l), ?_, ?_, by simp⟩
          · rw [cutF, if_neg hpe, if_neg k4, if_neg k5, if_neg k1, if_pos k2', hrun, if_pos hv, if_pos hl2]
          · rw [refF, if_pos hlt, if_neg e10, if_neg nl, if_pos ⟨rfl, hl⟩, if_neg hn, if_pos ⟨hlt2, (kd_letter hlt2).1 hl2⟩]
            rfl
        · obtain ⟨k, k2, R, h1, h2, h3⟩ := ih (endP s false p) (l ++ [⟨3, ⟨#[]⟩, numP (s.extract p (endP s false p)), ((posF s p).1 : Int), ((posF s p).2 : Int)⟩]) (by omega) hle
          simp only [List.length_append, List.length_cons, List.length_nil] at h3
          refine ⟨k + 1, k2 + 1, R, ?_, ?_, by omega⟩
          · rw [cutF, if_neg hpe, if_neg k4, if_neg k5, if_neg k1, if_pos k2', hrun, if_pos hv, if_neg hl2, hve]; exact h1
          · rw [refF, if_pos hlt, if_neg e10, if_neg nl, if_pos ⟨rfl, hl⟩, if_neg hn, if_neg (fun h => hl2 ((kd_letter h.1).2 h.2)), ← q2]
            rw [q1] at h2; exact h2
      · have hn : numP (s.extract p (endP s false p)) < 0 := Classical.byContradiction fun h => hv (v1.2 h)
        refine ⟨1, 1, (((posF s p).1, (posF s p).2, false), l), ?_, ?_, by simp⟩
        · rw [cutF, if_neg hpe, if_neg k4, if_neg k5, if_neg k1, if_pos k2', hrun, if_neg hv]
        · rw [refF, if_pos hlt, if_neg e10, if_neg nl, if_pos ⟨rfl, hl⟩, if_pos hn]
          rfl
    have nd : ¬ (false = false ∧ isDigit (bt s (p : Int)) = true) := fun h => k2' ((kd_digit hlt).2 h.2)
    by_cases k3 : kd s p = 3
    · have hl := (kd_sign hlt).1 k3
      obtain ⟨k, k2, R, h1, h2, h3⟩ := ih (p + 1) (l ++ [⟨4, s.extract p (p + 1), 0, ((posF s p).1 : Int), ((posF s p).2 : Int)⟩]) (by omega) (by omega)
      simp only [List.length_append, List.length_cons, List.length_nil] at h3
      rw [pos_next] at h1 h2
      simp only [if_neg e10] at h2
      refine ⟨k + 1, k2 + 1, R, ?_, ?_, by omega⟩
      · rw [cutF, if_neg hpe, if_neg k4, if_neg k5, if_neg k1, if_neg k2', if_pos k3]; exact h1
      · rw [refF, if_pos hlt, if_neg e10, if_neg nl, if_neg nd, if_pos ⟨rfl, hl⟩]; exact h2
    have ns : ¬ (false = false ∧ signB (bt s (p : Int)) = true) := fun h => k3 ((kd_sign hlt).2 h.2)
    have n35 : ¬ bt s (p : Int) = 35 := fun h => k5 ((kd_remark hlt).2 h)
    have nb : false = false ∧ bt s (p : Int) ≠ 32 ∧ bt s (p : Int) ≠ 9 := ⟨rfl, fun h => k4 ((kd_blank hlt).2 (by omega)), fun h => k4 ((kd_blank hlt).2 (by omega))⟩
    refine ⟨1, 1, (((posF s p).1, (posF s p).2, false), l), ?_, ?_, by simp⟩
    · rw [cutF, if_neg hpe, if_neg k4, if_neg k5, if_neg k1, if_neg k2', if_neg k3]
    · rw [refF, if_pos hlt, if_neg e10, if_neg nl, if_neg nd, if_neg ns, if_neg n35, if_pos nb]
      rfl
theorem like_l (L : List S34) (hL : L.length ≤ 65536) : ∀ (m i : Nat), i + m = L.length → recoupref09_Like.l0 (2 * m + 1) L L true (i : Int) = some true
  | 0, i, h => by
    simp only [recoupref09_Like.l0]
    rw [if_neg (by omega)]
  | m + 1, i, h => by
    have ih := like_l L hL m (i + 1) (by omega)
    show recoupref09_Like.l0 ((2 * m + 1 + 1) + 1) L L true (i : Int) = _
    generalize 2 * m + 1 = K at ih ⊢
    simp only [recoupref09_Like.l0, recoupref09_Like.j1]
    rw [w64 (by omega) (by omega), show ((i : Int) + 1) = ((i + 1 : Nat) : Int) by omega]
    rw [if_pos (by omega), if_pos (by omega), if_pos (by omega), if_pos trivial, if_pos trivial, bne_self_eq_false, if_neg (by simp), if_pos trivial, if_pos (by omega), if_pos (by omega), if_pos (by omega), if_pos trivial, if_pos trivial]
    exact ih
theorem like_self (L : List S34) (hL : L.length ≤ 65536) : recoupref09_Like.f (2 * L.length + 1) L L true = some true := by
  unfold recoupref09_Like.f
  rw [if_pos rfl]
  exact like_l L hL L.length 0 (by omega)
/-- Both cuts of one text tell the same. -/
theorem cuts_tell (s : ByteArray) : ∃ k k2 kl L f1 f2 f3, cutS s k = some (L, f1, f2, f3) ∧ refS s k2 = some (L, f1, f2, f3) ∧ L.length ≤ 65536 ∧ recoupref09_Like.f kl L L true = some true := by
  by_cases hb : s.size > 65536
  · exact ⟨0, 0, 1, [], 4, 1, 1, if_pos hb, if_pos hb, by simp, like_self [] (by simp)⟩
  · obtain ⟨k, k2, R, h1, h2, h3⟩ := cuts_same s s.size 0 [] (by omega) (by omega)
    have h1' : cutF s k 0 1 1 [] = some R := h1
    have h2' : refF s k2 0 1 1 false [] = some (told R) := h2
    have h3' : R.2.length ≤ 65536 := by simp at h3; omega
    have e : (told R).1.length ≤ 65536 := by unfold told; split <;> simp <;> omega
    refine ⟨k, k2, _, (told R).1, (told R).2.1, (told R).2.2.1, (told R).2.2.2, ?_, ?_, e, like_self _ e⟩
    · unfold cutS
      rw [if_neg hb, h1']
      unfold told
      show (if R.1.2.2 = true then some (R.2, (0 : Int), (0 : Int), (0 : Int)) else some ([], 90, R.1.1, R.1.2.1)) = _
      split <;> rfl
    · unfold refS
      rw [if_neg hb, h2']
end Go.Proofs.YtbljojjacfmggaaDoor.E
