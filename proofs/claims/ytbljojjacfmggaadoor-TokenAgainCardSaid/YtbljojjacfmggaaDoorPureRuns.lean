/- Kinds, runs of letters and digits, places, numbers' values, in plain words. No conditions. -/
import Derived.Test.YtbljojjacfmggaaDoorRefTok
import Derived.Test.YtbljojjacfmggaaDoorCut
namespace Go.Proofs.YtbljojjacfmggaaDoor.E
open Go Go.RowKit Go.Proofs.YtbljojjacfmggaaDoorW.PrintWords Go.Proofs.YtbljojjacfmggaaDoorW.PrintLast Go.Proofs.YtbljojjacfmggaaDoorW.PrintMore Go.Proofs.YtbljojjacfmggaaDoor.PA
/-! kinds -/
theorem kd_lt {s : ByteArray} {p : Nat} (hp : p < s.size) : kd s p = kindOf (bt s (p : Int)) := by unfold kd; rw [if_pos hp]
theorem kd_letter {s : ByteArray} {p : Nat} (hp : p < s.size) : kd s p = 1 ↔ isLetter (bt s (p : Int)) = true := by rw [kd_lt hp]; exact kindOf_letter _
theorem kd_digit {s : ByteArray} {p : Nat} (hp : p < s.size) : kd s p = 2 ↔ isDigit (bt s (p : Int)) = true := by rw [kd_lt hp]; exact kindOf_digit _
theorem kd_sign {s : ByteArray} {p : Nat} (hp : p < s.size) : kd s p = 3 ↔ signB (bt s (p : Int)) = true := by
  obtain ⟨c, hc⟩ : ∃ c, s[p]? = some c := ⟨_, getElem?_pos s p hp⟩
  rw [kd_lt hp, bt_of hc]; exact kindOf_sign c
theorem kind_blank_all : ∀ n : Fin 256, (kindOf (n.val : Int) = 4) ↔ ((n.val : Int) = 32 ∨ (n.val : Int) = 9 ∨ (n.val : Int) = 10) := by decide +kernel
theorem kind_remark_all : ∀ n : Fin 256, (kindOf (n.val : Int) = 5) ↔ ((n.val : Int) = 35) := by decide +kernel
theorem kd_blank {s : ByteArray} {p : Nat} (hp : p < s.size) : kd s p = 4 ↔ (bt s (p : Int) = 32 ∨ bt s (p : Int) = 9 ∨ bt s (p : Int) = 10) := by
  obtain ⟨c, hc⟩ : ∃ c, s[p]? = some c := ⟨_, getElem?_pos s p hp⟩
  rw [kd_lt hp, bt_of hc]; exact kind_blank_all ⟨c.toNat, c.toNat_lt⟩
theorem kd_remark {s : ByteArray} {p : Nat} (hp : p < s.size) : kd s p = 5 ↔ bt s (p : Int) = 35 := by
  obtain ⟨c, hc⟩ : ∃ c, s[p]? = some c := ⟨_, getElem?_pos s p hp⟩
  rw [kd_lt hp, bt_of hc]; exact kind_remark_all ⟨c.toNat, c.toNat_lt⟩
theorem letter_not {c : Int} (h : isLetter c = true) : c ≠ 10 := by unfold isLetter at h; have := of_decide_eq_true h; omega
theorem digit_not {c : Int} (h : isDigit c = true) : c ≠ 10 := by unfold isDigit at h; have := of_decide_eq_true h; omega
/-! runs -/
theorem contains12 (k : Int) : ([1, 2] : List Int).contains k = true ↔ (k = 1 ∨ k = 2) := by simp
theorem contains2 (k : Int) : ([2] : List Int).contains k = true ↔ k = 2 := by simp
theorem run_end (s : ByteArray) (b : Bool) (l : List Int) (hl : ∀ p, p < s.size → (l.contains (kd s p) = true ↔ (isDigit (bt s (p : Int)) || (b && isLetter (bt s (p : Int)))) = true)) :
    ∀ (n p : Nat), runTo s l n p (posF s p).1 (posF s p).2 = (endF s b n p, (posF s (endF s b n p)).1, (posF s (endF s b n p)).2)
  | 0, p => rfl
  | n + 1, p => by
    rw [runTo]
    by_cases hp : p < s.size
    · by_cases hc : (isDigit (bt s (p : Int)) || (b && isLetter (bt s (p : Int)))) = true
      · have hne : bt s (p : Int) ≠ 10 := by
          have h2 := hc
          simp only [Bool.or_eq_true, Bool.and_eq_true] at h2
          rcases h2 with h | h
          · exact digit_not h
          · exact letter_not h.2
        have e : endF s b (n + 1) p = endF s b n (p + 1) := by rw [endF, if_pos ⟨hp, hc⟩]
        have ih := run_end s b l hl n (p + 1)
        have e1 : (posF s (p + 1)).1 = (posF s p).1 := by rw [posF, if_neg hne]
        have e2 : (posF s (p + 1)).2 = (posF s p).2 + 1 := by rw [posF, if_neg hne]
        rw [e1, e2] at ih
        rw [e, if_pos ⟨hp, (hl p hp).2 hc⟩, if_neg hne, if_neg hne, ih]
      · have e : endF s b (n + 1) p = p := by rw [endF, if_neg (fun h => hc h.2)]
        rw [e, if_neg (fun h => hc ((hl p hp).1 h.2))]
    · have e : endF s b (n + 1) p = p := by rw [endF, if_neg (fun h => hp h.1)]
      rw [e, if_neg (fun h => hp h.1)]
theorem run12 (s : ByteArray) (p : Nat) : runTo s [1, 2] (s.size - p) p (posF s p).1 (posF s p).2 = (endP s true p, (posF s (endP s true p)).1, (posF s (endP s true p)).2) :=
  run_end s true [1, 2] (fun p hp => by
    rw [contains12, kd_letter hp, kd_digit hp]
    simp only [Bool.or_eq_true, Bool.and_eq_true, true_and]
    exact Or.comm) (s.size - p) p
theorem run2 (s : ByteArray) (p : Nat) : runTo s [2] (s.size - p) p (posF s p).1 (posF s p).2 = (endP s false p, (posF s (endP s false p)).1, (posF s (endP s false p)).2) :=
  run_end s false [2] (fun p hp => by
    rw [contains2, kd_digit hp]
    simp) (s.size - p) p
theorem pos_run (s : ByteArray) (b : Bool) : ∀ (n p : Nat), posF s (endF s b n p) = ((posF s p).1, (posF s p).2 + (endF s b n p - p))
  | 0, p => by simp [endF]
  | n + 1, p => by
    rw [endF]
    split
    · rename_i hc
      have hne : bt s (p : Int) ≠ 10 := by
        have h2 := hc.2
        simp only [Bool.or_eq_true, Bool.and_eq_true] at h2
        rcases h2 with h | h
        · exact digit_not h
        · exact letter_not h.2
      have ih := pos_run s b n (p + 1)
      have hle : p + 1 ≤ endF s b n (p + 1) := (endF_le s b n (p + 1) (by omega)).1
      rw [ih, posF, if_neg hne]
      simp only [Prod.mk.injEq, true_and]
      omega
    · simp
theorem pos_end (s : ByteArray) (b : Bool) (p : Nat) : (posF s (endP s b p)).1 = (posF s p).1 ∧ (posF s (endP s b p)).2 = (posF s p).2 + (endP s b p - p) := by
  have h := pos_run s b (s.size - p) p
  unfold endP
  rw [h]
  exact ⟨rfl, rfl⟩
/-- A remark's end. -/
theorem rem_pos (s : ByteArray) : ∀ (n p : Nat), (remTo s n p (posF s p).1 (posF s p).2).2 = posF s (remTo s n p (posF s p).1 (posF s p).2).1
  | 0, p => rfl
  | n + 1, p => by
    rw [remTo]
    split
    · rename_i hc
      have ih := rem_pos s n (p + 1)
      rw [posF, if_neg hc.2] at ih
      rw [if_neg hc.2, if_neg hc.2]
      exact ih
    · rfl
theorem rem_le (s : ByteArray) : ∀ (n p q r : Nat), p ≤ s.size → p ≤ (remTo s n p q r).1 ∧ (remTo s n p q r).1 ≤ s.size
  | 0, p, q, r, hp => ⟨Nat.le_refl _, hp⟩
  | n + 1, p, q, r, hp => by
    rw [remTo]
    split
    · rename_i hc
      have ih := rem_le s n (p + 1) (if bt s p = 10 then q + 1 else q) (if bt s p = 10 then 1 else r + 1) (by omega)
      exact ⟨by omega, ih.2⟩
    · exact ⟨Nat.le_refl _, hp⟩
/-! numbers -/
def numL : List UInt8 → Nat → Option Nat
  | [], acc => some acc
  | c :: r, acc => if 10 * acc + (c.toNat - 48) > 2147483647 then none else numL r (10 * acc + (c.toNat - 48))
theorem parse_big : ∀ (l : List UInt8) (acc : Nat), (∀ c ∈ l, 48 ≤ c.toNat ∧ c.toNat ≤ 57) → Lib.parseUint10 acc l = .range ∨ ∃ u, acc ≤ u ∧ Lib.parseUint10 acc l = .ok u
  | [], acc, _ => .inr ⟨acc, Nat.le_refl _, rfl⟩
  | c :: r, acc, h => by
    rw [Lib.parseUint10, if_pos (h c (by simp))]
    split
    · exact .inl rfl
    · split
      · exact .inl rfl
      · rcases parse_big r (acc * 10 + (c.toNat - 48)) (fun x hx => h x (by simp [hx])) with h1 | ⟨u, h1, h2⟩
        · exact .inl h1
        · exact .inr ⟨u, by omega, h2⟩
theorem parse_num : ∀ (l : List UInt8) (acc : Nat), acc ≤ 2147483647 → (∀ c ∈ l, 48 ≤ c.toNat ∧ c.toNat ≤ 57) → match numL l acc with
    | some v => Lib.parseUint10 acc l = .ok v ∧ v ≤ 2147483647
    | none => Lib.parseUint10 acc l = .range ∨ ∃ u, 2147483647 < u ∧ Lib.parseUint10 acc l = .ok u
  | [], acc, ha, _ => ⟨rfl, ha⟩
  | c :: r, acc, ha, h => by
    have hc := h c (by simp)
    rw [Lib.parseUint10, if_pos hc, numL]
    by_cases hb : 10 * acc + (c.toNat - 48) > 2147483647
    · rw [if_pos hb]
      show _ ∨ _
      rw [if_neg (by omega), if_neg (by omega)]
      rcases parse_big r (acc * 10 + (c.toNat - 48)) (fun x hx => h x (by simp [hx])) with h1 | ⟨u, h1, h2⟩
      · exact .inl h1
      · exact .inr ⟨u, by omega, h2⟩
    · rw [if_neg hb, if_neg (by omega), if_neg (by omega), show acc * 10 + (c.toNat - 48) = 10 * acc + (c.toNat - 48) by omega]
      exact parse_num r _ (by omega) (fun x hx => h x (by simp [hx]))
theorem bt_list (t : ByteArray) (i : Nat) (h : i < t.size) : bt t (i : Int) = (((t.data.toList[i]'h).toNat : Nat) : Int) := by
  unfold bt
  rw [dif_pos (show ((i : Int)).toNat < t.size from h)]
  rfl
theorem num_list (t : ByteArray) (hd : ∀ c ∈ t.data.toList, 48 ≤ c.toNat ∧ c.toNat ≤ 57) : ∀ (m p acc : Nat), p + m = t.size → numG t m p acc = match numL (t.data.toList.drop p) acc with
    | some v => if bt t 0 = 48 ∧ t.size > 1 then -1 else (v : Int)
    | none => -1
  | 0, p, acc, h => by
    have e : t.data.toList.drop p = [] := List.drop_eq_nil_of_le (by show t.size ≤ p; omega)
    rw [e]; rfl
  | m + 1, p, acc, h => by
    have hp : p < t.size := by omega
    have hp' : p < t.data.toList.length := hp
    rw [List.drop_eq_getElem_cons hp', numG, numL, bt_list t p hp]
    have hc := hd _ (List.getElem_mem hp')
    have ih := num_list t hd m (p + 1) (10 * acc + (t.data.toList[p].toNat - 48)) (by omega)
    have e1 : ((((t.data.toList[p]'hp').toNat : Nat) : Int) - 48) % 256 = ((t.data.toList[p].toNat - 48 : Nat) : Int) := by omega
    rw [e1]
    by_cases hb : 10 * acc + (t.data.toList[p].toNat - 48) > 2147483647
    · rw [if_pos (by omega), if_pos hb]
    · rw [if_neg (by omega), if_neg hb, ← ih]; rfl
theorem value_num (t : ByteArray) (h0 : 0 < t.size) (hd : ∀ c ∈ t.data.toList, 48 ≤ c.toNat ∧ c.toNat ≤ 57) : ((valueF t).2 = true ↔ ¬ numP t < 0) ∧ ((valueF t).2 = true → (valueF t).1 = numP t) := by
  have hn := num_list t hd t.size 0 0 (by omega)
  rw [List.drop_zero] at hn
  have hpz := parse_num t.data.toList 0 (by omega) hd
  have hne : t.data.toList ≠ [] := fun e => by
    have : t.size = 0 := by show t.data.toList.length = 0; rw [e]; rfl
    omega
  have hat : ∀ r, Lib.parseUint10 0 t.data.toList = r → (r = .range → Lib.atoiAll t.data.toList = .range) ∧ ∀ u, r = .ok u → Lib.atoiAll t.data.toList = if 9223372036854775808 ≤ u then .range else .ok (u : Int) := by
    intro r hr
    cases hl : t.data.toList with
    | nil => exact absurd hl hne
    | cons c l =>
      rw [hl] at hr
      have hc := hd c (by rw [hl]; simp)
      have hn45 : ¬ c.toNat = 45 := by omega
      simp only [Lib.atoiAll]
      rw [if_neg (by omega), show Lib.parseMag (c :: l) = Lib.parseUint10 0 (c :: l) from if_neg (by simp), hr]
      refine ⟨fun e => ?_, fun u e => ?_⟩
      · rw [e]
      · rw [e]; simp [hn45]
  unfold numP
  rw [hn]
  unfold valueF
  by_cases hz : t.size > 1 ∧ bt t 0 = 48
  · rw [if_pos hz]
    cases hL : numL t.data.toList 0 with
    | none => simp
    | some v => simp only [if_pos (And.intro hz.2 hz.1)]; simp
  · rw [if_neg hz]
    cases hL : numL t.data.toList 0 with
    | none =>
      rw [hL] at hpz
      rcases hpz with h1 | ⟨u, h1, h2⟩
      · rw [(hat _ h1).1 rfl]; simp
      · rw [(hat _ h2).2 u rfl]
        by_cases hb : 9223372036854775808 ≤ u
        · simp [hb]
        · simp [hb]; omega
    | some v =>
      rw [hL] at hpz
      obtain ⟨h1, h2⟩ := hpz
      have hz2 : ¬ (bt t 0 = 48 ∧ t.size > 1) := fun h => hz ⟨h.2, h.1⟩
      rw [(hat _ h1).2 v rfl]
      have hb : ¬ 9223372036854775808 ≤ v := by omega
      simp only [if_neg hb, if_neg hz2]
      simp
      omega
/-! digits -/
theorem endF_all (s : ByteArray) (b : Bool) : ∀ (n p i : Nat), p ≤ i → i < endF s b n p → i < s.size ∧ (isDigit (bt s (i : Int)) || (b && isLetter (bt s (i : Int)))) = true
  | 0, p, i, h1, h2 => by rw [endF] at h2; omega
  | n + 1, p, i, h1, h2 => by
    rw [endF] at h2
    split at h2
    · rename_i hc
      by_cases e : i = p
      · subst e; exact hc
      · exact endF_all s b n (p + 1) i (by omega) h2
    · omega
theorem ext_digits (s : ByteArray) (p : Nat) : ∀ c ∈ (s.extract p (endP s false p)).data.toList, 48 ≤ c.toNat ∧ c.toNat ≤ 57 := by
  intro c hc
  rw [ByteArray.data_extract, List.mem_iff_getElem] at hc
  obtain ⟨i, hi, rfl⟩ := hc
  have hi' : i < (s.data.extract p (endP s false p)).size := hi
  have hs : (s.data.extract p (endP s false p)).size = min (endP s false p) s.data.size - p := Array.size_extract
  obtain ⟨h1, h2⟩ := endF_all s false (s.size - p) p (p + i) (by omega) (by show _ < endP s false p; omega)
  have hb : bt s ((p + i : Nat) : Int) = (((s.data[p + i]'h1).toNat : Nat) : Int) := by
    unfold bt
    rw [dif_pos (show (((p + i : Nat) : Int)).toNat < s.size from h1)]
    rfl
  rw [hb] at h2
  have h3 : isDigit (((s.data[p + i]'h1).toNat : Nat) : Int) = true := by simpa using h2
  have h4 := of_decide_eq_true h3
  rw [Array.getElem_toList, Array.getElem_extract]
  omega
theorem pos_next {s : ByteArray} {p : Nat} : posF s (p + 1) = ((if bt s (p : Int) = 10 then (posF s p).1 + 1 else (posF s p).1), (if bt s (p : Int) = 10 then 1 else (posF s p).2 + 1)) := by
  rw [posF]
  split <;> rfl
end Go.Proofs.YtbljojjacfmggaaDoor.E
