/- An expression's text has as many opening brackets as it has expressions of two parts: in plain Lean, with no program in sight. -/
import Derived.Test.YtibaidddhmdafaaDoorTText
namespace Go.Proofs.YtibaidddhmdafaaDoor.E
open Go Go.RowKit Go.Proofs.YtibaidddhmdafaaDoorW.PrintWords Go.Proofs.YtibaidddhmdafaaDoorW.PrintLast Go.Proofs.YtibaidddhmdafaaDoorW.PrintMore Go.Proofs.YtibaidddhmdafaaDoor.PA
set_option linter.unusedVariables false
set_option linter.unusedSimpArgs false
theorem dec_small {u : Nat} (h : u < 10) : Lib.decDigits u = [UInt8.ofNat (48 + u)] := by rw [Lib.decDigits, dif_pos h]
theorem dec_big {u : Nat} (h : ¬ u < 10) : Lib.decDigits u = Lib.decDigits (u / 10) ++ [UInt8.ofNat (48 + u % 10)] := by rw [Lib.decDigits, dif_neg h]
theorem dig_nat {k : Nat} (h : k < 10) : (UInt8.ofNat (48 + k)).toNat = 48 + k := by
  rw [UInt8.toNat_ofNat']
  omega
theorem dec_digits : ∀ (u : Nat), ∀ c ∈ Lib.decDigits u, 48 ≤ c.toNat ∧ c.toNat ≤ 57 := by
  intro u
  induction u using Nat.strongRecOn with
  | _ u ih =>
    intro c hc
    by_cases h : u < 10
    · rw [dec_small h, List.mem_singleton] at hc
      subst hc
      rw [dig_nat h]; omega
    · rw [dec_big h, List.mem_append, List.mem_singleton] at hc
      rcases hc with hc | hc
      · exact ih (u / 10) (by omega) c hc
      · subst hc
        rw [dig_nat (by omega)]; omega
theorem itoa_nat {n : Int} (h : 0 ≤ n) : Lib.itoa n = Lib.decDigits n.toNat := by unfold Lib.itoa; rw [if_neg (by omega)]
/-- How many opening brackets there are. -/
def cnt (l : List UInt8) : Nat := l.countP (fun c => c.toNat == 40)
theorem cnt_app (a b : List UInt8) : cnt (a ++ b) = cnt a + cnt b := List.countP_append
theorem cnt_none {l : List UInt8} (h : ∀ c ∈ l, c.toNat ≠ 40) : cnt l = 0 := by
  unfold cnt
  rw [List.countP_eq_zero]
  intro c hc he
  exact h c hc (eq_of_beq he)
def cntB (s : ByteArray) (i : Nat) : Nat := cnt (s.data.toList.take i)
theorem cntB_next {s : ByteArray} {i : Nat} {c : UInt8} (h : s[i]? = some c) : cntB s (i + 1) = cntB s i + (if ((c.toNat : Nat) : Int) = 40 then 1 else 0) := by
  have hc : s.data.toList[i]? = some c := by
    rw [Array.getElem?_toList, ← h]; rfl
  unfold cntB
  rw [List.take_add_one, hc, cnt_app]
  congr 1
  unfold cnt
  simp only [Option.toList_some, List.countP_cons, List.countP_nil, Nat.zero_add]
  by_cases h1 : c.toNat = 40
  · rw [if_pos (beq_iff_eq.2 h1), if_pos (by omega)]
  · rw [if_neg (by rw [beq_iff_eq]; exact h1), if_neg (by omega)]
theorem cntB_all (s : ByteArray) (i : Nat) (h : s.size ≤ i) : cntB s i = cnt s.data.toList := by
  unfold cntB
  rw [List.take_of_length_le (by rw [Array.length_toList]; exact h)]
/-! names hold none -/
theorem nameFrom_at (s : ByteArray) : ∀ (m i j : Nat), nameFrom s m i = true → i ≤ j → j < i + m → bt s (j : Int) ≠ 40
  | 0, i, j, _, h1, h2 => by omega
  | m + 1, i, j, h, h1, h2 => by
    rw [nameFrom, Bool.and_eq_true, Bool.or_eq_true] at h
    by_cases e : j = i
    · subst e
      intro h40
      rcases h.1 with h3 | h3
      · unfold isLetter at h3; have := of_decide_eq_true h3; omega
      · rw [Bool.and_eq_true] at h3
        have h4 := h3.1
        unfold isDigit at h4; have := of_decide_eq_true h4; omega
    · exact nameFrom_at s m (i + 1) j h.2 (by omega) (by omega)
theorem name_cnt {s : ByteArray} (h : nameOk s = true) : cnt s.data.toList = 0 := by
  unfold nameOk at h
  simp only [Bool.and_eq_true] at h
  have h1 := h.1
  unfold nameText at h1
  rw [Bool.and_eq_true] at h1
  refine cnt_none (fun c hc => ?_)
  obtain ⟨j, hj, rfl⟩ := List.getElem_of_mem hc
  have hj' : j < s.size := hj
  have h2 := nameFrom_at s s.size 0 j h1.1 (Nat.zero_le _) (by omega)
  have h3 := bt_at s (j : Int) (by rw [Int.toNat_natCast]; exact hj')
  intro h4
  apply h2
  rw [← h3]
  have e : (s[((j : Nat) : Int).toNat]'(by rw [Int.toNat_natCast]; exact hj')) = s.data.toList[j] := by
    simp only [Int.toNat_natCast]; rfl
  rw [e, h4]; rfl
/-! tokens -/
def cntT (t : XT) : Nat := cnt (formT t).data.toList
theorem form_say (s : ByteArray) : formT (sayT s) = s := by
  have h1 := sayT_f1 s
  unfold formT
  rw [if_neg (by unfold sayT; repeat' split
                 all_goals (intro h; cases h)), h1]
def twosX : Nat → XE → Nat
  | 0, _ => 0
  | n + 1, x => (if x.f3.length = 2 then 1 else 0) + (x.f3.map (twosX n)).sum
theorem twos_le : ∀ (n : Nat) (x : XE), shapeX n x → twosX n x + 1 ≤ 2 ^ n
  | 0, _, h => h.elim
  | n + 1, x, h => by
    obtain ⟨hp, hq⟩ := h
    have hl := exprParts_le hp
    have h2 : 2 ^ (n + 1) = 2 * 2 ^ n := by rw [Nat.pow_succ]; omega
    have h0 : 0 < 2 ^ n := Nat.pow_pos (by decide)
    rw [twosX, h2]
    match hx : x.f3, hl with
    | [], _ => simp; omega
    | [a], _ => have := twos_le n a (hq a (by rw [hx]; simp)); simp; omega
    | [a, b], _ => have := twos_le n a (hq a (by rw [hx]; simp)); have := twos_le n b (hq b (by rw [hx]; simp)); simp; omega
theorem part_eq {x : XE} {i : Nat} {y : XE} (h : x.f3[i]? = some y) : part x i = y := by
  unfold part
  rw [List.getD_eq_getElem?_getD, h]; rfl
theorem toks_cnt : ∀ (n : Nat) (x : XE), shapeX n x → ((toksX n x).map cntT).sum = twosX n x
  | 0, _, h => h.elim
  | n + 1, x, h => by
    obtain ⟨hp, hq⟩ := h
    have hk := parts_kind hp
    rw [toksX, twosX]
    split
    · rename_i h1
      have hl : x.f3 = [] := List.eq_nil_of_length_eq_zero (by omega)
      rw [hl]
      have h0 : cntT ⟨3, ⟨#[]⟩, x.f1, 0, 0⟩ = 0 := by
        show cnt (Lib.itoa x.f1).toArray.toList = 0
        rw [List.toList_toArray, itoa_nat (by omega)]
        exact cnt_none (fun c hc => by have := dec_digits _ c hc; omega)
      simp [h0]
    · split
      · rename_i h1 h2
        have hl : x.f3 = [] := List.eq_nil_of_length_eq_zero (by omega)
        rw [hl]
        have hn : nameOk x.f2 = true := by rcases hk with h | h | h | h <;> first | exact h.2.2 | omega
        have h0 : cntT (sayT x.f2) = 0 := by unfold cntT; rw [form_say]; exact name_cnt hn
        simp [h0]
      · have hm : cntT (sayT ⟨#[45]⟩) = 0 := by unfold cntT; rw [form_say]; rfl
        split
        · rename_i h1 h2 h3
          match hx : x.f3, (show x.f3.length = 1 by omega) with
          | [a], _ =>
            have ea : part x 0 = a := part_eq (by rw [hx]; rfl)
            have := toks_cnt n a (hq a (by rw [hx]; simp))
            rw [ea, List.map_cons, List.sum_cons, hm, this]; simp
        · rename_i h1 h2 h3
          match hx : x.f3, (show x.f3.length = 2 by omega) with
          | [a, b], _ =>
            have ea : part x 0 = a := part_eq (by rw [hx]; rfl)
            have eb : part x 1 = b := part_eq (by rw [hx]; rfl)
            have ha := toks_cnt n a (hq a (by rw [hx]; simp))
            have hb := toks_cnt n b (hq b (by rw [hx]; simp))
            have h40 : cntT (sayT ⟨#[40]⟩) = 1 := by unfold cntT; rw [form_say]; rfl
            have h41 : cntT (sayT ⟨#[41]⟩) = 0 := by unfold cntT; rw [form_say]; rfl
            have hop : cntT (sayT (opS x.f0)) = 0 := by
              unfold cntT; rw [form_say]; unfold opS
              repeat' split
              all_goals rfl
            rw [ea, eb]
            simp only [List.map_cons, List.sum_cons, List.map_append, List.sum_append, List.map_nil, List.sum_nil, h40, h41, hop, ha, hb, List.length_cons, List.length_nil]
            simp
theorem may_signs : ∀ s ∈ [(⟨#[45]⟩ : ByteArray), ⟨#[40]⟩, ⟨#[41]⟩, ⟨#[43]⟩, ⟨#[42]⟩, ⟨#[47]⟩, ⟨#[37]⟩], mayB (sayT s) = true := by decide +kernel
theorem toks_may : ∀ (n : Nat) (x : XE), shapeX n x → ∀ t ∈ toksX n x, mayB t = true
  | 0, _, h, _, _ => h.elim
  | n + 1, x, h, t, ht => by
    obtain ⟨hp, hq⟩ := h
    have hk := parts_kind hp
    rw [toksX] at ht
    split at ht
    · rename_i h1
      simp only [List.mem_cons, List.not_mem_nil, or_false] at ht; subst ht
      have h2 : 0 ≤ x.f1 ∧ x.f1 ≤ 2147483647 := by omega
      unfold mayB
      rw [if_neg (show ¬ (3 : Int) = 1 by decide), if_neg (show ¬ (3 : Int) = 2 by decide), if_pos rfl]
      show (decide ((⟨#[]⟩ : ByteArray).size = 0) && (decide (0 ≤ x.f1) && decide (x.f1 ≤ 2147483647))) = true
      rw [decide_eq_true h2.1, decide_eq_true h2.2]; rfl
    · split at ht
      · rename_i h1 h2
        have hn : nameOk x.f2 = true := by rcases hk with h | h | h | h <;> first | exact h.2.2 | omega
        simp only [List.mem_cons, List.not_mem_nil, or_false] at ht; subst ht
        have h1 : mayB (tk 1 x.f2) = true := by unfold mayB; simp [tk, hn]
        unfold sayT
        split
        · assumption
        · exact h1
      · split at ht
        · rename_i h3
          rcases List.mem_cons.1 ht with rfl | ht
          · exact may_signs _ (by simp)
          · exact toks_may n _ (hq _ (part_mem (by omega)).2) t ht
        · have hl : x.f3.length = 2 := by omega
          simp only [List.mem_cons, List.mem_append, List.not_mem_nil, or_false] at ht
          rcases ht with rfl | ht | rfl | ht | rfl
          · exact may_signs _ (by simp)
          · exact toks_may n _ (hq _ (part_mem (by omega)).2) t ht
          · refine may_signs _ ?_
            unfold opS
            repeat' split
            all_goals simp
          · exact toks_may n _ (hq _ (part_mem (by omega)).2) t ht
          · exact may_signs _ (by simp)
theorem cat_cnt : ∀ (l : List XT) (acc : ByteArray) (i : Nat), cnt (catF l acc i).data.toList = cnt acc.data.toList + (l.map cntT).sum
  | [], acc, i => by rw [catF]; simp
  | t :: r, acc, i => by
    rw [catF, cat_cnt r _ _, List.map_cons, List.sum_cons]
    have h : cnt (stepJ acc i t).data.toList = cnt acc.data.toList + cntT t := by
      unfold stepJ cntT
      split
      · rw [ByteArray.data_append, ByteArray.data_append, Array.toList_append, Array.toList_append, cnt_app, cnt_app]; rfl
      · rw [ByteArray.data_append, Array.toList_append, cnt_app]
    omega
theorem joinF_all {l : List XT} (h : ∀ t ∈ l, mayB t = true) : joinF l = if (catF l ⟨#[]⟩ 0).size > 65536 then (⟨#[]⟩, 4) else (catF l ⟨#[]⟩ 0, 0) := by
  unfold joinF
  rw [if_pos (List.all_eq_true.2 h), join_cat l ⟨#[]⟩ 0 (by decide)]
  split
  · rename_i s hs
    split at hs
    · cases hs
    · rename_i h1; rw [if_neg h1]; cases hs; rfl
  · rename_i hs
    split at hs
    · rename_i h1; rw [if_pos h1]
    · cases hs
/-- The brackets of a text. -/
theorem brackets (x : XE) (hd : deepX x ≠ 0) : (textX x).1.size ≤ 65536 ∧ ((textX x).2 = 4 ∨ (textX x).2 = 0 ∧ cnt (textX x).1.data.toList = twosX 16 x) := by
  have hS := shape_of 16 x 8192 hd
  unfold textX
  rw [if_neg hd, joinF_all (toks_may 16 x hS)]
  split
  · exact ⟨by show (0 : Nat) ≤ _; omega, .inl rfl⟩
  · rename_i h1
    refine ⟨by show (catF _ _ _).size ≤ _; omega, .inr ⟨rfl, ?_⟩⟩
    show cnt (catF _ _ _).data.toList = _
    rw [cat_cnt, toks_cnt 16 x hS]
    show 0 + _ = _
    rw [Nat.zero_add]
end Go.Proofs.YtibaidddhmdafaaDoor.E
