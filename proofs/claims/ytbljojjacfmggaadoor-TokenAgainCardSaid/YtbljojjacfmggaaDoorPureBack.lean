/- Cut of what Join tells gives the tokens again, in plain words. No conditions. -/
import Derived.Test.YtbljojjacfmggaaDoorJoinF
import Derived.Test.YtbljojjacfmggaaDoorPureRuns
import Derived.Test.YtbljojjacfmggaaDoorTokCut
import Derived.Test.YtbljojjacfmggaaDoorPA1011
namespace Go.Proofs.YtbljojjacfmggaaDoor.E
open Go Go.RowKit Go.Proofs.YtbljojjacfmggaaDoorW.PrintWords Go.Proofs.YtbljojjacfmggaaDoorW.PrintLast Go.Proofs.YtbljojjacfmggaaDoorW.PrintMore Go.Proofs.YtbljojjacfmggaaDoor.PA
/-! a number's digits -/
theorem dec_small {u : Nat} (h : u < 10) : Lib.decDigits u = [UInt8.ofNat (48 + u)] := by rw [Lib.decDigits, dif_pos h]
theorem dec_big {u : Nat} (h : ¬ u < 10) : Lib.decDigits u = Lib.decDigits (u / 10) ++ [UInt8.ofNat (48 + u % 10)] := by rw [Lib.decDigits, dif_neg h]
theorem dig_nat {k : Nat} (h : k < 10) : (UInt8.ofNat (48 + k)).toNat = 48 + k := by
  rw [UInt8.toNat_ofNat']
  omega
theorem dec_digits : ∀ (u : Nat), ∀ c ∈ Lib.decDigits u, 48 ≤ c.toNat ∧ c.toNat ≤ 57 := by
  intro u
  induction u using Nat.strongRecOn with
  | _ u ih =>
    intro c hc
    by_cases h : u < 10
    · rw [dec_small h, List.mem_singleton] at hc
      subst hc
      rw [dig_nat h]; omega
    · rw [dec_big h, List.mem_append, List.mem_singleton] at hc
      rcases hc with hc | hc
      · exact ih (u / 10) (by omega) c hc
      · subst hc
        rw [dig_nat (by omega)]; omega
theorem dec_pos (u : Nat) : 0 < (Lib.decDigits u).length := by
  by_cases h : u < 10
  · rw [dec_small h]; simp
  · rw [dec_big h]; simp
theorem dec_head : ∀ (u : Nat), 1 ≤ u → ∀ c, (Lib.decDigits u)[0]? = some c → c.toNat ≠ 48 := by
  intro u
  induction u using Nat.strongRecOn with
  | _ u ih =>
    intro h1 c hc
    by_cases h : u < 10
    · rw [dec_small h] at hc
      simp only [List.getElem?_cons_zero, Option.some.injEq] at hc
      subst hc
      rw [dig_nat h]; omega
    · rw [dec_big h, List.getElem?_append_left (dec_pos _)] at hc
      exact ih (u / 10) (by omega) (by omega) c hc
theorem numL_snoc : ∀ (l : List UInt8) (c : UInt8) (acc : Nat), numL (l ++ [c]) acc = (numL l acc).bind fun x => if 10 * x + (c.toNat - 48) > 2147483647 then none else some (10 * x + (c.toNat - 48))
  | [], c, acc => by simp only [List.nil_append, numL, Option.bind_some]
  | d :: l, c, acc => by
    rw [List.cons_append, numL, numL]
    split
    · rfl
    · exact numL_snoc l c _
theorem num_dec : ∀ (u : Nat), u ≤ 2147483647 → numL (Lib.decDigits u) 0 = some u := by
  intro u
  induction u using Nat.strongRecOn with
  | _ u ih =>
    intro hu
    by_cases h : u < 10
    · rw [dec_small h]
      simp only [numL]
      rw [dig_nat h, if_neg (by omega)]
      congr 1; omega
    · rw [dec_big h, numL_snoc, ih (u / 10) (by omega) (by omega), Option.bind_some, dig_nat (by omega), if_neg (by omega)]
      congr 1; omega
theorem itoa_nat (n : Int) (h : 0 ≤ n) : Lib.itoa n = Lib.decDigits n.toNat := by unfold Lib.itoa; rw [if_neg (by omega)]
theorem value_itoa (n : Int) (h0 : 0 ≤ n) (h1 : n ≤ 2147483647) : valueF ⟨(Lib.itoa n).toArray⟩ = (n, true) := by
  have hl : (⟨(Lib.itoa n).toArray⟩ : ByteArray).data.toList = Lib.decDigits n.toNat := by rw [itoa_nat n h0]
  have hpos : 0 < (⟨(Lib.itoa n).toArray⟩ : ByteArray).size := by
    show 0 < (⟨(Lib.itoa n).toArray⟩ : ByteArray).data.toList.length
    rw [hl]; exact dec_pos _
  have hd : ∀ c ∈ (⟨(Lib.itoa n).toArray⟩ : ByteArray).data.toList, 48 ≤ c.toNat ∧ c.toNat ≤ 57 := by rw [hl]; exact dec_digits _
  obtain ⟨v1, v2⟩ := value_num _ hpos hd
  have hn := num_list _ hd (⟨(Lib.itoa n).toArray⟩ : ByteArray).size 0 0 (by omega)
  rw [List.drop_zero, hl, num_dec _ (by omega)] at hn
  have hz : ¬ (bt ⟨(Lib.itoa n).toArray⟩ 0 = 48 ∧ (⟨(Lib.itoa n).toArray⟩ : ByteArray).size > 1) := by
    rintro ⟨hb, hs⟩
    have hb2 := bt_list ⟨(Lib.itoa n).toArray⟩ 0 hpos
    have h10 : 1 ≤ n.toNat := by
      rcases Nat.lt_or_ge n.toNat 10 with h | h
      · have hs2 : (⟨(Lib.itoa n).toArray⟩ : ByteArray).data.toList.length > 1 := hs
        rw [hl, dec_small h] at hs2
        simp at hs2
      · omega
    have hx : (Lib.decDigits n.toNat)[0]? = some ((⟨(Lib.itoa n).toArray⟩ : ByteArray).data.toList[0]'hpos) := by
      rw [← hl]; exact List.getElem?_eq_getElem _
    have := dec_head n.toNat h10 _ hx
    rw [show (((0 : Nat) : Int)) = 0 from rfl, hb] at hb2
    omega
  have hN : numP ⟨(Lib.itoa n).toArray⟩ = n := by
    unfold numP
    rw [hn]
    simp only [if_neg hz]
    omega
  rw [hN] at v1 v2
  have h2 := v1.2 (by omega)
  exact Prod.ext (v2 h2) h2
/-! bytes of a text put together -/
theorem app_list (a b : ByteArray) : (a ++ b).data.toList = a.data.toList ++ b.data.toList := by rw [ByteArray.data_append, Array.toList_append]
theorem bt_in (a b c : ByteArray) (j : Nat) (hj : j < b.size) : bt (a ++ b ++ c) ((a.size + j : Nat) : Int) = bt b (j : Int) := by
  have hs : a.size + j < (a ++ b ++ c).size := by rw [ByteArray.size_append, ByteArray.size_append]; omega
  have e : (a ++ b ++ c).data.toList = a.data.toList ++ (b.data.toList ++ c.data.toList) := by rw [app_list, app_list, List.append_assoc]
  have h1 : (a ++ b ++ c).data.toList[a.size + j]? = b.data.toList[j]? := by
    rw [e, List.getElem?_append_right (by show a.size ≤ _; omega), show a.size + j - a.data.toList.length = j by show a.size + j - a.size = j; omega, List.getElem?_append_left hj]
  rw [List.getElem?_eq_getElem (l := (a ++ b ++ c).data.toList) hs, List.getElem?_eq_getElem (l := b.data.toList) hj] at h1
  rw [bt_list _ _ hs, bt_list _ _ hj, Option.some.inj h1]
theorem ext_in (a b c : ByteArray) : (a ++ b ++ c).extract a.size (a.size + b.size) = b := by
  have h : ((a ++ b ++ c).extract a.size (a.size + b.size)).data.toList = b.data.toList := by
    rw [ByteArray.data_extract, Array.toList_extract]
    have e : (a ++ b ++ c).data.toList = a.data.toList ++ (b.data.toList ++ c.data.toList) := by rw [app_list, app_list, List.append_assoc]
    rw [e]
    show ((a.data.toList ++ (b.data.toList ++ c.data.toList)).drop a.size).take (a.size + b.size - a.size) = b.data.toList
    rw [List.drop_left' (l₁ := a.data.toList) (show a.data.toList.length = a.size from rfl), show a.size + b.size - a.size = b.size by omega, List.take_left' (l₁ := b.data.toList) (show b.data.toList.length = b.size from rfl)]
  exact bytes_eq (by rw [ByteArray.toList_eq, ByteArray.toList_eq]; exact h)
theorem endF_run (s : ByteArray) (b : Bool) : ∀ (m n p : Nat), m ≤ n → p + m ≤ s.size → (∀ j, j < m → (isDigit (bt s ((p + j : Nat) : Int)) || (b && isLetter (bt s ((p + j : Nat) : Int)))) = true) →
    (p + m < s.size → (isDigit (bt s ((p + m : Nat) : Int)) || (b && isLetter (bt s ((p + m : Nat) : Int)))) = false) → endF s b n p = p + m
  | 0, 0, p, _, _, _, _ => rfl
  | 0, n + 1, p, _, h1, _, h3 => by
    rw [endF, if_neg]
    · rfl
    · intro h
      have := h3 (by omega)
      rw [Nat.add_zero, h.2] at this
      cases this
  | m + 1, 0, p, h0, _, _, _ => by omega
  | m + 1, n + 1, p, h0, h1, h2, h3 => by
    have h20 := h2 0 (by omega)
    rw [Nat.add_zero] at h20
    rw [endF, if_pos ⟨by omega, h20⟩, endF_run s b m n (p + 1) (by omega) (by omega) (fun j hj => by have := h2 (j + 1) (by omega); rw [show p + 1 + j = p + (j + 1) by omega]; exact this) (fun h => by rw [show p + 1 + m = p + (m + 1) by omega]; exact h3 (by omega))]
    omega
theorem nameFrom_all (f : ByteArray) : ∀ (m i : Nat), nameFrom f m i = true → ∀ j, i ≤ j → j < i + m → (isLetter (bt f (j : Int)) || (isDigit (bt f (j : Int)) && decide (j ≠ 0))) = true
  | 0, i, _, j, h1, h2 => by omega
  | m + 1, i, h, j, h1, h2 => by
    rw [nameFrom, Bool.and_eq_true] at h
    by_cases e : j = i
    · subst e; exact h.1
    · exact nameFrom_all f m (i + 1) h.2 j (by omega) (by omega)
theorem name_bytes {f : ByteArray} (h : nameText f = true) : 0 < f.size ∧ isLetter (bt f 0) = true ∧ ∀ j, j < f.size → (isDigit (bt f (j : Int)) || (true && isLetter (bt f (j : Int)))) = true := by
  unfold nameText at h
  simp only [Bool.and_eq_true, decide_eq_true_eq] at h
  have ha := nameFrom_all f f.size 0 h.1
  refine ⟨by omega, ?_, fun j hj => ?_⟩
  · have := ha 0 (by omega) (by omega)
    simpa using this
  · have := ha j (by omega) (by omega)
    cases h1 : isLetter (bt f (j : Int)) <;> cases h2 : isDigit (bt f (j : Int)) <;> simp [h1, h2] at this ⊢
/-! the text behind a place -/
def tailB : List S34 → ByteArray
  | [] => ⟨#[]⟩
  | t :: r => ⟨#[32]⟩ ++ formT t ++ tailB r
theorem app_nil (a : ByteArray) : a ++ (⟨#[]⟩ : ByteArray) = a := ByteArray.append_empty
theorem cat_tail : ∀ (r : List S34) (acc : ByteArray) (i : Nat), 0 < i → catF r acc i = acc ++ tailB r
  | [], acc, i, _ => (app_nil acc).symm
  | t :: r, acc, i, h => by
    rw [catF, cat_tail r _ _ (by omega), stepJ, if_pos h, tailB]
    simp only [ByteArray.append_assoc]
theorem tail_first (r : List S34) : tailB r = ⟨#[]⟩ ∨ (0 < (tailB r).size ∧ bt (tailB r) 0 = 32) := by
  cases r with
  | nil => exact .inl rfl
  | cons t r =>
    right
    have e : tailB (t :: r) = (⟨#[]⟩ : ByteArray) ++ ⟨#[32]⟩ ++ (formT t ++ tailB r) := by
      rw [tailB, show (⟨#[]⟩ : ByteArray) ++ ⟨#[32]⟩ = ⟨#[32]⟩ from rfl, ByteArray.append_assoc]
    refine ⟨?_, ?_⟩
    · rw [tailB, ByteArray.size_append, ByteArray.size_append]; show 0 < 1 + _ + _; omega
    · rw [e]
      have h := bt_in ⟨#[]⟩ ⟨#[32]⟩ (formT t ++ tailB r) 0 (by decide)
      exact h
/-- The same tokens, wherever they stand. -/
def sameL : List S34 → List S34 → Prop
  | [], [] => True
  | a :: l, b :: m => a.f0 = b.f0 ∧ a.f1 = b.f1 ∧ a.f2 = b.f2 ∧ sameL l m
  | _, _ => False
/-- What stands behind a token is no letter and no digit. -/
theorem after_tok (a f : ByteArray) (r : List S34) (h : a.size + f.size < (a ++ f ++ tailB r).size) : bt (a ++ f ++ tailB r) ((a.size + f.size : Nat) : Int) = 32 := by
  rcases tail_first r with e | ⟨e1, e2⟩
  · rw [e, app_nil, ByteArray.size_append] at h; omega
  · have h2 := bt_in (a ++ f) (tailB r) ⟨#[]⟩ 0 e1
    rw [app_nil, ByteArray.size_append, Nat.add_zero] at h2
    rw [h2]; exact e2
theorem no_word32 (b : Bool) : (isDigit 32 || (b && isLetter 32)) = false := by cases b <;> decide
/-! the cut, step by step -/
theorem cut_name {s : ByteArray} {p e k : Nat} {f : ByteArray} {l : List S34} (hlt : p < s.size) (hl : isLetter (bt s (p : Int)) = true) (he : endP s true p = e) (hex : s.extract p e = f) (hn : nameText f = true) :
    cutF s (k + 1) p (posF s p).1 (posF s p).2 l = cutF s k e (posF s e).1 (posF s e).2 (l ++ [if wordIn wordList f = true then ⟨2, f, 0, (posF s p).1, (posF s p).2⟩ else ⟨1, f, 0, (posF s p).1, (posF s p).2⟩]) := by
  have hk1 : kd s p = 1 := (kd_letter hlt).2 hl
  subst he hex
  rw [cutF, if_neg (by omega), if_neg (by rw [hk1]; decide), if_neg (by rw [hk1]; decide), if_pos hk1, run12, if_pos hn]
theorem cut_num {s : ByteArray} {p e k : Nat} {f : ByteArray} {l : List S34} (hlt : p < s.size) (hd : isDigit (bt s (p : Int)) = true) (he : endP s false p = e) (hex : s.extract p e = f) (hv : (valueF f).2 = true) (hb : kd s e ≠ 1) :
    cutF s (k + 1) p (posF s p).1 (posF s p).2 l = cutF s k e (posF s e).1 (posF s e).2 (l ++ [⟨3, ⟨#[]⟩, (valueF f).1, (posF s p).1, (posF s p).2⟩]) := by
  have hk2 : kd s p = 2 := (kd_digit hlt).2 hd
  subst he hex
  rw [cutF, if_neg (by omega), if_neg (by rw [hk2]; decide), if_neg (by rw [hk2]; decide), if_neg (by rw [hk2]; decide), if_pos hk2, run2, if_pos hv, if_neg hb]
theorem cut_sign {s : ByteArray} {p k : Nat} {l : List S34} (hlt : p < s.size) (hs : signB (bt s (p : Int)) = true) :
    cutF s (k + 1) p (posF s p).1 (posF s p).2 l = cutF s k (p + 1) (posF s (p + 1)).1 (posF s (p + 1)).2 (l ++ [⟨4, s.extract p (p + 1), 0, (posF s p).1, (posF s p).2⟩]) := by
  have hk3 : kd s p = 3 := (kd_sign hlt).2 hs
  rw [cutF, if_neg (by omega), if_neg (by rw [hk3]; decide), if_neg (by rw [hk3]; decide), if_neg (by rw [hk3]; decide), if_neg (by rw [hk3]; decide), if_pos hk3, pos_next]
theorem cut_blank {s : ByteArray} {p k : Nat} {l : List S34} (hlt : p < s.size) (hb : bt s (p : Int) = 32) :
    cutF s (k + 1) p (posF s p).1 (posF s p).2 l = cutF s k (p + 1) (posF s (p + 1)).1 (posF s (p + 1)).2 l := by
  have hk4 : kd s p = 4 := (kd_blank hlt).2 (.inl hb)
  rw [cutF, if_neg (by omega), if_pos hk4, pos_next]
/-- One token is cut. -/
theorem cut_one (a : ByteArray) (t : S34) (r : List S34) (hm : mayB t = true) : ∃ t2 : S34, (t2.f0 = t.f0 ∧ t2.f1 = t.f1 ∧ t2.f2 = t.f2) ∧ 0 < (formT t).size ∧ ∀ (k : Nat) (l : List S34),
    cutF (a ++ formT t ++ tailB r) (k + 1) a.size (posF (a ++ formT t ++ tailB r) a.size).1 (posF (a ++ formT t ++ tailB r) a.size).2 l =
      cutF (a ++ formT t ++ tailB r) k (a.size + (formT t).size) (posF (a ++ formT t ++ tailB r) (a.size + (formT t).size)).1 (posF (a ++ formT t ++ tailB r) (a.size + (formT t).size)).2 (l ++ [t2]) := by
  have hin : ∀ j, j < (formT t).size → bt (a ++ formT t ++ tailB r) ((a.size + j : Nat) : Int) = bt (formT t) (j : Int) := fun j hj => bt_in a (formT t) (tailB r) j hj
  have haf := after_tok a (formT t) r
  have hex := ext_in a (formT t) (tailB r)
  have hsz : (a ++ formT t ++ tailB r).size = a.size + (formT t).size + (tailB r).size := by rw [ByteArray.size_append, ByteArray.size_append]
  generalize a ++ formT t ++ tailB r = s at hin haf hex hsz ⊢
  have hz : ∀ (h : 0 < (formT t).size), bt s (a.size : Int) = bt (formT t) 0 := fun h => by have := hin 0 h; rw [Nat.add_zero] at this; exact this
  have nameway : nameText (formT t) = true → 0 < (formT t).size ∧ ∀ (k : Nat) (l : List S34), cutF s (k + 1) a.size (posF s a.size).1 (posF s a.size).2 l =
      cutF s k (a.size + (formT t).size) (posF s (a.size + (formT t).size)).1 (posF s (a.size + (formT t).size)).2 (l ++ [if wordIn wordList (formT t) = true then ⟨2, formT t, 0, (posF s a.size).1, (posF s a.size).2⟩ else ⟨1, formT t, 0, (posF s a.size).1, (posF s a.size).2⟩]) := by
    intro hn
    obtain ⟨n0, n1, n2⟩ := name_bytes hn
    refine ⟨n0, fun k l => cut_name (by omega) (by rw [hz n0]; exact n1) ?_ hex hn⟩
    unfold endP
    exact endF_run s true (formT t).size (s.size - a.size) a.size (by omega) (by omega) (fun j hj => by rw [hin j hj]; exact n2 j hj) (fun h => by rw [haf h]; exact no_word32 true)
  unfold mayB at hm
  by_cases h1 : t.f0 = 1
  · rw [if_pos h1, Bool.and_eq_true, decide_eq_true_eq] at hm
    have hf : formT t = t.f1 := by unfold formT; rw [if_neg (by omega)]
    have hno := hm.2
    unfold nameOk at hno
    rw [Bool.and_eq_true] at hno
    obtain ⟨n0, hc⟩ := nameway (by rw [hf]; exact hno.1)
    have hw : ¬ wordIn wordList (formT t) = true := by rw [hf]; intro h; rw [h] at hno; exact absurd hno.2 (by decide)
    simp only [if_neg hw] at hc
    exact ⟨_, ⟨h1.symm, hf, hm.1.symm⟩, n0, hc⟩
  · rw [if_neg h1] at hm
    by_cases h2 : t.f0 = 2
    · rw [if_pos h2, Bool.and_eq_true, decide_eq_true_eq] at hm
      have hf : formT t = t.f1 := by unfold formT; rw [if_neg (by omega)]
      obtain ⟨n0, hc⟩ := nameway (by rw [hf]; exact word_name hm.2)
      have hw : wordIn wordList (formT t) = true := by rw [hf]; exact hm.2
      simp only [if_pos hw] at hc
      exact ⟨_, ⟨h2.symm, hf, hm.1.symm⟩, n0, hc⟩
    · rw [if_neg h2] at hm
      by_cases h3 : t.f0 = 3
      · rw [if_pos h3] at hm
        simp only [Bool.and_eq_true, decide_eq_true_eq] at hm
        have hf : formT t = ⟨(Lib.itoa t.f2).toArray⟩ := by unfold formT; rw [if_pos h3]
        have hv := value_itoa t.f2 hm.2.1 hm.2.2
        rw [← hf] at hv
        have hl : (formT t).data.toList = Lib.decDigits t.f2.toNat := by rw [hf, itoa_nat _ hm.2.1]
        have n0 : 0 < (formT t).size := by show 0 < (formT t).data.toList.length; rw [hl]; exact dec_pos _
        have hdig : ∀ j, j < (formT t).size → isDigit (bt (formT t) (j : Int)) = true := fun j hj => by
          rw [bt_list _ _ hj]
          have := dec_digits t.f2.toNat ((formT t).data.toList[j]'hj) (by rw [← hl]; exact List.getElem_mem hj)
          exact decide_eq_true (by omega)
        have hend : endP s false a.size = a.size + (formT t).size := by
          unfold endP
          exact endF_run s false (formT t).size (s.size - a.size) a.size (by omega) (by omega) (fun j hj => by rw [hin j hj, hdig j hj]; rfl) (fun h => by rw [haf h]; exact no_word32 false)
        have hk : kd s (a.size + (formT t).size) ≠ 1 := by
          rcases Nat.lt_or_ge (a.size + (formT t).size) s.size with h | h
          · intro hk
            have := (kd_letter h).1 hk
            rw [haf h] at this
            exact absurd this (by decide)
          · rw [kd_end (by omega)]; decide
        have he : t.f1 = ⟨#[]⟩ := bytes_eq (by rw [(empty_list _).2 hm.1, ByteArray.toList_eq])
        refine ⟨⟨3, ⟨#[]⟩, t.f2, (posF s a.size).1, (posF s a.size).2⟩, ⟨h3.symm, he.symm, rfl⟩, n0, fun k l => ?_⟩
        have hc := cut_num (k := k) (l := l) (show a.size < s.size by omega) (by rw [hz n0]; exact hdig 0 n0) hend hex (by rw [hv]) hk
        rw [hv] at hc
        exact hc
      · rw [if_neg h3] at hm
        by_cases h4 : t.f0 = 4
        · rw [if_pos h4] at hm
          simp only [Bool.and_eq_true, decide_eq_true_eq] at hm
          have hf : formT t = t.f1 := by unfold formT; rw [if_neg (by omega)]
          have n1 : (formT t).size = 1 := by rw [hf]; exact hm.2.1
          rw [n1] at hex ⊢
          refine ⟨⟨4, formT t, 0, (posF s a.size).1, (posF s a.size).2⟩, ⟨h4.symm, hf, hm.1.symm⟩, by omega, fun k l => ?_⟩
          have hc := cut_sign (k := k) (l := l) (show a.size < s.size by omega) (by rw [hz (by omega), hf]; exact hm.2.2)
          rw [hex] at hc
          exact hc
        · rw [if_neg h4] at hm; cases hm
/-- All behind a token. -/
theorem cut_tail : ∀ (r : List S34) (a : ByteArray) (l : List S34), (∀ t ∈ r, mayB t = true) → ∃ k L, cutF (a ++ tailB r) k a.size (posF (a ++ tailB r) a.size).1 (posF (a ++ tailB r) a.size).2 l = some ((0, 0, true), l ++ L) ∧ sameL r L
  | [], a, l, _ => by
    refine ⟨1, [], ?_, trivial⟩
    rw [tailB, app_nil, cutF, if_pos rfl, List.append_nil]
  | t :: r, a, l, hm => by
    have e : a ++ tailB (t :: r) = (a ++ ⟨#[32]⟩) ++ formT t ++ tailB r := by rw [tailB]; simp only [ByteArray.append_assoc]
    have ha : (a ++ (⟨#[32]⟩ : ByteArray)).size = a.size + 1 := by rw [ByteArray.size_append]; rfl
    obtain ⟨t2, ⟨q0, q1, q2⟩, n0, hc⟩ := cut_one (a ++ ⟨#[32]⟩) t r (hm t (by simp))
    obtain ⟨k, L, h1, h2⟩ := cut_tail r ((a ++ ⟨#[32]⟩) ++ formT t) (l ++ [t2]) (fun u hu => hm u (by simp [hu]))
    rw [e]
    have hb : bt ((a ++ ⟨#[32]⟩) ++ formT t ++ tailB r) (a.size : Int) = 32 := by
      have h3 := bt_in a ⟨#[32]⟩ (formT t ++ tailB r) 0 (by decide)
      rw [← ByteArray.append_assoc] at h3
      exact h3
    rw [ByteArray.size_append, ha] at h1
    have hcc := hc k l
    rw [ha] at hcc
    refine ⟨k + 2, t2 :: L, ?_, ⟨q0.symm, q1.symm, q2.symm, h2⟩⟩
    rw [cut_blank (by rw [ByteArray.size_append, ByteArray.size_append, ha]; omega) hb, hcc, h1]
    simp
theorem same_len : ∀ {l L : List S34}, sameL l L → l.length = L.length
  | [], [], _ => rfl
  | a :: l, b :: m, h => by rw [List.length_cons, List.length_cons, same_len h.2.2.2]
  | [], b :: m, h => h.elim
  | a :: l, [], h => h.elim
theorem cut_cat (l : List S34) (hm : ∀ t ∈ l, mayB t = true) : ∃ k L, cutF (catF l ⟨#[]⟩ 0) k 0 1 1 [] = some ((0, 0, true), L) ∧ sameL l L := by
  cases l with
  | nil => exact ⟨1, [], by rw [cutF]; rfl, trivial⟩
  | cons t r =>
    have e : catF (t :: r) ⟨#[]⟩ 0 = (⟨#[]⟩ : ByteArray) ++ formT t ++ tailB r := by
      rw [catF, cat_tail _ _ _ (by omega), stepJ, if_neg (by omega)]
    obtain ⟨t2, ⟨q0, q1, q2⟩, n0, hc⟩ := cut_one ⟨#[]⟩ t r (hm t (by simp))
    obtain ⟨k, L, h1, h2⟩ := cut_tail r ((⟨#[]⟩ : ByteArray) ++ formT t) [t2] (fun u hu => hm u (by simp [hu]))
    refine ⟨k + 1, t2 :: L, ?_, ⟨q0.symm, q1.symm, q2.symm, h2⟩⟩
    rw [e]
    have h3 := hc k []
    rw [ByteArray.size_append] at h1
    exact h3.trans h1
theorem nDig_le {u : Nat} (h : u ≤ 2147483647) : (Lib.decDigits u).length ≤ 10 := by
  have one : ∀ {v : Nat} (n : Nat), (v < 10 → (Lib.decDigits v).length ≤ 1) := fun n h => by rw [dec_small h]; simp
  have step : ∀ (n v : Nat), (∀ w, w < 10 ^ n → (Lib.decDigits w).length ≤ n) → 0 < n → v < 10 ^ (n + 1) → (Lib.decDigits v).length ≤ n + 1 := by
    intro n v ih hn hv
    by_cases c : v < 10
    · rw [dec_small c]; simp
    · rw [dec_big c, List.length_append]
      have := ih (v / 10) (by rw [Nat.pow_succ] at hv; omega)
      simp only [List.length_cons, List.length_nil]
      omega
  have all : ∀ n, 0 < n → ∀ v, v < 10 ^ n → (Lib.decDigits v).length ≤ n := by
    intro n
    induction n with
    | zero => intro h; omega
    | succ n ih =>
      intro _ v hv
      by_cases h0 : n = 0
      · subst h0
        rw [dec_small (by simpa using hv)]; simp
      · exact step n v (ih (by omega)) (by omega) hv
  exact all 10 (by decide) u (by omega)
theorem form_16 {t : S34} (h : mayB t = true) : (formT t).size ≤ 16 := by
  by_cases h3 : t.f0 = 3
  · obtain ⟨n0, n1⟩ := may_num h h3
    unfold formT
    rw [if_pos h3, itoa_nat _ n0]
    show (Lib.decDigits t.f2.toNat).toArray.size ≤ 16
    rw [List.size_toArray]
    have := nDig_le (u := t.f2.toNat) (by omega)
    omega
  · unfold mayB at h
    unfold formT
    rw [if_neg h3]
    split at h
    · simp only [Bool.and_eq_true] at h
      have h2 := h.2
      unfold nameOk at h2
      simp only [Bool.and_eq_true] at h2
      exact name_size h2.1
    · split at h
      · simp only [Bool.and_eq_true] at h
        exact name_size (word_name h.2)
      · split at h
        · simp only [Bool.and_eq_true, decide_eq_true_eq] at h
          omega
        · cases h
theorem sum_len : ∀ (l : List S34), l.length ≤ sumF l
  | [] => Nat.le_refl _
  | t :: r => by have := sum_len r; rw [sumF, List.length_cons]; omega
theorem sum_le : ∀ (l : List S34), (∀ t ∈ l, mayB t = true) → sumF l ≤ 17 * l.length
  | [], _ => Nat.le_refl _
  | t :: r, h => by
    have := sum_le r (fun u hu => h u (by simp [hu]))
    have h2 := form_16 (h t (by simp))
    rw [sumF, List.length_cons]; omega
/-- Cut of Join. -/
theorem back_cut (l : List S34) (h : (joinF l).2 = 0) : ∃ k L, cutS (joinF l).1 k = some (L, 0, 0, 0) ∧ sameL l L ∧ l.length ≤ 65537 := by
  rw [joins_same] at h ⊢
  unfold refJ at h ⊢
  split at h
  · rename_i hall
    split at h
    · cases h
    · rename_i hs
      rw [if_pos hall, if_neg hs]
      obtain ⟨k, L, h1, h2⟩ := cut_cat l (List.all_eq_true.1 hall)
      refine ⟨k, L, ?_, h2, by have := sum_len l; omega⟩
      unfold cutS
      rw [if_neg (by rw [cat_size0]; omega)]
      show (cutF (catF l ⟨#[]⟩ 0) k 0 1 1 []).bind _ = _
      rw [h1]; rfl
  · cases h
theorem back_limit (l : List S34) (hall : ∀ t ∈ l, mayB t = true) (h : (joinF l).2 ≠ 0) : (joinF l).2 = 4 ∧ 3855 < l.length := by
  rw [joins_same] at h ⊢
  unfold refJ at h ⊢
  have hb : l.all mayB = true := List.all_eq_true.2 hall
  rw [if_pos hb] at h ⊢
  split at h
  · rename_i hs
    rw [if_pos hs]
    have := sum_le l hall
    exact ⟨rfl, by omega⟩
  · exact absurd rfl h
theorem likeN_l (l L : List S34) (hl : l.length ≤ 65537) : ∀ (m i : Nat), i + m = l.length → l.length = L.length → sameL (l.drop i) (L.drop i) → recoupref09_Like.l0 (2 * m + 1) l L false (i : Int) = some true
  | 0, i, h, hL, _ => by
    simp only [recoupref09_Like.l0]
    rw [if_neg (by omega)]
  | m + 1, i, h, hL, hs => by
    have h1 : i < l.length := by omega
    have h2 : i < L.length := by omega
    rw [List.drop_eq_getElem_cons h1, List.drop_eq_getElem_cons h2] at hs
    obtain ⟨s0, s1, s2, s3⟩ := hs
    have ih := likeN_l l L hl m (i + 1) (by omega) hL s3
    have r1 : rd_T34 l (i : Int) = l[i] := by
      unfold rd_T34
      rw [Int.toNat_natCast, List.getD_eq_getElem?_getD, List.getElem?_eq_getElem h1]; rfl
    have r2 : rd_T34 L (i : Int) = L[i] := by
      unfold rd_T34
      rw [Int.toNat_natCast, List.getD_eq_getElem?_getD, List.getElem?_eq_getElem h2]; rfl
    show recoupref09_Like.l0 ((2 * m + 1 + 1) + 1) l L false (i : Int) = _
    generalize 2 * m + 1 = K at ih ⊢
    simp only [recoupref09_Like.l0, recoupref09_Like.j1]
    rw [w64 (by omega) (by omega), show ((i : Int) + 1) = ((i + 1 : Nat) : Int) by omega, r1, r2]
    rw [if_pos (by omega), if_pos (by omega), if_pos (by omega), if_pos s0, if_pos (by rw [s1]), s2, bne_self_eq_false, if_neg (by simp), if_neg (by simp)]
    exact ih
theorem like_back (l L : List S34) (hl : l.length ≤ 65537) (h : sameL l L) : recoupref09_Like.f (2 * l.length + 1) l L false = some true := by
  unfold recoupref09_Like.f
  rw [if_pos (by rw [same_len h])]
  exact likeN_l l L hl l.length 0 (by omega) (same_len h) h
end Go.Proofs.YtbljojjacfmggaaDoor.E
