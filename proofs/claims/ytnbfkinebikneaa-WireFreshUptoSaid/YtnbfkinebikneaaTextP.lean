/-
  The printed texts and chunks come to plain words: what is written, what is read, or the error.
-/
import Derived.Test.YtnbfkinebikneaaPA1039
import Derived.Test.YtnbfkinebikneaaPA1025
import Derived.Test.YtnbfkinebikneaaPA1018
import Derived.Test.YtnbfkinebikneaaPA1031
import Derived.Test.YtnbfkinebikneaaPA1033
import Derived.Test.YtnbfkinebikneaaPA1019
import Derived.Test.YtnbfkinebikneaaCrcP
import Derived.Test.YtnbfkinebikneaaNumBack
namespace Go.Proofs.Ytnbfkinebikneaa.PA
open Go Go.RowKit Go.Proofs.YtnbfkinebikneaaW.PrintWords Go.Proofs.YtnbfkinebikneaaW.PrintLast Go.Proofs.YtnbfkinebikneaaW.PrintMore Go.Proofs.Ytnbfkinebikneaa.Crc Go.Proofs.Ytnbfkinebikneaa.Num
set_option linter.unusedVariables false
set_option linter.unusedSimpArgs false

/-- Are these bytes? -/
def Bytes (l : List Int) : Prop := ∀ x ∈ l, 0 ≤ x ∧ x ≤ 255
theorem Bytes.take {l : List Int} (h : Bytes l) (n : Nat) : Bytes (l.take n) := fun x hx => h x (List.mem_of_mem_take hx)
theorem Bytes.drop {l : List Int} (h : Bytes l) (n : Nat) : Bytes (l.drop n) := fun x hx => h x (List.mem_of_mem_drop hx)
theorem Bytes.append {l m : List Int} (h : Bytes l) (h' : Bytes m) : Bytes (l ++ m) := fun x hx => (List.mem_append.1 hx).elim (h x) (h' x)
theorem Bytes.cons {x : Int} {l : List Int} (hx : 0 ≤ x ∧ x ≤ 255) (h : Bytes l) : Bytes (x :: l) := fun y hy => (List.mem_cons.1 hy).elim (fun e => e ▸ hx) (h y)
theorem bytes_numL (n : Nat) : Bytes (numL n) := fun x hx => by have := numL_byte n x hx; omega

theorem Same_f (l m : List Int) (hl : Bytes l) (hm : Bytes m) : recoupref01_Same.f l m = some (decide (l = m)) := by
  unfold recoupref01_Same.f
  congr 1
  rw [Bool.eq_iff_iff]
  simp only [beq_iff_eq, decide_eq_true_eq]
  constructor
  · intro h
    have h2 : (strOfNums l).data.toList = (strOfNums m).data.toList := by
      have e : ∀ s : ByteArray, s.toList = s.data.toList := fun s => Go.ByteArray.toList_eq s
      rw [← e, ← e, h]
    rw [strOfNums_data, strOfNums_data] at h2
    have inj : ∀ (l m : List Int), Bytes l → Bytes m → (l.map fun n => UInt8.ofNat n.toNat) = (m.map fun n => UInt8.ofNat n.toNat) → l = m := by
      intro l
      induction l with
      | nil => intro m _ _ h; cases m with
        | nil => rfl
        | cons => simp at h
      | cons a l ih =>
        intro m hl hm h
        cases m with
        | nil => simp at h
        | cons b m =>
          simp only [List.map_cons, List.cons.injEq] at h
          have ha := hl a (by simp)
          have hb := hm b (by simp)
          have hab : a = b := by
            have := congrArg UInt8.toNat h.1
            simp only [UInt8.toNat_ofNat'] at this
            omega
          rw [hab, ih m (fun x hx => hl x (by simp [hx])) (fun x hx => hm x (by simp [hx])) h.2]
    exact inj l m hl hm h2
  · rintro rfl; rfl
theorem Clone_f (l : List Int) (h : l.length < 140737488355328) : slices_Clone_byte_byte.f l = some l := by unfold slices_Clone_byte_byte.f; rw [if_pos h]
theorem Copy_f (l : List Int) (h : l.length < 140737488355328) : recoupref01_Copy.f l = some l := by
  unfold recoupref01_Copy.f; simp only [Option.bind_some, List.length_nil, Nat.zero_add, List.nil_append]; rw [if_pos h]

theorem readA_ok (b : List Int) (hb : Bytes b) (h : (readA b).2.2 = 0) :
    ∃ m : Nat, (readA b).1 = m ∧ (readA b).2.1 = (numL m).length ∧ (numL m).length ≤ b.length ∧ b.take (numL m).length = numL m ∧ m < 9223372036854775808 := by
  obtain ⟨m, h1, h2, h3, h4, h5, _⟩ := readL_ok 9 0 b 0 (by omega) hb h
  refine ⟨m, ?_, ?_, h3, h4, by omega⟩
  · unfold readA; rw [h1]; simp
  · unfold readA; rw [h2]; simp
theorem readA_back (n : Nat) (rest : List Int) (h : n < 9223372036854775808) : readA (numL n ++ rest) = ((n : Int), ((numL n).length : Int), 0) := by
  unfold readA; rw [readL_back 9 0 n 0 rest (by omega) (by omega) (by omega)]; simp
theorem numL_len9 (m : Nat) (h : m < 9223372036854775808) : (numL m).length ≤ 9 := numL_length 8 m (by omega)

/-- What Text answers; what ReadText answers. -/
def textA (t : List Int) : List Int × Int := if (t.length : Int) > 4194304 then ([], 4) else (numL t.length ++ t, 0)
def readTextA (b : List Int) (most : Int) : List Int × Int × Int :=
  if most < 0 then ([], 0, 2)
  else if (readA b).2.2 = 0 then
    if (readA b).1 > most then ([], 0, 4)
    else if (readA b).1 > (b.length : Int) - (readA b).2.1 then ([], 0, 7)
    else ((b.take ((readA b).2.1 + (readA b).1).toNat).drop (readA b).2.1.toNat, (readA b).2.1 + (readA b).1, 0)
  else ([], 0, (readA b).2.2)

theorem Text_f (k : Nat) (hk : 9 ≤ k) (t : List Int) (h : t.length < 9223372036854775808) : wire_Text.f k t = some (textA t) := by
  unfold wire_Text.f textA
  by_cases hl : (t.length : Int) > 4194304
  · rw [if_pos hl, if_pos hl]
  · have := numL_len9 t.length h
    rw [if_neg hl, if_neg hl, num_f k hk t.length h, Option.bind_some, if_pos (by omega)]
theorem rText_f (k : Nat) (hk : 9 ≤ k) (t : List Int) (h : t.length < 9223372036854775808) : recoupref08_Text.f k t = some (textA t) := by
  unfold recoupref08_Text.f textA
  by_cases hl : (t.length : Int) > 4194304
  · rw [if_pos hl, if_pos hl]
  · have := numL_len9 t.length h
    rw [if_neg hl, if_neg hl, rNum_f k hk _ (by omega)]
    unfold numA
    rw [if_neg (by omega), Option.bind_some, Int.toNat_natCast]
    simp only
    rw [if_pos (by omega)]

theorem ReadText_f (k : Nat) (hk : 19 ≤ k) (b : List Int) (most : Int) (hb : Bytes b) (h : b.length < 140737488355328) : wire_ReadText.f k b most = some (readTextA b most) := by
  unfold wire_ReadText.f readTextA
  by_cases hm : most < 0
  · rw [if_pos hm, if_pos hm]
  · rw [if_neg hm, if_neg hm, ReadNum_f k hk b hb (by omega), Option.bind_some]
    by_cases he : (readA b).2.2 = 0
    · obtain ⟨m, h1, h2, h3, h4, h5⟩ := readA_ok b hb he
      rw [if_pos he, if_pos he, h1, h2]
      by_cases h6 : (m : Int) > most
      · rw [if_pos h6, if_pos h6]
      · rw [if_neg h6, if_neg h6, wrap64_id (by omega) (by omega)]
        by_cases h7 : (m : Int) > (b.length : Int) - ((numL m).length : Int)
        · rw [if_pos h7, if_pos h7]
        · rw [if_neg h7, if_neg h7, if_pos (by omega), wrap64_id (by omega) (by omega), if_pos (by omega), if_pos (by omega), Clone_f _ (by rw [List.length_drop, List.length_take]; omega)]; rfl
    · rw [if_neg he, if_neg he]
theorem rReadText_f (k : Nat) (hk : 19 ≤ k) (b : List Int) (most : Int) (hb : Bytes b) (h : b.length < 140737488355328) : recoupref08_ReadText.f k b most = some (readTextA b most) := by
  unfold recoupref08_ReadText.f readTextA
  by_cases hm : most < 0
  · rw [if_pos hm, if_pos hm]
  · rw [if_neg hm, if_neg hm, rReadNum_f k hk b hb (by omega), Option.bind_some]
    by_cases he : (readA b).2.2 = 0
    · obtain ⟨m, h1, h2, h3, h4, h5⟩ := readA_ok b hb he
      rw [if_pos he, if_pos he, h1, h2]
      by_cases h6 : (m : Int) > most
      · rw [if_pos h6, if_pos h6]
      · rw [if_neg h6, if_neg h6, wrap64_id (by omega) (by omega)]
        by_cases h7 : (m : Int) > (b.length : Int) - ((numL m).length : Int)
        · rw [if_pos h7, if_pos h7]
        · rw [if_neg h7, if_neg h7, if_pos (by omega), wrap64_id (by omega) (by omega), if_pos (by omega), if_pos (by omega), Copy_f _ (by rw [List.length_drop, List.length_take]; omega)]; rfl
    · rw [if_neg he, if_neg he]

/-- A number in four bytes. -/
def four (s : Int) : List Int := [(s / 16777216) % 256, (s / 65536) % 256, (s / 256) % 256, s % 256]
theorem bytes_four (s : Int) : Bytes (four s) := by intro x hx; simp [four] at hx; omega
/-- What Write answers; what Read answers. -/
def writeA (tag : Int) (body : List Int) : List Int × Int :=
  if (textA body).2 = 0 then ((tag :: (textA body).1) ++ four (sumA (tag :: (textA body).1)), 0) else ([], (textA body).2)
def readChunkA (b : List Int) : Int × List Int × Int × Int :=
  if b.length = 0 then (0, [], 0, 7)
  else if (readTextA (b.drop 1) 4194304).2.2 = 0 then
    if (b.length : Int) - (1 + (readTextA (b.drop 1) 4194304).2.1) < 4 then (0, [], 0, 7)
    else if (b.take (1 + (readTextA (b.drop 1) 4194304).2.1 + 4).toNat).drop (1 + (readTextA (b.drop 1) 4194304).2.1).toNat = four (sumA (b.take (1 + (readTextA (b.drop 1) 4194304).2.1).toNat))
      then (rd b 0, (readTextA (b.drop 1) 4194304).1, 1 + (readTextA (b.drop 1) 4194304).2.1 + 4, 0)
    else (0, [], 0, 80)
  else (0, [], 0, (readTextA (b.drop 1) 4194304).2.2)

/-- What a text that is read is. -/
theorem readTextA_ok (b : List Int) (most : Int) (hb : Bytes b) (h : (readTextA b most).2.2 = 0) :
    ∃ m : Nat, (m : Int) ≤ most ∧ m < 9223372036854775808 ∧ (numL m).length + m ≤ b.length ∧ b.take (numL m).length = numL m ∧ (readTextA b most).1 = (b.take ((numL m).length + m)).drop (numL m).length ∧ (readTextA b most).2.1 = (numL m).length + m := by
  unfold readTextA at h ⊢
  by_cases hm : most < 0
  · rw [if_pos hm] at h; simp at h
  · rw [if_neg hm] at h ⊢
    by_cases he : (readA b).2.2 = 0
    · obtain ⟨m, h1, h2, h3, h4, h5⟩ := readA_ok b hb he
      rw [if_pos he, h1, h2] at h ⊢
      by_cases h6 : (m : Int) > most
      · rw [if_pos h6] at h; simp at h
      · rw [if_neg h6] at h ⊢
        by_cases h7 : (m : Int) > (b.length : Int) - ((numL m).length : Int)
        · rw [if_pos h7] at h; simp at h
        · rw [if_neg h7] at h ⊢
          exact ⟨m, by omega, h5, by omega, h4, by rw [show (((numL m).length : Int) + (m : Int)).toNat = (numL m).length + m by omega, Int.toNat_natCast], rfl⟩
    · rw [if_neg he] at h; exact absurd h he
theorem readTextA_len (b : List Int) (most : Int) (hb : Bytes b) (h : (readTextA b most).2.2 = 0) : 1 ≤ (readTextA b most).2.1 ∧ (readTextA b most).2.1 ≤ b.length := by
  obtain ⟨m, _, _, h3, _, _, h6⟩ := readTextA_ok b most hb h
  have := numL_pos m
  omega
theorem readTextA_bytes (b : List Int) (most : Int) (hb : Bytes b) : Bytes (readTextA b most).1 := by
  unfold readTextA
  (repeat' split) <;> first | exact (hb.take _).drop _ | (intro x hx; simp at hx)

theorem join4 (a b c d : Int) (ha : 0 ≤ a ∧ a ≤ 255) (hb : 0 ≤ b ∧ b ≤ 255) (hc : 0 ≤ c ∧ c ≤ 255) (hd : 0 ≤ d ∧ d ≤ 255) :
    Go.bits .or .u32 ((Go.bits .or .u32 ((Go.bits .or .u32 ((Go.bits .or .u32 ((0 * 256) % 4294967296) (a % 4294967296) * 256) % 4294967296) (b % 4294967296) * 256) % 4294967296) (c % 4294967296) * 256) % 4294967296) (d % 4294967296) = a * 16777216 + b * 65536 + c * 256 + d := by
  have hw : ∀ n : Int, 0 ≤ n → n < 2 ^ 32 → IntKind.u32.wrap n = n := fun n h0 h1 => by rw [IntKind.wrap_u32]; omega
  have j : ∀ x y : Int, 0 ≤ x → x < 4294967296 → x % 256 = 0 → 0 ≤ y → y ≤ 255 → Go.bits .or .u32 x y = x + y := fun x y h0 h1 h2 h3 h4 =>
    bits_join .u32 32 (by decide) hw 8 x y h0 (by simpa using h2) (by omega) h3 (by omega) (by omega)
  have e1 : Go.bits .or .u32 ((0 * 256) % 4294967296) (a % 4294967296) = a := by rw [j _ _ (by omega) (by omega) (by omega) (by omega) (by omega)]; omega
  rw [e1]
  have e2 : Go.bits .or .u32 ((a * 256) % 4294967296) (b % 4294967296) = a * 256 + b := by rw [j _ _ (by omega) (by omega) (by omega) (by omega) (by omega)]; omega
  rw [e2]
  have e3 : Go.bits .or .u32 (((a * 256 + b) * 256) % 4294967296) (c % 4294967296) = a * 65536 + b * 256 + c := by rw [j _ _ (by omega) (by omega) (by omega) (by omega) (by omega)]; omega
  rw [e3]
  rw [j _ _ (by omega) (by omega) (by omega) (by omega) (by omega)]; omega
theorem four_join (a b c d s : Int) (ha : 0 ≤ a ∧ a ≤ 255) (hb : 0 ≤ b ∧ b ≤ 255) (hc : 0 ≤ c ∧ c ≤ 255) (hd : 0 ≤ d ∧ d ≤ 255) (hs : 0 ≤ s ∧ s < 4294967296) :
    a * 16777216 + b * 65536 + c * 256 + d = s ↔ [a, b, c, d] = four s := by
  unfold four
  simp only [List.cons.injEq, and_true]
  constructor
  · intro h; omega
  · intro h; omega
theorem list4 (l : List Int) (h : l.length = 4) : ∃ a b c d, l = [a, b, c, d] := by
  match l, h with
  | [a, b, c, d], _ => exact ⟨a, b, c, d, rfl⟩

theorem Read_f (k : Nat) (hk : 19 ≤ k) (b : List Int) (hb : Bytes b) (h : b.length < 140737488355328) : wire_Read.f k b = some (readChunkA b) := by
  unfold wire_Read.f readChunkA
  by_cases h0 : b.length = 0
  · rw [if_pos (by omega), if_pos h0]
  · rw [if_neg (by omega), if_neg h0, if_pos (by omega), ReadText_f k hk _ _ (hb.drop 1) (by rw [List.length_drop]; omega), Option.bind_some]
    by_cases he : (readTextA (b.drop 1) 4194304).2.2 = 0
    · have hl := readTextA_len _ _ (hb.drop 1) he
      rw [List.length_drop] at hl
      rw [if_pos he, if_pos he]
      generalize readTextA (b.drop 1) 4194304 = r at he hl ⊢
      obtain ⟨t, s, e⟩ := r
      simp only at he hl ⊢
      rw [wrap64_id (n := 1 + s) (by omega) (by omega), wrap64_id (by omega) (by omega)]
      by_cases h4 : (b.length : Int) - (1 + s) < 4
      · rw [if_pos h4, if_pos h4]
      · rw [if_neg h4, if_neg h4, if_pos (by omega), wrap64_id (by omega) (by omega), if_pos (by omega), if_pos (by omega), Option.bind_some]
        have hlen : ((b.take (1 + s + 4).toNat).drop (1 + s).toNat).length = 4 := by rw [List.length_drop, List.length_take]; omega
        have hby : Bytes ((b.take (1 + s + 4).toNat).drop (1 + s).toNat) := (hb.take _).drop _
        obtain ⟨x0, x1, x2, x3, hx⟩ := list4 _ hlen
        rw [hx] at hby ⊢
        have b0 := hby x0 (by simp)
        have b1 := hby x1 (by simp)
        have b2 := hby x2 (by simp)
        have b3 := hby x3 (by simp)
        obtain ⟨k, rfl⟩ : ∃ m, k = m + 5 := ⟨k - 5, by omega⟩
        have w1 : wrap64 (0 + 1) = 1 := wrap64_id (by omega) (by omega)
        have w2 : wrap64 (1 + 1) = 2 := wrap64_id (by omega) (by omega)
        have w3 : wrap64 (2 + 1) = 3 := wrap64_id (by omega) (by omega)
        have w4 : wrap64 (3 + 1) = 4 := wrap64_id (by omega) (by omega)
        have hlA : (([x0, x1, x2, x3] : List Int).length : Int) = 4 := rfl
        rw [hlA, show k + 5 = k + 1 + 1 + 1 + 1 + 1 by omega]
        simp only [wire_Read.l0, hlA]
        rw [if_pos (by decide), if_pos (by decide), if_pos (by decide), w1, if_pos (by decide), if_pos (by decide), if_pos (by decide), w2, if_pos (by decide), if_pos (by decide), if_pos (by decide), w3, if_pos (by decide), if_pos (by decide), if_pos (by decide), w4, if_neg (by decide)]
        have r0 : rd [x0, x1, x2, x3] 0 = x0 := rfl
        have r1 : rd [x0, x1, x2, x3] 1 = x1 := rfl
        have r2 : rd [x0, x1, x2, x3] 2 = x2 := rfl
        have r3 : rd [x0, x1, x2, x3] 3 = x3 := rfl
        rw [r0, r1, r2, r3, join4 x0 x1 x2 x3 b0 b1 b2 b3, if_pos (by omega), if_pos (by omega), Sum_f _ (hb.take _), Option.bind_some]
        have hs := sumA_lt (b.take (1 + s).toNat) (hb.take _)
        by_cases hq : [x0, x1, x2, x3] = four (sumA (b.take (1 + s).toNat))
        · rw [if_pos hq, if_pos ((four_join x0 x1 x2 x3 _ b0 b1 b2 b3 hs).2 hq), if_pos (by omega), wrap64_id (by omega) (by omega)]
        · rw [if_neg hq, if_neg (fun h => hq ((four_join x0 x1 x2 x3 _ b0 b1 b2 b3 hs).1 h))]
    · rw [if_neg he, if_neg he]

theorem Four_f (s : Int) : recoupref08_Four.f s = some (four s) := rfl

theorem rRead_f (k : Nat) (b : List Int) (hb : Bytes b) (h : b.length < 140737488355328) (hk : 10 * b.length + 20 ≤ k) : recoupref08_Read.f k b = some (readChunkA b) := by
  unfold recoupref08_Read.f readChunkA
  by_cases h0 : b.length = 0
  · rw [if_pos (by omega), if_pos h0]
  · rw [if_neg (by omega), if_neg h0, if_pos (by omega), rReadText_f k (by omega) _ _ (hb.drop 1) (by rw [List.length_drop]; omega), Option.bind_some]
    by_cases he : (readTextA (b.drop 1) 4194304).2.2 = 0
    · have hl := readTextA_len _ _ (hb.drop 1) he
      rw [List.length_drop] at hl
      rw [if_pos he, if_pos he]
      generalize readTextA (b.drop 1) 4194304 = r at he hl ⊢
      obtain ⟨t, s, e⟩ := r
      simp only at he hl ⊢
      rw [Int.add_comm s 1, wrap64_id (n := 1 + s) (by omega) (by omega), wrap64_id (by omega) (by omega)]
      by_cases h4 : (b.length : Int) - (1 + s) < 4
      · rw [if_pos h4, if_pos h4]
      · rw [if_neg h4, if_neg h4, if_pos (by omega), wrap64_id (by omega) (by omega), if_pos (by omega), if_pos (by omega), if_pos (by omega),
          rSum_f k _ (hb.take _) (by rw [List.length_take]; omega) (by rw [List.length_take]; omega), Option.bind_some, Four_f, Option.bind_some, Same_f _ _ ((hb.take _).drop _) (bytes_four _), Option.bind_some]
        by_cases hq : (b.take (1 + s + 4).toNat).drop (1 + s).toNat = four (sumA (b.take (1 + s).toNat))
        · rw [if_pos hq, if_pos (decide_eq_true hq), if_pos (by omega)]
        · rw [if_neg hq, if_neg (by simpa using hq)]
    · rw [if_neg he, if_neg he]
theorem wl0 (k : Nat) (xs : List Int) (s : Int) (hs : 0 ≤ s ∧ s < 4294967296) (hx : xs.length < 140737488355320) : wire_Write.l0 (k + 5) xs s 3 = some (xs ++ four s, 0) := by
  have w3 : wrap64 (8 * 3) = 24 := wrap64_id (by omega) (by omega)
  have w2 : wrap64 (8 * 2) = 16 := wrap64_id (by omega) (by omega)
  have w1 : wrap64 (8 * 1) = 8 := wrap64_id (by omega) (by omega)
  have w0 : wrap64 (8 * 0) = 0 := wrap64_id (by omega) (by omega)
  have d3 : wrap64 (3 - 1) = 2 := wrap64_id (by omega) (by omega)
  have d2 : wrap64 (2 - 1) = 1 := wrap64_id (by omega) (by omega)
  have d1 : wrap64 (1 - 1) = 0 := wrap64_id (by omega) (by omega)
  have d0 : wrap64 (0 - 1) = -1 := wrap64_id (by omega) (by omega)
  have s3 : shr .u32 s 24 = s / 16777216 := rfl
  have s2 : shr .u32 s 16 = s / 65536 := rfl
  have s1 : shr .u32 s 8 = s / 256 := rfl
  have s0 : shr .u32 s 0 = s := by show s / 2 ^ 0 = s; simp
  rw [show k + 5 = k + 1 + 1 + 1 + 1 + 1 by omega]
  simp only [wire_Write.l0]
  rw [if_pos (by decide), w3, if_pos (by decide), if_pos (by omega), d3, s3, if_pos (by decide), w2, if_pos (by decide), if_pos (by simp; omega), d2, s2, if_pos (by decide), w1, if_pos (by decide), if_pos (by simp; omega), d1, s1,
    if_pos (by decide), w0, if_pos (by decide), if_pos (by simp; omega), d0, s0, if_neg (by decide)]
  unfold four
  simp
theorem textA_bytes (t : List Int) (ht : Bytes t) : Bytes (textA t).1 := by
  unfold textA; split
  · intro x hx; simp at hx
  · exact (bytes_numL _).append ht
theorem textA_len (t : List Int) : (textA t).1.length ≤ 4194304 + 9 := by
  unfold textA; split
  · simp
  · have := numL_len9 t.length (by omega)
    simp only [List.length_append]; omega
theorem Write_f (k : Nat) (hk : 19 ≤ k) (tag : Int) (body : List Int) (ht : 0 ≤ tag ∧ tag ≤ 255) (hb : Bytes body) (h : body.length < 9223372036854775808) : wire_Write.f k tag body = some (writeA tag body) := by
  unfold wire_Write.f writeA
  have hl := textA_len body
  have hby := (textA_bytes body hb).cons ht
  rw [Text_f k (by omega) body h, Option.bind_some]
  by_cases he : (textA body).2 = 0
  · rw [if_pos he, if_pos he, Option.bind_some, if_pos (by rw [List.length_singleton]; omega), Option.bind_some, List.singleton_append, Sum_f _ hby, Option.bind_some]
    obtain ⟨k, rfl⟩ : ∃ m, k = m + 5 := ⟨k - 5, by omega⟩
    exact wl0 k _ _ (sumA_lt _ hby) (by rw [List.length_cons]; omega)
  · rw [if_neg he, if_neg he]
theorem rWrite_f (k : Nat) (tag : Int) (body : List Int) (ht : 0 ≤ tag ∧ tag ≤ 255) (hb : Bytes body) (h : body.length < 9223372036854775808) (hk : 41943160 ≤ k) : recoupref08_Write.f k tag body = some (writeA tag body) := by
  unfold recoupref08_Write.f writeA
  have hl := textA_len body
  have hby := (textA_bytes body hb).cons ht
  rw [rText_f k (by omega) body h, Option.bind_some]
  by_cases he : (textA body).2 = 0
  · rw [if_pos he, if_pos he, Option.bind_some, if_pos (by rw [List.length_singleton]; omega), Option.bind_some, List.singleton_append, rSum_f k _ hby (by rw [List.length_cons]; omega) (by rw [List.length_cons]; omega), Option.bind_some, Four_f, Option.bind_some,
      if_pos (by simp only [List.length_cons, four, List.length_nil]; omega)]
  · rw [if_neg he, if_neg he]

/-- What is read is written as the bytes that were read. -/
theorem form_of_read (b : List Int) (hb : Bytes b) (h : (readChunkA b).2.2.2 = 0) :
    writeA (readChunkA b).1 (readChunkA b).2.1 = (b.take (readChunkA b).2.2.1.toNat, 0) ∧ 6 ≤ (readChunkA b).2.2.1 ∧ (readChunkA b).2.2.1 ≤ b.length ∧ (readChunkA b).2.1.length ≤ 4194304 ∧ 0 ≤ (readChunkA b).1 ∧ (readChunkA b).1 ≤ 255 ∧ Bytes (readChunkA b).2.1 := by
  unfold readChunkA at h ⊢
  by_cases h0 : b.length = 0
  · rw [if_pos h0] at h; simp at h
  · rw [if_neg h0] at h ⊢
    by_cases he : (readTextA (b.drop 1) 4194304).2.2 = 0
    · rw [if_pos he] at h ⊢
      obtain ⟨m, m1, m2, m3, m4, m5, m6⟩ := readTextA_ok _ _ (hb.drop 1) he
      have hpos := numL_pos m
      rw [List.length_drop] at m3
      by_cases h4 : (b.length : Int) - (1 + (readTextA (b.drop 1) 4194304).2.1) < 4
      · rw [if_pos h4] at h; simp at h
      · rw [if_neg h4] at h ⊢
        by_cases hq : (b.take (1 + (readTextA (b.drop 1) 4194304).2.1 + 4).toNat).drop (1 + (readTextA (b.drop 1) 4194304).2.1).toNat = four (sumA (b.take (1 + (readTextA (b.drop 1) 4194304).2.1).toNat))
        · rw [if_pos hq]
          rw [m6] at h4 hq ⊢
          rw [m5]
          have e1 : (1 + (((numL m).length : Int) + m)).toNat = 1 + (numL m).length + m := by omega
          have e2 : (1 + (((numL m).length : Int) + m) + 4).toNat = 1 + (numL m).length + m + 4 := by omega
          rw [e1, e2] at hq
          have hbl : (((b.drop 1).take ((numL m).length + m)).drop (numL m).length).length = m := by rw [List.length_drop, List.length_take, List.length_drop]; omega
          have hrd : b = rd b 0 :: b.drop 1 := by
            have := rd_drop b 0 (by omega)
            rw [List.drop_zero] at this
            exact this
          have hform : rd b 0 :: (numL m ++ ((b.drop 1).take ((numL m).length + m)).drop (numL m).length) = b.take (1 + (numL m).length + m) := by
            conv => rhs; rw [hrd]
            rw [show 1 + (numL m).length + m = ((numL m).length + m) + 1 by omega, List.take_succ_cons]
            congr 1
            conv => lhs; lhs; rw [← m4]
            have := List.take_append_drop (numL m).length ((b.drop 1).take ((numL m).length + m))
            rw [List.take_take, Nat.min_eq_left (by omega)] at this
            exact this
          have hb0 := hb _ (rd_mem b 0 (by omega))
          dsimp only
          refine ⟨?_, by omega, by omega, by rw [hbl]; omega, hb0.1, hb0.2, ((hb.drop 1).take _).drop _⟩
          have ht : textA (((b.drop 1).take ((numL m).length + m)).drop (numL m).length) = (numL m ++ ((b.drop 1).take ((numL m).length + m)).drop (numL m).length, 0) := by
            unfold textA; rw [hbl, if_neg (by omega)]
          unfold writeA
          rw [ht]
          simp only
          rw [if_pos trivial, hform, ← hq, e2]
          simp only [Prod.mk.injEq, and_true]
          have := List.take_append_drop (1 + (numL m).length + m) (b.take (1 + (numL m).length + m + 4))
          rw [List.take_take, Nat.min_eq_left (by omega)] at this
          exact this
        · rw [if_neg hq] at h; simp at h
    · rw [if_neg he] at h; exact absurd h he
theorem num_of_read (b : List Int) (hb : Bytes b) (h : (readA b).2.2 = 0) : numA (readA b).1 = (b.take (readA b).2.1.toNat, 0) ∧ 1 ≤ (readA b).2.1 ∧ (readA b).2.1 ≤ b.length ∧ (readA b).1 < 9223372036854775808 := by
  obtain ⟨m, h1, h2, h3, h4, h5⟩ := readA_ok b hb h
  have := numL_pos m
  rw [h1, h2]
  refine ⟨?_, by omega, by omega, by omega⟩
  unfold numA
  rw [if_neg (by omega), Int.toNat_natCast, Int.toNat_natCast, h4]

/-- A chunk's form is read as the chunk, with any bytes behind it. -/
theorem read_back (tag : Int) (body rest : List Int) (ht : 0 ≤ tag ∧ tag ≤ 255) (hb : Bytes body) (h : body.length ≤ 4194304) :
    readChunkA ((writeA tag body).1 ++ rest) = (tag, body, ((writeA tag body).1.length : Int), 0) ∧ (writeA tag body).2 = 0 ∧ 6 ≤ (writeA tag body).1.length ∧ (writeA tag body).1.length ≤ body.length + 14 := by
  have h9 := numL_len9 body.length (by omega)
  have hpos := numL_pos body.length
  have hta : textA body = (numL body.length ++ body, 0) := by unfold textA; rw [if_neg (by omega)]
  have hw : writeA tag body = ((tag :: (numL body.length ++ body)) ++ four (sumA (tag :: (numL body.length ++ body))), 0) := by
    unfold writeA; rw [hta]; simp
  rw [hw]
  generalize hs : sumA (tag :: (numL body.length ++ body)) = s
  have h4l : (four s).length = 4 := rfl
  have hlen : ((tag :: (numL body.length ++ body)) ++ four s).length = 1 + (numL body.length).length + body.length + 4 := by
    simp only [List.length_append, List.length_cons, h4l]; omega
  refine ⟨?_, rfl, by rw [hlen]; omega, by rw [hlen]; omega⟩
  have hdrop : (((tag :: (numL body.length ++ body)) ++ four s) ++ rest).drop 1 = numL body.length ++ (body ++ (four s ++ rest)) := by simp
  have hra := readA_back body.length (body ++ (four s ++ rest)) (by omega)
  have hrt : readTextA (numL body.length ++ (body ++ (four s ++ rest))) 4194304 = (body, ((numL body.length).length : Int) + body.length, 0) := by
    unfold readTextA
    rw [if_neg (by omega), hra]
    simp only
    rw [if_pos trivial, if_neg (by omega), if_neg (by simp only [List.length_append]; omega)]
    simp only [Prod.mk.injEq, and_true]
    rw [show (((numL body.length).length : Int) + (body.length : Int)).toNat = (numL body.length).length + body.length by omega, Int.toNat_natCast, List.take_append, List.drop_append_of_le_length (by rw [List.length_take]; omega)]
    rw [List.take_of_length_le (by omega), List.drop_length, List.nil_append, Nat.add_sub_cancel_left, List.take_left]
  unfold readChunkA
  rw [hdrop, hrt, if_neg (by simp)]
  simp only
  have e1 : (1 + (((numL body.length).length : Int) + (body.length : Int))).toNat = (tag :: (numL body.length ++ body)).length := by simp only [List.length_cons, List.length_append]; omega
  have e2 : (1 + (((numL body.length).length : Int) + (body.length : Int)) + 4).toNat = ((tag :: (numL body.length ++ body)) ++ four s).length := by rw [hlen]; omega
  rw [if_pos trivial, if_neg (by rw [List.length_append, hlen]; omega), e1, e2, List.take_left, List.drop_left, List.append_assoc, List.take_left, hs, if_pos rfl, hlen]
  simp only [Prod.mk.injEq, and_true, true_and]
  constructor
  · rfl
  · omega
theorem text_back (t rest : List Int) (h : t.length ≤ 4194304) : textA t = (numL t.length ++ t, 0) ∧ readTextA (numL t.length ++ t ++ rest) t.length = (t, ((numL t.length ++ t).length : Int), 0) := by
  have h9 := numL_len9 t.length (by omega)
  refine ⟨by unfold textA; rw [if_neg (by omega)], ?_⟩
  have hra := readA_back t.length (t ++ rest) (by omega)
  unfold readTextA
  rw [if_neg (by omega), List.append_assoc, hra]
  simp only
  rw [if_pos trivial, if_neg (by omega), if_neg (by simp only [List.length_append]; omega)]
  simp only [Prod.mk.injEq, and_true]
  constructor
  · rw [show (((numL t.length).length : Int) + (t.length : Int)).toNat = (numL t.length).length + t.length by omega, Int.toNat_natCast, List.take_append, List.drop_append_of_le_length (by rw [List.length_take]; omega)]
    rw [List.take_of_length_le (by omega), List.drop_length, List.nil_append, Nat.add_sub_cancel_left, List.take_left]
  · simp
end Go.Proofs.Ytnbfkinebikneaa.PA
