/- What reading a program's bytes tells, in plain words. No conditions. -/
import Derived.Test.YtpdemfnemkmelaaDoorSpec
import Derived.Test.YtpdemfnemkmelaaDoorNumB
import Derived.Test.YtpdemfnemkmelaaDoorNumBack
import Derived.Test.YtpdemfnemkmelaaDoorPAM0
namespace Go.Proofs.YtpdemfnemkmelaaDoor.E
open Go Go.RowKit Go.Proofs.YtpdemfnemkmelaaDoorW.PrintWords Go.Proofs.YtpdemfnemkmelaaDoorW.PrintLast Go.Proofs.YtpdemfnemkmelaaDoorW.PrintMore Go.Proofs.YtpdemfnemkmelaaDoor.PA Go.Proofs.YtpdemfnemkmelaaDoor.Num
set_option linter.unusedVariables false
set_option linter.unusedSimpArgs false
/-- Steps, registers, what comes out, what is read; the size, the error. -/
abbrev RRes := List Stp × Int × Int × Int × Int × Int
def badR (e : Int) : RRes := ([], 0, 0, 0, 0, e)
def mkS (k : Int) (t : List Int) : Stp := ⟨k, ((t.take (fldN k))[0]?).getD 0, ((t.take (fldN k))[1]?).getD 0, ((t.take (fldN k))[2]?).getD 0⟩
def stepsR (b : List Int) (rg ot rd : Int) : Nat → Nat → List Stp → RRes
  | 0, p, acc => (acc, rg, ot, rd, (p : Int), 0)
  | n + 1, p, acc => match b.drop p with
    | [] => badR 7
    | k :: t => if k < 1 ∨ 4 < k then badR 8 else if t.length < fldN k then badR 7 else stepsR b rg ot rd n (p + 1 + fldN k) (acc ++ [mkS k t])
def numR (b : List Int) (p : Nat) (most : Int) (K : Int → Nat → RRes) : RRes :=
  if (readA (b.drop p)).2.2 = 0 then (if (readA (b.drop p)).1 > most then badR 8 else K (readA (b.drop p)).1 (p + (readA (b.drop p)).2.1.toNat)) else badR (readA (b.drop p)).2.2
def bytesR (b : List Int) (K : Int → Nat → RRes) : Nat → Nat → Int → RRes
  | 0, p, v => K v p
  | n + 1, p, v => match b.drop p with
    | [] => badR 7
    | c :: _ => bytesR b K n (p + 1) (v * 256 + c)
def readK4 (b : List Int) (rg ot rd : Int) (n : Int) (p : Nat) : RRes := stepsR b rg ot rd n.toNat p []
def readK3 (b : List Int) (rg ot : Int) (rd : Int) (p : Nat) : RRes := numR b p 65536 (readK4 b rg ot rd)
def readK2 (b : List Int) (rg : Int) (ot : Int) (p : Nat) : RRes := bytesR b (readK3 b rg ot) 8 p 0
def readK1 (b : List Int) (rg : Int) (p : Nat) : RRes := numR b p 64 (readK2 b rg)
def readR (b : List Int) : RRes := numR b 0 256 (readK1 b)
/-- What a call of the reader's num does to its state. -/
def numF (b : List Int) (most : Int) (p : Nat) (e : Int) : Int × Nat × Int :=
  if e = 0 then (if (readA (b.drop p)).2.2 = 0 then (if (readA (b.drop p)).1 > most then (0, p, 8) else ((readA (b.drop p)).1, p + (readA (b.drop p)).2.1.toNat, 0)) else (0, p, (readA (b.drop p)).2.2)) else (0, p, e)
def nextF (b : List Int) (p : Nat) (e : Int) : Int × Nat × Int :=
  if e = 0 then (match b[p]? with | some c => (c, p + 1, 0) | none => (0, p, 7)) else (0, p, e)
/-- Bytes. -/
def byteL (b : List Int) : Prop := ∀ x ∈ b, 0 ≤ x ∧ x ≤ 255
theorem byteL_drop {b : List Int} (h : byteL b) (p : Nat) : byteL (b.drop p) := fun x hx => h x (List.mem_of_mem_drop hx)
theorem readA_ok {b : List Int} (hb : byteL b) (p : Nat) (h : (readA (b.drop p)).2.2 = 0) : ∃ m : Nat, (readA (b.drop p)).1 = (m : Int) ∧ (readA (b.drop p)).2.1 = ((numL m).length : Int) ∧ p + (numL m).length ≤ b.length ∧ (b.drop p).take (numL m).length = numL m ∧ m < 128 ^ 9 := by
  obtain ⟨m, h1, h2, h3, h4, h5, _⟩ := readL_ok 9 0 (b.drop p) 0 rfl (byteL_drop hb p) h
  have hp := numL_pos m
  rw [List.length_drop] at h3
  refine ⟨m, by unfold readA; rw [h1]; simp, by unfold readA; rw [h2]; simp, by omega, h4, h5⟩
theorem readA_err (b : List Int) (p : Nat) (h : (readA (b.drop p)).2.2 ≠ 0) : (readA (b.drop p)).2.2 = 7 ∨ (readA (b.drop p)).2.2 = 8 := by
  rcases readL_err 9 0 (b.drop p) 0 h with h1 | h1
  · left; unfold readA; rw [h1]
  · right; unfold readA; rw [h1]
/-- num, told by what is left to read. -/
theorem numF_tell {b : List Int} (hb : byteL b) (most : Int) (p : Nat) (e : Int) (K : Int → Nat → RRes) (R : RRes) (hp : p ≤ b.length) (he : e ≠ 0 → R = badR e) (hK : e = 0 → R = numR b p most K) (hm : 0 ≤ most) :
    ∃ n q e', numF b most p e = (n, q, e') ∧ q ≤ b.length ∧ 0 ≤ n ∧ n ≤ most ∧ (e' ≠ 0 → R = badR e') ∧ (e' = 0 → R = K n q ∧ p ≤ q ∧ e = 0) := by
  unfold numF
  by_cases h0 : e = 0
  · rw [if_pos h0]
    have hR := hK h0
    unfold numR at hR
    by_cases h1 : (readA (b.drop p)).2.2 = 0
    · rw [if_pos h1] at hR ⊢
      obtain ⟨m, e1, e2, e3, _, _⟩ := readA_ok hb p h1
      by_cases h2 : (readA (b.drop p)).1 > most
      · rw [if_pos h2] at hR ⊢
        exact ⟨0, p, 8, rfl, hp, by omega, hm, fun _ => hR, fun h => by omega⟩
      · rw [if_neg h2] at hR ⊢
        exact ⟨_, _, 0, rfl, by rw [e2]; omega, by rw [e1]; omega, by omega, fun h => absurd rfl h, fun _ => ⟨hR, by omega, h0⟩⟩
    · rw [if_neg h1] at hR ⊢
      exact ⟨0, p, _, rfl, hp, by omega, hm, fun _ => hR, fun h => absurd h h1⟩
  · rw [if_neg h0]
    exact ⟨0, p, e, rfl, hp, by omega, hm, he, fun h => absurd h h0⟩
theorem getElem_drop {b : List Int} {p : Nat} {c : Int} (h : b[p]? = some c) : b.drop p = c :: b.drop (p + 1) := by
  obtain ⟨h1, h2⟩ := List.getElem?_eq_some_iff.1 h
  rw [List.drop_eq_getElem_cons h1, h2]
theorem nextF_none {b : List Int} {p : Nat} (h : b[p]? = none) : b.drop p = [] := List.drop_eq_nil_of_le (by simpa using h)
/-- The next byte, told by what is left to read. -/
theorem nextF_tell {b : List Int} (hb : byteL b) (p : Nat) (e : Int) (K : Int → RRes) (R : RRes) (hp : p ≤ b.length) (he : e ≠ 0 → R = badR e) (hK : e = 0 → R = match b.drop p with | [] => badR 7 | c :: _ => K c) :
    ∃ c q e', nextF b p e = (c, q, e') ∧ q ≤ b.length ∧ 0 ≤ c ∧ c ≤ 255 ∧ (e' ≠ 0 → R = badR e') ∧ (e' = 0 → R = K c ∧ q = p + 1 ∧ e = 0 ∧ b[p]? = some c) := by
  unfold nextF
  by_cases h0 : e = 0
  · rw [if_pos h0]
    have hR := hK h0
    cases hc : b[p]? with
    | none =>
      rw [nextF_none hc] at hR
      exact ⟨0, p, 7, rfl, hp, by omega, by omega, fun _ => hR, fun h => by omega⟩
    | some c =>
      rw [getElem_drop hc] at hR
      have hbc := hb c (List.mem_of_getElem? hc)
      have hlt := (List.getElem?_eq_some_iff.1 hc).1
      exact ⟨c, p + 1, 0, rfl, by omega, hbc.1, hbc.2, fun h => absurd rfl h, fun _ => ⟨hR, rfl, h0, rfl⟩⟩
  · rw [if_neg h0]
    exact ⟨0, p, e, rfl, hp, by omega, by omega, he, fun h => absurd h h0⟩
/-- Eight bytes, or too few. -/
theorem bytesR_short (b : List Int) (K : Int → Nat → RRes) : ∀ (n p : Nat) (v : Int), p ≤ b.length → b.length < p + n → bytesR b K n p v = badR 7
  | 0, p, v, h0, h => by omega
  | n + 1, p, v, h0, h => by
    rw [bytesR]
    cases hc : b[p]? with
    | none => rw [nextF_none hc]
    | some c =>
      rw [getElem_drop hc]
      have hlt := (List.getElem?_eq_some_iff.1 hc).1
      exact bytesR_short b K n (p + 1) _ (by omega) (by omega)
theorem bytesR_next {b : List Int} {p : Nat} {c : Int} (K : Int → Nat → RRes) (n : Nat) (v : Int) (h : b[p]? = some c) : bytesR b K (n + 1) p v = bytesR b K n (p + 1) (v * 256 + c) := by
  rw [bytesR, getElem_drop h]
/-- The next byte, both ways. -/
theorem nextF_two {b : List Int} (hb : byteL b) (p : Nat) (e : Int) (hp : p ≤ b.length) :
    ∃ c q e', nextF b p e = (c, q, e') ∧ q ≤ b.length ∧ 0 ≤ c ∧ c ≤ 255 ∧ (e ≠ 0 → e' = e) ∧ (e = 0 → (b[p]? = some c ∧ q = p + 1 ∧ e' = 0) ∨ (p = b.length ∧ e' = 7)) := by
  unfold nextF
  by_cases h0 : e = 0
  · rw [if_pos h0]
    cases hc : b[p]? with
    | none => exact ⟨0, p, 7, rfl, hp, by omega, by omega, fun h => absurd h0 h, fun _ => .inr ⟨by have := List.getElem?_eq_none_iff.1 hc; omega, rfl⟩⟩
    | some c =>
      have hbc := hb c (List.mem_of_getElem? hc)
      have hlt := (List.getElem?_eq_some_iff.1 hc).1
      exact ⟨c, p + 1, 0, rfl, by omega, hbc.1, hbc.2, fun h => absurd h0 h, fun _ => .inl ⟨rfl, rfl, rfl⟩⟩
  · rw [if_neg h0]
    exact ⟨0, p, e, rfl, hp, by omega, by omega, fun _ => rfl, fun h => absurd h h0⟩
/-- A byte put to those that were read. -/
theorem lt_pow {v : Int} {i : Nat} (h : v < 256 ^ i) (hi : i ≤ 7) : v < 72057594037927936 := by
  have : i = 0 ∨ i = 1 ∨ i = 2 ∨ i = 3 ∨ i = 4 ∨ i = 5 ∨ i = 6 ∨ i = 7 := by omega
  rcases this with rfl | rfl | rfl | rfl | rfl | rfl | rfl | rfl <;> exact Int.lt_of_lt_of_le h (by decide)
theorem or_byte {v c : Int} (h0 : 0 ≤ v) (h1 : v < 72057594037927936) (h2 : 0 ≤ c) (h3 : c ≤ 255) : Go.bits .or .u64 (IntKind.u64.wrap (v * 2 ^ 8)) (IntKind.u64.wrap c) = v * 256 + c := by
  rw [IntKind.wrap_u64, IntKind.wrap_u64, show (2 : Int) ^ 8 = 256 from rfl, Int.emod_eq_of_lt (by omega) (by omega), Int.emod_eq_of_lt (by omega) (by omega)]
  have e64 : (2 : Int) ^ 64 = 18446744073709551616 := rfl
  have e8 : (2 : Int) ^ 8 = 256 := rfl
  exact bits_join .u64 64 (by decide) (fun n h1 h2 => by rw [e64] at h2; rw [IntKind.wrap_u64]; omega) 8 (v * 256) c (by omega) (by rw [e8]; omega) (by rw [e64]; omega) h2 (by rw [e8]; omega) (by rw [e64]; omega)
theorem pow_next {v c : Int} {i : Nat} (h : v < 256 ^ i) (hc : c ≤ 255) : v * 256 + c < 256 ^ (i + 1) := by
  rw [Int.pow_succ]; omega
/-- A step read. -/
def stepK (b : List Int) (rg ot rd : Int) (n q : Nat) (acc : List Stp) (c : Int) : RRes :=
  if c < 1 ∨ 4 < c then badR 8 else if (b.drop (q + 1)).length < fldN c then badR 7 else stepsR b rg ot rd n (q + 1 + fldN c) (acc ++ [mkS c (b.drop (q + 1))])
theorem stepsR_next (b : List Int) (rg ot rd : Int) (n q : Nat) (acc : List Stp) : stepsR b rg ot rd (n + 1) q acc = match b.drop q with | [] => badR 7 | c :: _ => stepK b rg ot rd n q acc c := by
  rw [stepsR]
  cases hc : b[q]? with
  | none => rw [nextF_none hc]
  | some c => rw [getElem_drop hc]; rfl
theorem fldN_pos {k : Int} (h : 1 ≤ k ∧ k ≤ 4) : 1 ≤ fldN k := by
  have : k = 1 ∨ k = 2 ∨ k = 3 ∨ k = 4 := by omega
  rcases this with rfl | rfl | rfl | rfl <;> decide
theorem take_next {b : List Int} {p j : Nat} {c : Int} (h : b[p + j]? = some c) : (b.drop p).take j ++ [c] = (b.drop p).take (j + 1) := by
  rw [List.take_add_one]
  congr 1
  rw [List.getElem?_drop, h]; rfl
/-- What a copy into four bytes leaves. -/
theorem copied (x : Int) (tl : List Int) (h : tl.length ≤ 3) : overL [.int .u8 0, .int .u8 0, .int .u8 0, .int .u8 0] 0 ((x :: tl).flatMap encU) = [.int .u8 x, .int .u8 ((tl[0]?).getD 0), .int .u8 ((tl[1]?).getD 0), .int .u8 ((tl[2]?).getD 0)] := by
  match tl, h with
  | [], _ => rfl
  | [_], _ => rfl
  | [_, _], _ => rfl
  | [_, _, _], _ => rfl
theorem set_take {α : Type} (l : List α) (i : Nat) (s : α) (h : i < l.length) : (l.set i s).take (i + 1) = l.take i ++ [s] := by
  rw [List.take_add_one, List.getElem?_set_self h, List.take_set_of_le (Nat.le_refl _)]; rfl
theorem getD_byte {l : List Int} (h : byteL l) (i : Nat) : 0 ≤ (l[i]?).getD 0 ∧ (l[i]?).getD 0 ≤ 255 := by
  cases hx : l[i]? with
  | none => simp
  | some x => exact h x (List.mem_of_getElem? hx)
/-- A step's fields, put together. -/
theorem of_ok (k : Int) (l : List Int) (hl : l.length ≤ 3) (hb : byteL l) : emit_of.f 5 k l = some (k, (l[0]?).getD 0, (l[1]?).getD 0, (l[2]?).getD 0) := by
  have hw : ∀ n : Int, 0 ≤ n → n ≤ 10 → wrap64 n = n := fun n h1 h2 => by unfold wrap64; omega
  match l, hl, hb with
  | [], _, _ => simp [emit_of.f, emit_of.l0]
  | [x], _, hb => simp [emit_of.f, emit_of.l0, rd, wrap64]
  | [x, y], _, hb => simp [emit_of.f, emit_of.l0, rd, wrap64]
  | [x, y, z], _, hb =>
    have hz := hb z (by simp)
    have e : z % 256 = z := by omega
    simp [emit_of.f, emit_of.l0, rd, wrap64, e]
end Go.Proofs.YtpdemfnemkmelaaDoor.E
