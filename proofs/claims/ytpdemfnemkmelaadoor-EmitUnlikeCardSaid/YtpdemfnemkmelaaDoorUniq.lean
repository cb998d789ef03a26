/- Two programs that may be and have the same bytes, or the same lines, are one, in plain words. No conditions. -/
import Derived.Test.YtpdemfnemkmelaaDoorLawW
import Derived.Test.YtpdemfnemkmelaaDoorPSame
import Derived.Test.YtpdemfnemkmelaaDoorRead
namespace Go.Proofs.YtpdemfnemkmelaaDoor.E
open Go Go.RowKit Go.Proofs.YtpdemfnemkmelaaDoorW.PrintWords Go.Proofs.YtpdemfnemkmelaaDoorW.PrintLast Go.Proofs.YtpdemfnemkmelaaDoorW.PrintMore Go.Proofs.YtpdemfnemkmelaaDoor.PA Go.Proofs.YtpdemfnemkmelaaDoor.Num
set_option linter.unusedVariables false
set_option linter.unusedSimpArgs false
/-! bytes: what is written is read -/
theorem numR_back {b : List Int} {p n : Nat} {rest : List Int} (h : b.drop p = numL n ++ rest) (most : Int) (hn : (n : Int) ≤ most) (h9 : n < 128 ^ 9) (K : Int → Nat → RRes) : numR b p most K = K (n : Int) (p + (numL n).length) := by
  have h1 : readA (b.drop p) = ((n : Int), ((numL n).length : Int), 0) := by
    unfold readA
    rw [h, readL_back 9 0 n 0 rest rfl h9 (fun h => by omega)]
    simp
  unfold numR
  rw [h1]
  simp only [if_true]
  rw [if_neg (by omega)]
  rfl
theorem drop_more {b : List Int} {p : Nat} {x rest : List Int} (h : b.drop p = x ++ rest) : b.drop (p + x.length) = rest := by
  rw [← List.drop_drop, h, List.drop_left]
theorem drop_at {b : List Int} {p : Nat} {c : Int} {rest : List Int} (h : b.drop p = c :: rest) : b[p]? = some c ∧ b.drop (p + 1) = rest := by
  have h1 : b[p]? = (b.drop p)[0]? := by rw [List.getElem?_drop]; simp
  exact ⟨by rw [h1, h]; rfl, by rw [← List.drop_drop, h]; rfl⟩
theorem bytesR_back {b : List Int} {p : Nat} {rest : List Int} {r : Int} (h : b.drop p = be8 r ++ rest) (hr : 0 ≤ r ∧ r < 18446744073709551616) (K : Int → Nat → RRes) : bytesR b K 8 p 0 = K r (p + 8) := by
  have e : be8 r = [r / 72057594037927936 % 256, r / 281474976710656 % 256, r / 1099511627776 % 256, r / 4294967296 % 256, r / 16777216 % 256, r / 65536 % 256, r / 256 % 256, r % 256] := by
    have : be8 r = [r / 2 ^ 56 % 256, r / 2 ^ 48 % 256, r / 2 ^ 40 % 256, r / 2 ^ 32 % 256, r / 2 ^ 24 % 256, r / 2 ^ 16 % 256, r / 2 ^ 8 % 256, r / 2 ^ 0 % 256] := rfl
    rw [this]
    have e0 : r / 2 ^ 0 = r := by simp
    rw [e0]; rfl
  rw [e] at h
  simp only [List.cons_append, List.nil_append] at h
  obtain ⟨h0, h⟩ := drop_at h
  obtain ⟨h1, h⟩ := drop_at h
  obtain ⟨h2, h⟩ := drop_at h
  obtain ⟨h3, h⟩ := drop_at h
  obtain ⟨h4, h⟩ := drop_at h
  obtain ⟨h5, h⟩ := drop_at h
  obtain ⟨h6, h⟩ := drop_at h
  obtain ⟨h7, h⟩ := drop_at h
  rw [bytesR_next _ _ _ h0, bytesR_next _ _ _ h1, bytesR_next _ _ _ h2, bytesR_next _ _ _ h3, bytesR_next _ _ _ h4, bytesR_next _ _ _ h5, bytesR_next _ _ _ h6, bytesR_next _ _ _ h7, bytesR]
  congr 1
  omega
theorem mkS_back {s : Stp} (h : okStep s = true) (rest : List Int) : mkS s.f0 (fieldsL s ++ rest) = s := by
  have h1 := okStep_yes h
  have h2 : s.f0 = 1 ∨ s.f0 = 2 ∨ s.f0 = 3 ∨ s.f0 = 4 := by omega
  have ht : (fieldsL s ++ rest).take (fldN s.f0) = fieldsL s := List.take_left' (fieldsL_len s)
  unfold mkS
  rw [ht]
  refine stp_ext rfl ?_ ?_ ?_
  · show ((fieldsL s)[0]?).getD 0 = s.f1
    unfold fieldsL
    rcases h2 with e | e | e | e <;> rw [e] <;> rfl
  · show ((fieldsL s)[1]?).getD 0 = s.f2
    unfold fieldsL
    rcases h2 with e | e | e | e
    · have := h1.2.2.2.2.2.2.1 (by rw [e]; decide); rw [e, this]; rfl
    all_goals (rw [e]; rfl)
  · show ((fieldsL s)[2]?).getD 0 = s.f3
    unfold fieldsL
    rcases h2 with e | e | e | e
    · have := h1.2.2.2.2.2.2.2 (by rw [e]; decide); rw [e, this]; rfl
    · have := h1.2.2.2.2.2.2.2 (by rw [e]; decide); rw [e, this]; rfl
    · rw [e]; rfl
    · have := h1.2.2.2.2.2.2.2 (by rw [e]; decide); rw [e, this]; rfl
theorem stepsR_back {b : List Int} {rest : List Int} (rg ot rd : Int) : ∀ (l : List Stp) (p : Nat) (acc : List Stp), (∀ s ∈ l, okStep s = true) → b.drop p = l.flatMap stepL ++ rest → stepsR b rg ot rd l.length p acc = (acc ++ l, rg, ot, rd, ((p + (l.flatMap stepL).length : Nat) : Int), 0)
  | [], p, acc, _, _ => by simp [stepsR]
  | s :: l, p, acc, hl, h => by
    have hs := hl s (.head _)
    have h1 := okStep_yes hs
    rw [List.flatMap_cons, stepL, List.append_assoc, List.cons_append] at h
    rw [List.length_cons, stepsR, h]
    simp only
    rw [if_neg (by omega), if_neg (by rw [List.length_append, fieldsL_len]; omega), mkS_back hs]
    have hd : b.drop (p + 1 + fldN s.f0) = l.flatMap stepL ++ rest := by
      obtain ⟨_, h2⟩ := drop_at h
      have h3 := drop_more h2
      rw [fieldsL_len] at h3
      exact h3
    rw [stepsR_back rg ot rd l _ _ (fun t ht => hl t (.tail _ ht)) hd]
    simp only [List.append_assoc, List.singleton_append, List.flatMap_cons, stepL, List.length_append, List.length_cons, fieldsL_len]
    congr 5
    omega
theorem readR_back (l : List Stp) (regs outs reads : Int) (rest : List Int) (h : okProg l regs outs = true) (hr : 0 ≤ reads ∧ reads < 18446744073709551616) :
    readR (writeL l regs outs reads ++ rest) = (l, regs, outs, reads, ((writeL l regs outs reads).length : Int), 0) := by
  obtain ⟨h1, h2⟩ := okProg_yes h
  have hw : writeL l regs outs reads ++ rest = numL regs.toNat ++ (numL outs.toNat ++ (be8 reads ++ (numL l.length ++ (l.flatMap stepL ++ rest)))) := by
    unfold writeL; simp only [List.append_assoc]
  generalize hb : writeL l regs outs reads ++ rest = b at hw ⊢
  have d0 : b.drop 0 = numL regs.toNat ++ (numL outs.toNat ++ (be8 reads ++ (numL l.length ++ (l.flatMap stepL ++ rest)))) := hw
  have d1 := drop_more d0
  have d2 := drop_more d1
  have d3 := drop_more d2
  have d4 := drop_more d3
  rw [be8_len] at d3 d4
  unfold readR
  rw [numR_back d0 256 (by omega) (by omega)]
  unfold readK1
  rw [numR_back d1 64 (by omega) (by omega)]
  unfold readK2
  rw [bytesR_back d2 hr]
  unfold readK3
  rw [numR_back d3 65536 (by omega) (by omega)]
  unfold readK4
  rw [Int.toNat_natCast, stepsR_back _ _ _ l _ _ h2 d4]
  have e1 : ((regs.toNat : Nat) : Int) = regs := by omega
  have e2 : ((outs.toNat : Nat) : Int) = outs := by omega
  rw [e1, e2, List.nil_append]
  congr 5
  unfold writeL
  simp only [List.length_append, be8_len]
  omega
theorem write_inj {l l' : List Stp} {a1 a2 a3 b1 b2 b3 : Int} (h : okProg l a1 a2 = true) (h' : okProg l' b1 b2 = true) (h3 : 0 ≤ a3 ∧ a3 < 18446744073709551616) (h3' : 0 ≤ b3 ∧ b3 < 18446744073709551616) (he : writeL l a1 a2 a3 = writeL l' b1 b2 b3) : l = l' ∧ a1 = b1 ∧ a2 = b2 ∧ a3 = b3 := by
  have e1 := readR_back l a1 a2 a3 [] h h3
  have e2 := readR_back l' b1 b2 b3 [] h' h3'
  rw [he, e2] at e1
  simp only [Prod.mk.injEq] at e1
  exact ⟨e1.1.symm, e1.2.1.symm, e1.2.2.1.symm, e1.2.2.2.1.symm⟩
theorem writeL_byte {l : List Stp} {regs outs reads : Int} (h : okProg l regs outs = true) (h3 : ∀ s ∈ l, 0 ≤ s.f3 ∧ s.f3 ≤ 255) : byteL (writeL l regs outs reads) := by
  obtain ⟨_, h2⟩ := okProg_yes h
  have nb : ∀ n, byteL (numL n) := fun n x hx => by have := numL_byte n x hx; omega
  intro x hx
  unfold writeL at hx
  rcases List.mem_append.1 hx with hx | hx
  · exact nb _ x hx
  rcases List.mem_append.1 hx with hx | hx
  · exact nb _ x hx
  rcases List.mem_append.1 hx with hx | hx
  · unfold be8 at hx
    obtain ⟨j, _, rfl⟩ := List.mem_map.1 hx
    omega
  rcases List.mem_append.1 hx with hx | hx
  · exact nb _ x hx
  obtain ⟨s, hs, hx⟩ := List.mem_flatMap.1 hx
  have h1 := okStep_yes (h2 s hs)
  unfold stepL at hx
  rcases List.mem_cons.1 hx with rfl | hx
  · omega
  · exact fieldsL_mem (h2 s hs) (h3 s hs) x hx
/-! lines -/
theorem dec_small {u : Nat} (h : u < 10) : Lib.decDigits u = [UInt8.ofNat (48 + u)] := by rw [Lib.decDigits, dif_pos h]
theorem dec_big {u : Nat} (h : ¬ u < 10) : Lib.decDigits u = Lib.decDigits (u / 10) ++ [UInt8.ofNat (48 + u % 10)] := by rw [Lib.decDigits, dif_neg h]
theorem dig_nat {k : Nat} (h : k < 10) : (UInt8.ofNat (48 + k)).toNat = 48 + k := by
  rw [UInt8.toNat_ofNat']
  omega
def valD (l : List UInt8) : Nat := l.foldl (fun a c => 10 * a + (c.toNat - 48)) 0
theorem val_dec : ∀ (u : Nat), valD (Lib.decDigits u) = u := by
  intro u
  induction u using Nat.strongRecOn with
  | _ u ih =>
    by_cases h : u < 10
    · rw [dec_small h]; unfold valD; simp only [List.foldl_cons, List.foldl_nil]; rw [dig_nat h]; omega
    · have := ih (u / 10) (by omega)
      unfold valD at this
      rw [dec_big h]; unfold valD; rw [List.foldl_append, this]; simp only [List.foldl_cons, List.foldl_nil]; rw [dig_nat (by omega)]; omega
theorem dec_digits : ∀ (u : Nat), ∀ c ∈ Lib.decDigits u, 48 ≤ c.toNat ∧ c.toNat ≤ 57 := by
  intro u
  induction u using Nat.strongRecOn with
  | _ u ih =>
    intro c hc
    by_cases h : u < 10
    · rw [dec_small h, List.mem_singleton] at hc
      subst hc
      rw [dig_nat h]; omega
    · rw [dec_big h, List.mem_append, List.mem_singleton] at hc
      rcases hc with hc | hc
      · exact ih (u / 10) (by omega) c hc
      · subst hc
        rw [dig_nat (by omega)]; omega
theorem itoa_nat {n : Int} (h : 0 ≤ n) : Lib.itoa n = Lib.decDigits n.toNat := by unfold Lib.itoa; rw [if_neg (by omega)]
theorem itoa_inj {n m : Int} (h : 0 ≤ n) (h' : 0 ≤ m) (he : Lib.itoa n = Lib.itoa m) : n = m := by
  rw [itoa_nat h, itoa_nat h'] at he
  have h1 := congrArg valD he
  rw [val_dec, val_dec] at h1
  omega
theorem itoa_clean {n : Int} (h : 0 ≤ n) : (32 : UInt8) ∉ Lib.itoa n ∧ (10 : UInt8) ∉ Lib.itoa n := by
  rw [itoa_nat h]
  constructor
  · intro hc; have := dec_digits _ _ hc; revert this; decide
  · intro hc; have := dec_digits _ _ hc; revert this; decide
/-- What stands ahead of the first sign is unique. -/
theorem sep_uniq (c : UInt8) : ∀ (a a' r r' : List UInt8), c ∉ a → c ∉ a' → a ++ c :: r = a' ++ c :: r' → a = a' ∧ r = r'
  | [], [], r, r', _, _, h => by simp at h; exact ⟨rfl, h⟩
  | [], y :: a', r, r', _, h2, h => by
    simp only [List.nil_append, List.cons_append, List.cons.injEq] at h
    exact absurd (h.1 ▸ List.mem_cons_self) h2
  | x :: a, [], r, r', h1, _, h => by
    simp only [List.nil_append, List.cons_append, List.cons.injEq] at h
    exact absurd (h.1 ▸ List.mem_cons_self) h1
  | x :: a, y :: a', r, r', h1, h2, h => by
    simp only [List.cons_append, List.cons.injEq] at h
    obtain ⟨e1, e2⟩ := sep_uniq c a a' r r' (fun hc => h1 (.tail _ hc)) (fun hc => h2 (.tail _ hc)) h.2
    exact ⟨by rw [h.1, e1], e2⟩
def numsB (l : List Int) : List UInt8 := l.flatMap (fun n => 32 :: Lib.itoa n)
theorem nums_uniq : ∀ (l l' : List Int) (a a' : List UInt8), (32 : UInt8) ∉ a → (32 : UInt8) ∉ a' → (∀ n ∈ l, 0 ≤ n) → (∀ n ∈ l', 0 ≤ n) → a ++ numsB l = a' ++ numsB l' → a = a' ∧ l = l'
  | [], [], a, a', _, _, _, _, h => by simp [numsB] at h; exact ⟨h, rfl⟩
  | [], m :: l', a, a', h1, _, _, _, h => by
    simp only [numsB, List.flatMap_nil, List.append_nil, List.flatMap_cons, List.cons_append] at h
    exact absurd (h ▸ List.mem_append_right _ List.mem_cons_self) h1
  | n :: l, [], a, a', _, h2, _, _, h => by
    simp only [numsB, List.flatMap_nil, List.append_nil, List.flatMap_cons, List.cons_append] at h
    exact absurd (h ▸ List.mem_append_right _ List.mem_cons_self) h2
  | n :: l, m :: l', a, a', h1, h2, hl, hl', h => by
    have hn := hl n (.head _)
    have hm := hl' m (.head _)
    have h' : a ++ 32 :: (Lib.itoa n ++ numsB l) = a' ++ 32 :: (Lib.itoa m ++ numsB l') := by
      simpa [numsB] using h
    obtain ⟨e1, e2⟩ := sep_uniq 32 a a' _ _ h1 h2 h'
    obtain ⟨e3, e4⟩ := nums_uniq l l' (Lib.itoa n) (Lib.itoa m) (itoa_clean hn).1 (itoa_clean hm).1 (fun x hx => hl x (.tail _ hx)) (fun x hx => hl' x (.tail _ hx)) e2
    exact ⟨e1, by rw [itoa_inj hn hm e3, e4]⟩
theorem numsB_clean {l : List Int} (h : ∀ n ∈ l, 0 ≤ n) : (10 : UInt8) ∉ numsB l := by
  intro hc
  unfold numsB at hc
  obtain ⟨n, hn, hc⟩ := List.mem_flatMap.1 hc
  rcases List.mem_cons.1 hc with hc | hc
  · revert hc; decide
  · exact (itoa_clean (h n hn)).2 hc
theorem joinN_list (s : ByteArray) (l : List Int) : (joinN s l).data.toList = s.data.toList ++ numsB l := by
  induction l generalizing s with
  | nil => simp [joinN, numsB]
  | cons n l ih =>
    have e : joinN s (n :: l) = joinN (s ++ (⟨#[32]⟩ ++ itoaB n)) l := rfl
    rw [e, ih]
    simp [numsB, itoaB, ByteArray.data_append]
theorem lineB_list (s : ByteArray) (l : List Int) : (lineB s l).data.toList = (s.data.toList ++ numsB l) ++ [10] := by
  unfold lineB
  rw [ByteArray.data_append, Array.toList_append, joinN_list]
/-- A line ahead of others is unique. -/
theorem line_uniq {s s' : ByteArray} {l l' : List Int} {r r' : List UInt8} (h1 : (32 : UInt8) ∉ s.data.toList ∧ (10 : UInt8) ∉ s.data.toList) (h2 : (32 : UInt8) ∉ s'.data.toList ∧ (10 : UInt8) ∉ s'.data.toList) (hl : ∀ n ∈ l, 0 ≤ n) (hl' : ∀ n ∈ l', 0 ≤ n)
    (h : (lineB s l).data.toList ++ r = (lineB s' l').data.toList ++ r') : s = s' ∧ l = l' ∧ r = r' := by
  rw [lineB_list, lineB_list, List.append_assoc _ [10], List.append_assoc _ [10]] at h
  have hc : ∀ {s : ByteArray} {l : List Int}, (10 : UInt8) ∉ s.data.toList → (∀ n ∈ l, 0 ≤ n) → (10 : UInt8) ∉ s.data.toList ++ numsB l := fun h1 h2 hc => by
    rcases List.mem_append.1 hc with hc | hc
    · exact h1 hc
    · exact numsB_clean h2 hc
  obtain ⟨e1, e2⟩ := sep_uniq 10 _ _ _ _ (hc h1.2 hl) (hc h2.2 hl') h
  obtain ⟨e3, e4⟩ := nums_uniq l l' _ _ h1.1 h2.1 hl hl' e1
  exact ⟨by cases s; cases s'; exact congrArg ByteArray.mk (Array.toList_inj.1 e3), e4, e2⟩
theorem text_list (l : List Stp) (h : ByteArray) : (l.foldl (fun b s => b ++ slineB s) h).data.toList = h.data.toList ++ l.flatMap (fun s => (slineB s).data.toList) := by
  induction l generalizing h with
  | nil => simp
  | cons s l ih => rw [List.foldl_cons, ih]; simp [ByteArray.data_append]
theorem wordS_clean (k : Int) : (32 : UInt8) ∉ (wordS k).data.toList ∧ (10 : UInt8) ∉ (wordS k).data.toList := by
  unfold wordS
  split
  · decide
  · split
    · decide
    · split
      · decide
      · split <;> decide
theorem wordS_inj {k k' : Int} (h : 1 ≤ k ∧ k ≤ 4) (h' : 1 ≤ k' ∧ k' ≤ 4) (he : wordS k = wordS k') : k = k' := by
  have h1 : k = 1 ∨ k = 2 ∨ k = 3 ∨ k = 4 := by omega
  have h2 : k' = 1 ∨ k' = 2 ∨ k' = 3 ∨ k' = 4 := by omega
  rcases h1 with rfl | rfl | rfl | rfl <;> rcases h2 with rfl | rfl | rfl | rfl <;> first | rfl | (exact absurd he (by decide))
theorem fields_nonneg {s : Stp} (h : okStep s = true) (h3 : 0 ≤ s.f3 ∧ s.f3 ≤ 255) : ∀ n ∈ fieldsL s, 0 ≤ n := fun n hn => (fieldsL_mem h h3 n hn).1
theorem step_inj {s s' : Stp} (h : okStep s = true) (h' : okStep s' = true) (e0 : s.f0 = s'.f0) (e : fieldsL s = fieldsL s') : s = s' := by
  have h1 := mkS_back h []
  have h2 := mkS_back h' []
  rw [e0, e, h2] at h1
  exact h1.symm
theorem steps_uniq : ∀ (l l' : List Stp), (∀ s ∈ l, okStep s = true ∧ 0 ≤ s.f3 ∧ s.f3 ≤ 255) → (∀ s ∈ l', okStep s = true ∧ 0 ≤ s.f3 ∧ s.f3 ≤ 255) → l.flatMap (fun s => (slineB s).data.toList) = l'.flatMap (fun s => (slineB s).data.toList) → l = l'
  | [], [], _, _, _ => rfl
  | [], s :: l', _, _, h => by
    have := congrArg List.length h
    rw [List.flatMap_nil, List.flatMap_cons, slineB, lineB_list] at this
    simp at this
  | s :: l, [], _, _, h => by
    have := congrArg List.length h
    rw [List.flatMap_nil, List.flatMap_cons, slineB, lineB_list] at this
    simp at this
  | s :: l, s' :: l', hl, hl', h => by
    rw [List.flatMap_cons, List.flatMap_cons] at h
    obtain ⟨h1, h3⟩ := hl s (.head _)
    obtain ⟨h1', h3'⟩ := hl' s' (.head _)
    have k1 := okStep_yes h1
    have k2 := okStep_yes h1'
    obtain ⟨e1, e2, e3⟩ := line_uniq (wordS_clean _) (wordS_clean _) (fields_nonneg h1 h3) (fields_nonneg h1' h3') h
    have e0 := wordS_inj ⟨k1.1, k1.2.1⟩ ⟨k2.1, k2.2.1⟩ e1
    rw [step_inj h1 h1' e0 e2, steps_uniq l l' (fun x hx => hl x (.tail _ hx)) (fun x hx => hl' x (.tail _ hx)) e3]
theorem bits_inj {x y : Nat} (hx : x < 2 ^ 64) (hy : y < 2 ^ 64) (h : bitsL x = bitsL y) : x = y := by
  have h0 : bitsN x = bitsN y := by
    unfold bitsL at h
    exact (List.map_inj_right (fun a b h => Int.ofNat.inj h)).1 h
  apply Nat.eq_of_testBit_eq
  intro i
  by_cases hi : i < 64
  · have h1 : i ∈ bitsN x ↔ x.testBit i = true := by unfold bitsN; simp [hi]
    have h2 : i ∈ bitsN y ↔ y.testBit i = true := by unfold bitsN; simp [hi]
    rw [h0] at h1
    rw [Bool.eq_iff_iff]
    exact h1.symm.trans h2
  · rw [Nat.testBit_lt_two_pow (Nat.lt_of_lt_of_le hx (Nat.pow_le_pow_right (by decide) (by omega))), Nat.testBit_lt_two_pow (Nat.lt_of_lt_of_le hy (Nat.pow_le_pow_right (by decide) (by omega)))]
theorem text_inj {l l' : List Stp} {a1 a2 b1 b2 : Int} {x y : Nat} (h : okProg l a1 a2 = true) (h' : okProg l' b1 b2 = true) (hx : x < 2 ^ 64) (hy : y < 2 ^ 64) (h3 : ∀ s ∈ l, 0 ≤ s.f3 ∧ s.f3 ≤ 255) (h3' : ∀ s ∈ l', 0 ≤ s.f3 ∧ s.f3 ≤ 255) (he : (textB l a1 a2 x).toList = (textB l' b1 b2 y).toList) : l = l' ∧ a1 = b1 ∧ a2 = b2 ∧ x = y := by
  rw [ByteArray.toList_eq, ByteArray.toList_eq, textB, textB, text_list, text_list] at he
  obtain ⟨k1, k2⟩ := okProg_yes h
  obtain ⟨k1', k2'⟩ := okProg_yes h'
  have nn : ∀ {a b : Int} {x : Nat}, 0 ≤ a → 0 ≤ b → ∀ n ∈ [a, b] ++ bitsL x, 0 ≤ n := fun ha hb n hn => by
    rcases List.mem_append.1 hn with hn | hn
    · simp only [List.mem_cons, List.not_mem_nil, or_false] at hn; omega
    · exact (bitsL_mem hn).1
  obtain ⟨_, e2, e3⟩ := line_uniq (by decide) (by decide) (nn k1.1 k1.2.2.1) (nn k1'.1 k1'.2.2.1) he
  simp only [List.cons_append, List.nil_append, List.cons.injEq] at e2
  exact ⟨steps_uniq l l' (fun s hs => ⟨k2 s hs, h3 s hs⟩) (fun s hs => ⟨k2' s hs, h3' s hs⟩) e3, e2.1, e2.2.1, bits_inj hx hy e2.2.2⟩
end Go.Proofs.YtpdemfnemkmelaaDoor.E
