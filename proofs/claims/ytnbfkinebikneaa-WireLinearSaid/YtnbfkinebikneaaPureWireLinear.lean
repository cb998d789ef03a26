/-
  Three lists of bytes put against one another have their sums' exclusive or, for every three lists (the longer ones cut).
-/
import Derived.Test.YtnbfkinebikneaaPA7
import Derived.Test.YtnbfkinebikneaaCrcP
namespace Go.Proofs.Ytnbfkinebikneaa.Pure
open Go Go.RowKit Go.Proofs.Ytnbfkinebikneaa.PA Go.Proofs.YtnbfkinebikneaaW.PrintWords Go.Proofs.YtnbfkinebikneaaW.PrintLast Go.Proofs.YtnbfkinebikneaaW.PrintMore Go.Proofs.Ytnbfkinebikneaa.Crc

theorem take_succ_rd (l : List Int) (i : Nat) (h : i < l.length) : l.take (i + 1) = l.take i ++ [rd l i] := by
  rw [List.take_add_one]; unfold rd; simp [h]
theorem regN_snoc (x : Nat) (l : List Int) (c : Int) : regN x (l ++ [c]) = byteN (regN x l) c := by unfold regN; rw [List.foldl_append]; rfl
theorem sums_xor (F a b c : Nat) : F ^^^ (a ^^^ b ^^^ c) = (F ^^^ a) ^^^ (F ^^^ b) ^^^ (F ^^^ c) := by
  have h : (F ^^^ a) ^^^ (F ^^^ b) ^^^ (F ^^^ c) = (F ^^^ F) ^^^ (F ^^^ (a ^^^ b ^^^ c)) := by ac_rfl
  rw [h, Nat.xor_self, Nat.zero_xor]
theorem mem_take {l : List Int} {n : Nat} {P : Int → Prop} (h : ∀ x ∈ l, P x) : ∀ x ∈ l.take n, P x := fun x hx => h x (List.mem_of_mem_take hx)

theorem linear_l0 (l0 l1 l2 : List Int) (h0 : ∀ x ∈ l0, 0 ≤ x ∧ x ≤ 255) (h1 : ∀ x ∈ l1, 0 ≤ x ∧ x ≤ 255) (h2 : ∀ x ∈ l2, 0 ≤ x ∧ x ≤ 255) (n : Nat) (hn : n < 140737488355328)
    (n0 : n ≤ l0.length) (n1 : n ≤ l1.length) (n2 : n ≤ l2.length) (d : Nat) : ∀ (k i : Nat) (xs : List Int), i + d = n → d < k → xs.length = i → (∀ x ∈ xs, 0 ≤ x ∧ x ≤ 255) →
    regN 4294967295 xs = regN 4294967295 (l0.take i) ^^^ regN 4294967295 (l1.take i) ^^^ regN 4294967295 (l2.take i) →
    recouplaw08_WireLinear.l0 k l0 l1 l2 (n : Int) xs (i : Int) = some true := by
  induction d with
  | zero =>
    intro k i xs hi hk hx hb hr
    obtain rfl : i = n := by omega
    obtain ⟨k, rfl⟩ : ∃ m, k = m + 1 := ⟨k - 1, by omega⟩
    simp only [recouplaw08_WireLinear.l0, recouplaw08_anchored.f, Option.bind_some]
    rw [if_neg (by omega), if_pos trivial, Sum_f xs hb, Option.bind_some, if_pos (by omega), if_pos (by omega), Int.toNat_natCast, Sum_f _ (mem_take h0), Option.bind_some, if_pos (by omega), Sum_f _ (mem_take h1), Option.bind_some, if_pos (by omega), Sum_f _ (mem_take h2), Option.bind_some]
    unfold sumA
    have b0 := Nat.xor_lt_two_pow (n := 32) (x := 4294967295) (by decide) (regN_lt (l0.take i) (mem_take h0) 4294967295 (by decide))
    have b1 := Nat.xor_lt_two_pow (n := 32) (x := 4294967295) (by decide) (regN_lt (l1.take i) (mem_take h1) 4294967295 (by decide))
    have b2 := Nat.xor_lt_two_pow (n := 32) (x := 4294967295) (by decide) (regN_lt (l2.take i) (mem_take h2) 4294967295 (by decide))
    rw [xor_u32_nat _ _ b0 b1, xor_u32_nat _ _ (Nat.xor_lt_two_pow (n := 32) b0 b1) b2, hr, sums_xor]
    simp
  | succ d ih =>
    intro k i xs hi hk hx hb hr
    obtain ⟨k, rfl⟩ : ∃ m, k = m + 1 := ⟨k - 1, by omega⟩
    have c0 := h0 _ (rd_mem l0 i (by omega))
    have c1 := h1 _ (rd_mem l1 i (by omega))
    have c2 := h2 _ (rd_mem l2 i (by omega))
    simp only [recouplaw08_WireLinear.l0]
    rw [if_pos (by omega), if_pos (by omega), if_pos (by omega), if_pos (by omega), if_pos (by omega), if_pos (by omega), wrap64_id (by omega) (by omega)]
    have e1 : Go.bits .xor .u8 (rd l0 i) (rd l1 i) = (((rd l0 i).toNat ^^^ (rd l1 i).toNat : Nat) : Int) := u8_xor _ _ c0.1 (by omega) c1.1 (by omega)
    have l1b : (rd l0 i).toNat ^^^ (rd l1 i).toNat < 256 := Nat.xor_lt_two_pow (n := 8) (by omega) (by omega)
    have e2 : Go.bits .xor .u8 (Go.bits .xor .u8 (rd l0 i) (rd l1 i)) (rd l2 i) = (((rd l0 i).toNat ^^^ (rd l1 i).toNat ^^^ (rd l2 i).toNat : Nat) : Int) := by
      rw [e1, u8_xor _ _ (by omega) (by omega) c2.1 (by omega), Int.toNat_natCast]
    have l2b : (rd l0 i).toNat ^^^ (rd l1 i).toNat ^^^ (rd l2 i).toNat < 256 := Nat.xor_lt_two_pow (n := 8) l1b (by omega)
    rw [e2]
    have := ih k (i + 1) (xs ++ [(((rd l0 i).toNat ^^^ (rd l1 i).toNat ^^^ (rd l2 i).toNat : Nat) : Int)]) (by omega) (by omega) (by rw [List.length_append, List.length_singleton]; omega)
      (fun x hx' => by
        rcases List.mem_append.1 hx' with hx' | hx'
        · exact hb x hx'
        · rw [List.mem_singleton] at hx'; omega)
      (by rw [regN_snoc, take_succ_rd l0 i (by omega), take_succ_rd l1 i (by omega), take_succ_rd l2 i (by omega), regN_snoc, regN_snoc, regN_snoc, hr]
          exact byteN_xor3 _ _ _ _ _ _ _ c0.1 c1.1 c2.1 rfl)
    rw [show ((i + 1 : Nat) : Int) = (i : Int) + 1 by omega] at this
    exact this

theorem WireLinear : recouplaw08_WireLinear.Pure := by
  intro l0 l1 l2 m0 z0 b0 m1 z1 b1 m2 z2 b2
  obtain ⟨n, hn, n0, n1, n2⟩ : ∃ n : Nat, mn (mn (l0.length : Int) (l1.length : Int)) (l2.length : Int) = (n : Int) ∧ n ≤ l0.length ∧ n ≤ l1.length ∧ n ≤ l2.length := by
    refine ⟨min (min l0.length l1.length) l2.length, ?_, by omega, by omega, by omega⟩
    unfold mn
    (repeat' split) <;> omega
  refine ⟨n + 1, ?_⟩
  unfold recouplaw08_WireLinear.f
  rw [hn]
  exact linear_l0 l0 l1 l2 (fun x hx => wf_u8 (b0 x hx)) (fun x hx => wf_u8 (b1 x hx)) (fun x hx => wf_u8 (b2 x hx)) n (by omega) n0 n1 n2 n (n + 1) 0 [] (by omega) (by omega) rfl (by simp) (by simp [regN])

end Go.Proofs.Ytnbfkinebikneaa.Pure
