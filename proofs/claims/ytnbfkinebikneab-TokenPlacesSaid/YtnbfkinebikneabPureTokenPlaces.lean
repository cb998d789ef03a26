/-
  The places of bytes: line and column, by counting and by going along.
-/
import Derived.Test.YtnbfkinebikneabXTokenPlaces
namespace Go.Proofs.Ytnbfkinebikneab.Pure
open Go Go.RowKit Go.Proofs.Ytnbfkinebikneab.PA Go.Proofs.YtnbfkinebikneabW.PrintWords Go.Proofs.YtnbfkinebikneabW.PrintLast Go.Proofs.YtnbfkinebikneabW.PrintMore

theorem w64 {n : Int} (h : -9223372036854775808 ≤ n) (h1 : n < 9223372036854775808) : wrap64 n = n := by unfold wrap64; omega
/-- How often the line's end stands among the first bytes. -/
def nls (s : ByteArray) : Nat → Int
  | 0 => 0
  | k + 1 => if bt s k = 10 then nls s k + 1 else nls s k
/-- Where the last of them stands; -1: nowhere. -/
def lastnl (s : ByteArray) : Nat → Int
  | 0 => -1
  | k + 1 => if bt s k = 10 then k else lastnl s k
theorem nls_range (s : ByteArray) (k : Nat) : 0 ≤ nls s k ∧ nls s k ≤ k := by
  induction k with
  | zero => exact ⟨Int.le_refl _, Int.le_refl _⟩
  | succ k ih => unfold nls; split <;> omega
theorem lastnl_range (s : ByteArray) (k : Nat) : -1 ≤ lastnl s k ∧ lastnl s k < k := by
  induction k with
  | zero => exact ⟨Int.le_refl _, by show (-1 : Int) < 0; decide⟩
  | succ k ih => unfold lastnl; split <;> omega
theorem bt_take (s : ByteArray) (n i : Nat) (h : i < n) : bt (s.extract 0 n) i = bt s i := by
  unfold bt
  rw [Int.toNat_natCast]
  by_cases hs : i < s.size
  · rw [dif_pos hs, dif_pos (by rw [ByteArray.size_extract]; omega), ByteArray.getElem_extract]
    simp
  · rw [dif_neg hs, dif_neg (by rw [ByteArray.size_extract]; omega)]
theorem nls_take (s : ByteArray) (n k : Nat) (h : k ≤ n) : nls (s.extract 0 n) k = nls s k := by
  induction k with
  | zero => rfl
  | succ k ih => unfold nls; rw [bt_take s n k (by omega), ih (by omega)]
theorem lastnl_take (s : ByteArray) (n k : Nat) (h : k ≤ n) : lastnl (s.extract 0 n) k = lastnl s k := by
  induction k with
  | zero => rfl
  | succ k ih => unfold lastnl; rw [bt_take s n k (by omega), ih (by omega)]
theorem count_nls (s : ByteArray) (k : Nat) (h : k ≤ s.size) : (((s.data.toList.take k).count (10 : UInt8) : Nat) : Int) = nls s k := by
  induction k with
  | zero => rfl
  | succ k ih =>
    have hk : k < s.data.toList.length := by simp only [Array.length_toList]; exact h
    rw [List.take_succ_eq_append_getElem hk, List.count_append, nls]
    have hb : bt s k = ((s.data.toList[k]).toNat : Int) := by
      unfold bt; rw [Int.toNat_natCast, dif_pos (by omega)]; rfl
    rw [hb]
    have ih := ih (by omega)
    by_cases e : s.data.toList[k] = 10
    · rw [e, if_pos (by rfl)]
      simp only [List.count_cons, List.count_nil]
      simp; omega
    · rw [if_neg (by intro h'; apply e; apply UInt8.toNat_inj.1; have : (10 : UInt8).toNat = 10 := rfl; omega)]
      have : List.count (10 : UInt8) [s.data.toList[k]] = 0 := by
        rw [List.count_eq_zero]; intro hm; exact e (List.mem_singleton.1 hm).symm
      omega
theorem last_f (s : ByteArray) (hs : s.size ≤ 140737488351232) (i : Nat) (hi : i ≤ s.size) : ∀ k, i < k → bytealg_LastIndexByteString.l0 k s 10 ((i : Int) - 1) = some (lastnl s i) := by
  induction i with
  | zero =>
    intro k hk
    obtain ⟨k, rfl⟩ : ∃ m, k = m + 1 := ⟨k - 1, by omega⟩
    simp only [bytealg_LastIndexByteString.l0]
    rw [if_neg (by decide)]; rfl
  | succ i ih =>
    intro k hk
    obtain ⟨k, rfl⟩ : ∃ m, k = m + 1 := ⟨k - 1, by omega⟩
    have e1 : ((i + 1 : Nat) : Int) - 1 = i := by omega
    rw [e1]
    simp only [bytealg_LastIndexByteString.l0]
    rw [if_pos (by omega), if_pos (by omega), if_pos (by omega), lastnl]
    split
    · rfl
    · rw [w64 (by omega) (by omega)]
      exact ih (by omega) k (by omega)
theorem where_f (s : ByteArray) (hs : s.size ≤ 140737488351232) (at_ : Int) (n : Nat) (hn : n ≤ s.size) (ha : (n : Int) = mn (mx at_ 0) (s.size : Int)) (d : Nat) : ∀ (i : Nat), i + d = n → ∀ k, 2 * d + 1 < k →
    recoupref09_Where.l0 k s at_ (nls s i + 1) (i - lastnl s i) i = some (nls s n + 1, n - lastnl s n) := by
  induction d with
  | zero =>
    intro i hi k hk
    obtain ⟨k, rfl⟩ : ∃ m, k = m + 2 := ⟨k - 2, by omega⟩
    obtain rfl : i = n := by omega
    simp only [recoupref09_Where.l0]
    split
    · have : ¬ ((i : Int) < at_) := by
        unfold mn mx at ha
        split at ha <;> split at ha <;> omega
      rw [decide_eq_false this]
      simp only [recoupref09_Where.j1]
      rw [if_neg (by decide)]
    · simp only [recoupref09_Where.j1]
      rw [if_neg (by decide)]
  | succ d ih =>
    intro i hi k hk
    obtain ⟨k, rfl⟩ : ∃ m, k = m + 2 := ⟨k - 2, by omega⟩
    have hr := nls_range s i
    have hl := lastnl_range s i
    have : ((i : Int) < at_) := by
      unfold mn mx at ha
      split at ha <;> split at ha <;> omega
    simp only [recoupref09_Where.l0]
    rw [if_pos (by omega), decide_eq_true this]
    simp only [recoupref09_Where.j1]
    rw [if_pos trivial, if_pos (by omega), if_pos (by omega)]
    have ih := ih (i + 1) (by omega) k (by omega)
    rw [nls, lastnl] at ih
    rw [w64 (by omega) (by omega), w64 (by omega) (by omega), w64 (by omega) (by omega)]
    split
    · rename_i e
      rw [if_pos e, if_pos e] at ih
      have e2 : ((i + 1 : Nat) : Int) - i = 1 := by omega
      rw [e2] at ih
      exact ih
    · rename_i e
      rw [if_neg e, if_neg e] at ih
      have e2 : ((i + 1 : Nat) : Int) - lastnl s i = i - lastnl s i + 1 := by omega
      rw [e2] at ih
      exact ih
theorem TokenPlaces : recouplaw09_TokenPlaces.PureS := by
  intro s at_ hs _
  have hmn : 0 ≤ mn (mx at_ 0) (s.size : Int) ∧ mn (mx at_ 0) (s.size : Int) ≤ s.size := by
    unfold mn mx; split <;> split <;> omega
  obtain ⟨n, hn⟩ : ∃ n : Nat, (n : Int) = mn (mx at_ 0) (s.size : Int) := ⟨(mn (mx at_ 0) (s.size : Int)).toNat, by omega⟩
  have hns : n ≤ s.size := by omega
  have hr := nls_range s n
  have hl := lastnl_range s n
  have hsz : (s.extract 0 n).size = n := by rw [ByteArray.size_extract]; omega
  refine ⟨2 * s.size + 9, ?_⟩
  have h1 : recoupref09_Where.f (2 * s.size + 9) s at_ = some (nls s n + 1, n - lastnl s n) :=
    where_f s hs at_ n hns hn n 0 (by omega) _ (by omega)
  have h2 : strings_Count.f (s.extract 0 n) (⟨#[10]⟩ : ByteArray) = some (nls s n) := by
    unfold strings_Count.f
    rw [if_pos (by rfl)]
    have : (s.extract 0 n).data.toList = s.data.toList.take n := by
      rw [ByteArray.data_extract, Array.toList_extract]; simp [List.extract]
    rw [this, ← count_nls s n hns]; rfl
  have h3 : strings_LastIndexByte.f (2 * s.size + 9) (s.extract 0 n) 10 = some (lastnl s n) := by
    simp only [strings_LastIndexByte.f, bytealg_LastIndexByteString.f]
    rw [hsz, w64 (by omega) (by omega), last_f _ (by omega) n (by omega) _ (by omega), lastnl_take s n n (Nat.le_refl _)]; rfl
  have h4 : token_Where.f (2 * s.size + 9) s at_ = some (nls s n + 1, n - lastnl s n) := by
    simp only [token_Where.f]
    rw [← hn, if_pos (by omega), if_pos (by omega), Int.toNat_natCast, h2, h3, hsz]
    simp only [Option.bind_some]
    rw [w64 (by omega) (by omega), w64 (by omega) (by omega)]
  simp only [recouplaw09_TokenPlaces.f, h1, h4, Option.bind_some, if_true, beq_self_eq_true]
end Go.Proofs.Ytnbfkinebikneab.Pure
