/-
  A chunk of whose form one byte is another one is not told again, for every chunk, place and byte.
-/
import Derived.Test.YtnbfkinebikneaaXWireTurned
import Derived.Test.YtnbfkinebikneaaTextP
namespace Go.Proofs.Ytnbfkinebikneaa.Pure
open Go Go.RowKit Go.Proofs.Ytnbfkinebikneaa.PA Go.Proofs.YtnbfkinebikneaaW.PrintWords Go.Proofs.YtnbfkinebikneaaW.PrintLast

theorem turned_ne (x c : Int) (hx : 0 ≤ x ∧ x ≤ 255) (hc : 0 ≤ c ∧ c ≤ 255) (h : c ≠ 0) : 0 ≤ Go.bits .xor .u8 x c ∧ Go.bits .xor .u8 x c ≤ 255 ∧ Go.bits .xor .u8 x c ≠ x := by
  have e := u8_xor x c hx.1 (by omega) hc.1 (by omega)
  have hl : x.toNat ^^^ c.toNat < 256 := Nat.xor_lt_two_pow (n := 8) (by omega) (by omega)
  rw [e]
  refine ⟨by omega, by omega, fun he => h ?_⟩
  have h1 : x.toNat ^^^ c.toNat = x.toNat := by omega
  have h2 : x.toNat ^^^ (x.toNat ^^^ c.toNat) = x.toNat ^^^ x.toNat := by rw [h1]
  rw [← Nat.xor_assoc, Nat.xor_self, Nat.zero_xor] at h2
  omega
theorem rd_set_ne (l : List Int) (i : Nat) (v : Int) (h : i < l.length) (hv : v ≠ rd l i) : l.set i v ≠ l := by
  intro e
  have h1 : (l.set i v)[i]? = l[i]? := by rw [e]
  rw [List.getElem?_set_self h] at h1
  apply hv
  unfold rd
  rw [List.getD_eq_getElem?_getD, Int.toNat_natCast, ← h1]; rfl
theorem bytes_set {l : List Int} (h : Bytes l) (i : Nat) {v : Int} (hv : 0 ≤ v ∧ v ≤ 255) : Bytes (l.set i v) := fun x hx => by
  rcases List.mem_or_eq_of_mem_set hx with hx | hx
  · exact h x hx
  · exact hx ▸ hv

theorem turned_j1 (k : Nat) (hk : 20 ≤ k) (at_ : Nat) (turn tag : Int) (body : List Int) (ht : 0 ≤ tag ∧ tag ≤ 255) (hb : Bytes body) (hbl : body.length ≤ 4194304)
    (hat : at_ < (writeA tag body).1.length) (hc : 0 ≤ turn ∧ turn ≤ 255) (hne : turn ≠ 0) :
    recouplaw08_WireTurned.j1 k at_ turn (writeA tag body).1 false tag body = some true := by
  obtain ⟨k, rfl⟩ : ∃ m, k = m + 1 := ⟨k - 1, by omega⟩
  obtain ⟨hr, he, h6, hlen⟩ := read_back tag body [] ht hb hbl
  have hwb : Bytes (writeA tag body).1 := by
    have h9 : (writeA tag body).1 = (tag :: (textA body).1) ++ four (sumA (tag :: (textA body).1)) := by
      unfold writeA at he ⊢
      by_cases h0 : (textA body).2 = 0
      · rw [if_pos h0]
      · rw [if_neg h0] at he; exact absurd he h0
    rw [h9]
    exact ((textA_bytes body hb).cons ht).append (bytes_four _)
  have hw := writeA tag body
  simp only [recouplaw08_WireTurned.j1, recouplaw08_anchored.f, Option.bind_some, Int.toNat_natCast]
  have hx := hwb _ (rd_mem (writeA tag body).1 at_ hat)
  have htn := turned_ne _ turn hx hc hne
  have hbs := bytes_set hwb at_ ⟨htn.1, htn.2.1⟩
  rw [if_neg (by decide), if_pos (by omega), if_pos (by omega), Read_f k (by omega) _ hbs (by rw [List.length_set]; omega), Option.bind_some, if_pos trivial]
  by_cases he2 : (readChunkA ((writeA tag body).1.set at_ (Go.bits .xor .u8 (rd (writeA tag body).1 at_) turn))).2.2.2 = 0
  · rw [if_pos he2]
    obtain ⟨f1, f2, f3, f4, f5, f6, f7⟩ := form_of_read _ hbs he2
    have hnot : ¬ (tag = (readChunkA ((writeA tag body).1.set at_ (Go.bits .xor .u8 (rd (writeA tag body).1 at_) turn))).1 ∧ body = (readChunkA ((writeA tag body).1.set at_ (Go.bits .xor .u8 (rd (writeA tag body).1 at_) turn))).2.1) := by
      rintro ⟨e1, e2⟩
      rw [← e1, ← e2] at f1
      have hl : ((writeA tag body).1).length = ((writeA tag body).1.set at_ (Go.bits .xor .u8 (rd (writeA tag body).1 at_) turn)).length := by rw [List.length_set]
      have hf : (writeA tag body).1 = ((writeA tag body).1.set at_ (Go.bits .xor .u8 (rd (writeA tag body).1 at_) turn)).take (readChunkA ((writeA tag body).1.set at_ (Go.bits .xor .u8 (rd (writeA tag body).1 at_) turn))).2.2.1.toNat := congrArg Prod.fst f1
      have hlt := congrArg List.length hf
      rw [List.length_take, ← hl] at hlt
      rw [List.take_of_length_le (by rw [← hl]; omega)] at hf
      exact rd_set_ne _ at_ _ hat htn.2.2 hf.symm
    generalize readChunkA ((writeA tag body).1.set at_ (Go.bits .xor .u8 (rd (writeA tag body).1 at_) turn)) = r at f7 hnot ⊢
    unfold recoupref08_Like.f
    by_cases e1 : tag = r.1
    · rw [if_pos e1, Same_f _ _ hb f7, Option.bind_some, Option.bind_some]
      have : ¬ body = r.2.1 := fun h => hnot ⟨e1, h⟩
      simp [this]
    · rw [if_neg e1]; rfl
  · rw [if_neg he2]

theorem WireTurned : recouplaw08_WireTurned.PureS := by
  intro tag body at_ turn hg ha ht
  refine ⟨22, ?_⟩
  have htag : 0 ≤ tag ∧ tag ≤ 255 := wf_u8 hg.1
  have hb : Bytes body := fun x hx => wf_u8 (hg.2.2 x hx)
  have hbl : body.length ≤ 9223372036854775807 := hg.2.1
  have hturn := wf_u8 ht
  unfold recouplaw08_WireTurned.f
  by_cases hl : (body.length : Int) > 4194304
  · rw [if_pos hl]; rfl
  · obtain ⟨hr, he, h6, hlen⟩ := read_back tag body [] htag hb (by omega)
    rw [if_neg hl, Write_f 22 (by omega) tag body htag hb (by omega), Option.bind_some, if_pos he]
    have hj : ∀ b, b = true → recouplaw08_WireTurned.j1 21 at_ turn (writeA tag body).1 b tag body = some true := by
      intro b hb1
      simp only [recouplaw08_WireTurned.j1, recouplaw08_anchored.f, Option.bind_some]
      rw [if_pos hb1]
    simp only [recouplaw08_WireTurned.j0]
    rw [if_neg (by simp; omega)]
    by_cases h0 : at_ < 0
    · rw [if_pos h0]; exact hj true rfl
    · rw [if_neg h0]
      by_cases h1 : at_ ≥ ((writeA tag body).1.length : Int)
      · rw [if_pos h1]; exact hj true rfl
      · rw [if_neg h1]
        by_cases h2 : turn = 0
        · exact hj _ (by simp [h2])
        · have := turned_j1 21 (by omega) at_.toNat turn tag body htag hb (by omega) (by omega) hturn h2
          rw [Int.toNat_of_nonneg (by omega)] at this
          rw [show (turn == 0) = false from by simp [h2]]
          exact this

end Go.Proofs.Ytnbfkinebikneaa.Pure
