/-
  What is handed in stays, what is answered is new memory: all that is called comes to an end, and what was read and written is what it was.
-/
import Derived.Test.YtnbfkinebikneaaXWireFresh
import Derived.Test.YtnbfkinebikneaaAllP
namespace Go.Proofs.Ytnbfkinebikneaa.Pure
open Go.RowKit Go.Proofs.Ytnbfkinebikneaa.PA Go.Proofs.YtnbfkinebikneaaW.PrintWords Go.Proofs.YtnbfkinebikneaaW.PrintLast

theorem spoil_l1 (m : Int) : ∀ (d k i : Nat) (l : List Int), i + d = l.length → d < k → l.length ≤ 4611686018427387903 → recoupref01_Spoil.l1 k l m (i : Int) = some ()
  | 0, k, i, l, h, hk, hl => by
    obtain ⟨k, rfl⟩ : ∃ q, k = q + 1 := ⟨k - 1, by omega⟩
    simp only [recoupref01_Spoil.l1]
    rw [if_neg (by omega)]
  | d + 1, k, i, l, h, hk, hl => by
    obtain ⟨k, rfl⟩ : ∃ q, k = q + 1 := ⟨k - 1, by omega⟩
    simp only [recoupref01_Spoil.l1]
    rw [if_pos (by omega), if_pos (by omega), wrap64_id (by omega) (by omega)]
    exact spoil_l1 m d k (i + 1) _ (by rw [List.length_set]; omega) (by omega) (by rw [List.length_set]; omega)
theorem spoil_l0 (m : Int) : ∀ (d k i : Nat) (l : List Int), i + d = l.length → d + l.length + 5 < k → l.length < 140737488355320 → recoupref01_Spoil.l0 k l m (i : Int) = some ()
  | 0, k, i, l, h, hk, hl => by
    obtain ⟨k, rfl⟩ : ∃ q, k = q + 1 := ⟨k - 1, by omega⟩
    simp only [recoupref01_Spoil.l0]
    rw [if_neg (by omega), Option.bind_some, if_pos (by simp; omega)]
    exact spoil_l1 m (l ++ [m, m, m]).length k 0 _ (by omega) (by rw [List.length_append]; simp; omega) (by rw [List.length_append]; simp; omega)
  | d + 1, k, i, l, h, hk, hl => by
    obtain ⟨k, rfl⟩ : ∃ q, k = q + 1 := ⟨k - 1, by omega⟩
    simp only [recoupref01_Spoil.l0]
    rw [if_pos (by omega), if_pos (by omega), wrap64_id (by omega) (by omega)]
    exact spoil_l0 m d k (i + 1) _ (by rw [List.length_set]; omega) (by rw [List.length_set]; omega) (by rw [List.length_set]; omega)
theorem spoil_f (k : Nat) (l : List Int) (m : Int) (h : l.length < 140737488355320) (hk : 2 * l.length + 5 < k) : recoupref01_Spoil.f k l m = some () := by
  unfold recoupref01_Spoil.f
  exact spoil_l0 m l.length k 0 l (by omega) (by omega) h
theorem readTextA_short (b : List Int) (most : Int) : (readTextA b most).1.length ≤ b.length := by
  unfold readTextA
  repeat' split
  all_goals first | (simp; done) | (rw [List.length_drop, List.length_take]; omega)
theorem readChunkA_short (b : List Int) : (readChunkA b).2.1.length ≤ b.length := by
  unfold readChunkA
  have h := readTextA_short (b.drop 1) 4194304
  rw [List.length_drop] at h
  repeat' split
  all_goals first | (simp; done) | (dsimp only; omega)
theorem allA_short (l : List Int) : ∀ (f p : Nat) (acc : List S53), (∀ c ∈ acc, c.f1.length ≤ l.length) → ∀ c ∈ (allA f l p acc).1, c.f1.length ≤ l.length
  | 0, p, acc, h => h
  | f + 1, p, acc, h => by
    simp only [allA]
    split
    · split
      · refine allA_short l f _ _ (fun c hc => ?_)
        rcases List.mem_append.1 hc with hc | hc
        · exact h c hc
        · obtain rfl := List.mem_singleton.1 hc
          have := readChunkA_short (l.drop p)
          rw [List.length_drop] at this
          dsimp only; omega
      · intro c hc; cases hc
    · exact h
theorem WireFresh : recouplaw08_WireFresh.PureU := by
  intro l a hz hb ha hm
  have hl : Bytes l := fun x hx => wf_u8 (hb.2 x hx)
  have ht : 0 ≤ a ∧ a ≤ 255 := wf_u8 ha
  have hlen : l.length ≤ 1048576 := by
    have h1 : ∀ q : List Int, (q.map fun _ => 1).sum = q.length := by
      intro q
      induction q with
      | nil => rfl
      | cons a q ih => rw [List.map_cons, List.sum_cons, ih, List.length_cons]; omega
    have := h1 l
    omega
  refine ⟨11 * l.length + 41943160 + 20000000, ?_⟩
  generalize hk : 11 * l.length + 41943160 + 20000000 = k
  unfold recouplaw08_WireFresh.f
  have h1 := textA_len l
  have h2 := readTextA_short l 100
  have h3 := readChunkA_short l
  have h4 := allA_short l (l.length + 1) 0 [] (fun c hc => by cases hc)
  rw [Copy_f l (by omega), Option.bind_some, Text_f k (by omega) l (by omega), Option.bind_some, Write_f k (by omega) a l ht hl (by omega), Option.bind_some, ReadText_f k (by omega) l 100 hl (by omega), Option.bind_some, Read_f k (by omega) l hl (by omega), Option.bind_some, All_f k l hl (by omega) (by omega), Option.bind_some,
    spoil_f k _ 1 (by omega) (by omega), Option.bind_some, spoil_f k _ 60 (by omega) (by omega), Option.bind_some, spoil_f k _ 120 (by omega) (by omega), Option.bind_some]
  have hall : (allA (l.length + 1) l 0 []).1.all (fun y => (recoupref01_Spoil.f k y.f1 9).isSome) = true := by
    rw [List.all_eq_true]
    intro y hy
    have := h4 y hy
    rw [spoil_f k _ 9 (by omega) (by omega)]; rfl
  rw [if_pos hall, rWrite_f k a l ht hl (by omega) (by omega), Option.bind_some]
  have hs : recouplaw08_anchored.f = some true := rfl
  rw [hs, Option.bind_some, Same_refl, Option.bind_some, Same_refl, Option.bind_some, if_pos rfl, if_pos rfl]
end Go.Proofs.Ytnbfkinebikneaa.Pure
