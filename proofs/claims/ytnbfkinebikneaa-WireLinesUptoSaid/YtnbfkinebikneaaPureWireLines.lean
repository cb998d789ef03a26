/-
  All of some chunks' forms is these chunks, for chunks of at most 1048576 values together.
-/
import Derived.Test.YtnbfkinebikneaaXWireLines
import Derived.Test.YtnbfkinebikneaaAllP
import Derived.Test.YtnbfkinebikneaaPureWireChunks
namespace Go.Proofs.Ytnbfkinebikneaa.Pure
open Go.RowKit Go.Proofs.Ytnbfkinebikneaa.PA Go.Proofs.YtnbfkinebikneaaW.PrintWords Go.Proofs.YtnbfkinebikneaaW.PrintLast

theorem rd_T (xs : List S53) (i : Nat) (h : i < xs.length) : rd_T53 xs (i : Int) = xs[i] := by
  unfold rd_T53
  rw [Int.toNat_natCast, List.getD_eq_getElem?_getD, List.getElem?_eq_getElem h]; rfl
theorem lines_l1 (xs : List S53) (h : xs.length < 9223372036854775807) (d : Nat) : ∀ (k i : Nat), i + d = xs.length → d < k → recouplaw08_WireLines.l1 k xs xs (i : Int) = some true := by
  induction d with
  | zero =>
    intro k i hi hk
    obtain ⟨k, rfl⟩ : ∃ m, k = m + 1 := ⟨k - 1, by omega⟩
    simp only [recouplaw08_WireLines.l1, recouplaw08_anchored.f, Option.bind_some]
    rw [if_neg (by omega)]
  | succ d ih =>
    intro k i hi hk
    obtain ⟨k, rfl⟩ : ∃ m, k = m + 1 := ⟨k - 1, by omega⟩
    simp only [recouplaw08_WireLines.l1, recouplaw08_anchored.f, Option.bind_some]
    rw [if_pos (by omega), if_pos (by omega), if_pos (by omega), Like_refl, Option.bind_some, if_pos rfl, wrap64_id (by omega) (by omega)]
    have := ih k (i + 1) (by omega) (by omega)
    rw [show ((i + 1 : Nat) : Int) = (i : Int) + 1 by omega] at this
    exact this
theorem lines_l0 (xs : List S53) (hx : ∀ c ∈ xs, Fine c) (hl : xs.length ≤ 1048576) (hb : ∀ i, (forms (xs.take i)).length ≤ 16777216) (d : Nat) : ∀ (k i : Nat), i + d = xs.length → d + 16777216 + 1048576 + 100 < k →
    recouplaw08_WireLines.l0 k xs (forms (xs.take i)) (i : Int) = some true := by
  induction d with
  | zero =>
    intro k i hi hk
    obtain ⟨k, rfl⟩ : ∃ m, k = m + 2 := ⟨k - 2, by omega⟩
    have hf := hb i
    rw [List.take_of_length_le (by omega)] at hf ⊢
    rw [show k + 2 = (k + 1) + 1 by omega]
    simp only [recouplaw08_WireLines.l0]
    rw [if_neg (by omega), All_f (k + 1) (forms xs) (forms_bytes xs hx) (by omega) (by omega), Option.bind_some]
    have := all_forms xs [] ((forms xs).length + 1) hx (by
      have h6 : ∀ l : List S53, (∀ c ∈ l, Fine c) → l.length ≤ (forms l).length := by
        intro l
        induction l with
        | nil => intro _; simp
        | cons c l ih =>
          intro h
          obtain ⟨_, _, h6, _⟩ := read_back c.f0 c.f1 [] (h c (by simp)).1 (h c (by simp)).2.1 (h c (by simp)).2.2
          have := ih (fun e he => h e (by simp [he]))
          rw [forms_cons, List.length_append, List.length_cons]; omega
      have := h6 xs hx
      omega)
    rw [List.nil_append] at this
    have hz : (forms ([] : List S53)).length = 0 := rfl
    rw [hz] at this
    rw [this]
    simp only
    rw [if_pos trivial, if_pos trivial]
    simp only [recouplaw08_WireLines.j1]
    rw [if_neg (by simp)]
    exact lines_l1 xs (by omega) xs.length k 0 (by omega) (by omega)
  | succ d ih =>
    intro k i hi hk
    obtain ⟨k, rfl⟩ : ∃ m, k = m + 1 := ⟨k - 1, by omega⟩
    have hilt : i < xs.length := by omega
    have hc := hx xs[i] (List.getElem_mem hilt)
    obtain ⟨hr, he, h6, hlen⟩ := read_back xs[i].f0 xs[i].f1 [] hc.1 hc.2.1 hc.2.2
    have hc3 := hc.2.2
    have hf := hb i
    have hw := Write_f k (by omega) xs[i].f0 xs[i].f1 hc.1 hc.2.1 (by omega)
    simp only [recouplaw08_WireLines.l0]
    rw [if_pos (by omega), if_pos (by omega), rd_T xs i hilt, if_neg (by omega), hw, Option.bind_some, if_pos he, if_pos (by omega), wrap64_id (by omega) (by omega)]
    have := ih k (i + 1) (by omega) (by omega)
    rw [List.take_succ_eq_append_getElem hilt, forms_append, forms_cons] at this
    have hz : forms ([] : List S53) = [] := rfl
    rw [hz, List.append_nil, show ((i + 1 : Nat) : Int) = (i : Int) + 1 by omega] at this
    exact this

theorem WireLines : recouplaw08_WireLines.PureU := by
  intro l hz hg hm
  have hsum : (l.map fun c => c.f1.length + 3).sum ≤ 1048576 := by
    have : (l.map fun c => c.f1.length + 3) = l.map m53 := by
      apply List.map_congr_left
      intro c _
      unfold m53
      have h1 : ∀ q : List Int, (q.map fun _ => 1).sum = q.length := by
        intro q
        induction q with
        | nil => rfl
        | cons a q ih => rw [List.map_cons, List.sum_cons, ih, List.length_cons]; omega
      have := h1 c.f1
      omega
    rw [this]
    have hm' : (l.map m53).sum + 1 ≤ 1048576 := hm
    omega
  have hpt : ∀ c ∈ l, c.f1.length + 3 ≤ 1048576 := by
    intro c hc
    have hle : ∀ q : List S53, c ∈ q → c.f1.length + 3 ≤ (q.map fun c => c.f1.length + 3).sum := by
      intro q
      induction q with
      | nil => intro h; simp at h
      | cons d q ih =>
        intro h
        rw [List.map_cons, List.sum_cons]
        rcases List.mem_cons.1 h with rfl | h
        · omega
        · have := ih h; omega
    have := hle l hc
    omega
  have hx : ∀ c ∈ l, Fine c := fun c hc => ⟨wf_u8 (hg.2 c hc).1, fun x hx => wf_u8 ((hg.2 c hc).2.2 x hx), by have := hpt c hc; omega⟩
  have hl3 : 3 * l.length ≤ (l.map fun c => c.f1.length + 3).sum := by
    clear hsum hpt hx hm hg hz
    induction l with
    | nil => simp
    | cons c l ih => rw [List.map_cons, List.sum_cons, List.length_cons]; omega
  have hb : ∀ i, (forms (l.take i)).length ≤ 16777216 := by
    intro i
    have h1 := forms_len (l.take i) (fun c hc => hx c (List.mem_of_mem_take hc))
    have h2 : ((l.take i).map fun c => c.f1.length + 14).sum ≤ 5 * ((l.take i).map fun c => c.f1.length + 3).sum := by
      generalize l.take i = q
      induction q with
      | nil => simp
      | cons c l ih => rw [List.map_cons, List.sum_cons, List.map_cons, List.sum_cons]; omega
    have h3 : ((l.take i).map fun c => c.f1.length + 3).sum ≤ (l.map fun c => c.f1.length + 3).sum := by
      conv => rhs; rw [← List.take_append_drop i l]
      rw [List.map_append, List.sum_append]; omega
    omega
  refine ⟨l.length + 16777216 + 1048576 + 101, ?_⟩
  unfold recouplaw08_WireLines.f
  have := lines_l0 l hx (by omega) hb l.length (l.length + 16777216 + 1048576 + 101) 0 (by omega) (by omega)
  exact this

end Go.Proofs.Ytnbfkinebikneaa.Pure
