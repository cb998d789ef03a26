/- Rows of flat elements: a block's cells, or a slice of the call's own, read as a list. No conditions. -/
import Derived.Test.YtibaidddhmdafaaDoorEng
import Derived.Test.YtibaidddhmdafaaDoorPAM0
namespace Go.Proofs.YtibaidddhmdafaaDoor.E
open Go Go.RowKit Go.Proofs.YtibaidddhmdafaaDoorW.PrintWords Go.Proofs.YtibaidddhmdafaaDoorW.PrintLast Go.Proofs.YtibaidddhmdafaaDoorW.PrintMore Go.Proofs.YtibaidddhmdafaaDoor.PA
set_option linter.unusedVariables false
set_option linter.unusedSimpArgs false
theorem flat_at {α : Type} {enc : α → List Value} {sz : Nat} (hlen : ∀ x, (enc x).length = sz) : ∀ (l : List α) (j i : Nat) (p : α), l[j]? = some p → i < sz → (l.flatMap enc)[j * sz + i]? = (enc p)[i]?
  | [], j, i, p, h, _ => by simp at h
  | x :: l, 0, i, p, h, hi => by
    simp only [List.getElem?_cons_zero, Option.some.injEq] at h
    subst h
    rw [List.flatMap_cons, Nat.zero_mul, Nat.zero_add, List.getElem?_append_left (by rw [hlen]; exact hi)]
  | x :: l, j + 1, i, p, h, hi => by
    rw [List.flatMap_cons, List.getElem?_append_right (by rw [hlen, Nat.add_mul]; omega), hlen, show (j + 1) * sz + i - sz = j * sz + i by rw [Nat.add_mul]; omega]
    exact flat_at hlen l j i p (by simpa using h) hi
theorem flat_len {α : Type} {enc : α → List Value} {sz : Nat} (hlen : ∀ x, (enc x).length = sz) (l : List α) : (l.flatMap enc).length = l.length * sz := by
  induction l with
  | nil => simp
  | cons x l ih => rw [List.flatMap_cons, List.length_append, hlen, ih, List.length_cons, Nat.add_mul]; omega
theorem C_flat {α : Type} (d : Kd α) (enc : α → List Value) (hK : ∀ w x, d.K w x (enc x)) (hlen : ∀ x, (enc x).length = d.sz) {w : World} {g : Nat} {l : List α} (hb : l.length ≤ 9223372036854775807) (hc : ∀ j u, (l.flatMap enc)[j]? = some u → w.cell? ⟨g, j, none⟩ = some u) :
    Kd.C d w (some ⟨g, 0, none⟩) l.length l := by
  refine ⟨rfl, hb, fun _ => ⟨_, rfl, fun j p hj => ⟨enc p, hlen p, hK w p, fun i u hu => ?_⟩⟩⟩
  have hi : i < d.sz := by rw [← hlen p]; exact (List.getElem?_eq_some_iff.1 hu).1
  rw [add_plain]
  exact hc _ _ (by rw [flat_at hlen l j i p hj hi]; exact hu)
/-- A block's cells. -/
theorem C_pt {α : Type} (d : Kd α) (enc : α → List Value) (hK : ∀ w x, d.K w x (enc x)) (hlen : ∀ x, (enc x).length = d.sz) {w0 w : World} {g : Nat} {l : List α} {cs : Array Value} {t : TypeId} {bs : List Res} (h : H w0 (pt g cs t :: bs) w) (hb : l.length ≤ 9223372036854775807) (hcs : cs.toList = l.flatMap enc) :
    Kd.C d w (some ⟨g, 0, none⟩) l.length l :=
  C_flat d enc hK hlen hb (fun j u hj => by rw [h.cell, ← Array.getElem?_toList, hcs]; exact hj)
/-- A slice of the call's own. -/
theorem C_row {α : Type} (d : Kd α) (enc : α → List Value) (hK : ∀ w x, d.K w x (enc x)) (hlen : ∀ x, (enc x).length = d.sz) {w0 w : World} {e size : Nat} {A : Option Addr} {c n : Nat} {l : List α} {bs : List Res} (h : H w0 (row e size (.slice A l.length c) n (l.flatMap enc) :: bs) w) (hsz : size = d.sz) (hn : n = l.length) (hb : l.length ≤ 9223372036854775807) :
    Kd.C d w A l.length l ∧ l.length ≤ c := by
  have ho : w.ownsRow 0 e size (.slice A l.length c) n (l.flatMap enc) := (h.own _ (.head _)).1
  subst hsz
  rcases ho.2 with ⟨h1, h2⟩ | ⟨g, cap, cur, hv, _, hg, hcap, _, hsz, htk⟩
  · injection h1 with e1 e2 e3
    obtain rfl := List.eq_nil_of_length_eq_zero e2
    subst e1
    exact ⟨⟨rfl, hb, fun h0 => absurd h0 (by simp)⟩, Nat.zero_le _⟩
  · injection hv with e1 e2 e3
    subst e1 e3 hn
    refine ⟨C_flat d enc hK hlen hb (fun j u hj => ?_), hcap⟩
    rw [← htk, List.getElem?_take] at hj
    split at hj
    · simpa [World.cell?, hg] using hj
    · cases hj
end Go.Proofs.YtibaidddhmdafaaDoor.E
