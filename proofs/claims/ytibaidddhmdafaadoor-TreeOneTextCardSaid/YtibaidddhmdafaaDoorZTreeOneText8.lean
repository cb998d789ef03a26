/- What YtibaidddhmdafaaDoorRTreeOneText's proof reaches of its texts, part 8. Conditions: as each says. -/
import Derived.ArgAppend
import Derived.Below
import Derived.BigCall
import Derived.BigQuiet
import Derived.Deep.AppendLies
import Derived.Deep.CutBlock
import Derived.Deep.DeepCutAuto
import Derived.Deep.Draws
import Derived.Deep.LoopGhost
import Derived.Deep.OwnRows
import Derived.Deep.QuietTactic
import Derived.Deep.RegionHeld3
import Derived.Deep.WholeRow
import Derived.KernelRfl
import Derived.Laws.AppendOwn
import Derived.Laws.BitsLemmas
import Derived.Laws.BytesArg
import Derived.Laws.IdiomCopy
import Derived.Laws.MakeOwn
import Derived.Laws.OwnMore
import Derived.Laws.Rows
import Derived.Laws.Slices
import Derived.Laws.StructEq
import Derived.Laws.Tables
import Derived.Lib.AppendStr
import Derived.Lib.Bytealg
import Derived.Lib.ConvBytes
import Derived.Lib.Strings
import Derived.Lib.Walk
import Derived.Maps.AppendAt
import Derived.OrdersHeld
import Derived.OwnWalk
import Derived.RowKit
import Derived.RowKit3
import Derived.ScopeJumps
import Derived.Tactics
import Derived.Test.YtibaidddhmdafaaDoorProg
import Derived.WalkKit
import Derived.WideLaws
import Derived.Test.YtibaidddhmdafaaDoorZTreeOneText5
import Derived.Test.YtibaidddhmdafaaDoorZTreeOneText7
section
namespace Go.Proofs.YtibaidddhmdafaaDoor.E
open Go Go.RowKit Go.Proofs.YtibaidddhmdafaaDoorW.PrintWords Go.Proofs.YtibaidddhmdafaaDoorW.PrintLast Go.Proofs.YtibaidddhmdafaaDoorW.PrintMore Go.Proofs.YtibaidddhmdafaaDoor.PA
set_option linter.unusedVariables false
set_option linter.unusedSimpArgs false
theorem flat_at {α : Type} {enc : α → List Value} {sz : Nat} (hlen : ∀ x, (enc x).length = sz) : ∀ (l : List α) (j i : Nat) (p : α), l[j]? = some p → i < sz → (l.flatMap enc)[j * sz + i]? = (enc p)[i]?
  | [], j, i, p, h, _ => by simp at h
  | x :: l, 0, i, p, h, hi => by
    simp only [List.getElem?_cons_zero, Option.some.injEq] at h
    subst h
    rw [List.flatMap_cons, Nat.zero_mul, Nat.zero_add, List.getElem?_append_left (by rw [hlen]; exact hi)]
  | x :: l, j + 1, i, p, h, hi => by
    rw [List.flatMap_cons, List.getElem?_append_right (by rw [hlen, Nat.add_mul]; omega), hlen, show (j + 1) * sz + i - sz = j * sz + i by rw [Nat.add_mul]; omega]
    exact flat_at hlen l j i p (by simpa using h) hi
theorem C_flat {α : Type} (d : Kd α) (enc : α → List Value) (hK : ∀ w x, d.K w x (enc x)) (hlen : ∀ x, (enc x).length = d.sz) {w : World} {g : Nat} {l : List α} (hb : l.length ≤ 9223372036854775807) (hc : ∀ j u, (l.flatMap enc)[j]? = some u → w.cell? ⟨g, j, none⟩ = some u) :
    Kd.C d w (some ⟨g, 0, none⟩) l.length l := by
  refine ⟨rfl, hb, fun _ => ⟨_, rfl, fun j p hj => ⟨enc p, hlen p, hK w p, fun i u hu => ?_⟩⟩⟩
  have hi : i < d.sz := by rw [← hlen p]; exact (List.getElem?_eq_some_iff.1 hu).1
  rw [add_plain]
  exact hc _ _ (by rw [flat_at hlen l j i p hj hi]; exact hu)
/-- A slice of the call's own. -/
theorem C_row {α : Type} (d : Kd α) (enc : α → List Value) (hK : ∀ w x, d.K w x (enc x)) (hlen : ∀ x, (enc x).length = d.sz) {w0 w : World} {e size : Nat} {A : Option Addr} {c n : Nat} {l : List α} {bs : List Res} (h : H w0 (row e size (.slice A l.length c) n (l.flatMap enc) :: bs) w) (hsz : size = d.sz) (hn : n = l.length) (hb : l.length ≤ 9223372036854775807) :
    Kd.C d w A l.length l ∧ l.length ≤ c := by
  have ho : w.ownsRow 0 e size (.slice A l.length c) n (l.flatMap enc) := (h.own _ (.head _)).1
  subst hsz
  rcases ho.2 with ⟨h1, h2⟩ | ⟨g, cap, cur, hv, _, hg, hcap, _, hsz, htk⟩
  · injection h1 with e1 e2 e3
    obtain rfl := List.eq_nil_of_length_eq_zero e2
    subst e1
    exact ⟨⟨rfl, hb, fun h0 => absurd h0 (by simp)⟩, Nat.zero_le _⟩
  · injection hv with e1 e2 e3
    subst e1 e3 hn
    refine ⟨C_flat d enc hK hlen hb (fun j u hj => ?_), hcap⟩
    rw [← htk, List.getElem?_take] at hj
    split at hj
    · simpa [World.cell?, hg] using hj
    · cases hj
end Go.Proofs.YtibaidddhmdafaaDoor.E
end
section
namespace Go.Proofs.YtibaidddhmdafaaDoor.E
open Go Go.RowKit
set_option linter.unusedVariables false
set_option linter.unusedSimpArgs false
/-- A block of so many cells that are not told. -/
def blk (g n : Nat) (t : TypeId) : Res where
  dep k := k = g
  holds w := ∃ cs : Array Value, w.heap[g]? = some (.cells cs t (0, 0)) ∧ cs.size = n
  keep w w' h hw := by
    obtain ⟨cs, h1, h2⟩ := hw
    exact ⟨cs, (h g rfl).trans h1, h2⟩
section
variable {P : Program} {N : Nat} {w0 w : World} {σ : List (Nat × Value)} {bs bs1 : List Res} {a : Act} {K : Act → World → Prop} {Q : Exit → Act → World → Prop}
variable {x y : Operand} {od : Option Nat} {t ty : TypeId} {ps : String} {af : Array Edge} {gd : Option (Nat × Bool)} {v : Value} {m n : Int}
theorem y_seqB {s1 s2 : ByteArray} {b : Bool} (hs : St N w0 σ bs1 a w) {t' : TypeId} (hx : ev σ x = some (.string s1)) (hy : ev σ y = some (.string s2)) (hb : (s1.toList == s2.toList) = b) : Y P w0 bs a (Oper.mk od (.binOp .eql t x y t') ty ps af gd) (.bool b) := by
  subst hb; exact y_seq hs hx hy
theorem y_pickT {c : Operand} {u : Value} (hs : St N w0 σ bs1 a w) (hc : ev σ c = some (.bool true)) (hx : ev σ x = some u) (hy : ev σ y = some v) : Y P w0 bs a (Oper.mk od (.pick c x y) ty ps af gd) u := y_pick hs hc hx hy
theorem y_pickF {c : Operand} {u : Value} (hs : St N w0 σ bs1 a w) (hc : ev σ c = some (.bool false)) (hx : ev σ x = some u) (hy : ev σ y = some v) : Y P w0 bs a (Oper.mk od (.pick c x y) ty ps af gd) v := y_pick hs hc hx hy
end
end Go.Proofs.YtibaidddhmdafaaDoor.E
end
