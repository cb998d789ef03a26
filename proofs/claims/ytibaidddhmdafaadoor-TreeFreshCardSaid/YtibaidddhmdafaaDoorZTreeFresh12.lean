/- What YtibaidddhmdafaaDoorRTreeFresh's proof reaches of its texts, part 12. Conditions: as each says. -/
import Derived.ArgAppend
import Derived.Below
import Derived.BigCall
import Derived.BigQuiet
import Derived.Deep.AppendLies
import Derived.Deep.CutBlock
import Derived.Deep.DeepCutAuto
import Derived.Deep.Draws
import Derived.Deep.LoopGhost
import Derived.Deep.OwnRows
import Derived.Deep.QuietTactic
import Derived.Deep.RegionHeld3
import Derived.Deep.WholeRow
import Derived.KernelRfl
import Derived.Laws.AppendOwn
import Derived.Laws.BitsLemmas
import Derived.Laws.BytesArg
import Derived.Laws.Externs
import Derived.Laws.IdiomCopy
import Derived.Laws.MakeOwn
import Derived.Laws.OwnMore
import Derived.Laws.Rows
import Derived.Laws.Slices
import Derived.Laws.StructEq
import Derived.Laws.Tables
import Derived.Lib.AppendStr
import Derived.Lib.Builder
import Derived.Lib.Bytealg
import Derived.Lib.ConvBytes
import Derived.Lib.LaidTab
import Derived.Lib.Strings
import Derived.Lib.Walk
import Derived.Maps.AppendAt
import Derived.OrdersHeld
import Derived.OwnWalk
import Derived.RowKit
import Derived.RowKit3
import Derived.ScopeJumps
import Derived.Tactics
import Derived.Test.YtibaidddhmdafaaDoorProg
import Derived.WalkKit
import Derived.WideLaws
import Derived.Test.YtibaidddhmdafaaDoorZTreeFresh8
import Derived.Test.YtibaidddhmdafaaDoorZTreeFresh9
section
namespace Go.Proofs.YtibaidddhmdafaaDoor.E
open Go Go.RowKit Go.Proofs.YtibaidddhmdafaaDoorW.PrintWords Go.Proofs.YtibaidddhmdafaaDoorW.PrintLast Go.Proofs.YtibaidddhmdafaaDoorW.PrintMore Go.Proofs.YtibaidddhmdafaaDoor.PA
set_option linter.unusedVariables false
set_option linter.unusedSimpArgs false
section
variable {α : Type} {d : Kd α} {enc : α → List Value}
/-- A row of flat elements read as a list. -/
theorem H.rowC (hK : ∀ w x, d.K w x (enc x)) (hlen : ∀ x, (enc x).length = d.sz) {w0 w : World} {e size : Nat} {A : Option Addr} {c n : Nat} {l : List α} {bs : List Res} (h : H w0 (row e size (.slice A n c) n (l.flatMap enc) :: bs) w) (hsz : size = d.sz) (hn : n = l.length) (hb : l.length ≤ 9223372036854775807) : Kd.C d w A l.length l ∧ l.length ≤ c := by
  subst hn
  exact C_row d enc hK hlen h hsz rfl hb
end
section
variable {P : Program} {N dd : Nat} {w0 w : World} {σ : List (Nat × Value)} {bs : List Res} {a : Act} {K : Act → World → Prop} {Q : Exit → Act → World → Prop}
variable {t ty : TypeId} {ps : String} {af : Array Edge} {gd : Option (Nat × Bool)} {α : Type}
/-- append of a block's elements to a row of flat elements. -/
theorem e_appL {s1 x1 : Operand} {e : TypeId} {z : Value} {size bytes c1 g m1 : Nat} {A : Option Addr} {c : Nat} (enc : α → List Value) (l l2 : List α) {cs : Array Value} {t2 : TypeId} {bs' bs2 : List Res} (k1 : Nat) (h1 : takeAt bs k1 = some (row e size (.slice A l.length c) l.length (l.flatMap enc), bs')) (k2 : Nat) (h2 : takeAt bs k2 = some (pt g cs t2, bs2)) (hs : St N w0 σ bs a w) (hN : Nat.blt dd N = true)
    (ht : P.underlying t = some (.slice e)) (hinfo : (P.info? e).map (fun i => (i.zero, i.size, i.bytes)) = some (some z, size, bytes)) (hzs : z.cells.size = size) (hsz : Nat.blt 0 size = true) (hlen : ∀ x, (enc x).length = size)
    (hx : ev σ s1 = some (.slice A l.length c)) (hy : ev σ x1 = some (.slice (some ⟨g, 0, Option.none⟩) m1 c1)) (hm1 : m1 = l2.length) (hcs : cs.toList.take (m1 * size) = l2.flatMap enc) (ho : ∀ u ∈ l2.flatMap enc, u.oneCell' = true) (h63 : l.length + l2.length ≤ maxLen) (hb : (l.length + l2.length) * bytes ≤ 140737488355328)
    (k : ∀ A' c' a w, St N w0 ((dd, .slice A' (l ++ l2).length c') :: σ) (row e size (.slice A' (l ++ l2).length c') (l ++ l2).length ((l ++ l2).flatMap enc) :: bs') a w → K a w) : (Oper.mk (some dd) (.call { callee := .builtin .append, args := #[s1, x1], argTypes := #[t, t] }) ty ps af gd).wp P a w K Q := by
  subst hm1
  refine e_appendV (news := l2.flatMap enc) k1 h1 hs hN ht hinfo hzs hsz hx hy (fun w hw j u hj => ?_) ?_ ho h63 hb (fun A' c' a w hs => k A' c' a w ?_)
  · have hadd : (⟨g, 0, Option.none⟩ : Addr).add j = ⟨g, j, Option.none⟩ := by unfold Addr.add; split <;> simp_all
    rw [hadd, (hw.to k2 h2).cell, ← Array.getElem?_toList]
    rw [← hcs, List.getElem?_take] at hj
    split at hj
    · exact hj
    · cases hj
  · clear hcs ho h63 hb k hy
    induction l2 with
    | nil => simp
    | cons x r ih => rw [List.flatMap_cons, List.length_append, hlen, ih, List.length_cons, Nat.add_mul]; omega
  · rw [List.length_append, List.flatMap_append]; exact hs
end
/-- A package variable stays. -/
theorem varKeep {w0 w : World} (hb : Below w0.heap.size w0 w) {n : String} {cs : Array Value} (h : w0.var? Tryd.prog n = some cs) : w.var? Tryd.prog n = some cs := by
  unfold World.var? at h ⊢
  cases hg : Tryd.prog.globalNamed n with
  | none => rw [hg] at h; cases h
  | some g =>
    simp only [hg, Option.bind_some] at h ⊢
    have hlt : g < w0.heap.size := by
      rcases Nat.lt_or_ge g w0.heap.size with h1 | h1
      · exact h1
      · rw [Array.getElem?_eq_none h1] at h; cases h
    rw [hb.block g hlt]; exact h
end Go.Proofs.YtibaidddhmdafaaDoor.E
end
