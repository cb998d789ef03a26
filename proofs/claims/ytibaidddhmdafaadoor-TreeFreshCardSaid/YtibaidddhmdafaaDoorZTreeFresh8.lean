/- What YtibaidddhmdafaaDoorRTreeFresh's proof reaches of its texts, part 8. Conditions: as each says. -/
import Derived.ArgAppend
import Derived.Below
import Derived.BigCall
import Derived.BigQuiet
import Derived.Deep.AppendLies
import Derived.Deep.CutBlock
import Derived.Deep.DeepCutAuto
import Derived.Deep.Draws
import Derived.Deep.LoopGhost
import Derived.Deep.OwnRows
import Derived.Deep.QuietTactic
import Derived.Deep.RegionHeld3
import Derived.Deep.WholeRow
import Derived.KernelRfl
import Derived.Laws.AppendOwn
import Derived.Laws.BitsLemmas
import Derived.Laws.BytesArg
import Derived.Laws.IdiomCopy
import Derived.Laws.MakeOwn
import Derived.Laws.OwnMore
import Derived.Laws.Rows
import Derived.Laws.Slices
import Derived.Laws.StructEq
import Derived.Laws.Tables
import Derived.Lib.AppendStr
import Derived.Lib.Bytealg
import Derived.Lib.ConvBytes
import Derived.Lib.Strings
import Derived.Lib.Walk
import Derived.Maps.AppendAt
import Derived.OrdersHeld
import Derived.OwnWalk
import Derived.RowKit
import Derived.RowKit3
import Derived.ScopeJumps
import Derived.Tactics
import Derived.Test.YtibaidddhmdafaaDoorProg
import Derived.WalkKit
import Derived.WideLaws
import Derived.Test.YtibaidddhmdafaaDoorZTreeFresh5
import Derived.Test.YtibaidddhmdafaaDoorZTreeFresh7
section
namespace Go.Proofs.YtibaidddhmdafaaDoor.E
open Go Go.RowKit Go.Proofs.YtibaidddhmdafaaDoorW.PrintWords Go.Proofs.YtibaidddhmdafaaDoorW.PrintLast Go.Proofs.YtibaidddhmdafaaDoorW.PrintMore Go.Proofs.YtibaidddhmdafaaDoor.PA
set_option linter.unusedVariables false
set_option linter.unusedSimpArgs false
theorem flat_at {α : Type} {enc : α → List Value} {sz : Nat} (hlen : ∀ x, (enc x).length = sz) : ∀ (l : List α) (j i : Nat) (p : α), l[j]? = some p → i < sz → (l.flatMap enc)[j * sz + i]? = (enc p)[i]?
  | [], j, i, p, h, _ => by simp at h
  | x :: l, 0, i, p, h, hi => by
    simp only [List.getElem?_cons_zero, Option.some.injEq] at h
    subst h
    rw [List.flatMap_cons, Nat.zero_mul, Nat.zero_add, List.getElem?_append_left (by rw [hlen]; exact hi)]
  | x :: l, j + 1, i, p, h, hi => by
    rw [List.flatMap_cons, List.getElem?_append_right (by rw [hlen, Nat.add_mul]; omega), hlen, show (j + 1) * sz + i - sz = j * sz + i by rw [Nat.add_mul]; omega]
    exact flat_at hlen l j i p (by simpa using h) hi
theorem C_flat {α : Type} (d : Kd α) (enc : α → List Value) (hK : ∀ w x, d.K w x (enc x)) (hlen : ∀ x, (enc x).length = d.sz) {w : World} {g : Nat} {l : List α} (hb : l.length ≤ 9223372036854775807) (hc : ∀ j u, (l.flatMap enc)[j]? = some u → w.cell? ⟨g, j, none⟩ = some u) :
    Kd.C d w (some ⟨g, 0, none⟩) l.length l := by
  refine ⟨rfl, hb, fun _ => ⟨_, rfl, fun j p hj => ⟨enc p, hlen p, hK w p, fun i u hu => ?_⟩⟩⟩
  have hi : i < d.sz := by rw [← hlen p]; exact (List.getElem?_eq_some_iff.1 hu).1
  rw [add_plain]
  exact hc _ _ (by rw [flat_at hlen l j i p hj hi]; exact hu)
/-- A slice of the call's own. -/
theorem C_row {α : Type} (d : Kd α) (enc : α → List Value) (hK : ∀ w x, d.K w x (enc x)) (hlen : ∀ x, (enc x).length = d.sz) {w0 w : World} {e size : Nat} {A : Option Addr} {c n : Nat} {l : List α} {bs : List Res} (h : H w0 (row e size (.slice A l.length c) n (l.flatMap enc) :: bs) w) (hsz : size = d.sz) (hn : n = l.length) (hb : l.length ≤ 9223372036854775807) :
    Kd.C d w A l.length l ∧ l.length ≤ c := by
  have ho : w.ownsRow 0 e size (.slice A l.length c) n (l.flatMap enc) := (h.own _ (.head _)).1
  subst hsz
  rcases ho.2 with ⟨h1, h2⟩ | ⟨g, cap, cur, hv, _, hg, hcap, _, hsz, htk⟩
  · injection h1 with e1 e2 e3
    obtain rfl := List.eq_nil_of_length_eq_zero e2
    subst e1
    exact ⟨⟨rfl, hb, fun h0 => absurd h0 (by simp)⟩, Nat.zero_le _⟩
  · injection hv with e1 e2 e3
    subst e1 e3 hn
    refine ⟨C_flat d enc hK hlen hb (fun j u hj => ?_), hcap⟩
    rw [← htk, List.getElem?_take] at hj
    split at hj
    · simpa [World.cell?, hg] using hj
    · cases hj
end Go.Proofs.YtibaidddhmdafaaDoor.E
end
section
namespace Go.Proofs.YtibaidddhmdafaaDoor.E
open Go Go.RowKit
set_option linter.unusedVariables false
set_option linter.unusedSimpArgs false
/-- A block of so many cells that are not told. -/
def blk (g n : Nat) (t : TypeId) : Res where
  dep k := k = g
  holds w := ∃ cs : Array Value, w.heap[g]? = some (.cells cs t (0, 0)) ∧ cs.size = n
  keep w w' h hw := by
    obtain ⟨cs, h1, h2⟩ := hw
    exact ⟨cs, (h g rfl).trans h1, h2⟩
theorem H.turn {w0 w : World} {r r' : Res} {bs : List Res} (h : H w0 (r :: bs) w) (hr : r'.holds w) (hd : ∀ g, r'.dep g → r.dep g) : H w0 (r' :: bs) w :=
  h.upd rfl rfl rfl (Nat.le_refl _) (fun _ _ _ => rfl) hr (fun g hg => ⟨.inl (hd g hg), ((h.own _ (.head _)).2 g (hd g hg)).2⟩)
theorem H.rowPt {w0 w : World} {e : TypeId} {size n m c : Nat} {A : Option Addr} {xs : List Value} {bs : List Res} (h : H w0 (row e size (.slice A m c) n xs :: bs) w) (h0 : 0 < m) :
    ∃ (g : Nat) (cs : Array Value), A = some ⟨g, 0, Option.none⟩ ∧ m = n ∧ n ≤ c ∧ cs.size = c * size ∧ cs.toList.take (n * size) = xs ∧ H w0 (pt g cs e :: bs) w := by
  have ho : w.ownsRow 0 e size (.slice A m c) n xs := (h.own _ (.head _)).1
  rcases ho.2 with ⟨h1, h2⟩ | ⟨g, cap, cur, hv, _, hg, hcap, _, hsz, htk⟩
  · injection h1 with e1 e2 e3; omega
  · injection hv with e1 e2 e3
    subst e1 e2 e3
    exact ⟨g, cur, rfl, rfl, hcap, hsz, htk, h.turn (r' := pt g cur e) hg (fun k hk => by obtain rfl : k = g := hk; rfl)⟩
theorem H.rowAddr {w0 w : World} {e : TypeId} {size n m c : Nat} {A : Option Addr} {xs : List Value} {bs : List Res} (h : H w0 (row e size (.slice A m c) n xs :: bs) w) (h0 : 0 < m) : ∃ g, A = some ⟨g, 0, Option.none⟩ := by
  obtain ⟨g, cs, hA, _⟩ := h.rowPt h0
  exact ⟨g, hA⟩
/-- A slice of the call's own whose elements are not told. -/
def rowX (e : TypeId) (size : Nat) (v : Value) (n : Nat) : Res where
  dep k := v.ownBlock = some k
  holds w := ∃ xs, (row e size v n xs).holds w
  keep w w' h hw := by
    obtain ⟨xs, hx⟩ := hw
    exact ⟨xs, (row e size v n xs).keep w w' h hx⟩
theorem H.rowUntold {w0 w : World} {e : TypeId} {size n : Nat} {v : Value} {xs : List Value} {bs : List Res} (h : H w0 (row e size v n xs :: bs) w) : H w0 (rowX e size v n :: bs) w :=
  h.turn (r' := rowX e size v n) ⟨xs, (h.own _ (.head _)).1⟩ (fun _ hg => hg)
theorem H.rowTold {w0 w : World} {e : TypeId} {size n : Nat} {v : Value} {bs : List Res} (h : H w0 (rowX e size v n :: bs) w) : ∃ xs, H w0 (row e size v n xs :: bs) w := by
  obtain ⟨xs, hx⟩ := (h.own _ (.head _)).1
  exact ⟨xs, h.turn (r' := row e size v n xs) hx (fun _ hg => hg)⟩
section
variable {P : Program} {N : Nat} {w0 w : World} {σ : List (Nat × Value)} {bs bs1 : List Res} {a : Act} {K : Act → World → Prop} {Q : Exit → Act → World → Prop}
variable {x y : Operand} {od : Option Nat} {t ty : TypeId} {ps : String} {af : Array Edge} {gd : Option (Nat × Bool)} {v : Value} {m n : Int}
theorem y_idxA {e : TypeId} {g l c size off : Nat} {kk : IntKind} (hs : St N w0 σ bs1 a w) (ht : P.underlying t = some (.slice e)) (hi : (P.info? e).map (·.size) = some size) (hx : ev σ x = some (.slice (some ⟨g, 0, Option.none⟩) l c)) (hy : ev σ y = some (.int kk m)) (h0 : 0 ≤ m) (h1 : m < l) (ho : m.toNat * size = off) :
    Y P w0 bs a (Oper.mk od (.indexAddr t x y) ty ps af gd) (.pointer (some ⟨g, off, Option.none⟩)) := by
  intro w _
  subst ho
  have hsz : (sizeOf e).run P w = .ok size w := by
    cases h2 : P.info? e with
    | none => simp [h2] at hi
    | some i => simp [h2] at hi; simp [sizeOf, typeInfo, h2, hi]
  have hadd : (⟨g, 0, Option.none⟩ : Addr).add (m.toNat * size) = ⟨g, m.toNat * size, Option.none⟩ := by unfold Addr.add; split <;> simp_all
  simp [execOp, hs.ev hx, hs.ev hy, Instr.indexAt, asIntOf, run_underlying ht, h0, h1, hsz, hadd]
theorem y_seqB {s1 s2 : ByteArray} {b : Bool} (hs : St N w0 σ bs1 a w) {t' : TypeId} (hx : ev σ x = some (.string s1)) (hy : ev σ y = some (.string s2)) (hb : (s1.toList == s2.toList) = b) : Y P w0 bs a (Oper.mk od (.binOp .eql t x y t') ty ps af gd) (.bool b) := by
  subst hb; exact y_seq hs hx hy
theorem y_pickT {c : Operand} {u : Value} (hs : St N w0 σ bs1 a w) (hc : ev σ c = some (.bool true)) (hx : ev σ x = some u) (hy : ev σ y = some v) : Y P w0 bs a (Oper.mk od (.pick c x y) ty ps af gd) u := y_pick hs hc hx hy
theorem y_pickF {c : Operand} {u : Value} (hs : St N w0 σ bs1 a w) (hc : ev σ c = some (.bool false)) (hx : ev σ x = some u) (hy : ev σ y = some v) : Y P w0 bs a (Oper.mk od (.pick c x y) ty ps af gd) v := y_pick hs hc hx hy
/-- A store into an element of a slice of the call's own. -/
theorem e_storeX {e : TypeId} {g j n c size : Nat} {bs' : List Res} (kk : Nat) (hm : takeAt bs kk = some (rowX e size (.slice (some ⟨g, 0, Option.none⟩) n c) n, bs')) (hs : St N w0 σ bs a w) (hx : ev σ x = some (.pointer (some ⟨g, j, Option.none⟩))) (hy : ev σ y = some v) (hi : (P.info? t).map (·.size) = some v.cells.size)
    (ho : v.cells.toList.all (·.oneCell') = true) (hj : j + v.cells.size ≤ n * size) (k : ∀ a w, St N w0 σ (rowX e size (.slice (some ⟨g, 0, Option.none⟩) n c) n :: bs') a w → K a w) : (Oper.mk Option.none (.store t x y) ty ps af gd).wp P a w K Q := by
  obtain ⟨xs, hp⟩ := (hs.mem.to kk hm).rowTold
  have ho' : w.ownsRow 0 e size (.slice (some ⟨g, 0, Option.none⟩) n c) n xs := (hp.own _ (.head _)).1
  rcases ho'.2 with ⟨h1, h2⟩ | ⟨g', cap, cur, hv', _, hg, hcap, hml, hsz, htk⟩
  · injection h1 with e1 e2 e3; cases e1
  · injection hv' with e1 e2 e3
    obtain rfl : g = g' := by simpa using e1
    subst e3
    have hle : n * size ≤ c * size := Nat.mul_le_mul_right _ hcap
    have hpt : H w0 (pt g cur e :: bs') w := hp.turn (r' := pt g cur e) hg (fun k hk => by obtain rfl : k = g := hk; rfl)
    have hjl : j + v.cells.size ≤ cur.size := by omega
    refine e_store (cl := overL cur.toList j v.cells.toList) 0 rfl (hs.mem_to hpt) hx hy hi ho (by simpa using hjl) rfl (fun a w h => ?_)
    refine k a w (h.mem_to (h.mem.turn (r' := rowX e size (.slice (some ⟨g, 0, Option.none⟩) n c) n) ?_ (fun k hk => ?_)))
    · refine ⟨(overL cur.toList j v.cells.toList).take (n * size), ⟨?_, .inr ⟨g, c, (overL cur.toList j v.cells.toList).toArray, rfl, Nat.zero_le _, h.mem.cells, hcap, hml, ?_, ?_⟩⟩⟩
      · rw [List.length_take, overL_len, Array.length_toList]; omega
      · rw [List.size_toArray, overL_len, Array.length_toList]; exact hsz
      · rfl
    · have hk' : (Value.slice (some ⟨g, 0, Option.none⟩) n c).ownBlock = some k := hk
      obtain rfl : g = k := by simpa [Value.ownBlock] using hk'
      rfl
end
end Go.Proofs.YtibaidddhmdafaaDoor.E
end
