/- More of the engine: elements of slices by their addresses, blocks whose cells are not told. No conditions. -/
import Derived.Test.YtibaidddhmdafaaDoorFlat
namespace Go.Proofs.YtibaidddhmdafaaDoor.E
open Go Go.RowKit
set_option linter.unusedVariables false
set_option linter.unusedSimpArgs false
/-- A block of so many cells that are not told. -/
def blk (g n : Nat) (t : TypeId) : Res where
  dep k := k = g
  holds w := ∃ cs : Array Value, w.heap[g]? = some (.cells cs t (0, 0)) ∧ cs.size = n
  keep w w' h hw := by
    obtain ⟨cs, h1, h2⟩ := hw
    exact ⟨cs, (h g rfl).trans h1, h2⟩
theorem H.turn {w0 w : World} {r r' : Res} {bs : List Res} (h : H w0 (r :: bs) w) (hr : r'.holds w) (hd : ∀ g, r'.dep g → r.dep g) : H w0 (r' :: bs) w :=
  h.upd rfl rfl rfl (Nat.le_refl _) (fun _ _ _ => rfl) hr (fun g hg => ⟨.inl (hd g hg), ((h.own _ (.head _)).2 g (hd g hg)).2⟩)
theorem H.blkPt {w0 w : World} {g n : Nat} {t : TypeId} {bs : List Res} (h : H w0 (blk g n t :: bs) w) : ∃ cs : Array Value, cs.size = n ∧ H w0 (pt g cs t :: bs) w := by
  obtain ⟨cs, h1, h2⟩ := (h.own _ (.head _)).1
  exact ⟨cs, h2, h.turn h1 (fun _ hg => hg)⟩
theorem H.ptBlk {w0 w : World} {g n : Nat} {cs : Array Value} {t : TypeId} {bs : List Res} (h : H w0 (pt g cs t :: bs) w) (hn : cs.size = n) : H w0 (blk g n t :: bs) w :=
  h.turn (r' := blk g n t) ⟨cs, h.cells, hn⟩ (fun _ hg => hg)
theorem H.rowPt {w0 w : World} {e : TypeId} {size n m c : Nat} {A : Option Addr} {xs : List Value} {bs : List Res} (h : H w0 (row e size (.slice A m c) n xs :: bs) w) (h0 : 0 < m) :
    ∃ (g : Nat) (cs : Array Value), A = some ⟨g, 0, Option.none⟩ ∧ m = n ∧ n ≤ c ∧ cs.size = c * size ∧ cs.toList.take (n * size) = xs ∧ H w0 (pt g cs e :: bs) w := by
  have ho : w.ownsRow 0 e size (.slice A m c) n xs := (h.own _ (.head _)).1
  rcases ho.2 with ⟨h1, h2⟩ | ⟨g, cap, cur, hv, _, hg, hcap, _, hsz, htk⟩
  · injection h1 with e1 e2 e3; omega
  · injection hv with e1 e2 e3
    subst e1 e2 e3
    exact ⟨g, cur, rfl, rfl, hcap, hsz, htk, h.turn (r' := pt g cur e) hg (fun k hk => by obtain rfl : k = g := hk; rfl)⟩
theorem H.rowBlk {w0 w : World} {e : TypeId} {size n m c : Nat} {A : Option Addr} {xs : List Value} {bs : List Res} (h : H w0 (row e size (.slice A m c) n xs :: bs) w) (h0 : 0 < m) :
    ∃ (g k : Nat), A = some ⟨g, 0, Option.none⟩ ∧ m * size ≤ k ∧ H w0 (blk g k e :: bs) w := by
  obtain ⟨g, cs, hA, hm, hc, hs, _, h1⟩ := h.rowPt h0
  subst hm
  exact ⟨g, _, hA, by rw [hs]; exact Nat.mul_le_mul_right _ hc, h1.ptBlk rfl⟩
theorem H.rowAddr {w0 w : World} {e : TypeId} {size n m c : Nat} {A : Option Addr} {xs : List Value} {bs : List Res} (h : H w0 (row e size (.slice A m c) n xs :: bs) w) (h0 : 0 < m) : ∃ g, A = some ⟨g, 0, Option.none⟩ := by
  obtain ⟨g, cs, hA, _⟩ := h.rowPt h0
  exact ⟨g, hA⟩
theorem H.rowCell {w0 w : World} {e : TypeId} {size n m c g j : Nat} {xs : List Value} {bs : List Res} {v : Value} (h : H w0 (row e size (.slice (some ⟨g, 0, Option.none⟩) m c) n xs :: bs) w) (hv : nthV xs j = some v) : w.cell? ⟨g, j, Option.none⟩ = some v := by
  have ho : w.ownsRow 0 e size (.slice (some ⟨g, 0, Option.none⟩) m c) n xs := (h.own _ (.head _)).1
  rw [nthV_eq] at hv
  rcases ho.2 with ⟨h1, h2⟩ | ⟨g', cap, cur, hv', _, hg, hcap, _, hsz, htk⟩
  · injection h1 with e1 e2 e3; cases e1
  · injection hv' with e1 e2 e3
    obtain rfl : g = g' := by simpa using e1
    rw [← htk, List.getElem?_take] at hv
    split at hv
    · simpa [World.cell?, hg] using hv
    · cases hv
/-- A slice of the call's own whose elements are not told. -/
def rowX (e : TypeId) (size : Nat) (v : Value) (n : Nat) : Res where
  dep k := v.ownBlock = some k
  holds w := ∃ xs, (row e size v n xs).holds w
  keep w w' h hw := by
    obtain ⟨xs, hx⟩ := hw
    exact ⟨xs, (row e size v n xs).keep w w' h hx⟩
theorem H.rowUntold {w0 w : World} {e : TypeId} {size n : Nat} {v : Value} {xs : List Value} {bs : List Res} (h : H w0 (row e size v n xs :: bs) w) : H w0 (rowX e size v n :: bs) w :=
  h.turn (r' := rowX e size v n) ⟨xs, (h.own _ (.head _)).1⟩ (fun _ hg => hg)
theorem H.rowTold {w0 w : World} {e : TypeId} {size n : Nat} {v : Value} {bs : List Res} (h : H w0 (rowX e size v n :: bs) w) : ∃ xs, H w0 (row e size v n xs :: bs) w := by
  obtain ⟨xs, hx⟩ := (h.own _ (.head _)).1
  exact ⟨xs, h.turn (r' := row e size v n xs) hx (fun _ hg => hg)⟩
section
variable {P : Program} {N : Nat} {w0 w : World} {σ : List (Nat × Value)} {bs bs1 : List Res} {a : Act} {K : Act → World → Prop} {Q : Exit → Act → World → Prop}
variable {x y : Operand} {od : Option Nat} {t ty : TypeId} {ps : String} {af : Array Edge} {gd : Option (Nat × Bool)} {v : Value} {m n : Int}
theorem y_idxA {e : TypeId} {g l c size off : Nat} {kk : IntKind} (hs : St N w0 σ bs1 a w) (ht : P.underlying t = some (.slice e)) (hi : (P.info? e).map (·.size) = some size) (hx : ev σ x = some (.slice (some ⟨g, 0, Option.none⟩) l c)) (hy : ev σ y = some (.int kk m)) (h0 : 0 ≤ m) (h1 : m < l) (ho : m.toNat * size = off) :
    Y P w0 bs a (Oper.mk od (.indexAddr t x y) ty ps af gd) (.pointer (some ⟨g, off, Option.none⟩)) := by
  intro w _
  subst ho
  have hsz : (sizeOf e).run P w = .ok size w := by
    cases h2 : P.info? e with
    | none => simp [h2] at hi
    | some i => simp [h2] at hi; simp [sizeOf, typeInfo, h2, hi]
  have hadd : (⟨g, 0, Option.none⟩ : Addr).add (m.toNat * size) = ⟨g, m.toNat * size, Option.none⟩ := by unfold Addr.add; split <;> simp_all
  simp [execOp, hs.ev hx, hs.ev hy, Instr.indexAt, asIntOf, run_underlying ht, h0, h1, hsz, hadd]
theorem y_sliceA {e : TypeId} {g len size : Nat} (hs : St N w0 σ bs1 a w) (ht : P.underlying t = some (.array len e)) (hi : (P.info? e).map (·.size) = some size) (hx : ev σ x = some (.pointer (some ⟨g, 0, Option.none⟩))) :
    Y P w0 bs a (Oper.mk od (.slice t x Option.none Option.none Option.none) ty ps af gd) (.slice (some ⟨g, 0, Option.none⟩) len len) := by
  intro w _
  have hsz : (sizeOf e).run P w = .ok size w := by
    cases h2 : P.info? e with
    | none => simp [h2] at hi
    | some i => simp [h2] at hi; simp [sizeOf, typeInfo, h2, hi]
  have hadd : (⟨g, 0, Option.none⟩ : Addr).add 0 = ⟨g, 0, Option.none⟩ := by unfold Addr.add; split <;> simp_all
  simp [execOp, hs.ev hx, Instr.sliceAt, Instr.sureAddr, Instr.sliceBounds, run_underlying ht, hsz, hadd]
theorem y_seqB {s1 s2 : ByteArray} {b : Bool} (hs : St N w0 σ bs1 a w) {t' : TypeId} (hx : ev σ x = some (.string s1)) (hy : ev σ y = some (.string s2)) (hb : (s1.toList == s2.toList) = b) : Y P w0 bs a (Oper.mk od (.binOp .eql t x y t') ty ps af gd) (.bool b) := by
  subst hb; exact y_seq hs hx hy
theorem y_sneB {s1 s2 : ByteArray} {b : Bool} (hs : St N w0 σ bs1 a w) {t' : TypeId} (hx : ev σ x = some (.string s1)) (hy : ev σ y = some (.string s2)) (hb : (!(s1.toList == s2.toList)) = b) : Y P w0 bs a (Oper.mk od (.binOp .neq t x y t') ty ps af gd) (.bool b) := by
  subst hb; exact y_sne hs hx hy
theorem y_pickT {c : Operand} {u : Value} (hs : St N w0 σ bs1 a w) (hc : ev σ c = some (.bool true)) (hx : ev σ x = some u) (hy : ev σ y = some v) : Y P w0 bs a (Oper.mk od (.pick c x y) ty ps af gd) u := y_pick hs hc hx hy
theorem y_pickF {c : Operand} {u : Value} (hs : St N w0 σ bs1 a w) (hc : ev σ c = some (.bool false)) (hx : ev σ x = some u) (hy : ev σ y = some v) : Y P w0 bs a (Oper.mk od (.pick c x y) ty ps af gd) v := y_pick hs hc hx hy
/-- A store into a block whose cells are not told. -/
theorem e_storeB {g j n : Nat} {tt : TypeId} {bs' : List Res} (kk : Nat) (hm : takeAt bs kk = some (blk g n tt, bs')) (hs : St N w0 σ bs a w) (hx : ev σ x = some (.pointer (some ⟨g, j, Option.none⟩))) (hy : ev σ y = some v) (hi : (P.info? t).map (·.size) = some v.cells.size)
    (ho : v.cells.toList.all (·.oneCell') = true) (hj : j + v.cells.size ≤ n) (k : ∀ a w, St N w0 σ (blk g n tt :: bs') a w → K a w) : (Oper.mk Option.none (.store t x y) ty ps af gd).wp P a w K Q := by
  obtain ⟨cs, hcs, hp⟩ := (hs.mem.to kk hm).blkPt
  refine e_store (cl := overL cs.toList j v.cells.toList) 0 rfl (hs.mem_to hp) hx hy hi ho (by simpa using (by omega : j + v.cells.size ≤ cs.size)) rfl (fun a w h => ?_)
  refine k a w (h.mem_to (h.mem.ptBlk ?_))
  rw [List.size_toArray, overL_len]
  simpa using hcs
/-- A store into an element of a slice of the call's own. -/
theorem e_storeX {e : TypeId} {g j n c size : Nat} {bs' : List Res} (kk : Nat) (hm : takeAt bs kk = some (rowX e size (.slice (some ⟨g, 0, Option.none⟩) n c) n, bs')) (hs : St N w0 σ bs a w) (hx : ev σ x = some (.pointer (some ⟨g, j, Option.none⟩))) (hy : ev σ y = some v) (hi : (P.info? t).map (·.size) = some v.cells.size)
    (ho : v.cells.toList.all (·.oneCell') = true) (hj : j + v.cells.size ≤ n * size) (k : ∀ a w, St N w0 σ (rowX e size (.slice (some ⟨g, 0, Option.none⟩) n c) n :: bs') a w → K a w) : (Oper.mk Option.none (.store t x y) ty ps af gd).wp P a w K Q := by
  obtain ⟨xs, hp⟩ := (hs.mem.to kk hm).rowTold
  have ho' : w.ownsRow 0 e size (.slice (some ⟨g, 0, Option.none⟩) n c) n xs := (hp.own _ (.head _)).1
  rcases ho'.2 with ⟨h1, h2⟩ | ⟨g', cap, cur, hv', _, hg, hcap, hml, hsz, htk⟩
  · injection h1 with e1 e2 e3; cases e1
  · injection hv' with e1 e2 e3
    obtain rfl : g = g' := by simpa using e1
    subst e3
    have hle : n * size ≤ c * size := Nat.mul_le_mul_right _ hcap
    have hpt : H w0 (pt g cur e :: bs') w := hp.turn (r' := pt g cur e) hg (fun k hk => by obtain rfl : k = g := hk; rfl)
    have hjl : j + v.cells.size ≤ cur.size := by omega
    refine e_store (cl := overL cur.toList j v.cells.toList) 0 rfl (hs.mem_to hpt) hx hy hi ho (by simpa using hjl) rfl (fun a w h => ?_)
    refine k a w (h.mem_to (h.mem.turn (r' := rowX e size (.slice (some ⟨g, 0, Option.none⟩) n c) n) ?_ (fun k hk => ?_)))
    · refine ⟨(overL cur.toList j v.cells.toList).take (n * size), ⟨?_, .inr ⟨g, c, (overL cur.toList j v.cells.toList).toArray, rfl, Nat.zero_le _, h.mem.cells, hcap, hml, ?_, ?_⟩⟩⟩
      · rw [List.length_take, overL_len, Array.length_toList]; omega
      · rw [List.size_toArray, overL_len, Array.length_toList]; exact hsz
      · rfl
    · have hk' : (Value.slice (some ⟨g, 0, Option.none⟩) n c).ownBlock = some k := hk
      obtain rfl : g = k := by simpa [Value.ownBlock] using hk'
      rfl
end
end Go.Proofs.YtibaidddhmdafaaDoor.E
