/- More of the engine: slices made, copied into, stored into; a cut of a slice. No conditions. -/
import Derived.Test.YtibaidddhmdafaaDoorEng6
import Derived.Laws.MakeOwn
import Derived.Laws.CopyRow
namespace Go.Proofs.YtibaidddhmdafaaDoor.E
open Go Go.RowKit Go.Proofs.YtibaidddhmdafaaDoorW.PrintWords Go.Proofs.YtibaidddhmdafaaDoorW.PrintLast Go.Proofs.YtibaidddhmdafaaDoorW.PrintMore Go.Proofs.YtibaidddhmdafaaDoor.PA
set_option linter.unusedVariables false
set_option linter.unusedSimpArgs false
theorem overL_take (cs : List Value) (j k : Nat) (v : List Value) (h : j + v.length ≤ k) : (overL cs j v).take k = overL (cs.take k) j v := by
  apply List.ext_getElem?
  intro i
  rw [List.getElem?_take, overL_at, overL_at, List.length_take]
  by_cases hi : i < k
  · rw [if_pos hi, List.getElem?_take, if_pos hi]
    by_cases h2 : j ≤ i ∧ i < j + v.length ∧ i < cs.length
    · rw [if_pos h2, if_pos (by omega)]
    · rw [if_neg h2, if_neg (by omega)]
  · rw [if_neg hi, if_neg (by omega), List.getElem?_take, if_neg hi]
theorem flat_set {α : Type} {enc : α → List Value} {sz : Nat} (hlen : ∀ x, (enc x).length = sz) : ∀ (l : List α) (i : Nat) (x : α), i < l.length → (l.set i x).flatMap enc = overL (l.flatMap enc) (i * sz) (enc x)
  | [], i, x, h => by simp at h
  | y :: l, 0, x, _ => by
    rw [List.set_cons_zero, List.flatMap_cons, List.flatMap_cons, Nat.zero_mul]
    apply List.ext_getElem?
    intro k
    rw [overL_at]
    by_cases hk : k < sz
    · rw [if_pos (by simp only [List.length_append, hlen]; omega), List.getElem?_append_left (by rw [hlen]; exact hk), Nat.sub_zero]
    · rw [if_neg (by rw [hlen]; omega), List.getElem?_append_right (by rw [hlen]; omega), List.getElem?_append_right (by rw [hlen]; omega), hlen, hlen]
  | y :: l, i + 1, x, h => by
    rw [List.set_cons_succ, List.flatMap_cons, List.flatMap_cons, flat_set hlen l i x (by simpa using h)]
    apply List.ext_getElem?
    intro k
    rw [overL_at]
    have e : (i + 1) * sz = i * sz + sz := by rw [Nat.add_mul]; omega
    by_cases hk : k < sz
    · rw [if_neg (by rw [e]; omega), List.getElem?_append_left (by rw [hlen]; exact hk), List.getElem?_append_left (by rw [hlen]; exact hk)]
    · rw [List.getElem?_append_right (by rw [hlen]; omega), hlen, overL_at, List.getElem?_append_right (by rw [hlen]; omega), List.length_append, hlen, hlen]
      by_cases h2 : i * sz ≤ k - sz ∧ k - sz < i * sz + sz ∧ k - sz < (l.flatMap enc).length
      · rw [if_pos h2, if_pos (by rw [e]; omega)]
        congr 1; rw [e]; omega
      · rw [if_neg h2, if_neg (by rw [e]; omega)]
theorem made_flat {α : Type} {enc : α → List Value} {z : Value} {z0 : α} (hz : z.cells.toList = enc z0) (n : Nat) : ((Array.range (n * z.cells.size)).map (z.cells[· % z.cells.size]!)).toList = (List.replicate n z0).flatMap enc := by
  have hs : z.cells.size = (enc z0).length := by rw [← hz]; simp
  apply List.ext_getElem?
  intro i
  have hl : ((List.replicate n z0).flatMap enc).length = n * z.cells.size := by
    rw [hs]
    clear hs hz
    induction n with
    | zero => simp
    | succ n ih => rw [List.replicate_succ, List.flatMap_cons, List.length_append, ih, Nat.add_mul]; omega
  by_cases hi : i < n * z.cells.size
  · have h0 : 0 < z.cells.size := by rcases Nat.eq_zero_or_pos z.cells.size with h | h; rw [h] at hi; omega; exact h
    have hq : i / z.cells.size < n := (Nat.div_lt_iff_lt_mul h0).2 hi
    have hr : i % z.cells.size < z.cells.size := Nat.mod_lt _ h0
    have e1 : (List.replicate n z0)[i / z.cells.size]? = some z0 := by rw [List.getElem?_replicate, if_pos hq]
    have key : ∀ m : Nat, m < n → ((List.replicate n z0).flatMap enc)[m * z.cells.size + i % z.cells.size]? = (enc z0)[i % z.cells.size]? := by
      intro m hm
      clear hl e1 hq hi
      induction n generalizing m with
      | zero => omega
      | succ n ih =>
        rw [List.replicate_succ, List.flatMap_cons]
        cases m with
        | zero => rw [Nat.zero_mul, Nat.zero_add, List.getElem?_append_left (by rw [← hs]; exact hr)]
        | succ m =>
          rw [List.getElem?_append_right (by rw [← hs, Nat.add_mul]; omega), ← hs, show (m + 1) * z.cells.size + i % z.cells.size - z.cells.size = m * z.cells.size + i % z.cells.size by rw [Nat.add_mul]; omega]
          exact ih m (by omega)
    have e2 : i = i / z.cells.size * z.cells.size + i % z.cells.size := by rw [Nat.mul_comm]; exact (Nat.div_add_mod i z.cells.size).symm
    have e3 := key _ hq
    rw [← e2, ← hz] at e3
    rw [e3]
    simp [hi, hr]
  · rw [List.getElem?_eq_none (by simpa using hi), List.getElem?_eq_none (by rw [hl]; omega)]
section
variable {P : Program} {N d : Nat} {w0 w : World} {σ : List (Nat × Value)} {bs bs1 : List Res} {a : Act} {K : Act → World → Prop} {Q : Exit → Act → World → Prop}
variable {x y : Operand} {od : Option Nat} {t t' ty : TypeId} {ps : String} {af : Array Edge} {gd : Option (Nat × Bool)} {v : Value} {m n : Int} {α : Type}
/-- A cut of a slice. -/
theorem y_sliceM {e : TypeId} {A : Option Addr} {l c size lo hi : Nat} {z : Operand} {k1 k2 : IntKind} (hs : St N w0 σ bs1 a w) (ht : P.underlying t = some (.slice e)) (hinf : (P.info? e).map (·.size) = some size) (hx : ev σ x = some (.slice A l c)) (hy : ev σ y = some (.int k1 m)) (hz : ev σ z = some (.int k2 n)) (hm : m = (lo : Int)) (hn : n = (hi : Int)) (hl : lo ≤ hi) (hc : hi ≤ c) :
    Y P w0 bs a (Oper.mk od (.slice t x (some y) (some z) Option.none) ty ps af gd) (.slice (if c = lo then A else A.map (·.add (lo * size))) (hi - lo) (c - lo)) := by
  intro w _
  have hsz : (sizeOf e).run P w = .ok size w := by
    cases h2 : P.info? e with
    | none => simp [h2] at hinf
    | some i => simp [h2] at hinf; simp [sizeOf, typeInfo, h2, hinf]
  subst hm hn
  simp [execOp, hs.ev hx, hs.ev hy, hs.ev hz, Instr.sliceAt, Instr.slice, Instr.sliceBounds, Instr.sliceBound, asIntOf, run_underlying ht, hl, hc, hsz]
/-- A slice made. -/
theorem e_makeL {s1 s2 : Operand} {e : TypeId} {z : Value} {size bytes n : Nat} (enc : α → List Value) (z0 : α) (hs : St N w0 σ bs a w) (hN : Nat.blt d N = true) (ht : P.underlying t = some (.slice e)) (hinfo : (P.info? e).map (fun i => (i.zero, i.size, i.bytes)) = some (some z, size, bytes)) (hzs : z.cells.size = size) (hz0 : z.cells.toList = enc z0)
    (hx : ev σ s1 = some (.int .i64 (n : Int))) (hy : ev σ s2 = some (.int .i64 (n : Int))) (hc : n * size ≤ 16777216) (hb : bytes * n ≤ 281474976710656) (h63 : n ≤ maxLen)
    (k : ∀ g a w, St N w0 ((d, .slice (some ⟨g, 0, Option.none⟩) (List.replicate n z0).length n) :: σ) (row e size (.slice (some ⟨g, 0, Option.none⟩) (List.replicate n z0).length n) (List.replicate n z0).length ((List.replicate n z0).flatMap enc) :: bs) a w → K a w) : (Oper.mk (some d) (.makeSlice t s1 s2) ty ps af gd).wp P a w K Q := by
  obtain ⟨i, hi, hz, hsize, hby⟩ : ∃ i, P.info? e = some i ∧ i.zero = some z ∧ i.size = size ∧ i.bytes = bytes := by
    cases h3 : P.info? e with
    | none => rw [h3] at hinfo; cases hinfo
    | some i =>
      rw [h3] at hinfo
      simp only [Option.map_some, Option.some.injEq, Prod.mk.injEq] at hinfo
      exact ⟨i, rfl, hinfo.1, hinfo.2.1, hinfo.2.2⟩
  obtain ⟨w', hr, hown, hgr⟩ := run_makeSlice_full (P := P) (w := w) w.heap.size t e i z size ht hi hz hsize .i64 .i64 n hc (by rw [hby]; exact hb) h63 (Nat.le_refl _)
  have hr2 : (execOp a.eval (Oper.mk (some d) (.makeSlice t s1 s2) ty ps af gd)).run P w = .ok (.value (.slice (some ⟨w.heap.size, 0, Option.none⟩) n n)) w' := by
    simp [execOp, hs.ev hx, hs.ev hy, hr]
  have hcells : (madeCells z.cells (n * size)).toList = (List.replicate n z0).flatMap enc := by rw [← hzs]; exact made_flat hz0 n
  rw [hcells] at hown
  have hm : H w0 (row e size (.slice (some ⟨w.heap.size, 0, Option.none⟩) n n) n ((List.replicate n z0).flatMap enc) :: bs) w' :=
    hs.mem.add ⟨hgr.os, hgr.tape, hgr.output, hgr.size, fun k hk => hgr.block k hk (by simp)⟩ (own_base hown (Nat.zero_le _)) (fun g hg => hown.lt g hg)
  unfold Oper.wp
  rw [hr2, Oper.upon_value]
  refine k w.heap.size _ _ ?_
  rw [List.length_replicate]
  exact (hs.mem_to hm).put (by simpa using hN) _
/-- A store into an element of a row of flat elements. -/
theorem e_storeL {e : TypeId} {g j i c size : Nat} (enc : α → List Value) (l : List α) (x0 : α) {bs' : List Res} (kk : Nat) (hm : takeAt bs kk = some (row e size (.slice (some ⟨g, 0, Option.none⟩) l.length c) l.length (l.flatMap enc), bs')) (hs : St N w0 σ bs a w) (hx : ev σ x = some (.pointer (some ⟨g, j, Option.none⟩))) (hy : ev σ y = some v) (hinf : (P.info? t).map (·.size) = some v.cells.size)
    (hlen : ∀ x, (enc x).length = size) (hv : v.cells.toList = enc x0) (ho : v.cells.toList.all (·.oneCell') = true) (hj : j = i * size) (hi : i < l.length)
    (k : ∀ a w, St N w0 σ (row e size (.slice (some ⟨g, 0, Option.none⟩) (l.set i x0).length c) (l.set i x0).length ((l.set i x0).flatMap enc) :: bs') a w → K a w) : (Oper.mk Option.none (.store t x y) ty ps af gd).wp P a w K Q := by
  obtain ⟨g', cs, hA, _, hnc, hcs, htk, hp⟩ := (hs.mem.to kk hm).rowPt (by omega)
  obtain rfl : g = g' := by simpa using hA
  have hvs : v.cells.size = size := by rw [← hlen x0, ← hv]; simp
  have hfit : j + v.cells.size ≤ l.length * size := by
    rw [hvs, hj]
    calc i * size + size = (i + 1) * size := by rw [Nat.add_mul]; omega
      _ ≤ l.length * size := Nat.mul_le_mul_right _ hi
  have hle : l.length * size ≤ c * size := Nat.mul_le_mul_right _ hnc
  have hmax : c ≤ 9223372036854775807 := by
    have ho' : w.ownsRow 0 e size (.slice (some ⟨g, 0, Option.none⟩) l.length c) l.length (l.flatMap enc) := ((hs.mem.to kk hm).own _ (.head _)).1
    rcases ho'.2 with ⟨h1, _⟩ | ⟨g', cap, cur, hv', _, _, _, hml, _⟩
    · cases h1
    · injection hv' with e1 e2 e3; subst e3; exact hml
  refine e_store (cl := overL cs.toList j v.cells.toList) 0 rfl (hs.mem_to hp) hx hy hinf ho (by simpa using (by omega : j + v.cells.size ≤ cs.size)) rfl (fun a w h => ?_)
  refine k a w (h.mem_to ?_)
  have hset : (overL cs.toList j v.cells.toList).take (l.length * size) = (l.set i x0).flatMap enc := by
    rw [overL_take _ _ _ _ (by simpa using hfit), htk, flat_set hlen l i x0 hi, hv, hj]
  have h2 := h.mem.ptRow size l.length c (xs := (l.set i x0).flatMap enc) (by rw [List.size_toArray, overL_len, Array.length_toList]; exact hcs) hnc hmax hset
  rw [List.length_set]
  exact h2
/-- copy into a block of the call's own. -/
theorem e_copyB {s1 s2 : Operand} {e t2 : TypeId} {g o dl dc c1 : Nat} {A1 : Option Addr} {cs : Array Value} {cl : List Value} {l2 : List Int} {tt : TypeId} {bs' : List Res} (kk : Nat) (hm : takeAt bs kk = some (pt g cs tt, bs')) (hs : St N w0 σ bs a w) (hN : Nat.blt d N = true) (ht : P.underlying t = some (.slice e)) (hinf : (P.info? e).map (·.size) = some 1)
    (hx : ev σ s1 = some (.slice (some ⟨g, o, Option.none⟩) dl dc)) (hy : ev σ s2 = some (.slice A1 l2.length c1)) (hC : Kd.C (Kd.int .u8) w A1 l2.length l2) (h0 : 0 < l2.length) (hle : l2.length ≤ dl) (hfit : o + l2.length ≤ cs.size) (hcl : overL cs.toList o (l2.flatMap encU) = cl)
    (k : ∀ a w, St N w0 ((d, .int .i64 (l2.length : Int)) :: σ) (pt g cl.toArray tt :: bs') a w → K a w) : (Oper.mk (some d) (.call { callee := .builtin .copy, args := #[s1, s2], argTypes := #[t, t2] }) ty ps af gd).wp P a w K Q := by
  subst hcl
  have hmem := hs.mem.to kk hm
  obtain ⟨ad, rfl, hcell⟩ := hC.2.2 h0
  have hlen : (l2.flatMap encU).length = l2.length := by rw [flatU, List.length_map]
  have hr := run_copy_row (P := P) w t t2 ty e g o dl dc ad l2.length c1 cs tt (l2.flatMap encU) ht hinf hmem.cells (by rw [hlen]; exact (Nat.min_eq_left hle).symm) (fun j u hj => by
    rw [flatU, List.getElem?_map] at hj
    cases hq : l2[j]? with
    | none => rw [hq] at hj; cases hj
    | some q =>
      rw [hq] at hj
      obtain ⟨c, _, hK, hcc⟩ := hcell j q hq
      have hK' : c = [Value.int .u8 q] := hK
      subst hK'
      have := hcc 0 (.int .u8 q) rfl
      have e1 : (Kd.int .u8).sz = 1 := rfl
      rw [e1, Nat.mul_one, Nat.add_zero] at this
      rw [this]; exact hj) (by rw [hlen]; exact hfit) (oneU _)
  rw [hlen] at hr
  have hover := over_eq cs.toList o (l2.flatMap encU) (by rw [hlen, Array.length_toList]; exact hfit)
  rw [hlen] at hover
  rw [hover] at hr
  unfold Oper.wp execOp
  simp only [resolve, invoke, builtin, Sem.run_bind, Sem.run_pure, Result.andThen_ok, List.map_toArray, List.map_cons, List.map_nil, hs.ev hx, hs.ev hy, hr]
  rw [Oper.upon_value]
  exact k _ _ ((hs.mem_to hmem.setRow).put (by simpa using hN) _)
end
end Go.Proofs.YtibaidddhmdafaaDoor.E
