/- More of the engine: what a strings.Builder's methods meet (pointers held against nil and themselves, pointers without a type, an append of a string), elements of the caller's own slices. No conditions. -/
import Derived.Test.YtibaidddhmdafaaDoorEng2
import Derived.Lib.Builder
import Derived.Lib.AppendStr
import Derived.Laws.Externs
namespace Go.Proofs.YtibaidddhmdafaaDoor.E
open Go Go.RowKit
set_option linter.unusedVariables false
set_option linter.unusedSimpArgs false
theorem H.onBelow {w0 w w' : World} (h : H w0 [] w) (hb : Below w0.heap.size w w') : H w0 [] w' :=
  ⟨h.base.trans hb, by simp, by simp⟩
section
variable {P : Program} {N d : Nat} {w0 w : World} {σ : List (Nat × Value)} {bs bs1 : List Res} {a : Act} {K : Act → World → Prop} {Q : Exit → Act → World → Prop}
variable {x y : Operand} {od : Option Nat} {t t' ty : TypeId} {ps : String} {af : Array Edge} {gd : Option (Nat × Bool)} {v : Value} {m n : Int}
theorem y_ptrNil {p : Option Addr} {te : TypeId} (hs : St N w0 σ bs1 a w) (ht : P.underlying t = some (.pointer te)) (hx : ev σ x = some (.pointer p)) : Y P w0 bs a (Oper.mk od (.binOp .eql t x (.const (.pointer Option.none)) t') ty ps af gd) (.bool p.isNone) := by
  intro w _
  have hy : a.eval (.const (.pointer Option.none)) = .pointer Option.none := rfl
  have he : (Op.equal t (.pointer p) (.pointer Option.none)).run P w = .ok p.isNone w := by
    have h1 : ∀ k : Nat, (Op.equalIn (k + 1) t (.pointer p) (.pointer Option.none)).run P w = .ok p.isNone w := fun k => by
      cases p <;> simp [Op.equalIn, run_underlying ht]
    simp [Op.equal, Op.maxDepth, h1 9999]
  simp only [execOp, hs.ev hx, hy, eqGuard, binOp]
  simp [he]
theorem y_ptrNe {ad : Addr} {te : TypeId} (hs : St N w0 σ bs1 a w) (ht : P.underlying t = some (.pointer te)) (hi : (P.info? te).isSome = true) (hx : ev σ x = some (.pointer (some ad))) (hy : ev σ y = some (.pointer (some ad))) : Y P w0 bs a (Oper.mk od (.binOp .neq t x y t') ty ps af gd) (.bool false) := by
  intro w _
  obtain ⟨j, hj⟩ := Option.isSome_iff_exists.1 hi
  have hr := Lib.run_neq_ptr_same (P := P) w ad ht hj
  simp only [execOp, hs.ev hx, hs.ev hy, eqGuard]
  simp [hr]
theorem y_toUnsafe {src dst te tt : TypeId} {g : Nat} {cs : Array Value} {bs' : List Res} (kk : Nat) (hm : takeAt bs kk = some (pt g cs tt, bs')) (hs : St N w0 σ bs1 a w) (h1 : P.underlying src = some (.pointer te)) (h2 : P.underlying dst = some .unsafePointer) (hi : (P.info? te).map (fun i => decide (i.size ≠ 0)) = some true) (hc : Nat.blt 0 cs.size = true) (hx : ev σ x = some (.pointer (some ⟨g, 0, Option.none⟩))) :
    Y P w0 bs a (Oper.mk od (.convert src dst x) ty ps af gd) (.pointer (some ⟨g, 0, Option.none⟩)) := by
  intro w hw
  cases h3 : P.info? te with
  | none => simp [h3] at hi
  | some j =>
    simp [h3] at hi
    have hh := (hw.to kk hm).cells
    have hr := Lib.run_to_unsafe (P := P) w (e := tt) (cells := cs.size) ⟨g, 0, Option.none⟩ h1 h2 h3 hi (by simp [World.shape?, hh]) (by simpa using hc)
    simp [execOp, hs.ev hx, hr]
theorem y_fromUnsafe {src dst te tt : TypeId} {g : Nat} {cs : Array Value} {bs' : List Res} (kk : Nat) (hm : takeAt bs kk = some (pt g cs tt, bs')) (hs : St N w0 σ bs1 a w) (h1 : P.underlying src = some .unsafePointer) (h2 : P.underlying dst = some (.pointer te)) (hi : (P.info? te).isSome = true) (hl : liesAt P P.depth tt (cs.size / P.cellsOf tt) 0 te 1 = true) (hx : ev σ x = some (.pointer (some ⟨g, 0, Option.none⟩))) :
    Y P w0 bs a (Oper.mk od (.convert src dst x) ty ps af gd) (.pointer (some ⟨g, 0, Option.none⟩)) := by
  intro w hw
  obtain ⟨j, hj⟩ := Option.isSome_iff_exists.1 hi
  have hh := (hw.to kk hm).cells
  have hr := Lib.run_from_unsafe (P := P) w (e := tt) (cells := cs.size) ⟨g, 0, Option.none⟩ h1 h2 hj (by simp [World.shape?, hh]) hl
  simp [execOp, hs.ev hx, hr]
/-- abi.NoEscape: the pointer as it is. -/
theorem e_noEscape {f : FuncId} {fn : Func} {ats : Array TypeId} (hf : P.funcs[f]? = some fn) (hn : (fn.name == "runtime.NumGoroutine") = false) (hb : fn.body.isNone = true) (hx0 : Extern.findNext fn = Option.none) (he : Extern.find fn = some Extern.AbiNoEscape.same) (hs : St N w0 σ bs a w) (hN : Nat.blt d N = true) (hx : ev σ x = some v)
    (k : ∀ a, St N w0 ((d, v) :: σ) bs a w → K a w) : (Oper.mk (some d) (.call { callee := .value (.func f), args := #[x], argTypes := ats }) ty ps af gd).wp P a w K Q := by
  have hr : (execOp a.eval (Oper.mk (some d) (.call { callee := .value (.func f), args := #[x], argTypes := ats }) ty ps af gd)).run P w = .ok (.value v) w := by
    rw [execOp_call_go]
    have e1 : (#[x] : Array Operand).map a.eval = #[v] := by rw [← Array.toList_inj]; simp [hs.ev hx]
    rw [e1, run_callFunc_extern hf hn hb hx0 he, show (#[] ++ #[v] ++ #[] : Array Value) = #[v] by simp, Lib.run_noEscape]
    rfl
  unfold Oper.wp
  rw [hr, Oper.upon_value]
  exact k _ (hs.put (by simpa using hN) v)
/-- append of a string's bytes to a slice of the call's own. -/
theorem e_appendS {s1 x1 : Operand} {e t2 : TypeId} {n1 : Nat} {A : Value} {xs : List Value} {s : ByteArray} {bs' : List Res} (k1 : Nat) (h1 : takeAt bs k1 = some (row e 1 A n1 xs, bs')) (hs : St N w0 σ bs a w) (hN : Nat.blt d N = true)
    (ht : P.underlying t = some (.slice e)) (hu : P.underlying t2 = some .string) (hinfo : (P.info? e).map (fun i => (i.zero, i.size, i.bytes)) = some (some (.int .u8 0), 1, 1))
    (hx : ev σ s1 = some A) (hy : ev σ x1 = some (.string s)) (h63 : n1 + s.size ≤ maxLen) (hb : n1 + s.size ≤ 140737488355328)
    (k : ∀ A' c' a w, St N w0 ((d, .slice A' (n1 + s.size) c') :: σ) (row e 1 (.slice A' (n1 + s.size) c') (n1 + s.size) (xs ++ Lib.strCells s) :: bs') a w → K a w) : (Oper.mk (some d) (.call { callee := .builtin .append, args := #[s1, x1], argTypes := #[t, t2] }) ty ps af gd).wp P a w K Q := by
  obtain ⟨i, hi, hz, hsize, hby⟩ : ∃ i, P.info? e = some i ∧ i.zero = some (.int .u8 0) ∧ i.size = 1 ∧ i.bytes = 1 := by
    cases h3 : P.info? e with
    | none => rw [h3] at hinfo; cases hinfo
    | some i =>
      rw [h3] at hinfo
      simp only [Option.map_some, Option.some.injEq, Prod.mk.injEq] at hinfo
      exact ⟨i, rfl, hinfo.1, hinfo.2.1, hinfo.2.2⟩
  have hm1 := hs.mem.to k1 h1
  have hrow : w.ownsRow 0 e 1 A n1 xs := (hm1.own _ (.head _)).1
  obtain ⟨v', w', hr, hown, hgr, _⟩ := Lib.run_append_own_string (P := P) w 0 t t2 ty e i ht hu hi hz hsize hby A n1 xs hrow s h63 hb (Nat.zero_le _)
  have hbl : ∀ g', v'.ownBlock = some g' → A.ownBlock = some g' ∨ w.heap.size ≤ g' := by
    intro g' hg'
    rcases hrow.2 with ⟨rfl, rfl⟩ | ⟨g, cap, cur, rfl, _, hg, hnc, hcm, hcs, htake⟩
    · have hxs : xs = [] := List.eq_nil_of_length_eq_zero (by simpa using hrow.1)
      subst hxs
      obtain ⟨v2, w2, hr2, hown2, _, _⟩ := Lib.run_append_own_string (P := P) w w.heap.size t t2 ty e i ht hu hi hz hsize hby _ 0 [] (World.ownsRow_nil w w.heap.size e 1) s h63 hb (Nat.le_refl _)
      rw [hr] at hr2
      injection hr2 with e1 e2
      subst e1
      exact .inr (hown2.lt g' hg').1
    · by_cases hroom : n1 + s.size ≤ cap
      · have hr2 := Lib.run_append_room_string (P := P) w t t2 ty e i ht hu hi hsize g n1 cap cur hg s hroom (by omega)
        rw [hr] at hr2
        injection hr2 with e1 e2
        subst e1
        exact .inl hg'
      · have hr2 := Lib.run_append_grow_string (P := P) w t t2 ty e i (.int .u8 0) ht hu hi hz ⟨g, 0, Option.none⟩ n1 cap xs (by rw [hsize]; exact hrow.1) (hrow.cells (g := g) rfl) s (by omega) (by unfold maxLen at h63; omega) (by rw [hby]; exact growslice_fits (by omega) (by omega))
        rw [hr] at hr2
        injection hr2 with e1 e2
        subst e1
        simp only [Value.ownBlock, Option.some.injEq] at hg'
        exact .inr (by omega)
  have hshape : ∃ A' c', v' = .slice A' (n1 + s.size) c' := by
    rcases hown.2 with ⟨hv, hn⟩ | ⟨g', cap, cur, hv, _⟩
    · exact ⟨Option.none, 0, by rw [hv, hn]⟩
    · exact ⟨_, _, hv⟩
  obtain ⟨A', c', rfl⟩ := hshape
  unfold Oper.wp execOp
  simp only [resolve, invoke, builtin, Sem.run_bind, Sem.run_pure, Result.andThen_ok, List.map_toArray, List.map_cons, List.map_nil, hs.ev hx, hs.ev hy, hr]
  rw [Oper.upon_value]
  exact k A' c' _ _ ((hs.mem_to (hm1.upd hgr.os hgr.tape hgr.output hgr.size (fun k hk hne => hgr.block k hk (fun e2 => hne e2.symm)) hown (fun g' hg' => ⟨hbl g' hg', (hown.lt g' hg').2⟩))).put (by simpa using hN) _)
theorem y_sadd {s1 s2 : ByteArray} (hs : St N w0 σ bs1 a w) (hx : ev σ x = some (.string s1)) (hy : ev σ y = some (.string s2)) (hl : s1.size + s2.size ≤ 281474976710656) : Y P w0 bs a (Oper.mk od (.binOp .add t x y t') ty ps af gd) (.string (s1 ++ s2)) := by
  intro w _
  simp [execOp, hs.ev hx, hs.ev hy, eqGuard, binOp, Op.stringOp]
  omega
theorem y_bne {b1 b2 : Bool} (hs : St N w0 σ bs1 a w) (ht : P.underlying t = some .bool) (hx : ev σ x = some (.bool b1)) (hy : ev σ y = some (.bool b2)) : Y P w0 bs a (Oper.mk od (.binOp .neq t x y t') ty ps af gd) (.bool (!(b1 == b2))) := by
  intro w _
  have h1 : ∀ k : Nat, (Op.equalIn (k + 1) t (.bool b1) (.bool b2)).run P w = .ok (b1 == b2) w := fun k => by
    simp [Op.equalIn, run_underlying ht]
  have he : (Op.equal t (.bool b1) (.bool b2)).run P w = .ok (b1 == b2) w := by
    simp only [Op.equal, Op.maxDepth]; exact h1 9999
  simp only [execOp, hs.ev hx, hs.ev hy, eqGuard, binOp]
  simp [he]
theorem y_bneF {b1 : Bool} (hs : St N w0 σ bs1 a w) (ht : P.underlying t = some .bool) (hx : ev σ x = some (.bool b1)) (hy : ev σ y = some (.bool b1)) : Y P w0 bs a (Oper.mk od (.binOp .neq t x y t') ty ps af gd) (.bool false) := by
  have h := y_bne (P := P) (bs := bs) (od := od) (t' := t') (ty := ty) (ps := ps) (af := af) (gd := gd) hs ht hx hy
  simpa using h
theorem y_idxB {e : TypeId} {g o l c size off : Nat} {kk : IntKind} (hs : St N w0 σ bs1 a w) (ht : P.underlying t = some (.slice e)) (hi : (P.info? e).map (·.size) = some size) (hx : ev σ x = some (.slice (some ⟨g, o, Option.none⟩) l c)) (hy : ev σ y = some (.int kk m)) (h0 : 0 ≤ m) (h1 : m < l) (ho : o + m.toNat * size = off) :
    Y P w0 bs a (Oper.mk od (.indexAddr t x y) ty ps af gd) (.pointer (some ⟨g, off, Option.none⟩)) := by
  intro w _
  subst ho
  have hsz : (sizeOf e).run P w = .ok size w := by
    cases h2 : P.info? e with
    | none => simp [h2] at hi
    | some i => simp [h2] at hi; simp [sizeOf, typeInfo, h2, hi]
  have hadd : (⟨g, o, Option.none⟩ : Addr).add (m.toNat * size) = ⟨g, o + m.toNat * size, Option.none⟩ := by unfold Addr.add; split <;> simp_all
  simp [execOp, hs.ev hx, hs.ev hy, Instr.indexAt, asIntOf, run_underlying ht, h0, h1, hsz, hadd]
end
end Go.Proofs.YtibaidddhmdafaaDoor.E
