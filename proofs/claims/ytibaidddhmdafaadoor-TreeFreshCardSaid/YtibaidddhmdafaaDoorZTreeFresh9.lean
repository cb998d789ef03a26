/- What YtibaidddhmdafaaDoorRTreeFresh's proof reaches of its texts, part 9. Conditions: as each says. -/
import Derived.ArgAppend
import Derived.Below
import Derived.BigCall
import Derived.BigQuiet
import Derived.Deep.AppendLies
import Derived.Deep.CutBlock
import Derived.Deep.DeepCutAuto
import Derived.Deep.Draws
import Derived.Deep.LoopGhost
import Derived.Deep.OwnRows
import Derived.Deep.QuietTactic
import Derived.Deep.RegionHeld3
import Derived.Deep.WholeRow
import Derived.KernelRfl
import Derived.Laws.AppendOwn
import Derived.Laws.BitsLemmas
import Derived.Laws.BytesArg
import Derived.Laws.Externs
import Derived.Laws.IdiomCopy
import Derived.Laws.MakeOwn
import Derived.Laws.OwnMore
import Derived.Laws.Rows
import Derived.Laws.Slices
import Derived.Laws.StructEq
import Derived.Laws.Tables
import Derived.Lib.AppendStr
import Derived.Lib.Builder
import Derived.Lib.Bytealg
import Derived.Lib.ConvBytes
import Derived.Lib.Strings
import Derived.Lib.Walk
import Derived.Maps.AppendAt
import Derived.OrdersHeld
import Derived.OwnWalk
import Derived.RowKit
import Derived.RowKit3
import Derived.ScopeJumps
import Derived.Tactics
import Derived.Test.YtibaidddhmdafaaDoorProg
import Derived.WalkKit
import Derived.WideLaws
import Derived.Test.YtibaidddhmdafaaDoorZTreeFresh8
section
namespace Go.Proofs.YtibaidddhmdafaaDoor.E
open Go Go.RowKit
set_option linter.unusedVariables false
set_option linter.unusedSimpArgs false
theorem H.onBelow {w0 w w' : World} (h : H w0 [] w) (hb : Below w0.heap.size w w') : H w0 [] w' :=
  ⟨h.base.trans hb, by simp, by simp⟩
section
variable {P : Program} {N d : Nat} {w0 w : World} {σ : List (Nat × Value)} {bs bs1 : List Res} {a : Act} {K : Act → World → Prop} {Q : Exit → Act → World → Prop}
variable {x y : Operand} {od : Option Nat} {t t' ty : TypeId} {ps : String} {af : Array Edge} {gd : Option (Nat × Bool)} {v : Value} {m n : Int}
theorem y_ptrNil {p : Option Addr} {te : TypeId} (hs : St N w0 σ bs1 a w) (ht : P.underlying t = some (.pointer te)) (hx : ev σ x = some (.pointer p)) : Y P w0 bs a (Oper.mk od (.binOp .eql t x (.const (.pointer Option.none)) t') ty ps af gd) (.bool p.isNone) := by
  intro w _
  have hy : a.eval (.const (.pointer Option.none)) = .pointer Option.none := rfl
  have he : (Op.equal t (.pointer p) (.pointer Option.none)).run P w = .ok p.isNone w := by
    have h1 : ∀ k : Nat, (Op.equalIn (k + 1) t (.pointer p) (.pointer Option.none)).run P w = .ok p.isNone w := fun k => by
      cases p <;> simp [Op.equalIn, run_underlying ht]
    simp [Op.equal, Op.maxDepth, h1 9999]
  simp only [execOp, hs.ev hx, hy, eqGuard, binOp]
  simp [he]
theorem y_ptrNe {ad : Addr} {te : TypeId} (hs : St N w0 σ bs1 a w) (ht : P.underlying t = some (.pointer te)) (hi : (P.info? te).isSome = true) (hx : ev σ x = some (.pointer (some ad))) (hy : ev σ y = some (.pointer (some ad))) : Y P w0 bs a (Oper.mk od (.binOp .neq t x y t') ty ps af gd) (.bool false) := by
  intro w _
  obtain ⟨j, hj⟩ := Option.isSome_iff_exists.1 hi
  have hr := Lib.run_neq_ptr_same (P := P) w ad ht hj
  simp only [execOp, hs.ev hx, hs.ev hy, eqGuard]
  simp [hr]
theorem y_toUnsafe {src dst te tt : TypeId} {g : Nat} {cs : Array Value} {bs' : List Res} (kk : Nat) (hm : takeAt bs kk = some (pt g cs tt, bs')) (hs : St N w0 σ bs1 a w) (h1 : P.underlying src = some (.pointer te)) (h2 : P.underlying dst = some .unsafePointer) (hi : (P.info? te).map (fun i => decide (i.size ≠ 0)) = some true) (hc : Nat.blt 0 cs.size = true) (hx : ev σ x = some (.pointer (some ⟨g, 0, Option.none⟩))) :
    Y P w0 bs a (Oper.mk od (.convert src dst x) ty ps af gd) (.pointer (some ⟨g, 0, Option.none⟩)) := by
  intro w hw
  cases h3 : P.info? te with
  | none => simp [h3] at hi
  | some j =>
    simp [h3] at hi
    have hh := (hw.to kk hm).cells
    have hr := Lib.run_to_unsafe (P := P) w (e := tt) (cells := cs.size) ⟨g, 0, Option.none⟩ h1 h2 h3 hi (by simp [World.shape?, hh]) (by simpa using hc)
    simp [execOp, hs.ev hx, hr]
theorem y_fromUnsafe {src dst te tt : TypeId} {g : Nat} {cs : Array Value} {bs' : List Res} (kk : Nat) (hm : takeAt bs kk = some (pt g cs tt, bs')) (hs : St N w0 σ bs1 a w) (h1 : P.underlying src = some .unsafePointer) (h2 : P.underlying dst = some (.pointer te)) (hi : (P.info? te).isSome = true) (hl : liesAt P P.depth tt (cs.size / P.cellsOf tt) 0 te 1 = true) (hx : ev σ x = some (.pointer (some ⟨g, 0, Option.none⟩))) :
    Y P w0 bs a (Oper.mk od (.convert src dst x) ty ps af gd) (.pointer (some ⟨g, 0, Option.none⟩)) := by
  intro w hw
  obtain ⟨j, hj⟩ := Option.isSome_iff_exists.1 hi
  have hh := (hw.to kk hm).cells
  have hr := Lib.run_from_unsafe (P := P) w (e := tt) (cells := cs.size) ⟨g, 0, Option.none⟩ h1 h2 hj (by simp [World.shape?, hh]) hl
  simp [execOp, hs.ev hx, hr]
/-- abi.NoEscape: the pointer as it is. -/
theorem e_noEscape {f : FuncId} {fn : Func} {ats : Array TypeId} (hf : P.funcs[f]? = some fn) (hn : (fn.name == "runtime.NumGoroutine") = false) (hb : fn.body.isNone = true) (hx0 : Extern.findNext fn = Option.none) (he : Extern.find fn = some Extern.AbiNoEscape.same) (hs : St N w0 σ bs a w) (hN : Nat.blt d N = true) (hx : ev σ x = some v)
    (k : ∀ a, St N w0 ((d, v) :: σ) bs a w → K a w) : (Oper.mk (some d) (.call { callee := .value (.func f), args := #[x], argTypes := ats }) ty ps af gd).wp P a w K Q := by
  have hr : (execOp a.eval (Oper.mk (some d) (.call { callee := .value (.func f), args := #[x], argTypes := ats }) ty ps af gd)).run P w = .ok (.value v) w := by
    rw [execOp_call_go]
    have e1 : (#[x] : Array Operand).map a.eval = #[v] := by rw [← Array.toList_inj]; simp [hs.ev hx]
    rw [e1, run_callFunc_extern hf hn hb hx0 he, show (#[] ++ #[v] ++ #[] : Array Value) = #[v] by simp, Lib.run_noEscape]
    rfl
  unfold Oper.wp
  rw [hr, Oper.upon_value]
  exact k _ (hs.put (by simpa using hN) v)
/-- append of a string's bytes to a slice of the call's own. -/
theorem e_appendS {s1 x1 : Operand} {e t2 : TypeId} {n1 : Nat} {A : Value} {xs : List Value} {s : ByteArray} {bs' : List Res} (k1 : Nat) (h1 : takeAt bs k1 = some (row e 1 A n1 xs, bs')) (hs : St N w0 σ bs a w) (hN : Nat.blt d N = true)
    (ht : P.underlying t = some (.slice e)) (hu : P.underlying t2 = some .string) (hinfo : (P.info? e).map (fun i => (i.zero, i.size, i.bytes)) = some (some (.int .u8 0), 1, 1))
    (hx : ev σ s1 = some A) (hy : ev σ x1 = some (.string s)) (h63 : n1 + s.size ≤ maxLen) (hb : n1 + s.size ≤ 140737488355328)
    (k : ∀ A' c' a w, St N w0 ((d, .slice A' (n1 + s.size) c') :: σ) (row e 1 (.slice A' (n1 + s.size) c') (n1 + s.size) (xs ++ Lib.strCells s) :: bs') a w → K a w) : (Oper.mk (some d) (.call { callee := .builtin .append, args := #[s1, x1], argTypes := #[t, t2] }) ty ps af gd).wp P a w K Q := by
  obtain ⟨i, hi, hz, hsize, hby⟩ : ∃ i, P.info? e = some i ∧ i.zero = some (.int .u8 0) ∧ i.size = 1 ∧ i.bytes = 1 := by
    cases h3 : P.info? e with
    | none => rw [h3] at hinfo; cases hinfo
    | some i =>
      rw [h3] at hinfo
      simp only [Option.map_some, Option.some.injEq, Prod.mk.injEq] at hinfo
      exact ⟨i, rfl, hinfo.1, hinfo.2.1, hinfo.2.2⟩
  have hm1 := hs.mem.to k1 h1
  have hrow : w.ownsRow 0 e 1 A n1 xs := (hm1.own _ (.head _)).1
  obtain ⟨v', w', hr, hown, hgr, _⟩ := Lib.run_append_own_string (P := P) w 0 t t2 ty e i ht hu hi hz hsize hby A n1 xs hrow s h63 hb (Nat.zero_le _)
  have hbl : ∀ g', v'.ownBlock = some g' → A.ownBlock = some g' ∨ w.heap.size ≤ g' := by
    intro g' hg'
    rcases hrow.2 with ⟨rfl, rfl⟩ | ⟨g, cap, cur, rfl, _, hg, hnc, hcm, hcs, htake⟩
    · have hxs : xs = [] := List.eq_nil_of_length_eq_zero (by simpa using hrow.1)
      subst hxs
      obtain ⟨v2, w2, hr2, hown2, _, _⟩ := Lib.run_append_own_string (P := P) w w.heap.size t t2 ty e i ht hu hi hz hsize hby _ 0 [] (World.ownsRow_nil w w.heap.size e 1) s h63 hb (Nat.le_refl _)
      rw [hr] at hr2
      injection hr2 with e1 e2
      subst e1
      exact .inr (hown2.lt g' hg').1
    · by_cases hroom : n1 + s.size ≤ cap
      · have hr2 := Lib.run_append_room_string (P := P) w t t2 ty e i ht hu hi hsize g n1 cap cur hg s hroom (by omega)
        rw [hr] at hr2
        injection hr2 with e1 e2
        subst e1
        exact .inl hg'
      · have hr2 := Lib.run_append_grow_string (P := P) w t t2 ty e i (.int .u8 0) ht hu hi hz ⟨g, 0, Option.none⟩ n1 cap xs (by rw [hsize]; exact hrow.1) (hrow.cells (g := g) rfl) s (by omega) (by unfold maxLen at h63; omega) (by rw [hby]; exact growslice_fits (by omega) (by omega))
        rw [hr] at hr2
        injection hr2 with e1 e2
        subst e1
        simp only [Value.ownBlock, Option.some.injEq] at hg'
        exact .inr (by omega)
  have hshape : ∃ A' c', v' = .slice A' (n1 + s.size) c' := by
    rcases hown.2 with ⟨hv, hn⟩ | ⟨g', cap, cur, hv, _⟩
    · exact ⟨Option.none, 0, by rw [hv, hn]⟩
    · exact ⟨_, _, hv⟩
  obtain ⟨A', c', rfl⟩ := hshape
  unfold Oper.wp execOp
  simp only [resolve, invoke, builtin, Sem.run_bind, Sem.run_pure, Result.andThen_ok, List.map_toArray, List.map_cons, List.map_nil, hs.ev hx, hs.ev hy, hr]
  rw [Oper.upon_value]
  exact k A' c' _ _ ((hs.mem_to (hm1.upd hgr.os hgr.tape hgr.output hgr.size (fun k hk hne => hgr.block k hk (fun e2 => hne e2.symm)) hown (fun g' hg' => ⟨hbl g' hg', (hown.lt g' hg').2⟩))).put (by simpa using hN) _)
theorem y_sadd {s1 s2 : ByteArray} (hs : St N w0 σ bs1 a w) (hx : ev σ x = some (.string s1)) (hy : ev σ y = some (.string s2)) (hl : s1.size + s2.size ≤ 281474976710656) : Y P w0 bs a (Oper.mk od (.binOp .add t x y t') ty ps af gd) (.string (s1 ++ s2)) := by
  intro w _
  simp [execOp, hs.ev hx, hs.ev hy, eqGuard, binOp, Op.stringOp]
  omega
theorem y_bne {b1 b2 : Bool} (hs : St N w0 σ bs1 a w) (ht : P.underlying t = some .bool) (hx : ev σ x = some (.bool b1)) (hy : ev σ y = some (.bool b2)) : Y P w0 bs a (Oper.mk od (.binOp .neq t x y t') ty ps af gd) (.bool (!(b1 == b2))) := by
  intro w _
  have h1 : ∀ k : Nat, (Op.equalIn (k + 1) t (.bool b1) (.bool b2)).run P w = .ok (b1 == b2) w := fun k => by
    simp [Op.equalIn, run_underlying ht]
  have he : (Op.equal t (.bool b1) (.bool b2)).run P w = .ok (b1 == b2) w := by
    simp only [Op.equal, Op.maxDepth]; exact h1 9999
  simp only [execOp, hs.ev hx, hs.ev hy, eqGuard, binOp]
  simp [he]
theorem y_idxB {e : TypeId} {g o l c size off : Nat} {kk : IntKind} (hs : St N w0 σ bs1 a w) (ht : P.underlying t = some (.slice e)) (hi : (P.info? e).map (·.size) = some size) (hx : ev σ x = some (.slice (some ⟨g, o, Option.none⟩) l c)) (hy : ev σ y = some (.int kk m)) (h0 : 0 ≤ m) (h1 : m < l) (ho : o + m.toNat * size = off) :
    Y P w0 bs a (Oper.mk od (.indexAddr t x y) ty ps af gd) (.pointer (some ⟨g, off, Option.none⟩)) := by
  intro w _
  subst ho
  have hsz : (sizeOf e).run P w = .ok size w := by
    cases h2 : P.info? e with
    | none => simp [h2] at hi
    | some i => simp [h2] at hi; simp [sizeOf, typeInfo, h2, hi]
  have hadd : (⟨g, o, Option.none⟩ : Addr).add (m.toNat * size) = ⟨g, o + m.toNat * size, Option.none⟩ := by unfold Addr.add; split <;> simp_all
  simp [execOp, hs.ev hx, hs.ev hy, Instr.indexAt, asIntOf, run_underlying ht, h0, h1, hsz, hadd]
end
section
variable {P : Program} {N d : Nat} {w0 w : World} {σ : List (Nat × Value)} {bs : List Res} {a : Act} {Q : Exit → Act → World → Prop} {ops : Array Oper} {rest : List Oper} {q : Op} {v u : Value} {x y c : Operand} {ty : TypeId} {ps : String} {af : Array Edge} {gd : Option (Nat × Bool)}
theorem go {l : List Oper} (hs : St N w0 σ bs a w) (k : ∀ a, St N w0 σ bs a w → wpList P ops Q l a w) : wpList P ops Q l a w := k a hs
theorem pV (h : Nat.blt d N = true) (hy : ∀ a, St N w0 σ bs a w → Y P w0 bs a (Oper.mk (some d) q ty ps af Option.none) v) (k : ∀ a, St N w0 ((d, v) :: σ) bs a w → wpList P ops Q rest a w) : ∀ a, St N w0 σ bs a w → wpList P ops Q (Oper.mk (some d) q ty ps af Option.none :: rest) a w := fun a hs => a_val hs h rfl rfl (hy a hs) k
theorem pG (h : (Nat.blt d N, guardIs ops σ (Oper.mk (some d) q ty ps af gd)) = (true, some true)) (hy : ∀ a, St N w0 σ bs a w → Y P w0 bs a (Oper.mk (some d) q ty ps af gd) v) (k : ∀ a, St N w0 ((d, v) :: σ) bs a w → wpList P ops Q rest a w) : ∀ a, St N w0 σ bs a w → wpList P ops Q (Oper.mk (some d) q ty ps af gd :: rest) a w := fun a hs => a_valG hs (Prod.mk.inj h).1 rfl (Prod.mk.inj h).2 (hy a hs) k
theorem pS (h : (Nat.blt d N, guardIs ops σ (Oper.mk (some d) q ty ps af gd)) = (true, some false)) (k : ∀ a, St N w0 ((d, undef) :: σ) bs a w → wpList P ops Q rest a w) : ∀ a, St N w0 σ bs a w → wpList P ops Q (Oper.mk (some d) q ty ps af gd :: rest) a w := fun a hs => a_skip hs (Prod.mk.inj h).1 rfl (Prod.mk.inj h).2 k
theorem pM (h : (Nat.blt d N, ev σ x) = (true, some v)) (k : ∀ a, St N w0 ((d, v) :: σ) bs a w → wpList P ops Q rest a w) : ∀ a, St N w0 σ bs a w → wpList P ops Q (Oper.mk (some d) (.move x) ty ps af Option.none :: rest) a w := pV (Prod.mk.inj h).1 (fun _ hs => y_move hs (Prod.mk.inj h).2) k
theorem pA (h : (Nat.blt d N, ev σ x) = (true, some v)) (k : ∀ a, St N w0 ((d, v) :: σ) bs a w → wpList P ops Q rest a w) : ∀ a, St N w0 σ bs a w → wpList P ops Q (Oper.mk (some d) (.assign x) ty ps af Option.none :: rest) a w := pV (Prod.mk.inj h).1 (fun _ hs => y_assign hs (Prod.mk.inj h).2) k
theorem pF (h : Nat.blt d N = true) (hc : (ev σ c, ev σ x, ev σ y) = (some (.bool false), some u, some v)) (k : ∀ a, St N w0 ((d, v) :: σ) bs a w → wpList P ops Q rest a w) : ∀ a, St N w0 σ bs a w → wpList P ops Q (Oper.mk (some d) (.pick c x y) ty ps af Option.none :: rest) a w := pV h (fun _ hs => y_pickF hs (Prod.mk.inj hc).1 (Prod.mk.inj (Prod.mk.inj hc).2).1 (Prod.mk.inj (Prod.mk.inj hc).2).2) k
theorem pT (h : Nat.blt d N = true) (hc : (ev σ c, ev σ x, ev σ y) = (some (.bool true), some u, some v)) (k : ∀ a, St N w0 ((d, u) :: σ) bs a w → wpList P ops Q rest a w) : ∀ a, St N w0 σ bs a w → wpList P ops Q (Oper.mk (some d) (.pick c x y) ty ps af Option.none :: rest) a w := pV h (fun _ hs => y_pickT hs (Prod.mk.inj hc).1 (Prod.mk.inj (Prod.mk.inj hc).2).1 (Prod.mk.inj (Prod.mk.inj hc).2).2) k
end
end Go.Proofs.YtibaidddhmdafaaDoor.E
end
section
namespace Go.Proofs.YtibaidddhmdafaaDoor.E
open Go Go.RowKit
set_option linter.unusedVariables false
set_option linter.unusedSimpArgs false
/-- What a callee has made is put to the caller's own. -/
theorem H.more {w0 w w' : World} {bs rs : List Res} (h : H w0 bs w) (h' : H w rs w') : H w0 (rs ++ bs) w' := by
  have hb := h'.base
  have hsz := h.base.size
  refine ⟨⟨hb.os.trans h.base.os, hb.tape.trans h.base.tape, hb.output.trans h.base.output, Nat.le_trans hsz hb.size, fun k hk => (hb.block k (by omega)).trans (h.base.block k hk)⟩, ?_, ?_⟩
  · intro s hs
    rcases List.mem_append.1 hs with hs | hs
    · have h1 := h'.own s hs
      exact ⟨h1.1, fun g hg => ⟨by have := (h1.2 g hg).1; omega, (h1.2 g hg).2⟩⟩
    · have h1 := h.own s hs
      exact ⟨s.keep w w' (fun g hg => hb.block g (h1.2 g hg).2) h1.1, fun g hg => ⟨(h1.2 g hg).1, Nat.lt_of_lt_of_le (h1.2 g hg).2 hb.size⟩⟩
  · rw [List.pairwise_append]
    refine ⟨h'.apart, h.apart, fun r hr s hs g hg hsg => ?_⟩
    have := ((h'.own r hr).2 g hg).1
    have := ((h.own s hs).2 g hsg).2
    omega
theorem not_t {b : Bool} (h : (!b) = true) : b = false := by cases b <;> simp_all
theorem not_f {b : Bool} (h : (!b) = false) : b = true := by cases b <;> simp_all
section
variable {P : Program} {N d : Nat} {w0 w : World} {σ : List (Nat × Value)} {bs bs1 : List Res} {a : Act} {K : Act → World → Prop} {Q : Exit → Act → World → Prop}
variable {x y : Operand} {od : Option Nat} {t t' ty : TypeId} {ps : String} {af : Array Edge} {gd : Option (Nat × Bool)} {v r : Value} {m n q : Int} {op : BinOp} {kk k2 : IntKind}
/-- A slot's value told once more. -/
theorem St.also (hs : St N w0 σ bs a w) {d : Nat} (h : look σ d = some v) : St N w0 ((d, v) :: σ) bs a w := by
  refine ⟨hs.size, hs.defers, fun t u hu => ?_, hs.mem⟩
  simp only [look, cond_eq_ite] at hu
  split at hu
  · rename_i e
    obtain rfl := Nat.eq_of_beq_eq_true e
    obtain rfl := Option.some.inj hu
    exact hs.slots _ _ h
  · exact hs.slots t u hu
/-- What a slot says is true or false. -/
theorem St.know (hs : St N w0 σ bs a w) {d : Nat} {b : Bool} (h : look σ d = some (.bool b)) : (b = true ∧ St N w0 ((d, .bool true) :: σ) bs a w) ∨ (b = false ∧ St N w0 ((d, .bool false) :: σ) bs a w) := by
  cases b
  · exact .inr ⟨rfl, hs.also h⟩
  · exact .inl ⟨rfl, hs.also h⟩
/-- A slot's value in other words. -/
theorem St.say (hs : St N w0 σ bs a w) (d : Nat) {u : Value} (h : look σ d = some v) (e : v = u) : St N w0 ((d, u) :: σ) bs a w := hs.also (by rw [h, e])
/-- A call of a function value. -/
theorem e_callF {f : FuncId} {fn : Func} {c : Operand} {xs : Array Operand} {ats : Array TypeId} {vs : List Value} {fs cs : Array Value} {R : Ending → World → Prop} (hf : P.funcs[f]? = some fn) (hn : (fn.name == "runtime.NumGoroutine") = false) (hb : fn.body.isNone = false) (hs : St N w0 σ bs a w) (hN : Nat.blt d N = true)
    (hc0 : ev σ c = some (.func (.func f) fs cs)) (ha : evs σ xs.toList = some vs) (hc : Calls P f (fs.toList ++ vs ++ cs.toList).toArray w R) (k : ∀ e w', R e w' → ∃ v, e = .returned v ∧ ∃ bs', H w0 bs' w' ∧ ∀ a, St N w0 ((d, v) :: σ) bs' a w' → K a w') : (Oper.mk (some d) (.call { callee := .value c, args := xs, argTypes := ats }) ty ps af gd).wp P a w K Q := by
  have hr : (execOp a.eval (Oper.mk (some d) (.call { callee := .value c, args := xs, argTypes := ats }) ty ps af gd)).run P w = .ok (.enter f (fs.toList ++ vs ++ cs.toList).toArray) w := by
    have e1 : xs.map a.eval = vs.toArray := by rw [← Array.toList_inj]; simp [hs.evs ha]
    have e2 : (fs ++ vs.toArray ++ cs : Array Value) = (fs.toList ++ vs ++ cs.toList).toArray := by apply Array.toList_inj.1; simp
    simp only [execOp, resolve, Deferred.ofValue, hs.ev hc0, Sem.run_bind, Sem.run_pure, Result.andThen_ok, invoke, callFunc, run_program, hf, hn, hb, e1, e2]
    simp
  unfold Oper.wp
  rw [hr, Oper.upon_enter]
  refine hc.mono (fun e w' he => ?_)
  obtain ⟨v, rfl, bs', hm, hk⟩ := k e w' he
  exact hk _ ((hs.mem_to hm).put (by simpa using hN) v)
theorem y_beqB {b1 b2 c : Bool} (hs : St N w0 σ bs1 a w) (ht : P.underlying t = some .bool) (hx : ev σ x = some (.bool b1)) (hy : ev σ y = some (.bool b2)) (hc : (b1 == b2) = c) : Y P w0 bs a (Oper.mk od (.binOp .eql t x y t') ty ps af gd) (.bool c) := by
  intro w _
  subst hc
  have h1 : ∀ k : Nat, (Op.equalIn (k + 1) t (.bool b1) (.bool b2)).run P w = .ok (b1 == b2) w := fun k => by
    simp [Op.equalIn, run_underlying ht]
  have he : (Op.equal t (.bool b1) (.bool b2)).run P w = .ok (b1 == b2) w := by
    simp only [Op.equal, Op.maxDepth]; exact h1 9999
  simp only [execOp, hs.ev hx, hs.ev hy, eqGuard, binOp]
  simp [he]
/-- An array's value out of its parts. -/
def buildInfoA (P : Program) (t : TypeId) : Option (Array Value × Nat) :=
  match P.info? t, P.underlying t with
  | some i, some (.array _ e) => match i.zero, P.info? e with
    | some z, some j => some (z.cells, j.size)
    | _, _ => Option.none
  | _, _ => Option.none
theorem y_arr {parts : Array (Nat × Operand)} {vs cl : List Value} {zc cs : Array Value} {size : Nat} (hs : St N w0 σ bs1 a w) (hi : buildInfoA P t = some (zc, size)) (hv : evs σ (parts.toList.map (·.2)) = some vs) (hf : fillG (fun i => some (i * size, size)) zc.toList ((parts.toList.map (·.1)).zip vs) = some cl) (hc : cl.toArray = cs) :
    Y P w0 bs a (Oper.mk od (.build t parts) ty ps af gd) (.agg cs) := by
  intro w _
  subst hc
  have e1 : (parts.map fun (p : Nat × Operand) => (p.1, a.eval p.2)).toList = (parts.toList.map (·.1)).zip vs := by
    rw [← hs.evs hv]
    simp [List.zip_map', List.map_map, Function.comp_def]
  have hfill := fill_of _ _ _ _ hf
  have e2 : execOp a.eval (Oper.mk od (.build t parts) ty ps af gd) = (do pure (.value (← Instr.build t (parts.map fun (p : Nat × Operand) => (p.1, a.eval p.2))))) := rfl
  unfold buildInfoA at hi
  split at hi
  · rename_i i n e hi1 hu
    split at hi
    · rename_i z j hz hj
      simp only [Option.some.injEq, Prod.mk.injEq] at hi
      obtain ⟨rfl, rfl⟩ := hi
      rw [e2]
      unfold Instr.build
      simp only [Sem.run_bind, zeroValue, typeInfo, run_program, Result.andThen_ok, hi1, hz, Sem.run_pure, run_underlying hu, sizeOf, hj, e1, hfill]
    · cases hi
  · cases hi
/-- An array's element. -/
theorem y_idxArr {e : TypeId} {dsc : TypeDesc} {len : Nat} {cs : Array Value} (hs : St N w0 σ bs1 a w) (ht : P.underlying t = some (.array len e)) (hu : P.underlying e = some dsc) (hsc : scalarD dsc = true) (hi : (P.info? e).map (·.size) = some 1) (hx : ev σ x = some (.agg cs)) (hy : ev σ y = some (.int kk m)) (h0 : 0 ≤ m) (h1 : m < len) (hv : nthV cs.toList m.toNat = some v) :
    Y P w0 bs a (Oper.mk od (.index t x y) ty ps af gd) v := by
  intro w _
  have hsz : (sizeOf e).run P w = .ok 1 w := by
    cases h2 : P.info? e with
    | none => simp [h2] at hi
    | some i => simp [h2] at hi; simp [sizeOf, typeInfo, h2, hi]
  have hv' : cs[m.toNat]? = some v := by rw [← Array.getElem?_toList, ← nthV_eq]; exact hv
  simp [execOp, hs.ev hx, hs.ev hy, Instr.index, asIntOf, run_underlying ht, h0, h1, hsz, part, run_isAgg hu, hsc, hv']
/-- append of a slice whose cells are known to a slice of the call's own. -/
theorem e_appendV {s1 x1 : Operand} {e : TypeId} {z : Value} {size bytes n1 m1 c1 : Nat} {ad : Addr} {A : Value} {xs news : List Value} {bs' : List Res} (k1 : Nat) (h1 : takeAt bs k1 = some (row e size A n1 xs, bs')) (hs : St N w0 σ bs a w) (hN : Nat.blt d N = true)
    (ht : P.underlying t = some (.slice e)) (hinfo : (P.info? e).map (fun i => (i.zero, i.size, i.bytes)) = some (some z, size, bytes)) (hzs : z.cells.size = size) (hsz : Nat.blt 0 size = true)
    (hx : ev σ s1 = some A) (hy : ev σ x1 = some (.slice (some ad) m1 c1)) (hnews : ∀ w, H w0 bs w → ∀ j u, news[j]? = some u → w.cell? (ad.add j) = some u) (hl : news.length = m1 * size) (ho : ∀ u ∈ news, u.oneCell' = true) (h63 : n1 + m1 ≤ maxLen) (hb : (n1 + m1) * bytes ≤ 140737488355328)
    (k : ∀ A' c' a w, St N w0 ((d, .slice A' (n1 + m1) c') :: σ) (row e size (.slice A' (n1 + m1) c') (n1 + m1) (xs ++ news) :: bs') a w → K a w) : (Oper.mk (some d) (.call { callee := .builtin .append, args := #[s1, x1], argTypes := #[t, t] }) ty ps af gd).wp P a w K Q := by
  obtain ⟨i, hi, hz, hsize, hby⟩ : ∃ i, P.info? e = some i ∧ i.zero = some z ∧ i.size = size ∧ i.bytes = bytes := by
    cases h3 : P.info? e with
    | none => rw [h3] at hinfo; cases hinfo
    | some i =>
      rw [h3] at hinfo
      simp only [Option.map_some, Option.some.injEq, Prod.mk.injEq] at hinfo
      exact ⟨i, rfl, hinfo.1, hinfo.2.1, hinfo.2.2⟩
  have hm1 := hs.mem.to k1 h1
  have hrow : w.ownsRow 0 e size A n1 xs := (hm1.own _ (.head _)).1
  obtain ⟨v', w', hr, hown, hgr, hbl⟩ := run_append_at (P := P) w t ty e i z size bytes ht hi hz hsize hby hzs (by simpa using hsz) A n1 xs hrow ad m1 c1 news hl (hnews w hs.mem) ho h63 hb
  have hshape : ∃ A' c', v' = .slice A' (n1 + m1) c' := by
    rcases hown.2 with ⟨hv, hn⟩ | ⟨g', cap, cur, hv, _⟩
    · exact ⟨Option.none, 0, by rw [hv, hn]⟩
    · exact ⟨_, _, hv⟩
  obtain ⟨A', c', rfl⟩ := hshape
  unfold Oper.wp execOp
  simp only [resolve, invoke, builtin, Sem.run_bind, Sem.run_pure, Result.andThen_ok, List.map_toArray, List.map_cons, List.map_nil, hs.ev hx, hs.ev hy, hr]
  rw [Oper.upon_value]
  exact k A' c' _ _ ((hs.mem_to (hm1.upd hgr.os hgr.tape hgr.output hgr.size (fun k hk hne => hgr.block k hk (fun e2 => hne e2.symm)) hown (fun g' hg' => ⟨hbl g' hg', (hown.lt g' hg').2⟩))).put (by simpa using hN) _)
end
end Go.Proofs.YtibaidddhmdafaaDoor.E
end
