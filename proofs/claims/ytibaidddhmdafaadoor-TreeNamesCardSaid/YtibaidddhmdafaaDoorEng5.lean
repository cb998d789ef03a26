/- More of the engine: what a slot's truth value is taken to be, calls of function values, whole numbers' other operations, an array's element, a slice of a slice. No conditions. -/
import Derived.Test.YtibaidddhmdafaaDoorEng2
import Derived.Test.YtibaidddhmdafaaDoorEng3
namespace Go.Proofs.YtibaidddhmdafaaDoor.E
open Go Go.RowKit
set_option linter.unusedVariables false
set_option linter.unusedSimpArgs false
/-- What a callee has made is put to the caller's own. -/
theorem H.more {w0 w w' : World} {bs rs : List Res} (h : H w0 bs w) (h' : H w rs w') : H w0 (rs ++ bs) w' := by
  have hb := h'.base
  have hsz := h.base.size
  refine ⟨⟨hb.os.trans h.base.os, hb.tape.trans h.base.tape, hb.output.trans h.base.output, Nat.le_trans hsz hb.size, fun k hk => (hb.block k (by omega)).trans (h.base.block k hk)⟩, ?_, ?_⟩
  · intro s hs
    rcases List.mem_append.1 hs with hs | hs
    · have h1 := h'.own s hs
      exact ⟨h1.1, fun g hg => ⟨by have := (h1.2 g hg).1; omega, (h1.2 g hg).2⟩⟩
    · have h1 := h.own s hs
      exact ⟨s.keep w w' (fun g hg => hb.block g (h1.2 g hg).2) h1.1, fun g hg => ⟨(h1.2 g hg).1, Nat.lt_of_lt_of_le (h1.2 g hg).2 hb.size⟩⟩
  · rw [List.pairwise_append]
    refine ⟨h'.apart, h.apart, fun r hr s hs g hg hsg => ?_⟩
    have := ((h'.own r hr).2 g hg).1
    have := ((h.own s hs).2 g hsg).2
    omega
theorem not_t {b : Bool} (h : (!b) = true) : b = false := by cases b <;> simp_all
theorem not_f {b : Bool} (h : (!b) = false) : b = true := by cases b <;> simp_all
section
variable {P : Program} {N d : Nat} {w0 w : World} {σ : List (Nat × Value)} {bs bs1 : List Res} {a : Act} {K : Act → World → Prop} {Q : Exit → Act → World → Prop}
variable {x y : Operand} {od : Option Nat} {t t' ty : TypeId} {ps : String} {af : Array Edge} {gd : Option (Nat × Bool)} {v r : Value} {m n q : Int} {op : BinOp} {kk k2 : IntKind}
/-- A slot's value told once more. -/
theorem St.also (hs : St N w0 σ bs a w) {d : Nat} (h : look σ d = some v) : St N w0 ((d, v) :: σ) bs a w := by
  refine ⟨hs.size, hs.defers, fun t u hu => ?_, hs.mem⟩
  simp only [look, cond_eq_ite] at hu
  split at hu
  · rename_i e
    obtain rfl := Nat.eq_of_beq_eq_true e
    obtain rfl := Option.some.inj hu
    exact hs.slots _ _ h
  · exact hs.slots t u hu
/-- What a slot says is true or false. -/
theorem St.know (hs : St N w0 σ bs a w) {d : Nat} {b : Bool} (h : look σ d = some (.bool b)) : (b = true ∧ St N w0 ((d, .bool true) :: σ) bs a w) ∨ (b = false ∧ St N w0 ((d, .bool false) :: σ) bs a w) := by
  cases b
  · exact .inr ⟨rfl, hs.also h⟩
  · exact .inl ⟨rfl, hs.also h⟩
/-- A slot's value in other words. -/
theorem St.say (hs : St N w0 σ bs a w) (d : Nat) {u : Value} (h : look σ d = some v) (e : v = u) : St N w0 ((d, u) :: σ) bs a w := hs.also (by rw [h, e])
/-- A call of a function value. -/
theorem e_callF {f : FuncId} {fn : Func} {c : Operand} {xs : Array Operand} {ats : Array TypeId} {vs : List Value} {fs cs : Array Value} {R : Ending → World → Prop} (hf : P.funcs[f]? = some fn) (hn : (fn.name == "runtime.NumGoroutine") = false) (hb : fn.body.isNone = false) (hs : St N w0 σ bs a w) (hN : Nat.blt d N = true)
    (hc0 : ev σ c = some (.func (.func f) fs cs)) (ha : evs σ xs.toList = some vs) (hc : Calls P f (fs.toList ++ vs ++ cs.toList).toArray w R) (k : ∀ e w', R e w' → ∃ v, e = .returned v ∧ ∃ bs', H w0 bs' w' ∧ ∀ a, St N w0 ((d, v) :: σ) bs' a w' → K a w') : (Oper.mk (some d) (.call { callee := .value c, args := xs, argTypes := ats }) ty ps af gd).wp P a w K Q := by
  have hr : (execOp a.eval (Oper.mk (some d) (.call { callee := .value c, args := xs, argTypes := ats }) ty ps af gd)).run P w = .ok (.enter f (fs.toList ++ vs ++ cs.toList).toArray) w := by
    have e1 : xs.map a.eval = vs.toArray := by rw [← Array.toList_inj]; simp [hs.evs ha]
    have e2 : (fs ++ vs.toArray ++ cs : Array Value) = (fs.toList ++ vs ++ cs.toList).toArray := by apply Array.toList_inj.1; simp
    simp only [execOp, resolve, Deferred.ofValue, hs.ev hc0, Sem.run_bind, Sem.run_pure, Result.andThen_ok, invoke, callFunc, run_program, hf, hn, hb, e1, e2]
    simp
  unfold Oper.wp
  rw [hr, Oper.upon_enter]
  refine hc.mono (fun e w' he => ?_)
  obtain ⟨v, rfl, bs', hm, hk⟩ := k e w' he
  exact hk _ ((hs.mem_to hm).put (by simpa using hN) v)
/-- What an operation on two whole numbers gives. -/
def bin (op : BinOp) (k : IntKind) (m n : Int) : Option Int := match op with
  | .quo => if n = 0 then Option.none else some (k.wrap (m.tdiv n))
  | .rem => if n = 0 then Option.none else some (m.tmod n)
  | .and => some (k.wrap ((BitVec.ofInt k.bits m &&& BitVec.ofInt k.bits n).toNat : Int))
  | .or => some (k.wrap ((BitVec.ofInt k.bits m ||| BitVec.ofInt k.bits n).toNat : Int))
  | .xor => some (k.wrap ((BitVec.ofInt k.bits m ^^^ BitVec.ofInt k.bits n).toNat : Int))
  | .andNot => some (k.wrap ((BitVec.ofInt k.bits m &&& ~~~ (BitVec.ofInt k.bits n)).toNat : Int))
  | _ => Option.none
def shiftI (op : BinOp) (k : IntKind) (m n : Int) : Option Int := match op with
  | .shl => if n < 0 then Option.none else some (k.wrap (m * 2 ^ (min n.toNat k.bits)))
  | .shr => if n < 0 then Option.none else some (m.fdiv (2 ^ (min n.toNat k.bits)))
  | _ => Option.none
theorem bin_or (k : IntKind) (x y : Int) : bin .or k x y = some (bits .or k x y) := rfl
theorem bin_and (k : IntKind) (x y : Int) : bin .and k x y = some (bits .and k x y) := rfl
theorem bin_xor (k : IntKind) (x y : Int) : bin .xor k x y = some (bits .xor k x y) := rfl
theorem bin_andNot (k : IntKind) (x y : Int) : bin .andNot k x y = some (bits .andNot k x y) := rfl
theorem shr_div (k : IntKind) (m : Int) (n : Nat) (hn : n ≤ k.bits) : shiftI .shr k m (n : Int) = some (m / 2 ^ n) := by
  have h0 : ¬ ((n : Int) < 0) := by omega
  simp only [shiftI, if_neg h0, Int.toNat_natCast, Nat.min_eq_left hn]
  rw [Int.fdiv_eq_ediv_of_nonneg _ (by exact_mod_cast Nat.zero_le _)]
theorem shl_mul (k : IntKind) (m : Int) (n : Nat) (hn : n ≤ k.bits) : shiftI .shl k m (n : Int) = some (k.wrap (m * 2 ^ n)) := by
  have h0 : ¬ ((n : Int) < 0) := by omega
  simp only [shiftI, if_neg h0, Int.toNat_natCast, Nat.min_eq_left hn]
theorem u8_in {n : Int} (h : 0 ≤ n ∧ n ≤ 255) : IntKind.u8.wrap n = n := by rw [IntKind.wrap_u8]; omega
theorem i64_nat {n : Int} (h : 0 ≤ n ∧ n ≤ 9223372036854775807) : IntKind.i64.wrap n = n := by rw [IntKind.wrap_i64]; omega
theorem y_bin (hs : St N w0 σ bs1 a w) (hx : ev σ x = some (.int kk m)) (hy : ev σ y = some (.int kk n)) (hr : bin op kk m n = some q) : Y P w0 bs a (Oper.mk od (.binOp op t x y t') ty ps af gd) (.int kk q) := by
  intro w _
  cases op <;> simp only [bin, reduceCtorEq] at hr
  case quo =>
    split at hr
    · cases hr
    · rename_i h0; simp only [Option.some.injEq] at hr; subst hr; simp [execOp, hs.ev hx, hs.ev hy, eqGuard, binOp, Op.intDiv, h0]
  case rem =>
    split at hr
    · cases hr
    · rename_i h0; simp only [Option.some.injEq] at hr; subst hr; simp [execOp, hs.ev hx, hs.ev hy, eqGuard, binOp, Op.intDiv, h0]
  all_goals (simp only [Option.some.injEq] at hr; subst hr; simp [execOp, hs.ev hx, hs.ev hy, eqGuard, binOp, Op.intBits])
theorem y_shift (hs : St N w0 σ bs1 a w) (hx : ev σ x = some (.int kk m)) (hy : ev σ y = some (.int k2 n)) (hr : shiftI op kk m n = some q) : Y P w0 bs a (Oper.mk od (.binOp op t x y t') ty ps af gd) (.int kk q) := by
  intro w _
  cases op <;> simp only [shiftI, reduceCtorEq] at hr
  case shl =>
    split at hr
    · cases hr
    · rename_i h0; simp only [Option.some.injEq] at hr; subst hr; simp [execOp, hs.ev hx, hs.ev hy, eqGuard, binOp, Op.shift, h0]
  case shr =>
    split at hr
    · cases hr
    · rename_i h0; simp only [Option.some.injEq] at hr; subst hr; simp [execOp, hs.ev hx, hs.ev hy, eqGuard, binOp, Op.shift, h0]
theorem y_neg (hs : St N w0 σ bs1 a w) (hx : ev σ x = some (.int kk m)) : Y P w0 bs a (Oper.mk od (.unOp .neg t x) ty ps af gd) (.int kk (kk.wrap (0 - m))) :=
  fun w _ => by simp [execOp, hs.ev hx, Op.unary, Op.intArith]
theorem y_beqB {b1 b2 c : Bool} (hs : St N w0 σ bs1 a w) (ht : P.underlying t = some .bool) (hx : ev σ x = some (.bool b1)) (hy : ev σ y = some (.bool b2)) (hc : (b1 == b2) = c) : Y P w0 bs a (Oper.mk od (.binOp .eql t x y t') ty ps af gd) (.bool c) := by
  intro w _
  subst hc
  have h1 : ∀ k : Nat, (Op.equalIn (k + 1) t (.bool b1) (.bool b2)).run P w = .ok (b1 == b2) w := fun k => by
    simp [Op.equalIn, run_underlying ht]
  have he : (Op.equal t (.bool b1) (.bool b2)).run P w = .ok (b1 == b2) w := by
    simp only [Op.equal, Op.maxDepth]; exact h1 9999
  simp only [execOp, hs.ev hx, hs.ev hy, eqGuard, binOp]
  simp [he]
/-- An array's value out of its parts. -/
def buildInfoA (P : Program) (t : TypeId) : Option (Array Value × Nat) :=
  match P.info? t, P.underlying t with
  | some i, some (.array _ e) => match i.zero, P.info? e with
    | some z, some j => some (z.cells, j.size)
    | _, _ => Option.none
  | _, _ => Option.none
theorem y_arr {parts : Array (Nat × Operand)} {vs cl : List Value} {zc cs : Array Value} {size : Nat} (hs : St N w0 σ bs1 a w) (hi : buildInfoA P t = some (zc, size)) (hv : evs σ (parts.toList.map (·.2)) = some vs) (hf : fillG (fun i => some (i * size, size)) zc.toList ((parts.toList.map (·.1)).zip vs) = some cl) (hc : cl.toArray = cs) :
    Y P w0 bs a (Oper.mk od (.build t parts) ty ps af gd) (.agg cs) := by
  intro w _
  subst hc
  have e1 : (parts.map fun (p : Nat × Operand) => (p.1, a.eval p.2)).toList = (parts.toList.map (·.1)).zip vs := by
    rw [← hs.evs hv]
    simp [List.zip_map', List.map_map, Function.comp_def]
  have hfill := fill_of _ _ _ _ hf
  have e2 : execOp a.eval (Oper.mk od (.build t parts) ty ps af gd) = (do pure (.value (← Instr.build t (parts.map fun (p : Nat × Operand) => (p.1, a.eval p.2))))) := rfl
  unfold buildInfoA at hi
  split at hi
  · rename_i i n e hi1 hu
    split at hi
    · rename_i z j hz hj
      simp only [Option.some.injEq, Prod.mk.injEq] at hi
      obtain ⟨rfl, rfl⟩ := hi
      rw [e2]
      unfold Instr.build
      simp only [Sem.run_bind, zeroValue, typeInfo, run_program, Result.andThen_ok, hi1, hz, Sem.run_pure, run_underlying hu, sizeOf, hj, e1, hfill]
    · cases hi
  · cases hi
/-- An array's element. -/
theorem y_idxArr {e : TypeId} {dsc : TypeDesc} {len : Nat} {cs : Array Value} (hs : St N w0 σ bs1 a w) (ht : P.underlying t = some (.array len e)) (hu : P.underlying e = some dsc) (hsc : scalarD dsc = true) (hi : (P.info? e).map (·.size) = some 1) (hx : ev σ x = some (.agg cs)) (hy : ev σ y = some (.int kk m)) (h0 : 0 ≤ m) (h1 : m < len) (hv : nthV cs.toList m.toNat = some v) :
    Y P w0 bs a (Oper.mk od (.index t x y) ty ps af gd) v := by
  intro w _
  have hsz : (sizeOf e).run P w = .ok 1 w := by
    cases h2 : P.info? e with
    | none => simp [h2] at hi
    | some i => simp [h2] at hi; simp [sizeOf, typeInfo, h2, hi]
  have hv' : cs[m.toNat]? = some v := by rw [← Array.getElem?_toList, ← nthV_eq]; exact hv
  simp [execOp, hs.ev hx, hs.ev hy, Instr.index, asIntOf, run_underlying ht, h0, h1, hsz, part, run_isAgg hu, hsc, hv']
/-- The address of an array's element. -/
theorem y_idxP {e : TypeId} {len g k off size : Nat} (hs : St N w0 σ bs1 a w) (ht : P.underlying t = some (.array len e)) (hi : (P.info? e).map (·.size) = some size) (hx : ev σ x = some (.pointer (some ⟨g, k, Option.none⟩))) (hy : ev σ y = some (.int kk m)) (h0 : 0 ≤ m) (h1 : m < len) (ho : k + m.toNat * size = off) :
    Y P w0 bs a (Oper.mk od (.indexAddr t x y) ty ps af gd) (.pointer (some ⟨g, off, Option.none⟩)) := by
  intro w _
  subst ho
  have hsz : (sizeOf e).run P w = .ok size w := by
    cases h2 : P.info? e with
    | none => simp [h2] at hi
    | some i => simp [h2] at hi; simp [sizeOf, typeInfo, h2, hi]
  have hadd : (⟨g, k, Option.none⟩ : Addr).add (m.toNat * size) = ⟨g, k + m.toNat * size, Option.none⟩ := by unfold Addr.add; split <;> simp_all
  simp [execOp, hs.ev hx, hs.ev hy, Instr.indexAt, Instr.sureAddr, asIntOf, run_underlying ht, h0, h1, hsz, hadd]
/-- A field of a struct's value. -/
theorem y_field {cs : Array Value} {f : Nat} {dsc : TypeDesc} {fl : Field} {fs : Array Field} (hs : St N w0 σ bs1 a w) (ht : P.underlying t = some (.struct fs)) (hf : fs[f]? = some fl) (hu : P.underlying fl.type = some dsc) (hsc : scalarD dsc = true) (hx : ev σ x = some (.agg cs)) (hv : nthV cs.toList fl.offset = some v) :
    Y P w0 bs a (Oper.mk od (.field t x f) ty ps af gd) v := by
  intro w _
  have hv' : cs[fl.offset]? = some v := by rw [← Array.getElem?_toList, ← nthV_eq]; exact hv
  simp [execOp, hs.ev hx, Instr.field, run_underlying ht, hf, part, run_isAgg hu, hsc, hv', asAgg]
/-- The front of a slice. -/
theorem y_sliceF {e : TypeId} {A : Option Addr} {l c size : Nat} {z : Operand} {k3 : IntKind} {h : Nat} (hs : St N w0 σ bs1 a w) (ht : P.underlying t = some (.slice e)) (hi : (P.info? e).map (·.size) = some size) (hx : ev σ x = some (.slice A l c)) (hz : ev σ z = some (.int k3 n)) (hn : n = (h : Int)) (hc : h ≤ c) :
    Y P w0 bs a (Oper.mk od (.slice t x Option.none (some z) Option.none) ty ps af gd) (.slice A h c) := by
  intro w _
  have hsz : (sizeOf e).run P w = .ok size w := by
    cases h2 : P.info? e with
    | none => simp [h2] at hi
    | some i => simp [h2] at hi; simp [sizeOf, typeInfo, h2, hi]
  subst hn
  have hadd : ∀ ad : Addr, ad.add 0 = ad := fun ad => by unfold Addr.add; split <;> simp_all
  have hmap : A.map (fun ad : Addr => ad.add 0) = A := by cases A <;> simp [hadd]
  simp [execOp, hs.ev hx, hs.ev hz, Instr.sliceAt, Instr.slice, Instr.sliceBounds, Instr.sliceBound, asIntOf, run_underlying ht, hc, hsz, hadd, hmap]
/-- What is behind in a slice. -/
theorem y_sliceT {e : TypeId} {A : Option Addr} {l c size : Nat} {k1 : IntKind} {h : Nat} (hs : St N w0 σ bs1 a w) (ht : P.underlying t = some (.slice e)) (hi : (P.info? e).map (·.size) = some size) (hx : ev σ x = some (.slice A l c)) (hy : ev σ y = some (.int k1 m)) (hm : m = (h : Int)) (hl : h ≤ l) (hc : l ≤ c) :
    Y P w0 bs a (Oper.mk od (.slice t x (some y) Option.none Option.none) ty ps af gd) (.slice (if c = h then A else A.map (·.add (h * size))) (l - h) (c - h)) := by
  intro w _
  have hsz : (sizeOf e).run P w = .ok size w := by
    cases h2 : P.info? e with
    | none => simp [h2] at hi
    | some i => simp [h2] at hi; simp [sizeOf, typeInfo, h2, hi]
  subst hm
  simp [execOp, hs.ev hx, hs.ev hy, Instr.sliceAt, Instr.slice, Instr.sliceBounds, Instr.sliceBound, asIntOf, run_underlying ht, hl, hsz]
/-- append of a slice whose cells are known to a slice of the call's own. -/
theorem e_appendV {s1 x1 : Operand} {e : TypeId} {z : Value} {size bytes n1 m1 c1 : Nat} {ad : Addr} {A : Value} {xs news : List Value} {bs' : List Res} (k1 : Nat) (h1 : takeAt bs k1 = some (row e size A n1 xs, bs')) (hs : St N w0 σ bs a w) (hN : Nat.blt d N = true)
    (ht : P.underlying t = some (.slice e)) (hinfo : (P.info? e).map (fun i => (i.zero, i.size, i.bytes)) = some (some z, size, bytes)) (hzs : z.cells.size = size) (hsz : Nat.blt 0 size = true)
    (hx : ev σ s1 = some A) (hy : ev σ x1 = some (.slice (some ad) m1 c1)) (hnews : ∀ w, H w0 bs w → ∀ j u, news[j]? = some u → w.cell? (ad.add j) = some u) (hl : news.length = m1 * size) (ho : ∀ u ∈ news, u.oneCell' = true) (h63 : n1 + m1 ≤ maxLen) (hb : (n1 + m1) * bytes ≤ 140737488355328)
    (k : ∀ A' c' a w, St N w0 ((d, .slice A' (n1 + m1) c') :: σ) (row e size (.slice A' (n1 + m1) c') (n1 + m1) (xs ++ news) :: bs') a w → K a w) : (Oper.mk (some d) (.call { callee := .builtin .append, args := #[s1, x1], argTypes := #[t, t] }) ty ps af gd).wp P a w K Q := by
  obtain ⟨i, hi, hz, hsize, hby⟩ : ∃ i, P.info? e = some i ∧ i.zero = some z ∧ i.size = size ∧ i.bytes = bytes := by
    cases h3 : P.info? e with
    | none => rw [h3] at hinfo; cases hinfo
    | some i =>
      rw [h3] at hinfo
      simp only [Option.map_some, Option.some.injEq, Prod.mk.injEq] at hinfo
      exact ⟨i, rfl, hinfo.1, hinfo.2.1, hinfo.2.2⟩
  have hm1 := hs.mem.to k1 h1
  have hrow : w.ownsRow 0 e size A n1 xs := (hm1.own _ (.head _)).1
  obtain ⟨v', w', hr, hown, hgr, hbl⟩ := run_append_at (P := P) w t ty e i z size bytes ht hi hz hsize hby hzs (by simpa using hsz) A n1 xs hrow ad m1 c1 news hl (hnews w hs.mem) ho h63 hb
  have hshape : ∃ A' c', v' = .slice A' (n1 + m1) c' := by
    rcases hown.2 with ⟨hv, hn⟩ | ⟨g', cap, cur, hv, _⟩
    · exact ⟨Option.none, 0, by rw [hv, hn]⟩
    · exact ⟨_, _, hv⟩
  obtain ⟨A', c', rfl⟩ := hshape
  unfold Oper.wp execOp
  simp only [resolve, invoke, builtin, Sem.run_bind, Sem.run_pure, Result.andThen_ok, List.map_toArray, List.map_cons, List.map_nil, hs.ev hx, hs.ev hy, hr]
  rw [Oper.upon_value]
  exact k A' c' _ _ ((hs.mem_to (hm1.upd hgr.os hgr.tape hgr.output hgr.size (fun k hk hne => hgr.block k hk (fun e2 => hne e2.symm)) hown (fun g' hg' => ⟨hbl g' hg', (hown.lt g' hg').2⟩))).put (by simpa using hN) _)
end
end Go.Proofs.YtibaidddhmdafaaDoor.E
