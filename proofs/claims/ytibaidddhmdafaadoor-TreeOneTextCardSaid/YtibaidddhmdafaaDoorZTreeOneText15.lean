/- What YtibaidddhmdafaaDoorRTreeOneText's proof reaches of its texts, part 15. Conditions: as each says. -/
import Derived.ArgAppend
import Derived.Below
import Derived.BigCall
import Derived.BigQuiet
import Derived.Deep.AppendLies
import Derived.Deep.CutBlock
import Derived.Deep.DeepCutAuto
import Derived.Deep.Draws
import Derived.Deep.LoopGhost
import Derived.Deep.OwnRows
import Derived.Deep.QuietTactic
import Derived.Deep.RegionHeld3
import Derived.Deep.WholeRow
import Derived.KernelRfl
import Derived.Laws.AppendOwn
import Derived.Laws.BitsLemmas
import Derived.Laws.BytesArg
import Derived.Laws.CopyRow
import Derived.Laws.Externs
import Derived.Laws.IdiomCopy
import Derived.Laws.MakeOwn
import Derived.Laws.OwnMore
import Derived.Laws.Rows
import Derived.Laws.Slices
import Derived.Laws.StructEq
import Derived.Laws.Tables
import Derived.Lib.AppendStr
import Derived.Lib.Builder
import Derived.Lib.Bytealg
import Derived.Lib.ConvBytes
import Derived.Lib.LaidTab
import Derived.Lib.Strings
import Derived.Lib.Walk
import Derived.Maps.AppendAt
import Derived.OrdersHeld
import Derived.OwnWalk
import Derived.RowKit
import Derived.RowKit3
import Derived.ScopeJumps
import Derived.Tactics
import Derived.Test.YtibaidddhmdafaaDoorProg
import Derived.WalkKit
import Derived.WideLaws
import Derived.Test.YtibaidddhmdafaaDoorZTreeOneText12
section
namespace Go.Proofs.YtibaidddhmdafaaDoor.E
open Go Go.RowKit Go.Proofs.YtibaidddhmdafaaDoorW.PrintWords Go.Proofs.YtibaidddhmdafaaDoorW.PrintLast Go.Proofs.YtibaidddhmdafaaDoorW.PrintMore Go.Proofs.YtibaidddhmdafaaDoor.PA
set_option linter.unusedVariables false
set_option linter.unusedSimpArgs false
section
variable {P : Program} {N : Nat} {w0 w : World} {σ : List (Nat × Value)} {bs bs1 : List Res} {a : Act} {x y : Operand}
variable {t t' ty : TypeId} {ps : String} {af : Array Edge} {gd : Option (Nat × Bool)} {od : Option Nat} {ats : Array TypeId}
/-- The greater of two numbers. -/
theorem y_max {kk : IntKind} {m n : Int} (hs : St N w0 σ bs1 a w) (hx : ev σ x = some (.int kk m)) (hy : ev σ y = some (.int kk n)) : Y P w0 bs a (Oper.mk od (.call { callee := .builtin .max, args := #[x, y], argTypes := ats }) ty ps af gd) (.int kk (if m < n then n else m)) := by
  refine y_any (f := Next.value <$> Builtin.max_ ats ty #[Value.int kk m, .int kk n]) ?_ (fun w _ => ?_)
  · simp [execOp, resolve, invoke, builtin, hs.ev hx, hs.ev hy]
  · rw [max_two, max2_int]; rfl
/-- Is a text not empty? -/
theorem y_sneE {s1 : ByteArray} (hs : St N w0 σ bs1 a w) (hx : ev σ x = some (.string s1)) (hy : ev σ y = some (.string ⟨#[]⟩)) : Y P w0 bs a (Oper.mk od (.binOp .neq t x y t') ty ps af gd) (.bool (decide (¬ s1.size = 0))) := by
  have h := y_sne (P := P) (bs := bs) (t := t) (t' := t') (ty := ty) (ps := ps) (af := af) (gd := gd) (od := od) hs hx hy
  have e : (!(s1.toList == (⟨#[]⟩ : ByteArray).toList)) = decide (¬ s1.size = 0) := by
    rw [ByteArray.toList_eq, ByteArray.toList_eq]
    have h1 : s1.data.toList.length = s1.size := rfl
    cases h2 : s1.data.toList with
    | nil => rw [h2] at h1; simp only [List.length_nil] at h1; rw [decide_eq_false (by omega)]; rfl
    | cons c r => rw [h2] at h1; simp only [List.length_cons] at h1; rw [decide_eq_true (by omega)]; rfl
  rw [e] at h; exact h
end
/-- Where an element's cells stand, whatever they are. -/
theorem C_atG {α : Type} {d : Kd α} (hsz : 0 < d.sz) {A : Option Addr} {n : Nat} {l : List α} {w : World} (h : Kd.C d w A n l) (h0 : 0 < n) :
    ∃ g o, A = some ⟨g, o, none⟩ ∧ ∀ i t, l[i]? = some t → ∃ cs, d.K w t cs ∧ ∀ (w' : World), Below w.heap.size w w' → ∀ j v, cs[j]? = some v → w'.cell? ⟨g, o + i * d.sz + j, none⟩ = some v := by
  obtain ⟨hl, _, hc⟩ := h
  obtain ⟨ad, hA, hr⟩ := hc h0
  obtain ⟨g, o, sp⟩ := ad
  have hlt : 0 < l.length := by omega
  obtain ⟨c0, hlen0, hK0, hc0⟩ := hr 0 (l[0]'hlt) (List.getElem?_eq_getElem hlt)
  obtain ⟨v0, hv0⟩ : ∃ v, c0[0]? = some v := ⟨_, List.getElem?_eq_getElem (by omega)⟩
  have hz := hc0 0 _ hv0
  have hsp : sp = none := by simpa [Addr.add] using World.cell?_spot hz
  subst hsp
  refine ⟨g, o, hA, fun i t ht => ?_⟩
  obtain ⟨c, hlen, hKt, hcc⟩ := hr i t ht
  refine ⟨c, hKt, fun w' hb j v hv => ?_⟩
  have hcell := hcc j v hv
  have hadd : (⟨g, o, none⟩ : Addr).add (i * d.sz + j) = ⟨g, o + i * d.sz + j, none⟩ := by
    unfold Addr.add; split
    · rename_i h0; rw [Nat.add_assoc, h0]; rfl
    · rw [Nat.add_assoc]
  have hcell' : w.cell? ((⟨g, o, none⟩ : Addr).add (i * d.sz + j)) = some v := hcell
  rw [hadd] at hcell'
  rw [World.cell?_of_block (w := w) (hb.block g (World.block_lt_of_cell? w _ hcell'))]
  exact hcell'
/-- A block read as a list whose elements hold slices. -/
theorem H.ptCG {α : Type} {d : Kd α} {w0 w : World} {g : Nat} {l : List α} {cs : Array Value} {t : TypeId} {bs : List Res} (h : H w0 (pt g cs t :: bs) w) (hb : l.length ≤ 9223372036854775807) (enc : Nat → List Value)
    (hK : ∀ i x, l[i]? = some x → d.K w x (enc i) ∧ (enc i).length = d.sz ∧ ∀ j v, (enc i)[j]? = some v → nthV cs.toList (i * d.sz + j) = some v) : Kd.C d w (some ⟨g, 0, none⟩) l.length l :=
  ⟨rfl, hb, fun _ => ⟨_, rfl, fun j p hj => ⟨enc j, (hK j p hj).2.1, (hK j p hj).1, fun i u hu => by
    rw [add_plain]
    exact h.cellV ((hK j p hj).2.2 i u hu)⟩⟩⟩
theorem nilC {α : Type} (d : Kd α) (w : World) : Kd.C d w none 0 [] := ⟨rfl, by decide, fun h => absurd h (by decide)⟩
end Go.Proofs.YtibaidddhmdafaaDoor.E
end
section
namespace Go.Proofs.YtibaidddhmdafaaDoor.E
open Go Go.RowKit Go.Proofs.YtibaidddhmdafaaDoorW.PrintWords Go.Proofs.YtibaidddhmdafaaDoorW.PrintLast Go.Proofs.YtibaidddhmdafaaDoorW.PrintMore Go.Proofs.YtibaidddhmdafaaDoor.PA
set_option linter.unusedVariables false
set_option linter.unusedSimpArgs false
theorem C_atH {α : Type} {d : Kd α} (hsz : 0 < d.sz) {A : Option Addr} {n : Nat} {l : List α} {w : World} (h : Kd.C d w A n l) (h0 : 0 < n) :
    ∃ g o, A = some ⟨g, o, none⟩ ∧ ∀ i t, l[i]? = some t → ∃ cs, d.K w t cs ∧ cs.length = d.sz ∧ ∀ (w' : World), Below w.heap.size w w' → ∀ j v, cs[j]? = some v → w'.cell? ⟨g, o + i * d.sz + j, none⟩ = some v := by
  obtain ⟨g, o, hA, hr⟩ := C_atG hsz h h0
  obtain ⟨hl, hb, hc⟩ := h
  obtain ⟨ad, hA', hr'⟩ := hc h0
  rw [hA] at hA'
  obtain rfl := Option.some.inj hA'
  refine ⟨g, o, hA, fun i t ht => ?_⟩
  obtain ⟨c, hlen, hKt, hcc⟩ := hr' i t ht
  refine ⟨c, hKt, hlen, fun w' hb j v hv => ?_⟩
  have hcell := hcc j v hv
  have hadd : (⟨g, o, none⟩ : Addr).add (i * d.sz + j) = ⟨g, o + i * d.sz + j, none⟩ := by
    unfold Addr.add; split
    · rename_i h0; rw [Nat.add_assoc, h0]; rfl
    · rw [Nat.add_assoc]
  have hcell' : w.cell? ((⟨g, o, none⟩ : Addr).add (i * d.sz + j)) = some v := hcell
  rw [hadd] at hcell'
  rw [World.cell?_of_block (w := w) (hb.block g (World.block_lt_of_cell? w _ hcell'))]
  exact hcell'
theorem C_len {α : Type} {d : Kd α} {A : Option Addr} {l : List α} {w : World} (h : Kd.C d w A l.length l) : l.length ≤ 9223372036854775807 := h.2.1
section
variable {P : Program} {N : Nat} {w0 w : World} {σ : List (Nat × Value)} {bs bs1 : List Res} {a : Act} {x y : Operand}
variable {t t' ty : TypeId} {ps : String} {af : Array Edge} {gd : Option (Nat × Bool)} {od : Option Nat}
theorem y_bneB {b1 b2 c : Bool} (hs : St N w0 σ bs1 a w) (ht : P.underlying t = some .bool) (hx : ev σ x = some (.bool b1)) (hy : ev σ y = some (.bool b2)) (hc : (!(b1 == b2)) = c) : Y P w0 bs a (Oper.mk od (.binOp .neq t x y t') ty ps af gd) (.bool c) := by
  intro w _
  subst hc
  have h1 : ∀ k : Nat, (Op.equalIn (k + 1) t (.bool b1) (.bool b2)).run P w = .ok (b1 == b2) w := fun k => by
    simp [Op.equalIn, run_underlying ht]
  have he : (Op.equal t (.bool b1) (.bool b2)).run P w = .ok (b1 == b2) w := by
    simp only [Op.equal, Op.maxDepth]; exact h1 9999
  simp only [execOp, hs.ev hx, hs.ev hy, eqGuard, binOp]
  simp [he]
/-- Is a text empty? -/
theorem y_seqE {s1 : ByteArray} (hs : St N w0 σ bs1 a w) (hx : ev σ x = some (.string s1)) (hy : ev σ y = some (.string ⟨#[]⟩)) : Y P w0 bs a (Oper.mk od (.binOp .eql t x y t') ty ps af gd) (.bool (decide (s1.size = 0))) := by
  have h := y_seq (P := P) (bs := bs) (t := t) (t' := t') (ty := ty) (ps := ps) (af := af) (gd := gd) (od := od) hs hx hy
  have e : (s1.toList == (⟨#[]⟩ : ByteArray).toList) = decide (s1.size = 0) := by
    rw [ByteArray.toList_eq, ByteArray.toList_eq]
    have h1 : s1.data.toList.length = s1.size := rfl
    cases h2 : s1.data.toList with
    | nil => rw [h2] at h1; simp only [List.length_nil] at h1; rw [decide_eq_true (by omega)]; rfl
    | cons c r => rw [h2] at h1; simp only [List.length_cons] at h1; rw [decide_eq_false (by omega)]; rfl
  rw [e] at h; exact h
end
/-- A search: whether all elements are well, and what is left behind. -/
def xlist {α : Type} (st : α → Int → Bool × Int) : List α → Int → Bool × Int
  | [], left => (true, left)
  | p :: r, left => if (st p left).1 = true then xlist st r (st p left).2 else (false, (st p left).2)
def fallsB (r : Bool × Int) (l : Int) : Prop := -1 ≤ r.2 ∧ r.2 ≤ l ∧ (r.1 = true → 0 ≤ r.2)
theorem xlist_left {α : Type} {st : α → Int → Bool × Int} : ∀ (l : List α) (left : Int), (∀ p ∈ l, ∀ lf, 0 ≤ lf → fallsB (st p lf) lf) → 0 ≤ left → fallsB (xlist st l left) left
  | [], left, _, h => ⟨by show -1 ≤ left; omega, Int.le_refl _, fun _ => h⟩
  | p :: r, left, hst, h => by
    obtain ⟨a, b, c⟩ := hst p (.head _) left h
    rw [xlist]
    split
    · rename_i h1
      obtain ⟨x, y, z⟩ := xlist_left r (st p left).2 (fun q hq => hst q (.tail _ hq)) (c h1)
      exact ⟨x, by omega, z⟩
    · exact ⟨a, b, fun h => by cases h⟩
end Go.Proofs.YtibaidddhmdafaaDoor.E
end
