/- What YtibaidddhmdafaaDoorRTreeFresh's proof reaches of its texts, part 15. Conditions: as each says. -/
import Derived.ArgAppend
import Derived.Below
import Derived.BigCall
import Derived.BigQuiet
import Derived.Deep.AppendLies
import Derived.Deep.CutBlock
import Derived.Deep.DeepCutAuto
import Derived.Deep.Draws
import Derived.Deep.LoopGhost
import Derived.Deep.OwnRows
import Derived.Deep.QuietTactic
import Derived.Deep.RegionHeld3
import Derived.Deep.WholeRow
import Derived.KernelRfl
import Derived.Laws.AppendOwn
import Derived.Laws.BitsLemmas
import Derived.Laws.BytesArg
import Derived.Laws.CopyRow
import Derived.Laws.Externs
import Derived.Laws.IdiomCopy
import Derived.Laws.MakeOwn
import Derived.Laws.OwnMore
import Derived.Laws.Rows
import Derived.Laws.Slices
import Derived.Laws.StructEq
import Derived.Laws.Tables
import Derived.Lib.AppendStr
import Derived.Lib.Builder
import Derived.Lib.Bytealg
import Derived.Lib.ConvBytes
import Derived.Lib.LaidTab
import Derived.Lib.Strings
import Derived.Lib.Walk
import Derived.Maps.AppendAt
import Derived.OrdersHeld
import Derived.OwnWalk
import Derived.RowKit
import Derived.RowKit3
import Derived.ScopeJumps
import Derived.Tactics
import Derived.Test.YtibaidddhmdafaaDoorProg
import Derived.WalkKit
import Derived.WideLaws
import Derived.Test.YtibaidddhmdafaaDoorZTreeFresh12
section
namespace Go.Proofs.YtibaidddhmdafaaDoor.E
open Go Go.RowKit Go.Proofs.YtibaidddhmdafaaDoorW.PrintWords Go.Proofs.YtibaidddhmdafaaDoorW.PrintLast Go.Proofs.YtibaidddhmdafaaDoorW.PrintMore Go.Proofs.YtibaidddhmdafaaDoor.PA
set_option linter.unusedVariables false
set_option linter.unusedSimpArgs false
section
variable {P : Program} {N : Nat} {w0 w : World} {σ : List (Nat × Value)} {bs bs1 : List Res} {a : Act} {x y : Operand}
variable {t t' ty : TypeId} {ps : String} {af : Array Edge} {gd : Option (Nat × Bool)} {od : Option Nat} {ats : Array TypeId}
/-- The greater of two numbers. -/
theorem y_max {kk : IntKind} {m n : Int} (hs : St N w0 σ bs1 a w) (hx : ev σ x = some (.int kk m)) (hy : ev σ y = some (.int kk n)) : Y P w0 bs a (Oper.mk od (.call { callee := .builtin .max, args := #[x, y], argTypes := ats }) ty ps af gd) (.int kk (if m < n then n else m)) := by
  refine y_any (f := Next.value <$> Builtin.max_ ats ty #[Value.int kk m, .int kk n]) ?_ (fun w _ => ?_)
  · simp [execOp, resolve, invoke, builtin, hs.ev hx, hs.ev hy]
  · rw [max_two, max2_int]; rfl
/-- Is a text not empty? -/
theorem y_sneE {s1 : ByteArray} (hs : St N w0 σ bs1 a w) (hx : ev σ x = some (.string s1)) (hy : ev σ y = some (.string ⟨#[]⟩)) : Y P w0 bs a (Oper.mk od (.binOp .neq t x y t') ty ps af gd) (.bool (decide (¬ s1.size = 0))) := by
  have h := y_sne (P := P) (bs := bs) (t := t) (t' := t') (ty := ty) (ps := ps) (af := af) (gd := gd) (od := od) hs hx hy
  have e : (!(s1.toList == (⟨#[]⟩ : ByteArray).toList)) = decide (¬ s1.size = 0) := by
    rw [ByteArray.toList_eq, ByteArray.toList_eq]
    have h1 : s1.data.toList.length = s1.size := rfl
    cases h2 : s1.data.toList with
    | nil => rw [h2] at h1; simp only [List.length_nil] at h1; rw [decide_eq_false (by omega)]; rfl
    | cons c r => rw [h2] at h1; simp only [List.length_cons] at h1; rw [decide_eq_true (by omega)]; rfl
  rw [e] at h; exact h
end
/-- Where an element's cells stand, whatever they are. -/
theorem C_atG {α : Type} {d : Kd α} (hsz : 0 < d.sz) {A : Option Addr} {n : Nat} {l : List α} {w : World} (h : Kd.C d w A n l) (h0 : 0 < n) :
    ∃ g o, A = some ⟨g, o, none⟩ ∧ ∀ i t, l[i]? = some t → ∃ cs, d.K w t cs ∧ ∀ (w' : World), Below w.heap.size w w' → ∀ j v, cs[j]? = some v → w'.cell? ⟨g, o + i * d.sz + j, none⟩ = some v := by
  obtain ⟨hl, _, hc⟩ := h
  obtain ⟨ad, hA, hr⟩ := hc h0
  obtain ⟨g, o, sp⟩ := ad
  have hlt : 0 < l.length := by omega
  obtain ⟨c0, hlen0, hK0, hc0⟩ := hr 0 (l[0]'hlt) (List.getElem?_eq_getElem hlt)
  obtain ⟨v0, hv0⟩ : ∃ v, c0[0]? = some v := ⟨_, List.getElem?_eq_getElem (by omega)⟩
  have hz := hc0 0 _ hv0
  have hsp : sp = none := by simpa [Addr.add] using World.cell?_spot hz
  subst hsp
  refine ⟨g, o, hA, fun i t ht => ?_⟩
  obtain ⟨c, hlen, hKt, hcc⟩ := hr i t ht
  refine ⟨c, hKt, fun w' hb j v hv => ?_⟩
  have hcell := hcc j v hv
  have hadd : (⟨g, o, none⟩ : Addr).add (i * d.sz + j) = ⟨g, o + i * d.sz + j, none⟩ := by
    unfold Addr.add; split
    · rename_i h0; rw [Nat.add_assoc, h0]; rfl
    · rw [Nat.add_assoc]
  have hcell' : w.cell? ((⟨g, o, none⟩ : Addr).add (i * d.sz + j)) = some v := hcell
  rw [hadd] at hcell'
  rw [World.cell?_of_block (w := w) (hb.block g (World.block_lt_of_cell? w _ hcell'))]
  exact hcell'
/-- A block read as a list whose elements hold slices. -/
theorem H.ptCG {α : Type} {d : Kd α} {w0 w : World} {g : Nat} {l : List α} {cs : Array Value} {t : TypeId} {bs : List Res} (h : H w0 (pt g cs t :: bs) w) (hb : l.length ≤ 9223372036854775807) (enc : Nat → List Value)
    (hK : ∀ i x, l[i]? = some x → d.K w x (enc i) ∧ (enc i).length = d.sz ∧ ∀ j v, (enc i)[j]? = some v → nthV cs.toList (i * d.sz + j) = some v) : Kd.C d w (some ⟨g, 0, none⟩) l.length l :=
  ⟨rfl, hb, fun _ => ⟨_, rfl, fun j p hj => ⟨enc j, (hK j p hj).2.1, (hK j p hj).1, fun i u hu => by
    rw [add_plain]
    exact h.cellV ((hK j p hj).2.2 i u hu)⟩⟩⟩
theorem nilC {α : Type} (d : Kd α) (w : World) : Kd.C d w none 0 [] := ⟨rfl, by decide, fun h => absurd h (by decide)⟩
end Go.Proofs.YtibaidddhmdafaaDoor.E
end
section
namespace Go.Proofs.YtibaidddhmdafaaDoor.E
open Go Go.RowKit Go.Proofs.YtibaidddhmdafaaDoorW.PrintWords Go.Proofs.YtibaidddhmdafaaDoorW.PrintLast Go.Proofs.YtibaidddhmdafaaDoorW.PrintMore Go.Proofs.YtibaidddhmdafaaDoor.PA
set_option linter.unusedVariables false
set_option linter.unusedSimpArgs false
theorem C_atH {α : Type} {d : Kd α} (hsz : 0 < d.sz) {A : Option Addr} {n : Nat} {l : List α} {w : World} (h : Kd.C d w A n l) (h0 : 0 < n) :
    ∃ g o, A = some ⟨g, o, none⟩ ∧ ∀ i t, l[i]? = some t → ∃ cs, d.K w t cs ∧ cs.length = d.sz ∧ ∀ (w' : World), Below w.heap.size w w' → ∀ j v, cs[j]? = some v → w'.cell? ⟨g, o + i * d.sz + j, none⟩ = some v := by
  obtain ⟨g, o, hA, hr⟩ := C_atG hsz h h0
  obtain ⟨hl, hb, hc⟩ := h
  obtain ⟨ad, hA', hr'⟩ := hc h0
  rw [hA] at hA'
  obtain rfl := Option.some.inj hA'
  refine ⟨g, o, hA, fun i t ht => ?_⟩
  obtain ⟨c, hlen, hKt, hcc⟩ := hr' i t ht
  refine ⟨c, hKt, hlen, fun w' hb j v hv => ?_⟩
  have hcell := hcc j v hv
  have hadd : (⟨g, o, none⟩ : Addr).add (i * d.sz + j) = ⟨g, o + i * d.sz + j, none⟩ := by
    unfold Addr.add; split
    · rename_i h0; rw [Nat.add_assoc, h0]; rfl
    · rw [Nat.add_assoc]
  have hcell' : w.cell? ((⟨g, o, none⟩ : Addr).add (i * d.sz + j)) = some v := hcell
  rw [hadd] at hcell'
  rw [World.cell?_of_block (w := w) (hb.block g (World.block_lt_of_cell? w _ hcell'))]
  exact hcell'
theorem C_len {α : Type} {d : Kd α} {A : Option Addr} {l : List α} {w : World} (h : Kd.C d w A l.length l) : l.length ≤ 9223372036854775807 := h.2.1
section
variable {P : Program} {N : Nat} {w0 w : World} {σ : List (Nat × Value)} {bs bs1 : List Res} {a : Act} {x y : Operand}
variable {t t' ty : TypeId} {ps : String} {af : Array Edge} {gd : Option (Nat × Bool)} {od : Option Nat}
theorem y_bneB {b1 b2 c : Bool} (hs : St N w0 σ bs1 a w) (ht : P.underlying t = some .bool) (hx : ev σ x = some (.bool b1)) (hy : ev σ y = some (.bool b2)) (hc : (!(b1 == b2)) = c) : Y P w0 bs a (Oper.mk od (.binOp .neq t x y t') ty ps af gd) (.bool c) := by
  intro w _
  subst hc
  have h1 : ∀ k : Nat, (Op.equalIn (k + 1) t (.bool b1) (.bool b2)).run P w = .ok (b1 == b2) w := fun k => by
    simp [Op.equalIn, run_underlying ht]
  have he : (Op.equal t (.bool b1) (.bool b2)).run P w = .ok (b1 == b2) w := by
    simp only [Op.equal, Op.maxDepth]; exact h1 9999
  simp only [execOp, hs.ev hx, hs.ev hy, eqGuard, binOp]
  simp [he]
/-- Is a text empty? -/
theorem y_seqE {s1 : ByteArray} (hs : St N w0 σ bs1 a w) (hx : ev σ x = some (.string s1)) (hy : ev σ y = some (.string ⟨#[]⟩)) : Y P w0 bs a (Oper.mk od (.binOp .eql t x y t') ty ps af gd) (.bool (decide (s1.size = 0))) := by
  have h := y_seq (P := P) (bs := bs) (t := t) (t' := t') (ty := ty) (ps := ps) (af := af) (gd := gd) (od := od) hs hx hy
  have e : (s1.toList == (⟨#[]⟩ : ByteArray).toList) = decide (s1.size = 0) := by
    rw [ByteArray.toList_eq, ByteArray.toList_eq]
    have h1 : s1.data.toList.length = s1.size := rfl
    cases h2 : s1.data.toList with
    | nil => rw [h2] at h1; simp only [List.length_nil] at h1; rw [decide_eq_true (by omega)]; rfl
    | cons c r => rw [h2] at h1; simp only [List.length_cons] at h1; rw [decide_eq_false (by omega)]; rfl
  rw [e] at h; exact h
end
/-- A search: whether all elements are well, and what is left behind. -/
def xlist {α : Type} (st : α → Int → Bool × Int) : List α → Int → Bool × Int
  | [], left => (true, left)
  | p :: r, left => if (st p left).1 = true then xlist st r (st p left).2 else (false, (st p left).2)
def fallsB (r : Bool × Int) (l : Int) : Prop := -1 ≤ r.2 ∧ r.2 ≤ l ∧ (r.1 = true → 0 ≤ r.2)
theorem xlist_left {α : Type} {st : α → Int → Bool × Int} : ∀ (l : List α) (left : Int), (∀ p ∈ l, ∀ lf, 0 ≤ lf → fallsB (st p lf) lf) → 0 ≤ left → fallsB (xlist st l left) left
  | [], left, _, h => ⟨by show -1 ≤ left; omega, Int.le_refl _, fun _ => h⟩
  | p :: r, left, hst, h => by
    obtain ⟨a, b, c⟩ := hst p (.head _) left h
    rw [xlist]
    split
    · rename_i h1
      obtain ⟨x, y, z⟩ := xlist_left r (st p left).2 (fun q hq => hst q (.tail _ hq)) (c h1)
      exact ⟨x, by omega, z⟩
    · exact ⟨a, b, fun h => by cases h⟩
end Go.Proofs.YtibaidddhmdafaaDoor.E
end
section
namespace Go.Proofs.YtibaidddhmdafaaDoor.E
open Go Go.RowKit Go.Proofs.YtibaidddhmdafaaDoorW.PrintWords Go.Proofs.YtibaidddhmdafaaDoorW.PrintLast Go.Proofs.YtibaidddhmdafaaDoorW.PrintMore Go.Proofs.YtibaidddhmdafaaDoor.PA
set_option linter.unusedVariables false
set_option linter.unusedSimpArgs false
section
variable {α β γ : Type}
/-- Elements made: their cells, and what stands behind them in the blocks S. -/
def inn (b : Nat) (d : Kd α) (S : Nat → Prop) (xs : List α) (cs : List Value) : Res where
  dep := S
  holds w := Reps (d.M w b S) d.sz xs cs
  keep _ _ h hw := hw.imp_ (fun _ _ hp => d.M_move h hp)
/-- One element made. -/
def elm (b : Nat) (d : Kd α) (S : Nat → Prop) (x : α) (cs : List Value) : Res where
  dep := S
  holds w := d.M w b S x cs
  keep _ _ h hw := d.M_move h hw
/-- A list made. -/
def tr (b : Nat) (d : Kd α) (e : Nat) (S : Nat → Prop) (v : Value) (xs : List α) : Res where
  dep := S
  holds w := Kd.R d e w b S v xs
  keep _ _ h hw := Kd.R_move hw h
variable {d : Kd α} {w0 w w1 : World} {bs : List Res}
theorem H.addTr {e : Nat} {ok : Nat → Prop} {v : Value} {xs : List α} (h : H w0 bs w) (hb : Below w.heap.size w w1) (hr : Kd.R d e w1 w.heap.size ok v xs) : H w0 (tr w0.heap.size d e (fun k => w.heap.size ≤ k ∧ k < w1.heap.size) v xs :: bs) w1 :=
  h.add hb (Kd.R_mono (Kd.R_lower (Kd.R_bound hr) h.base.size) (fun _ hk => ⟨hk.2.1, hk.2.2.1⟩)) (fun _ hg => hg)
theorem H.addElm {ok : Nat → Prop} {x : α} {cs : List Value} (h : H w0 bs w) (hb : Below w.heap.size w w1) (hr : d.M w1 w.heap.size ok x cs) : H w0 (elm w0.heap.size d (fun k => w.heap.size ≤ k ∧ k < w1.heap.size) x cs :: bs) w1 :=
  h.add hb (d.M_mono (fun _ hk => ⟨hk.2.1, hk.2.2.1⟩) (d.M_lower h.base.size (d.M_bound hr))) (fun _ hg => hg)
theorem H.merge {r s t : Res} (h : H w0 (r :: s :: bs) w) (ht : r.holds w → s.holds w → t.holds w) (hd : ∀ g, t.dep g → r.dep g ∨ s.dep g) : H w0 (t :: bs) w := by
  have hr := h.own r (.head _)
  have hs := h.own s (.tail _ (.head _))
  obtain ⟨a1, a2⟩ := List.pairwise_cons.1 h.apart
  obtain ⟨a3, a4⟩ := List.pairwise_cons.1 a2
  refine ⟨h.base, fun u hu => ?_, List.pairwise_cons.2 ⟨fun u hu g hg hgu => ?_, a4⟩⟩
  · rcases List.mem_cons.1 hu with rfl | hu
    · exact ⟨ht hr.1 hs.1, fun g hg => (hd g hg).elim (hr.2 g) (hs.2 g)⟩
    · exact h.own u (.tail _ (.tail _ hu))
  · rcases hd g hg with h1 | h1
    · exact a1 u (.tail _ hu) g h1 hgu
    · exact a3 u hu g h1 hgu
theorem H.emptyInn (h : H w0 bs w) (b : Nat) (d : Kd α) : H w0 (inn b d (fun _ => False) [] [] :: bs) w := h.addSame (Reps.none _ _) (fun _ h => h)
theorem H.snoc {b : Nat} {S S' : Nat → Prop} {x : α} {c cs : List Value} {xs : List α} (h : H w0 (elm b d S' x c :: inn b d S xs cs :: bs) w) (hc : c.length = d.sz) : H w0 (inn b d (fun k => S k ∨ S' k) (xs ++ [x]) (cs ++ c) :: bs) w :=
  h.merge (fun h1 h2 => Reps.snoc (Reps.imp_ h2 (fun _ _ hp => d.M_mono (fun _ hk => .inl hk) hp)) (d.M_mono (fun _ hk => .inr hk) h1) hc) (fun _ hg => hg.symm)
theorem H.emptyRow (h : H w0 bs w) (e size b : Nat) (d : Kd α) : H w0 (row e size (.slice Option.none 0 0) 0 [] :: inn b d (fun _ => False) [] [] :: bs) w := (h.emptyInn b d).nilRow e size
/-- A row and what stands behind its elements: a list made. -/
theorem H.rowTr {e n : Nat} {S : Nat → Prop} {v : Value} {cs : List Value} {xs : List α} (h : H w0 (row e d.sz v n cs :: inn w0.heap.size d S xs cs :: bs) w) (hn : n = xs.length) : H w0 (tr w0.heap.size d e (fun k => v.ownBlock = some k ∨ S k) v xs :: bs) w := by
  have hap : ∀ g, v.ownBlock = some g → ¬ S g := (List.pairwise_cons.1 h.apart).1 _ (.head _)
  have hlo := (h.own _ (.head _)).2
  refine h.merge (fun h1 h2 => ?_) (fun g hg => hg)
  subst hn
  refine ⟨fun k hk => .inl hk, cs, ⟨h1.1, ?_⟩, Reps.imp_ h2 (fun _ _ hp => d.M_mono (fun k hk => ⟨.inr hk, fun e2 => hap k e2.symm hk⟩) hp)⟩
  rcases h1.2 with h3 | ⟨g', cap', cur', he, _, rest⟩
  · exact .inl h3
  · exact .inr ⟨g', cap', cur', he, (hlo g' (by rw [show (row e d.sz v xs.length cs).dep g' = (v.ownBlock = some g') from rfl, he]; rfl)).1, rest⟩
theorem H.rowTr' {e n : Nat} {S : Nat → Prop} {v : Value} {cs : List Value} {xs : List α} (h : H w0 (row e d.sz v n cs :: inn w0.heap.size d S xs cs :: bs) w) (hn : n = xs.length) : ∃ S', H w0 (tr w0.heap.size d e S' v xs :: bs) w := ⟨_, h.rowTr hn⟩
theorem H.trR {b e : Nat} {S : Nat → Prop} {v : Value} {xs : List α} (h : H w0 (tr b d e S v xs :: bs) w) : Kd.R d e w b (fun _ => True) v xs := Kd.R_mono (h.own _ (.head _)).1 (fun _ _ => trivial)
/-- A list made, as one element. -/
theorem H.trElm {b e : Nat} {S : Nat → Prop} {v : Value} {xs : List α} (h : H w0 (tr b d e S v xs :: bs) w) : H w0 (elm b (Kd.slice e d) S xs [v] :: bs) w := by
  have h1 := h.own _ (.head _)
  have h2 : H w0 (tr b d e S v xs :: elm b (Kd.slice e d) (fun _ => False) [] [.slice Option.none 0 0] :: bs) w :=
    (((h.addSame (r := elm b (Kd.slice e d) (fun _ => False) [] [.slice Option.none 0 0]) ⟨_, rfl, Kd.R_nil ..⟩ (fun _ h => h)).to 1 rfl))
  exact h2.merge (fun h3 _ => ⟨v, rfl, h3⟩) (fun _ hg => .inl hg)
theorem H.addTr' {e : Nat} {ok : Nat → Prop} {v : Value} {xs : List α} (h : H w0 bs w) (hb : Below w.heap.size w w1) (hr : Kd.R d e w1 w.heap.size ok v xs) : ∃ S, H w0 (tr w0.heap.size d e S v xs :: bs) w1 := ⟨_, h.addTr hb hr⟩
/-- Two, as one. -/
def resBoth (r s : Res) : Res where
  dep g := r.dep g ∨ s.dep g
  holds w := r.holds w ∧ s.holds w
  keep w w' h hw := ⟨r.keep w w' (fun g hg => h g (.inl hg)) hw.1, s.keep w w' (fun g hg => h g (.inr hg)) hw.2⟩
theorem H.resBoth {r s : Res} (h : H w0 (r :: s :: bs) w) : H w0 (resBoth r s :: bs) w := h.merge (fun a b => ⟨a, b⟩) (fun _ hg => hg)
end
end Go.Proofs.YtibaidddhmdafaaDoor.E
end
section
namespace Go.Proofs.YtibaidddhmdafaaDoor.E
open Go Go.RowKit Go.Proofs.YtibaidddhmdafaaDoorW.PrintWords Go.Proofs.YtibaidddhmdafaaDoorW.PrintLast Go.Proofs.YtibaidddhmdafaaDoorW.PrintMore Go.Proofs.YtibaidddhmdafaaDoor.PA
set_option linter.unusedVariables false
set_option linter.unusedSimpArgs false
/-- A region whose blocks are told by a predicate. -/
def reg (D : Nat → Prop) (Z : World → Prop) (hZ : ∀ w w' : World, (∀ g, D g → w'.heap[g]? = w.heap[g]?) → Z w → Z w') : Res where
  dep := D
  holds := Z
  keep := hZ
/-- A slice with room, of type e, in a block of D. -/
def okS (D : Nat → Prop) (e size : Nat) (w : World) (v : Value) (n : Nat) : Prop :=
  (v = .slice none 0 0 ∧ n = 0) ∨ ∃ g cap cur, v = .slice (some ⟨g, 0, none⟩) n cap ∧ D g ∧ w.heap[g]? = some (.cells cur e (0, 0)) ∧ n ≤ cap ∧ cap ≤ maxLen ∧ cur.size = cap * size
theorem okS_keep {D : Nat → Prop} {e size n : Nat} {w w' : World} {v : Value} (h : ∀ g, D g → w'.heap[g]? = w.heap[g]?) (ho : okS D e size w v n) : okS D e size w' v n := by
  rcases ho with ho | ⟨g, cap, cur, h1, h2, h3, h4⟩
  · exact .inl ho
  · exact .inr ⟨g, cap, cur, h1, h2, (h g h2).trans h3, h4⟩
/-- One block of type e has other cells, as many. -/
def sameBut (D : Nat → Prop) (e g0 : Nat) (w w' : World) : Prop := (∀ g, D g → g ≠ g0 → w'.heap[g]? = w.heap[g]?) ∧ ∃ cs cs' : Array Value, w.heap[g0]? = some (.cells cs e (0, 0)) ∧ w'.heap[g0]? = some (.cells cs' e (0, 0)) ∧ cs'.size = cs.size
theorem okS_same {D : Nat → Prop} {e size n g0 : Nat} {w w' : World} {v : Value} (h : sameBut D e g0 w w') (ho : okS D e size w v n) : okS D e size w' v n := by
  rcases ho with ho | ⟨g, cap, cur, h1, h2, h3, h4, h5, h6⟩
  · exact .inl ho
  · by_cases hg : g = g0
    · subst hg
      obtain ⟨_, cs, cs', k1, k2, k3⟩ := h
      rw [k1] at h3
      injection h3 with h3
      injection h3 with h3
      subst h3
      exact .inr ⟨g, cap, cs', h1, h2, k2, h4, h5, by rw [k3]; exact h6⟩
    · exact .inr ⟨g, cap, cur, h1, h2, (h.1 g h2 hg).trans h3, h4, h5, h6⟩
theorem H.split2 {w0 w : World} {r s t : Res} {bs : List Res} (h : H w0 (r :: bs) w) (hs : s.holds w) (ht : t.holds w) (h1 : ∀ g, s.dep g → r.dep g) (h2 : ∀ g, t.dep g → r.dep g) (hd : ∀ g, s.dep g → ¬ t.dep g) : H w0 (s :: t :: bs) w := by
  obtain ⟨a1, a2⟩ := List.pairwise_cons.1 h.apart
  refine ⟨h.base, fun u hu => ?_, List.pairwise_cons.2 ⟨fun u hu g hg hgu => ?_, List.pairwise_cons.2 ⟨fun u hu g hg hgu => a1 u hu g (h2 g hg) hgu, a2⟩⟩⟩
  · rcases List.mem_cons.1 hu with rfl | hu
    · exact ⟨hs, fun g hg => (h.own _ (.head _)).2 g (h1 g hg)⟩
    · rcases List.mem_cons.1 hu with rfl | hu
      · exact ⟨ht, fun g hg => (h.own _ (.head _)).2 g (h2 g hg)⟩
      · exact h.own u (.tail _ hu)
  · rcases List.mem_cons.1 hu with rfl | hu
    · exact hd g hg hgu
    · exact a1 u hu g (h1 g hg) hgu
/-- What a region tells while one of its blocks, of type e and with so many cells, is written. -/
def regBut (D : Nat → Prop) (Z : World → Prop) (e g0 k : Nat) : Res where
  dep g := D g ∧ g ≠ g0
  holds w := ∀ w' : World, (∀ g, D g → g ≠ g0 → w'.heap[g]? = w.heap[g]?) → (∃ cs' : Array Value, w'.heap[g0]? = some (.cells cs' e (0, 0)) ∧ cs'.size = k) → Z w'
  keep w w1 h hw := fun w' h1 h2 => hw w' (fun g hg hne => (h1 g hg hne).trans (h g ⟨hg, hne⟩)) h2
/-- A writer of a slice whose cells are not told, used at a slice of a region. -/
theorem reg_call {P : Program} {f : FuncId} {D : Nat → Prop} {Z : World → Prop} {hZ : ∀ w w' : World, (∀ g, D g → w'.heap[g]? = w.heap[g]?) → Z w → Z w'} {e size n : Nat} {v : Value} {w0 w : World} {bs : List Res} (hsame : ∀ g0 w w', D g0 → sameBut D e g0 w w' → Z w → Z w')
    (hf : ∀ (bs : List Res) (w : World), H w0 (rowX e size v n :: bs) w → Calls P f #[v] w fun e1 w' => e1 = .returned (.tuple #[]) ∧ H w0 (rowX e size v n :: bs) w')
    (hv : okS D e size w v n) (h : H w0 (reg D Z hZ :: bs) w) : Calls P f #[v] w fun e1 w' => e1 = .returned (.tuple #[]) ∧ H w0 (reg D Z hZ :: bs) w' := by
  rcases hv with ⟨rfl, rfl⟩ | ⟨g, cap, cur, rfl, h2, h3, h4, h5, h6⟩
  · refine (hf (reg D Z hZ :: bs) w (h.nilRow e size).rowUntold).mono fun e1 w' ⟨a, b⟩ => ⟨a, b.drop⟩
  · have hZw : Z w := (h.own _ (.head _)).1
    have hs := h.split2 (s := rowX e size (.slice (some ⟨g, 0, none⟩) n cap) n) (t := regBut D Z e g (cap * size)) ⟨cur.toList.take (n * size), by rw [List.length_take, Array.length_toList, h6]; exact Nat.min_eq_left (Nat.mul_le_mul_right _ h4), .inr ⟨g, cap, cur, rfl, Nat.zero_le _, h3, h4, h5, h6, rfl⟩⟩
      (fun w' k1 ⟨cs', k2, k3⟩ => hsame g w w' h2 ⟨k1, cur, cs', h3, k2, by rw [k3, h6]⟩ hZw) (fun g' hg => by obtain rfl : g = g' := Option.some.inj hg; exact h2) (fun _ hg => hg.1) (fun g' hg hg2 => hg2.2 (Option.some.inj hg).symm)
    refine (hf (regBut D Z e g (cap * size) :: bs) w hs).mono fun e1 w' ⟨a, b⟩ => ⟨a, ?_⟩
    refine b.merge (t := reg D Z hZ) (fun k1 k2 => ?_) (fun g' hg => ?_)
    · obtain ⟨xs, k1⟩ := k1
      rcases k1.2 with ⟨k3, _⟩ | ⟨g1, cap1, cur1, k3, _, k4, _, _, k5, _⟩
      · cases k3
      · injection k3 with k3 k6 k7
        obtain rfl : g = g1 := by simpa using k3
        subst k7
        exact k2 w' (fun _ _ _ => rfl) ⟨cur1, k4, k5⟩
    · by_cases e2 : g' = g
      · subst e2; exact .inl rfl
      · exact .inr ⟨hg, e2⟩
end Go.Proofs.YtibaidddhmdafaaDoor.E
end
