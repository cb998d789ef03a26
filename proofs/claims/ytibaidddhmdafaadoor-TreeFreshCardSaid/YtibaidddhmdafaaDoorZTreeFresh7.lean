/- What YtibaidddhmdafaaDoorRTreeFresh's proof reaches of its texts, part 7. Conditions: as each says. -/
import Derived.ArgAppend
import Derived.Below
import Derived.BigCall
import Derived.KernelRfl
import Derived.Laws.AppendOwn
import Derived.Laws.OwnMore
import Derived.Laws.Rows
import Derived.Laws.StructEq
import Derived.OrdersHeld
import Derived.ScopeJumps
import Derived.WalkKit
section
namespace Go.Proofs.YtibaidddhmdafaaDoor.E
open Go Go.RowKit
set_option linter.unusedVariables false
set_option linter.unusedSimpArgs false
/-- What one block (or one row) of the call's own holds. -/
structure Res where
  dep : Nat → Prop
  holds : World → Prop
  keep : ∀ w w' : World, (∀ g, dep g → w'.heap[g]? = w.heap[g]?) → holds w → holds w'
/-- A block whose cells are known. -/
def pt (g : Nat) (cs : Array Value) (t : TypeId) : Res where
  dep k := k = g
  holds w := w.heap[g]? = some (.cells cs t (0, 0))
  keep _ _ h hw := (h g rfl).trans hw
/-- A slice that is nil or the call's own. -/
def row (e : TypeId) (size : Nat) (v : Value) (n : Nat) (xs : List Value) : Res where
  dep k := v.ownBlock = some k
  holds w := w.ownsRow 0 e size v n xs
  keep w w' h hw := by
    refine ⟨hw.1, ?_⟩
    rcases hw.2 with h0 | ⟨g, cap, cur, hv, hb, hg, r⟩
    · exact .inl h0
    · exact .inr ⟨g, cap, cur, hv, hb, by rw [h g (by rw [hv]; rfl)]; exact hg, r⟩
/-- Memory: what was there at w0 is as it was; the call's own blocks hold what bs says, each apart from the others. -/
structure H (w0 : World) (bs : List Res) (w : World) : Prop where
  base : Below w0.heap.size w0 w
  own : ∀ r, r ∈ bs → r.holds w ∧ ∀ g, r.dep g → w0.heap.size ≤ g ∧ g < w.heap.size
  apart : bs.Pairwise (fun r s => ∀ g, r.dep g → ¬ s.dep g)
theorem H.init (w : World) : H w [] w := ⟨Below.refl _ _, by simp, by simp⟩
theorem H.drop {w0 w : World} {r : Res} {bs : List Res} (h : H w0 (r :: bs) w) : H w0 bs w :=
  ⟨h.base, fun s hs => h.own s (.tail _ hs), (List.pairwise_cons.1 h.apart).2⟩
theorem H.bare {w0 w : World} {bs : List Res} (h : H w0 bs w) : H w0 [] w := ⟨h.base, by simp, by simp⟩
theorem H.perm {w0 w : World} {bs bs' : List Res} (h : H w0 bs w) (p : bs.Perm bs') : H w0 bs' w :=
  ⟨h.base, fun s hs => h.own s (p.mem_iff.2 hs), (p.pairwise_iff (fun {_ _} hrs g hs hr => hrs g hr hs)).1 h.apart⟩
theorem H.addSame {w0 w : World} {r : Res} {bs : List Res} (h : H w0 bs w) (hr : r.holds w) (hd : ∀ g, ¬ r.dep g) : H w0 (r :: bs) w :=
  ⟨h.base, fun s hs => by
    rcases List.mem_cons.1 hs with rfl | hs
    · exact ⟨hr, fun g hg => absurd hg (hd g)⟩
    · exact h.own s hs, List.pairwise_cons.2 ⟨fun s _ g hg _ => hd g hg, h.apart⟩⟩
/-- The k-th, and the others. -/
def takeAt : List Res → Nat → Option (Res × List Res)
  | [], _ => Option.none
  | r :: bs, 0 => some (r, bs)
  | r :: bs, k + 1 => match takeAt bs k with
    | some (s, bs') => some (s, r :: bs')
    | Option.none => Option.none
theorem takeAt_perm : ∀ (bs : List Res) (k : Nat) (r : Res) (bs' : List Res), takeAt bs k = some (r, bs') → bs.Perm (r :: bs')
  | [], k, r, bs', h => by simp [takeAt] at h
  | x :: bs, 0, r, bs', h => by
    simp only [takeAt, Option.some.injEq, Prod.mk.injEq] at h
    obtain ⟨rfl, rfl⟩ := h
    exact .refl _
  | x :: bs, k + 1, r, bs', h => by
    simp only [takeAt] at h
    split at h
    · rename_i s bs1 hs
      simp only [Option.some.injEq, Prod.mk.injEq] at h
      obtain ⟨rfl, rfl⟩ := h
      exact (List.Perm.cons x (takeAt_perm bs k s bs1 hs)).trans (.swap s x bs1)
    · exact absurd h (by simp)
theorem H.to {w0 w : World} {bs : List Res} (h : H w0 bs w) (k : Nat) {r : Res} {bs' : List Res} (hk : takeAt bs k = some (r, bs')) : H w0 (r :: bs') w :=
  h.perm (takeAt_perm _ _ _ _ hk)
/-- The first n alone. -/
theorem H.first {w0 w : World} {bs : List Res} (h : H w0 bs w) (n : Nat) : H w0 (bs.take n) w :=
  ⟨h.base, fun s hs => h.own s (List.mem_of_mem_take hs), h.apart.sublist (List.take_sublist n bs)⟩
def nth : List Res → Nat → Option Res
  | [], _ => Option.none
  | r :: _, 0 => some r
  | _ :: bs, k + 1 => nth bs k
def pickRes (bs : List Res) : List Nat → List Res
  | [] => []
  | k :: r => match nth bs k with
    | some x => x :: pickRes bs r
    | Option.none => pickRes bs r
theorem H.nilRow {w0 w : World} {bs : List Res} (h : H w0 bs w) (e : TypeId) (size : Nat) : H w0 (row e size (.slice Option.none 0 0) 0 [] :: bs) w :=
  h.addSame (World.ownsRow_nil _ _ _ _) (fun g hg => by cases hg)
/-- The first resource turned into another; the rest stays. -/
theorem H.upd {w0 w w' : World} {r r' : Res} {bs : List Res} (h : H w0 (r :: bs) w) (ho : w'.os = w.os) (ht : w'.tape = w.tape) (hu : w'.output = w.output) (hz : w.heap.size ≤ w'.heap.size)
    (hk : ∀ k, k < w.heap.size → ¬ r.dep k → w'.heap[k]? = w.heap[k]?) (hr : r'.holds w') (hd : ∀ g, r'.dep g → (r.dep g ∨ w.heap.size ≤ g) ∧ g < w'.heap.size) : H w0 (r' :: bs) w' := by
  have hp := List.pairwise_cons.1 h.apart
  have h0 := h.own r (.head _)
  have hsz := h.base.size
  refine ⟨⟨ho.trans h.base.os, ht.trans h.base.tape, hu.trans h.base.output, Nat.le_trans hsz hz, fun k hk0 => ?_⟩, ?_, ?_⟩
  · rw [hk k (by omega) (fun e => by have := (h0.2 k e).1; omega)]; exact h.base.block k hk0
  · intro s hs
    rcases List.mem_cons.1 hs with rfl | hs
    · refine ⟨hr, fun g hg => ?_⟩
      obtain ⟨h1, h2⟩ := hd g hg
      refine ⟨?_, h2⟩
      rcases h1 with h1 | h1
      · exact (h0.2 g h1).1
      · omega
    · have h1 := h.own s (.tail _ hs)
      exact ⟨s.keep w w' (fun g hg => hk g (h1.2 g hg).2 (fun e => hp.1 s hs g e hg)) h1.1, fun g hg => ⟨(h1.2 g hg).1, Nat.lt_of_lt_of_le (h1.2 g hg).2 hz⟩⟩
  · refine List.pairwise_cons.2 ⟨fun s hs g hg hsg => ?_, hp.2⟩
    have h1 := h.own s (.tail _ hs)
    rcases (hd g hg).1 with h2 | h2
    · exact hp.1 s hs g h2 hsg
    · have := (h1.2 g hsg).2; omega
/-- A further resource in new blocks. -/
theorem H.add {w0 w w' : World} {r : Res} {bs : List Res} (h : H w0 bs w) (hb : Below w.heap.size w w') (hr : r.holds w') (hd : ∀ g, r.dep g → w.heap.size ≤ g ∧ g < w'.heap.size) : H w0 (r :: bs) w' := by
  have hsz := h.base.size
  refine ⟨⟨hb.os.trans h.base.os, hb.tape.trans h.base.tape, hb.output.trans h.base.output, Nat.le_trans hsz hb.size, fun k hk => (hb.block k (by omega)).trans (h.base.block k hk)⟩, ?_, ?_⟩
  · intro s hs
    rcases List.mem_cons.1 hs with rfl | hs
    · exact ⟨hr, fun g hg => ⟨by have := (hd g hg).1; omega, (hd g hg).2⟩⟩
    · have h1 := h.own s hs
      exact ⟨s.keep w w' (fun g hg => hb.block g (h1.2 g hg).2) h1.1, fun g hg => ⟨(h1.2 g hg).1, Nat.lt_of_lt_of_le (h1.2 g hg).2 hb.size⟩⟩
  · refine List.pairwise_cons.2 ⟨fun s hs g hg hsg => ?_, h.apart⟩
    have := (h.own s hs).2 g hsg
    have := (hd g hg).1
    omega
/-- What makes memory alone leaves all. -/
theorem H.grow {w0 w w' : World} {bs : List Res} (h : H w0 bs w) (hb : Below w.heap.size w w') : H w0 bs w' := by
  have h1 : H w0 ((⟨fun _ => False, fun _ => True, fun _ _ _ _ => trivial⟩ : Res) :: bs) w' := h.add hb trivial (fun g hg => hg.elim)
  exact h1.drop
theorem H.below {w0 w : World} {bs : List Res} (h : H w0 bs w) : Below w0.heap.size w0 w := h.base
theorem H.drew {w0 w : World} {bs : List Res} (h : H w0 bs w) : H w0 bs w.drew := h.grow (Below.refl _ _).drew
theorem H.alloc {w0 w : World} {bs : List Res} (h : H w0 bs w) (cs : Array Value) (t : TypeId) : H w0 (pt w.heap.size cs t :: bs) (w.alloc (.cells cs t (0, 0))) :=
  h.add ((Below.refl _ _).alloc (Nat.le_refl _) _) (heap_alloc_new w _) (fun g hg => by obtain rfl := hg; simp)
theorem H.cells {w0 w : World} {g : Nat} {cs : Array Value} {t : TypeId} {bs : List Res} (h : H w0 (pt g cs t :: bs) w) : w.heap[g]? = some (.cells cs t (0, 0)) := (h.own _ (.head _)).1
theorem H.cell {w0 w : World} {g i : Nat} {cs : Array Value} {t : TypeId} {bs : List Res} (h : H w0 (pt g cs t :: bs) w) : w.cell? ⟨g, i, none⟩ = cs[i]? := by
  simp [World.cell?, h.cells]
def nthV : List Value → Nat → Option Value
  | [], _ => Option.none
  | v :: _, 0 => some v
  | _ :: r, k + 1 => nthV r k
theorem nthV_eq : ∀ (l : List Value) (k : Nat), nthV l k = l[k]?
  | [], k => by simp [nthV]
  | v :: l, 0 => by simp [nthV]
  | v :: l, k + 1 => by simp [nthV, nthV_eq l k]
theorem H.cellV {w0 w : World} {g i : Nat} {cs : Array Value} {t : TypeId} {bs : List Res} {v : Value} (h : H w0 (pt g cs t :: bs) w) (hv : nthV cs.toList i = some v) : w.cell? ⟨g, i, Option.none⟩ = some v := by
  rw [h.cell, ← Array.getElem?_toList, ← nthV_eq]; exact hv
theorem H.setCell {w0 w : World} {g i : Nat} {cs : Array Value} {t : TypeId} {bs : List Res} (h : H w0 (pt g cs t :: bs) w) (v : Value) : H w0 (pt g (cs.setIfInBounds i v) t :: bs) (w.setCell ⟨g, i, none⟩ v) := by
  have hc := h.cells
  have hlt : g < w.heap.size := (Array.getElem?_eq_some_iff.1 hc).1
  refine h.upd rfl rfl rfl (by simp [World.setCell]) (fun k _ hk => Below.heap_setCell w _ v k hk) ?_ (fun k hk => ⟨.inl hk, by obtain rfl := hk; simpa [World.setCell] using hlt⟩)
  show (w.setCell ⟨g, i, Option.none⟩ v).heap[g]? = _
  simp [World.setCell, Array.getElem?_modify, hc]
def look : List (Nat × Value) → Nat → Option Value
  | [], _ => Option.none
  | (k, v) :: r, t => bif Nat.beq k t then some v else look r t
def ev (σ : List (Nat × Value)) : Operand → Option Value
  | .tmp t => look σ t
  | .const v => some v
  | .global g => some (.pointer (some ⟨g, 0, Option.none⟩))
  | .func f => some (.func (.func f) #[] #[])
def evs (σ : List (Nat × Value)) : List Operand → Option (List Value)
  | [] => some []
  | x :: r => match ev σ x, evs σ r with
    | some v, some vs => some (v :: vs)
    | _, _ => Option.none
/-- The slots' values as far as σ tells them, and the memory. -/
structure St (N : Nat) (w0 : World) (σ : List (Nat × Value)) (bs : List Res) (a : Act) (w : World) : Prop where
  size : a.tmps.size = N
  defers : a.defers = []
  slots : ∀ t v, look σ t = some v → a.tmps.getD t undef = v
  mem : H w0 bs w
section
variable {P : Program} {N : Nat} {w0 w : World} {σ : List (Nat × Value)} {bs : List Res} {a : Act} {K : Act → World → Prop} {Q : Exit → Act → World → Prop}
theorem St.ev (h : St N w0 σ bs a w) {x : Operand} {v : Value} (hx : ev σ x = some v) : a.eval x = v := by
  cases x with
  | tmp t => exact h.slots t v hx
  | const u => exact Option.some.inj hx
  | global g => exact Option.some.inj hx
  | func f => exact Option.some.inj hx
theorem St.evs (h : St N w0 σ bs a w) : ∀ {xs : List Operand} {vs : List Value}, evs σ xs = some vs → xs.map a.eval = vs
  | [], vs, hx => by simp only [E.evs, Option.some.injEq] at hx; simp [← hx]
  | x :: xs, vs, hx => by
    simp only [E.evs] at hx
    split at hx
    · rename_i v vs' h1 h2
      simp only [Option.some.injEq] at hx
      rw [List.map_cons, h.ev h1, h.evs h2, hx]
    · exact absurd hx (by simp)
theorem St.put (h : St N w0 σ bs a w) {d : Nat} (hd : d < N) (v : Value) : St N w0 ((d, v) :: σ) bs (a.put (some d) v) w := by
  refine ⟨by simp [Act.put, h.size], h.defers, fun t u hu => ?_, h.mem⟩
  simp only [look, cond_eq_ite] at hu
  simp only [Act.put]
  by_cases e : d = t
  · subst e
    simp at hu
    subst hu
    rw [Array.getD_eq_getD_getElem?, Array.getElem?_setIfInBounds_self_of_lt (by rw [h.size]; exact hd)]; rfl
  · have e2 : Nat.beq d t = false := by cases h : Nat.beq d t with | false => rfl | true => exact absurd (Nat.eq_of_beq_eq_true h) e
    rw [e2] at hu
    simp at hu
    rw [Array.getD_eq_getD_getElem?, Array.getElem?_setIfInBounds_ne e, ← Array.getD_eq_getD_getElem?]
    exact h.slots t u hu
theorem St.mem_to (h : St N w0 σ bs a w) {w' : World} {bs' : List Res} (hm : H w0 bs' w') : St N w0 σ bs' a w' := ⟨h.size, h.defers, h.slots, hm⟩
/-- Fewer slots are told. -/
def pick (σ : List (Nat × Value)) : List (Nat × Value) → Prop
  | [] => True
  | (t, v) :: r => look σ t = some v ∧ pick σ r
theorem pick_look {σ : List (Nat × Value)} : ∀ {τ : List (Nat × Value)}, pick σ τ → ∀ t v, look τ t = some v → look σ t = some v
  | [], _, t, v, h => by simp [look] at h
  | (k, u) :: r, hp, t, v, h => by
    simp only [look, cond_eq_ite] at h
    split at h
    · rename_i e
      obtain rfl := Option.some.inj h
      obtain rfl := Nat.eq_of_beq_eq_true e
      exact hp.1
    · exact pick_look hp.2 t v h
theorem St.cut (h : St N w0 σ bs a w) (τ : List (Nat × Value)) (hp : pick σ τ) : St N w0 τ bs a w := ⟨h.size, h.defers, fun t v ht => h.slots t v (pick_look hp t v ht), h.mem⟩
def argsOf : List Value → Nat → List (Nat × Value)
  | [], _ => []
  | v :: r, k => (k, v) :: argsOf r (k + 1)
theorem St.enter {args : List Value} {n : Nat} (hn : args.length + n = N) (h : H w0 bs w) : St N w0 (argsOf args 0) bs { tmps := args.toArray ++ Array.replicate n undef, defers := [] } w := by
  refine ⟨by simp [hn], rfl, fun t v ht => ?_, h⟩
  have key : ∀ (l : List Value) (k : Nat), look (argsOf l k) t = some v → k ≤ t ∧ l[t - k]? = some v := by
    intro l
    induction l with
    | nil => intro k h; simp [argsOf, look] at h
    | cons x l ih =>
      intro k h
      simp only [argsOf, look, cond_eq_ite] at h
      split at h
      · rename_i e
        obtain rfl := Nat.eq_of_beq_eq_true e
        obtain rfl := Option.some.inj h
        exact ⟨Nat.le_refl _, by simp⟩
      · rename_i e
        have hne : k ≠ t := fun e2 => e (by simp [e2])
        obtain ⟨h1, h2⟩ := ih (k + 1) h
        refine ⟨by omega, ?_⟩
        rw [show t - k = (t - (k + 1)) + 1 by omega, List.getElem?_cons_succ]
        exact h2
  obtain ⟨_, h2⟩ := key args 0 ht
  rw [Nat.sub_zero] at h2
  have hlt : t < args.length := (List.getElem?_eq_some_iff.1 h2).1
  rw [Array.getD_eq_getD_getElem?, Array.getElem?_append_left (by simpa using hlt)]
  simp [h2]
/-- In whatever world that meets bs the operation yields v and does nothing else. -/
def Y (P : Program) (w0 : World) (bs : List Res) (a : Act) (o : Oper) (v : Value) : Prop := ∀ w, H w0 bs w → (execOp a.eval o).run P w = .ok (.value v) w
variable {ops : Array Oper} {rest : List Oper} {o : Oper} {d : Nat} {v : Value}
/-- One behind the other: an operation that only yields. -/
theorem a_val (hs : St N w0 σ bs a w) (hN : Nat.blt d N = true) (hd : o.dst = some d) (hg : o.guard = Option.none) (hy : Y P w0 bs a o v) (k : ∀ a, St N w0 ((d, v) :: σ) bs a w → wpList P ops Q rest a w) : wpList P ops Q (o :: rest) a w := by
  refine wpList_plain hg (fun K hK => ?_)
  unfold Oper.wp
  rw [hy w hs.mem, Oper.upon_value, hd]
  exact hK _ _ (k _ (hs.put (by simpa using hN) v))
/-- What a guard says. -/
def guardIs (ops : Array Oper) (σ : List (Nat × Value)) (o : Oper) : Option Bool :=
  match o.guard with
  | Option.none => some true
  | some (j, want) => match (ops[j]?).bind (·.dst) with
    | some d => match look σ d with
      | some (.bool b) => some (b == want)
      | some (.tuple _) => some false
      | _ => Option.none
    | Option.none => Option.none
theorem undef_not_bool (b : Bool) : undef ≠ .bool b := by intro h; cases h
theorem St.wanted (hs : St N w0 σ bs a w) {b : Bool} (hg : guardIs ops σ o = some b) : Region.wanted o (yielded ops a.tmps) = b := by
  unfold guardIs at hg
  unfold Region.wanted
  split at hg
  · rename_i h; rw [h]; simpa using hg
  · rename_i j want h
    rw [h]
    dsimp only
    split at hg
    · rename_i d hd
      split at hg
      · rename_i b2 hl
        have h1 := hs.slots d _ hl
        unfold yielded
        rw [hd]
        have h2 : a.tmps[d]? = some (.bool b2) := by
          rw [Array.getD_eq_getD_getElem?] at h1
          cases h3 : a.tmps[d]? with
          | none => rw [h3] at h1; exact absurd h1 (undef_not_bool b2)
          | some u => rw [h3] at h1; exact congrArg some h1
        simp only [Option.bind_some, h2]
        simp only [Option.some.injEq] at hg
        rw [← hg]
        cases b2 <;> cases want <;> rfl
      · rename_i vs hl
        have h1 := hs.slots d _ hl
        unfold yielded
        rw [hd]
        simp only [Option.some.injEq] at hg
        subst hg
        rw [Array.getD_eq_getD_getElem?] at h1
        cases h3 : a.tmps[d]? with
        | none => simp [h3]
        | some u =>
          rw [h3] at h1
          simp only [Option.getD_some] at h1
          subst h1
          simp [h3]
      · cases hg
    · cases hg
theorem a_valG (hs : St N w0 σ bs a w) (hN : Nat.blt d N = true) (hd : o.dst = some d) (hg : guardIs ops σ o = some true) (hy : Y P w0 bs a o v) (k : ∀ a, St N w0 ((d, v) :: σ) bs a w → wpList P ops Q rest a w) : wpList P ops Q (o :: rest) a w := by
  refine wpList_step (fun K hK => ?_)
  rw [if_pos (hs.wanted hg)]
  unfold Oper.wp
  rw [hy w hs.mem, Oper.upon_value, hd]
  exact hK _ _ (k _ (hs.put (by simpa using hN) v))
theorem a_skip (hs : St N w0 σ bs a w) (hN : Nat.blt d N = true) (hd : o.dst = some d) (hg : guardIs ops σ o = some false) (k : ∀ a, St N w0 ((d, undef) :: σ) bs a w → wpList P ops Q rest a w) : wpList P ops Q (o :: rest) a w := by
  refine wpList_step (fun K hK => ?_)
  rw [if_neg (by rw [hs.wanted hg]; simp), hd]
  exact hK _ _ (k _ (hs.put (by simpa using hN) undef))
theorem a_eff (hg : o.guard = Option.none) (h : o.wp P a w (wpList P ops Q rest) Q) : wpList P ops Q (o :: rest) a w := by
  refine wpList_plain hg (fun K hK => Oper.wp_mono hK h)
theorem a_effG (hs : St N w0 σ bs a w) (hg : guardIs ops σ o = some true) (h : o.wp P a w (wpList P ops Q rest) Q) : wpList P ops Q (o :: rest) a w := by
  refine wpList_step (fun K hK => ?_)
  rw [if_pos (hs.wanted hg)]
  exact Oper.wp_mono hK h
def okTake (md : Region.Mode) (ops : Array Oper) (listed : Array Bool) (i : Nat) : Bool := Region.noSelect ops && Region.free md ops listed i && (Region.ready md ops listed).contains i
variable {md : Region.Mode} {S : World → Prop} {fuel i : Nat} {listed l' : Array Bool} {bsS : List Res}
def nthO : List Oper → Nat → Option Oper
  | [], _ => Option.none
  | v :: _, 0 => some v
  | _ :: r, k + 1 => nthO r k
theorem nthO_eq : ∀ (l : List Oper) (k : Nat), nthO l k = l[k]?
  | [], k => by simp [nthO]
  | v :: l, 0 => by simp [nthO]
  | v :: l, k + 1 => by simp [nthO, nthO_eq l k]
theorem nthO_at {ops : Array Oper} {k : Nat} {o : Oper} (h : nthO ops.toList k = some o) : ops[k]? = some o := by
  rw [← Array.getElem?_toList, ← nthO_eq]; exact h
theorem b_enter {id : Nat} (ks : List Nat) (hm : P.follows .mixedOrders = true) (hs : St N w0 σ bs a w) (l' : Array Bool) (hl : Array.replicate ops.size false = l') (fuel : Nat) (hfu : ops.size = fuel)
    (k : ∀ w, St N w0 σ bs a w → wpAnyH P .any ops Q (H w0 (pickRes bs ks)) fuel l' a w) : (Code.region id ops true).wp P Q a w :=
  wp_region_held hm (by subst hl; subst hfu; exact k _ (hs.mem_to hs.mem.drew))
theorem b_take (i : Nat) (hi : nthO ops.toList i = some o) (l' : Array Bool) (hl : listed.setIfInBounds i true = l') (hok : okTake md ops listed i = true) (hs : St N w0 σ bs a w) (hS : H w0 bsS w) (hN : Nat.blt d N = true) (hd : o.dst = some d) (hg : guardIs ops σ o = some true)
    (hQ : ∀ c a w, Q (.panic c) (a.put o.dst v) w → Q (.panic c) a w) (hy : Y P w0 bsS a o v) (k : ∀ a, St N w0 ((d, v) :: σ) bs a w → wpAnyH P md ops Q (H w0 bsS) fuel l' a w) : wpAnyH P md ops Q (H w0 bsS) (fuel + 1) listed a w := by
  simp only [okTake, Bool.and_eq_true] at hok
  refine wpAnyH_take (nthO_at hi) hok.1.1 hok.1.2 hok.2 hQ (.inl ⟨hs.wanted hg, fun w hw => hy w hw⟩) hS ?_
  rw [hl, hd]
  exact k _ (hs.put (by simpa using hN) v)
theorem b_skip (i : Nat) (hi : nthO ops.toList i = some o) (l' : Array Bool) (hl : listed.setIfInBounds i true = l') (hok : okTake md ops listed i = true) (hs : St N w0 σ bs a w) (hS : H w0 bsS w) (hN : Nat.blt d N = true) (hd : o.dst = some d) (hg : guardIs ops σ o = some false)
    (hQ : ∀ c a w, Q (.panic c) (a.put o.dst undef) w → Q (.panic c) a w) (k : ∀ a, St N w0 ((d, undef) :: σ) bs a w → wpAnyH P md ops Q (H w0 bsS) fuel l' a w) : wpAnyH P md ops Q (H w0 bsS) (fuel + 1) listed a w := by
  simp only [okTake, Bool.and_eq_true] at hok
  refine wpAnyH_take (nthO_at hi) hok.1.1 hok.1.2 hok.2 hQ (.inr ⟨hs.wanted hg, rfl⟩) hS ?_
  rw [hl, hd]
  exact k _ (hs.put (by simpa using hN) undef)
/-- The one operation that may come up. -/
theorem b_eff (i : Nat) (hr : Region.ready md ops listed = [i]) (hi : nthO ops.toList i = some o) (l' : Array Bool) (hl : listed.setIfInBounds i true = l') (hs : St N w0 σ bs a w) (hg : guardIs ops σ o = some true)
    (h : o.wp P a w (fun a' w' => H w0 bsS w' ∧ wpAnyH P md ops Q (H w0 bsS) fuel l' a' w') Q) : wpAnyH P md ops Q (H w0 bsS) (fuel + 1) listed a w := by
  refine wpAnyH_all hr (by simp) (fun j hj => ?_)
  obtain rfl : j = i := by simpa using hj
  unfold wpOp
  simp only [nthO_at hi, hs.wanted hg, if_true, hl]
  exact .inl h
theorem b_eff2 (i j : Nat) {o2 : Oper} (hr : Region.ready md ops listed = [i, j]) (hi : nthO ops.toList i = some o) (hj : nthO ops.toList j = some o2) (l' l2 : Array Bool) (hl : listed.setIfInBounds i true = l') (hl2 : listed.setIfInBounds j true = l2) (hs : St N w0 σ bs a w) (hg : guardIs ops σ o = some true) (hg2 : guardIs ops σ o2 = some true)
    (h : o.wp P a w (fun a' w' => H w0 bsS w' ∧ wpAnyH P md ops Q (H w0 bsS) fuel l' a' w') Q) (h2 : o2.wp P a w (fun a' w' => H w0 bsS w' ∧ wpAnyH P md ops Q (H w0 bsS) fuel l2 a' w') Q) : wpAnyH P md ops Q (H w0 bsS) (fuel + 1) listed a w := by
  refine wpAnyH_all hr (by simp) (fun k hk => ?_)
  unfold wpOp
  rcases List.mem_cons.1 hk with rfl | hk
  · simp only [nthO_at hi, hs.wanted hg, if_true, hl]; exact .inl h
  · obtain rfl : k = j := by simpa using hk
    simp only [nthO_at hj, hs.wanted hg2, if_true, hl2]; exact .inl h2
theorem b_done (hr : Region.ready md ops listed = []) (h : Q .normal a w) : wpAnyH P md ops Q S fuel listed a w := wpAnyH_done hr h _
variable {ty : TypeId} {ps : String} {af : Array Edge} {gd : Option (Nat × Bool)} {x y : Operand} {u r : Value} {t t' : TypeId} {od : Option Nat} {bs1 : List Res}
theorem y_any (f : Sem Next) (hf : execOp a.eval o = f) (hr : ∀ w, H w0 bs w → f.run P w = .ok (.value v) w) : Y P w0 bs a o v := fun w hw => by rw [hf]; exact hr w hw
theorem y_move (hs : St N w0 σ bs1 a w) (hx : ev σ x = some v) : Y P w0 bs a (Oper.mk od (.move x) ty ps af gd) v := fun w _ => by simp [execOp, hs.ev hx]
theorem y_assign (hs : St N w0 σ bs1 a w) (hx : ev σ x = some v) : Y P w0 bs a (Oper.mk od (.assign x) ty ps af gd) v := fun w _ => by simp [execOp, hs.ev hx]
theorem y_pick {c : Operand} {b : Bool} (hs : St N w0 σ bs1 a w) (hc : ev σ c = some (.bool b)) (hx : ev σ x = some u) (hy : ev σ y = some v) : Y P w0 bs a (Oper.mk od (.pick c x y) ty ps af gd) (bif b then u else v) :=
  fun w _ => by cases b <;> simp [execOp, hs.ev hc, hs.ev hx, hs.ev hy, asBool]
/-- What an operation on two integers gives. -/
def arith (op : BinOp) (k : IntKind) (m n : Int) : Option Int := match op with
  | .add => some (k.wrap (m + n))
  | .sub => some (k.wrap (m - n))
  | .mul => some (k.wrap (m * n))
  | _ => Option.none
def cmp (op : BinOp) (m n : Int) : Option Bool := match op with
  | .eql => some (m == n)
  | .neq => some (m != n)
  | .lss => some (decide (m < n))
  | .leq => some (decide (m ≤ n))
  | .gtr => some (decide (m > n))
  | .geq => some (decide (m ≥ n))
  | _ => Option.none
variable {op : BinOp} {kk : IntKind} {m n q : Int} {b : Bool}
theorem y_arith (hs : St N w0 σ bs1 a w) (hx : ev σ x = some (.int kk m)) (hy : ev σ y = some (.int kk n)) (hr : arith op kk m n = some q) : Y P w0 bs a (Oper.mk od (.binOp op t x y t') ty ps af gd) (.int kk q) :=
  fun w _ => by cases op <;> simp only [arith, reduceCtorEq, Option.some.injEq] at hr <;> subst hr <;> simp [execOp, hs.ev hx, hs.ev hy, eqGuard, binOp, Op.intArith]
theorem y_add (hs : St N w0 σ bs1 a w) (hx : ev σ x = some (.int .i64 m)) (hy : ev σ y = some (.int .i64 n)) (h : -9223372036854775808 ≤ m + n ∧ m + n ≤ 9223372036854775807) : Y P w0 bs a (Oper.mk od (.binOp .add t x y t') ty ps af gd) (.int .i64 (m + n)) :=
  y_arith hs hx hy (by simp only [arith, Option.some.injEq]; exact IntWalk.i64_in _ h)
theorem y_sub (hs : St N w0 σ bs1 a w) (hx : ev σ x = some (.int .i64 m)) (hy : ev σ y = some (.int .i64 n)) (h : -9223372036854775808 ≤ m - n ∧ m - n ≤ 9223372036854775807) : Y P w0 bs a (Oper.mk od (.binOp .sub t x y t') ty ps af gd) (.int .i64 (m - n)) :=
  y_arith hs hx hy (by simp only [arith, Option.some.injEq]; exact IntWalk.i64_in _ h)
theorem y_cmp (hs : St N w0 σ bs1 a w) (hx : ev σ x = some (.int kk m)) (hy : ev σ y = some (.int kk n)) (hr : cmp op m n = some b) : Y P w0 bs a (Oper.mk od (.binOp op t x y t') ty ps af gd) (.bool b) :=
  fun w _ => by cases op <;> simp only [cmp, reduceCtorEq, Option.some.injEq] at hr <;> subst hr <;> simp [execOp, hs.ev hx, hs.ev hy, eqGuard, binOp, Op.intCmp]
theorem y_seq {s1 s2 : ByteArray} (hs : St N w0 σ bs1 a w) (hx : ev σ x = some (.string s1)) (hy : ev σ y = some (.string s2)) : Y P w0 bs a (Oper.mk od (.binOp .eql t x y t') ty ps af gd) (.bool (s1.toList == s2.toList)) :=
  fun w _ => by simp [execOp, hs.ev hx, hs.ev hy, eqGuard, binOp, Op.stringOp]
theorem y_sne {s1 s2 : ByteArray} (hs : St N w0 σ bs1 a w) (hx : ev σ x = some (.string s1)) (hy : ev σ y = some (.string s2)) : Y P w0 bs a (Oper.mk od (.binOp .neq t x y t') ty ps af gd) (.bool (!(s1.toList == s2.toList))) :=
  fun w _ => by simp [execOp, hs.ev hx, hs.ev hy, eqGuard, binOp, Op.stringOp]
theorem y_not (hs : St N w0 σ bs1 a w) (hx : ev σ x = some (.bool b)) : Y P w0 bs a (Oper.mk od (.unOp .not t x) ty ps af gd) (.bool (!b)) :=
  fun w _ => by simp [execOp, hs.ev hx, Op.unary]
def scalarD : TypeDesc → Bool
  | .struct _ | .array _ _ => false
  | _ => true
theorem run_isAgg {dsc : TypeDesc} (h : P.underlying t = some dsc) (w : World) : (isAgg t).run P w = .ok (!scalarD dsc) w := by
  unfold isAgg
  simp only [Sem.run_bind, run_underlying h, Result.andThen_ok]
  cases dsc <;> rfl
theorem y_nilchk {ad : Addr} (hs : St N w0 σ bs1 a w) (hx : ev σ x = some (.pointer (some ad))) : Y P w0 bs a (Oper.mk od (.nilCheck x) ty ps af gd) (.pointer (some ad)) :=
  fun w _ => by simp [execOp, hs.ev hx]
theorem y_extract {vs : Array Value} {j : Nat} (hs : St N w0 σ bs1 a w) (hx : ev σ x = some (.tuple vs)) (hv' : nthV vs.toList j = some v) : Y P w0 bs a (Oper.mk od (.extract x j) ty ps af gd) v :=
  fun w _ => by
    have hv : vs[j]? = some v := by rw [← Array.getElem?_toList, ← nthV_eq]; exact hv'
    simp [execOp, hs.ev hx, Instr.extract, hv]
theorem y_lenS {s1 : ByteArray} (hs : St N w0 σ bs1 a w) (ht : P.underlying t = some .string) (hx : ev σ x = some (.string s1)) : Y P w0 bs a (Oper.mk od (.call { callee := .builtin .len, args := #[x], argTypes := #[t] }) ty ps af gd) (.int .i64 s1.size) :=
  fun w _ => by simp [execOp, resolve, invoke, builtin, hs.ev hx, Builtin.len_, run_underlying ht, goInt]
theorem y_lenL {e : TypeId} {A : Option Addr} {l c : Nat} (hs : St N w0 σ bs1 a w) (ht : P.underlying t = some (.slice e)) (hx : ev σ x = some (.slice A l c)) : Y P w0 bs a (Oper.mk od (.call { callee := .builtin .len, args := #[x], argTypes := #[t] }) ty ps af gd) (.int .i64 l) :=
  fun w _ => by simp [execOp, resolve, invoke, builtin, hs.ev hx, Builtin.len_, run_underlying ht, goInt]
/-- Where a field stands. -/
def fieldOff (P : Program) (s : TypeId) (f : Nat) : Option Nat := match P.underlying s with
  | some (.struct fs) => match fs[f]? with
    | some fl => match P.info? fl.type with
      | some i => if i.size = 0 then Option.none else some fl.offset
      | Option.none => Option.none
    | Option.none => Option.none
  | _ => Option.none
theorem y_faddr {g k f k' : Nat} (off : Nat) (hs : St N w0 σ bs1 a w) (hf : fieldOff P t f = some off) (hx : ev σ x = some (.pointer (some ⟨g, k, Option.none⟩))) (hk : k + off = k') : Y P w0 bs a (Oper.mk od (.fieldAddr t x f) ty ps af gd) (.pointer (some ⟨g, k', Option.none⟩)) := by
  intro w _
  unfold fieldOff at hf
  split at hf
  · rename_i fs hfs
    split at hf
    · rename_i fl hfl
      split at hf
      · rename_i ti hti
        split at hf
        · cases hf
        · rename_i hz
          obtain rfl := Option.some.inj hf
          have hadd : (⟨g, k, Option.none⟩ : Addr).add fl.offset = ⟨g, k', Option.none⟩ := by
            unfold Addr.add
            split
            · rename_i h0; rw [← hk, h0]; rfl
            · rw [hk]
          simp [execOp, hs.ev hx, Instr.fieldAt, run_underlying hfs, hfl, Instr.sureAddr, fieldPlace, sizeOf, typeInfo, hti, hz, hadd]
      · cases hf
    · cases hf
  · cases hf
theorem y_load {dsc : TypeDesc} {ad : Addr} (hs : St N w0 σ bs1 a w) (hu : P.underlying t = some dsc) (hsc : scalarD dsc = true) (hx : ev σ x = some (.pointer (some ad))) (hc : ∀ w, H w0 bs w → w.cell? ad = some v) : Y P w0 bs a (Oper.mk od (.load t x) ty ps af gd) v := by
  intro w hw
  simp [execOp, hs.ev hx, Instr.loadAt, Instr.sureAddr, loadVar, run_isAgg hu, hsc, hc w hw]
theorem y_func {fn : Fn} {fi ca : Array Operand} {vs us : List Value} (hs : St N w0 σ bs1 a w) (h1 : evs σ fi.toList = some vs) (h2 : evs σ ca.toList = some us) : Y P w0 bs a (Oper.mk od (.makeFunc fn fi ca) ty ps af gd) (.func fn vs.toArray us.toArray) := by
  intro w _
  have e1 : fi.map a.eval = vs.toArray := by rw [← Array.toList_inj]; simp [hs.evs h1]
  have e2 : ca.map a.eval = us.toArray := by rw [← Array.toList_inj]; simp [hs.evs h2]
  simp [execOp, Instr.makeFunc, e1, e2]
/-- A struct's or an array's value out of its parts. -/
def buildF (P : Program) (t : TypeId) (parts : List (Nat × Value)) : Option Value :=
  match P.info? t, P.underlying t with
  | some i, some (.struct fs) => match i.zero with
    | some z => match fs.toList.mapM (fun f => (P.info? f.type).map fun j => (f.offset, j.size)) with
      | some places => (Instr.fill (fun k => places[k]?) z.cells parts).map .agg
      | Option.none => Option.none
    | Option.none => Option.none
  | _, _ => Option.none
theorem run_places (w : World) : ∀ (fs : List Field) (places : List (Nat × Nat)), fs.mapM (fun f => (P.info? f.type).map fun j => (f.offset, j.size)) = some places →
    (fs.mapM fun f => (do pure (f.offset, ← sizeOf f.type) : Sem (Nat × Nat))).run P w = .ok places w
  | [], places, h => by simp only [List.mapM_nil] at h; obtain rfl := Option.some.inj h; simp
  | f :: fs, places, h => by
    simp only [List.mapM_cons, bind_pure_comp] at h
    cases h1 : P.info? f.type with
    | none => simp [h1] at h
    | some j =>
      cases h2 : fs.mapM (fun f => (P.info? f.type).map fun j => (f.offset, j.size)) with
      | none => simp [h1, h2] at h
      | some ps =>
        simp [h1, h2] at h
        subst h
        have := run_places w fs ps h2
        simp only [sizeOf, typeInfo] at this ⊢
        simp at this
        simp [List.mapM_cons, h1, this]
theorem run_build {parts : Array (Nat × Value)} (w : World) (h : buildF P t parts.toList = some v) : (Instr.build t parts).run P w = .ok v w := by
  unfold buildF at h
  split at h
  · rename_i i fs hi hu
    split at h
    · rename_i z hz
      split at h
      · rename_i places hp
        cases hf : Instr.fill (fun k => places[k]?) z.cells parts.toList with
        | none => simp [hf] at h
        | some cs =>
          simp [hf] at h
          subst h
          have hm := run_places (P := P) w fs.toList places hp
          unfold Instr.build
          simp only [Sem.run_bind, zeroValue, typeInfo, run_program, Result.andThen_ok, hi, hz, Sem.run_pure, run_underlying hu]
          rw [← Array.toArray_toList (xs := fs), List.mapM_toArray]
          simp only [bind_pure_comp] at hm
          simp [hm, hf]
      · cases h
    · cases h
  · cases h
theorem y_build {parts : Array (Nat × Operand)} {vs : List Value} (hs : St N w0 σ bs1 a w) (hv : evs σ (parts.toList.map (·.2)) = some vs) (hb : buildF P t ((parts.toList.map (·.1)).zip vs) = some v) : Y P w0 bs a (Oper.mk od (.build t parts) ty ps af gd) v := by
  intro w _
  have e1 : (parts.map fun (p : Nat × Operand) => (p.1, a.eval p.2)).toList = (parts.toList.map (·.1)).zip vs := by
    rw [← hs.evs hv]
    simp [List.zip_map', List.map_map, Function.comp_def]
  have hr := run_build (P := P) (t := t) (v := v) (parts := parts.map fun (p : Nat × Operand) => (p.1, a.eval p.2)) w (by rw [e1]; exact hb)
  have e2 : execOp a.eval (Oper.mk od (.build t parts) ty ps af gd) = (do pure (.value (← Instr.build t (parts.map fun (p : Nat × Operand) => (p.1, a.eval p.2))))) := rfl
  rw [e2]
  simp [hr]
/-- A type's zero cells, and where its fields stand. -/
def buildInfo (P : Program) (t : TypeId) : Option (Array Value × List (Nat × Nat)) :=
  match P.info? t, P.underlying t with
  | some i, some (.struct fs) => match i.zero with
    | some z => match fs.toList.mapM (fun f => (P.info? f.type).map fun j => (f.offset, j.size)) with
      | some places => some (z.cells, places)
      | Option.none => Option.none
    | Option.none => Option.none
  | _, _ => Option.none
theorem buildF_of {parts : List (Nat × Value)} {zc cs : Array Value} {pl : List (Nat × Nat)} (hi : buildInfo P t = some (zc, pl)) (hf : Instr.fill (fun k => pl[k]?) zc parts = some cs) : buildF P t parts = some (.agg cs) := by
  unfold buildInfo at hi
  unfold buildF
  split at hi
  · split at hi
    · split at hi
      · rename_i hp
        simp only [Option.some.injEq, Prod.mk.injEq] at hi
        obtain ⟨rfl, rfl⟩ := hi
        simp only [hf, Option.map_some]
      · cases hi
    · cases hi
  · cases hi
/-- Cells written over a list. -/
def overL : List Value → Nat → List Value → List Value
  | cs, _, [] => cs
  | [], _, _ => []
  | _ :: cs, 0, v :: vs => v :: overL cs 0 vs
  | c :: cs, k + 1, vs => c :: overL cs k vs
def nthP : List (Nat × Nat) → Nat → Option (Nat × Nat)
  | [], _ => Option.none
  | p :: _, 0 => some p
  | _ :: r, k + 1 => nthP r k
theorem nthP_eq : ∀ (l : List (Nat × Nat)) (k : Nat), nthP l k = l[k]?
  | [], k => by simp [nthP]
  | v :: l, 0 => by simp [nthP]
  | v :: l, k + 1 => by simp [nthP, nthP_eq l k]
/-- Cells with parts put in. -/
def fillG (place : Nat → Option (Nat × Nat)) (cs : List Value) : List (Nat × Value) → Option (List Value)
  | [] => some cs
  | (i, v) :: r => match place i with
    | some (off, size) => bif Nat.beq v.cells.size size && Nat.ble (off + v.cells.size) cs.length then fillG place (overL cs off v.cells.toList) r else Option.none
    | Option.none => Option.none
theorem overL_at : ∀ (cs : List Value) (off : Nat) (vs : List Value) (k : Nat), (overL cs off vs)[k]? = if off ≤ k ∧ k < off + vs.length ∧ k < cs.length then vs[k - off]? else cs[k]?
  | cs, off, [], k => by
    have : ¬ (off ≤ k ∧ k < off + ([] : List Value).length ∧ k < cs.length) := by simp; omega
    rw [if_neg this]
    cases cs <;> cases off <;> simp [overL]
  | [], off, v :: vs, k => by simp [overL]
  | c :: cs, 0, v :: vs, 0 => by simp [overL]
  | c :: cs, 0, v :: vs, k + 1 => by
    simp only [overL, List.getElem?_cons_succ, overL_at cs 0 vs k, List.length_cons]
    by_cases h : 0 ≤ k ∧ k < 0 + vs.length ∧ k < cs.length
    · rw [if_pos h, if_pos (by omega)]; simp
    · rw [if_neg h, if_neg (by omega)]
  | c :: cs, off + 1, v :: vs, 0 => by
    have : ¬ (off + 1 ≤ 0 ∧ 0 < off + 1 + (v :: vs).length ∧ 0 < (c :: cs).length) := by omega
    rw [if_neg this]; simp [overL]
  | c :: cs, off + 1, v :: vs, k + 1 => by
    simp only [overL, List.getElem?_cons_succ, overL_at cs off (v :: vs) k, List.length_cons]
    by_cases h : off ≤ k ∧ k < off + (vs.length + 1) ∧ k < cs.length
    · rw [if_pos h, if_pos (by omega), show k + 1 - (off + 1) = k - off by omega]
    · rw [if_neg h, if_neg (by omega)]
theorem overL_len : ∀ (cs : List Value) (off : Nat) (vs : List Value), (overL cs off vs).length = cs.length
  | cs, off, [] => by cases cs <;> cases off <;> simp [overL]
  | [], off, v :: vs => by simp [overL]
  | c :: cs, 0, v :: vs => by simp [overL, overL_len cs 0 vs]
  | c :: cs, off + 1, v :: vs => by simp [overL, overL_len cs off (v :: vs)]
theorem fold_at : ∀ (vs : List Value) (n : Nat) (cs : Array Value) (off k : Nat), ((vs.zipIdx n).foldl (fun cs (x : Value × Nat) => cs.setIfInBounds (off + x.2) x.1) cs)[k]? = if off + n ≤ k ∧ k < off + n + vs.length ∧ k < cs.size then vs[k - (off + n)]? else cs[k]?
  | [], n, cs, off, k => by
    have : ¬ (off + n ≤ k ∧ k < off + n + ([] : List Value).length ∧ k < cs.size) := by simp; omega
    rw [if_neg this]; simp
  | v :: vs, n, cs, off, k => by
    simp only [List.zipIdx_cons, List.foldl_cons]
    rw [fold_at vs (n + 1) _ off k]
    simp only [Array.size_setIfInBounds, List.length_cons]
    by_cases h : k = off + n
    · subst h
      rw [if_neg (by omega), Array.getElem?_setIfInBounds]
      by_cases h2 : off + n < cs.size <;> simp [h2]
    · rw [Array.getElem?_setIfInBounds_ne (Ne.symm h)]
      by_cases h2 : off + (n + 1) ≤ k ∧ k < off + (n + 1) + vs.length ∧ k < cs.size
      · rw [if_pos h2, if_pos (by omega), show k - (off + n) = (k - (off + (n + 1))) + 1 by omega, List.getElem?_cons_succ]
      · rw [if_neg h2, if_neg (by omega)]
theorem fill_of (place : Nat → Option (Nat × Nat)) : ∀ (parts : List (Nat × Value)) (cs : Array Value) (cs' : List Value), fillG place cs.toList parts = some cs' → Instr.fill place cs parts = some cs'.toArray
  | [], cs, cs', h => by simp only [fillG, Option.some.injEq] at h; subst h; simp [Instr.fill]
  | (i, v) :: r, cs, cs', h => by
    simp only [fillG] at h
    simp only [Instr.fill]
    cases hp : place i with
    | none => rw [hp] at h; cases h
    | some p =>
      obtain ⟨off, size⟩ := p
      rw [hp] at h
      simp only [cond_eq_ite, Bool.and_eq_true] at h
      split at h
      · rename_i hc
        have h1 := Nat.eq_of_beq_eq_true hc.1
        have h2 := Nat.le_of_ble_eq_true hc.2
        simp only [Array.length_toList] at h2
        have hneg : ¬ ((decide (v.cells.size ≠ size) || decide (off + v.cells.size > cs.size)) = true) := by simp; omega
        dsimp only
        rw [if_neg hneg]
        have e : v.cells.zipIdx.foldl (fun cs (x : Value × Nat) => cs.setIfInBounds (off + x.2) x.1) cs = (overL cs.toList off v.cells.toList).toArray := by
          rw [← Array.foldl_toList, Array.toList_zipIdx]
          apply Array.ext_getElem?
          intro k
          have hr : ((overL cs.toList off v.cells.toList).toArray)[k]? = (overL cs.toList off v.cells.toList)[k]? := List.getElem?_toArray
          rw [fold_at, hr, overL_at]
          simp
        have h' := fill_of place r (overL cs.toList off v.cells.toList).toArray cs' (by simpa using h)
        simp only [e]
        exact h'
      · cases h
theorem y_struct {parts : Array (Nat × Operand)} {vs cl : List Value} {zc cs : Array Value} {pl : List (Nat × Nat)} (hs : St N w0 σ bs1 a w) (hi : buildInfo P t = some (zc, pl)) (hv : evs σ (parts.toList.map (·.2)) = some vs) (hf : fillG (nthP pl) zc.toList ((parts.toList.map (·.1)).zip vs) = some cl) (hc : cl.toArray = cs) : Y P w0 bs a (Oper.mk od (.build t parts) ty ps af gd) (.agg cs) :=
  y_build hs hv (buildF_of hi (by rw [← hc, ← show nthP pl = (fun k => pl[k]?) from funext (nthP_eq pl)]; exact fill_of _ _ _ _ hf))
theorem H.alloc' {cs : Array Value} (h : H w0 bs w) : H w0 (pt w.heap.size cs t :: bs) { w with heap := w.heap.push (.cells cs t) } := h.alloc cs t
theorem e_box {cs : Array Value} (hs : St N w0 σ bs a w) (hN : Nat.blt d N = true) (hx : ev σ x = some v) (hc : v.cells = cs) (k : ∀ g a w, St N w0 ((d, .pointer (some ⟨g, 0, Option.none⟩)) :: σ) (pt g cs t :: bs) a w → K a w) : (Oper.mk (some d) (.box t x) ty ps af gd).wp P a w K Q := by
  subst hc
  have hr : (execOp a.eval (Oper.mk (some d) (.box t x) ty ps af gd)).run P w = .ok (.value (.pointer (some ⟨w.heap.size, 0, Option.none⟩))) (w.alloc (.cells v.cells t)) := by
    simp [execOp, hs.ev hx, Instr.box, newVar, newRow]
  unfold Oper.wp
  rw [hr, Oper.upon_value]
  exact k _ _ _ ((hs.mem_to (hs.mem.alloc _ _)).put (by simpa using hN) _)
theorem e_alloc {z : Value} {cs : Array Value} (hs : St N w0 σ bs a w) (hN : Nat.blt d N = true) (hz : (P.info? t).bind (·.zero) = some z) (hc : z.cells = cs) (k : ∀ g a w, St N w0 ((d, .pointer (some ⟨g, 0, Option.none⟩)) :: σ) (pt g cs t :: bs) a w → K a w) : (Oper.mk (some d) (.alloc t) ty ps af gd).wp P a w K Q := by
  subst hc
  cases hi : P.info? t with
  | none => simp [hi] at hz
  | some i =>
    simp [hi] at hz
    have hr : (execOp a.eval (Oper.mk (some d) (.alloc t) ty ps af gd)).run P w = .ok (.value (.pointer (some ⟨w.heap.size, 0, Option.none⟩))) (w.alloc (.cells z.cells t)) := by
      simp [execOp, Instr.alloc, zeroValue, typeInfo, hi, hz, newVar, newRow]
    unfold Oper.wp
    rw [hr, Oper.upon_value]
    exact k _ _ _ ((hs.mem_to (hs.mem.alloc _ _)).put (by simpa using hN) _)
theorem H.setRow {g : Nat} {cs cs' : Array Value} (h : H w0 (pt g cs t :: bs) w) : H w0 (pt g cs' t :: bs) (w.setRow g cs') := by
  have hc := h.cells
  have hlt : g < w.heap.size := (Array.getElem?_eq_some_iff.1 hc).1
  exact h.upd rfl rfl rfl (by simp [World.setRow]) (fun k _ hk => setRow_other w g k cs' hk) (setRow_heap w g cs cs' t (0, 0) hc) (fun k hk => ⟨.inl hk, by obtain rfl := hk; simpa [World.setRow] using hlt⟩)
/-- The cells of a block behind a store. -/
def over (cs : Array Value) (j : Nat) (vs : List Value) : Array Value := (cs.toList.take j ++ vs ++ cs.toList.drop (j + vs.length)).toArray
theorem over_eq (cs : List Value) (j : Nat) (vs : List Value) (h : j + vs.length ≤ cs.length) : cs.take j ++ vs ++ cs.drop (j + vs.length) = overL cs j vs := by
  apply List.ext_getElem?
  intro k
  rw [overL_at]
  by_cases h1 : k < j
  · rw [if_neg (by omega), List.append_assoc, List.getElem?_append_left (by simp; omega), List.getElem?_take, if_pos h1]
  · by_cases h2 : k < j + vs.length
    · rw [if_pos (by omega), List.append_assoc, List.getElem?_append_right (by simp; omega), List.getElem?_append_left (by simp; omega)]
      congr 1; simp; omega
    · rw [if_neg (by omega), List.getElem?_append_right (by simp; omega), List.getElem?_drop]
      congr 1; simp; omega
theorem e_store {g j : Nat} {cs : Array Value} {cl : List Value} {tt : TypeId} {bs' : List Res} (kk : Nat) (hm : takeAt bs kk = some (pt g cs tt, bs')) (hs : St N w0 σ bs a w) (hx : ev σ x = some (.pointer (some ⟨g, j, Option.none⟩))) (hy : ev σ y = some v) (hi : (P.info? t).map (·.size) = some v.cells.size)
    (ho : v.cells.toList.all (·.oneCell') = true) (hj : Nat.ble (j + v.cells.size) cs.size = true) (hcs : overL cs.toList j v.cells.toList = cl)
    (k : ∀ a w, St N w0 σ (pt g cl.toArray tt :: bs') a w → K a w) : (Oper.mk Option.none (.store t x y) ty ps af gd).wp P a w K Q := by
  subst hcs
  have hmem := hs.mem.to kk hm
  have hsz : (sizeOf t).run P w = .ok v.cells.size w := by
    cases h1 : P.info? t with
    | none => simp [h1] at hi
    | some i => simp [h1] at hi; simp [sizeOf, typeInfo, h1, hi]
  have hj' : j + v.cells.size ≤ cs.size := by simpa using hj
  have hst := run_storeCells_at (P := P) g j tt v.cells.toList 0 cs w hmem.cells (by simpa using hj') (fun u hu => (List.all_eq_true.1 ho) u hu)
  have hr : (execOp a.eval (Oper.mk Option.none (.store t x y) ty ps af gd)).run P w = .ok .skip (w.setRow g (overL cs.toList j v.cells.toList).toArray) := by
    simp only [Nat.add_zero] at hst
    rw [over_eq cs.toList j v.cells.toList (by simpa using hj')] at hst
    simp [execOp, hs.ev hx, hs.ev hy, Instr.storeAt, Instr.sureAddr, storeVar, hsz, hst]
  unfold Oper.wp
  rw [hr, Oper.upon_skip]
  exact k _ _ (hs.mem_to hmem.setRow)
theorem y_loadAgg {dsc : TypeDesc} {g j : Nat} {vs : List Value} (hs : St N w0 σ bs1 a w) (hu : P.underlying t = some dsc) (hsc : scalarD dsc = false) (hi : (P.info? t).map (·.size) = some vs.length) (hx : ev σ x = some (.pointer (some ⟨g, j, Option.none⟩)))
    (hc : ∀ w, H w0 bs w → ∀ k v, vs[k]? = some v → w.cell? ⟨g, j + k, Option.none⟩ = some v) : Y P w0 bs a (Oper.mk od (.load t x) ty ps af gd) (.agg vs.toArray) := by
  intro w hw
  have hl := run_loadCells_list (P := P) (w := w) ⟨g, j, Option.none⟩ vs (fun k v hk => by
    have hadd : (⟨g, j, Option.none⟩ : Addr).add k = ⟨g, j + k, Option.none⟩ := by unfold Addr.add; split <;> simp_all
    rw [hadd]; exact hc w hw k v hk)
  have hsz : (sizeOf t).run P w = .ok vs.length w := by
    cases h1 : P.info? t with
    | none => simp [h1] at hi
    | some i => simp [h1] at hi; simp [sizeOf, typeInfo, h1, hi]
  simp [execOp, hs.ev hx, Instr.loadAt, Instr.sureAddr, loadVar, run_isAgg hu, hsc, hsz, hl]
/-- What only yields, where it is the one that may come up. -/
theorem e_yield {o : Oper} {v : Value} (hs : St N w0 σ bs a w) (hN : Nat.blt d N = true) (hd : o.dst = some d) (hy : Y P w0 bs a o v) (k : ∀ a, St N w0 ((d, v) :: σ) bs a w → K a w) : o.wp P a w K Q := by
  unfold Oper.wp
  rw [hy w hs.mem, Oper.upon_value, hd]
  exact k _ (hs.put (by simpa using hN) v)
/-- A whole block loaded. -/
theorem y_loadPt {dsc : TypeDesc} {g : Nat} {cs : Array Value} {tt : TypeId} {bs' : List Res} (kk : Nat) (hm : takeAt bs kk = some (pt g cs tt, bs')) (hs : St N w0 σ bs1 a w) (hu : P.underlying t = some dsc) (hsc : scalarD dsc = false) (hi : (P.info? t).map (·.size) = some cs.size) (hx : ev σ x = some (.pointer (some ⟨g, 0, Option.none⟩))) :
    Y P w0 bs a (Oper.mk od (.load t x) ty ps af gd) (.agg cs) := by
  have h := y_loadAgg (P := P) (w0 := w0) (bs := bs) (od := od) (ty := ty) (ps := ps) (af := af) (gd := gd) (vs := cs.toList) hs hu hsc (by simpa using hi) hx (fun w hw k v hk => by rw [Nat.zero_add, (hw.to kk hm).cell, ← Array.getElem?_toList]; exact hk)
  simpa using h
/-- A call by its contract: one answer, and R of the world behind it. -/
theorem e_call {f : FuncId} {fn : Func} {xs : Array Operand} {ats : Array TypeId} {vs : List Value} {R : World → Prop} (hf : P.funcs[f]? = some fn) (hn : (fn.name == "runtime.NumGoroutine") = false) (hb : fn.body.isNone = false) (hs : St N w0 σ bs a w) (hN : Nat.blt d N = true) (ha : evs σ xs.toList = some vs)
    (hc : Calls P f vs.toArray w (fun e w' => e = .returned r ∧ R w')) (k : ∀ w', R w' → ∃ bs', H w0 bs' w' ∧ ∀ a, St N w0 ((d, r) :: σ) bs' a w' → K a w') : (Oper.mk (some d) (.call { callee := .value (.func f), args := xs, argTypes := ats }) ty ps af gd).wp P a w K Q := by
  have hr : (execOp a.eval (Oper.mk (some d) (.call { callee := .value (.func f), args := xs, argTypes := ats }) ty ps af gd)).run P w = .ok (.enter f vs.toArray) w := by
    rw [execOp_call_go]
    have e1 : xs.map a.eval = vs.toArray := by rw [← Array.toList_inj]; simp [hs.evs ha]
    simp only [e1, callFunc, Sem.run_bind, run_program, Result.andThen_ok, hf, hn, hb]
    simp
  unfold Oper.wp
  rw [hr, Oper.upon_enter]
  refine hc.mono (fun e w' he => ?_)
  obtain ⟨rfl, hR⟩ := he
  obtain ⟨bs', hm, hk⟩ := k w' hR
  exact hk _ ((hs.mem_to hm).put (by simpa using hN) r)
/-- A call whose answer is not fixed. -/
theorem e_callX {f : FuncId} {fn : Func} {xs : Array Operand} {ats : Array TypeId} {vs : List Value} {R : Ending → World → Prop} (hf : P.funcs[f]? = some fn) (hn : (fn.name == "runtime.NumGoroutine") = false) (hb : fn.body.isNone = false) (hs : St N w0 σ bs a w) (hN : Nat.blt d N = true) (ha : evs σ xs.toList = some vs)
    (hc : Calls P f vs.toArray w R) (k : ∀ e w', R e w' → ∃ v, e = .returned v ∧ ∃ bs', H w0 bs' w' ∧ ∀ a, St N w0 ((d, v) :: σ) bs' a w' → K a w') : (Oper.mk (some d) (.call { callee := .value (.func f), args := xs, argTypes := ats }) ty ps af gd).wp P a w K Q := by
  have hr : (execOp a.eval (Oper.mk (some d) (.call { callee := .value (.func f), args := xs, argTypes := ats }) ty ps af gd)).run P w = .ok (.enter f vs.toArray) w := by
    rw [execOp_call_go]
    have e1 : xs.map a.eval = vs.toArray := by rw [← Array.toList_inj]; simp [hs.evs ha]
    simp only [e1, callFunc, Sem.run_bind, run_program, Result.andThen_ok, hf, hn, hb]
    simp
  unfold Oper.wp
  rw [hr, Oper.upon_enter]
  refine hc.mono (fun e w' he => ?_)
  obtain ⟨v, rfl, bs', hm, hk⟩ := k e w' he
  exact hk _ ((hs.mem_to hm).put (by simpa using hN) v)
theorem e_callB {f : FuncId} {fn : Func} {xs : Array Operand} {ats : Array TypeId} {vs : List Value} (hf : P.funcs[f]? = some fn) (hn : (fn.name == "runtime.NumGoroutine") = false) (hb : fn.body.isNone = false) (hs : St N w0 σ bs a w) (hN : Nat.blt d N = true) (ha : evs σ xs.toList = some vs)
    (hc : Calls P f vs.toArray w (fun e w' => e = .returned r ∧ Below w.heap.size w w')) (k : ∀ a w, St N w0 ((d, r) :: σ) bs a w → K a w) : (Oper.mk (some d) (.call { callee := .value (.func f), args := xs, argTypes := ats }) ty ps af gd).wp P a w K Q :=
  e_call hf hn hb hs hN ha hc (fun w' hb => ⟨bs, hs.mem.grow hb, fun a hs => k a w' hs⟩)
/-- A slice of a literal's length. -/
theorem e_bslice {e : TypeId} {z : Value} {len size : Nat} {parts : Array (Nat × Operand)} {vs cl : List Value} {zc cs : Array Value} (hs : St N w0 σ bs a w) (hN : Nat.blt d N = true) (ht : P.underlying t = some (.slice e)) (hinfo : (P.info? e).map (fun i => (i.zero, i.size)) = some (some z, size)) (h0 : Nat.beq (len * size) 0 = false) (h24 : Nat.ble (len * size) (2 ^ 24) = true)
    (hv : evs σ (parts.toList.map (·.2)) = some vs) (hzc : (Array.range (len * size)).map (z.cells[· % z.cells.size]!) = zc) (hfill : fillG (fun i => some (i * size, size)) zc.toList ((parts.toList.map (·.1)).zip vs) = some cl) (hcl : cl.toArray = cs)
    (k : ∀ g a w, St N w0 ((d, .slice (some ⟨g, 0, Option.none⟩) len len) :: σ) (pt g cs e :: bs) a w → K a w) : (Oper.mk (some d) (.buildSlice t len parts) ty ps af gd).wp P a w K Q := by
  have e1 : (parts.map fun (p : Nat × Operand) => (p.1, a.eval p.2)).toList = (parts.toList.map (·.1)).zip vs := by
    rw [← hs.evs hv]
    simp [List.zip_map', List.map_map, Function.comp_def]
  have hfill := fill_of _ _ _ _ hfill
  rw [hcl, ← hzc] at hfill
  have hb0 : len * size ≠ 0 := fun h => by rw [h] at h0; cases h0
  obtain ⟨i, hi, hz, hsz⟩ : ∃ i, P.info? e = some i ∧ i.zero = some z ∧ i.size = size := by
    cases h1 : P.info? e with
    | none => rw [h1] at hinfo; cases hinfo
    | some i =>
      rw [h1] at hinfo
      simp only [Option.map_some, Option.some.injEq, Prod.mk.injEq] at hinfo
      exact ⟨i, rfl, hinfo.1, hinfo.2⟩
  have hb1 : ¬ len * size > 2 ^ 24 := by have := Nat.le_of_ble_eq_true h24; omega
  have e2 : execOp a.eval (Oper.mk (some d) (.buildSlice t len parts) ty ps af gd) = (do pure (.value (← Instr.buildSlice t len (parts.map fun (p : Nat × Operand) => (p.1, a.eval p.2))))) := rfl
  have hr : (execOp a.eval (Oper.mk (some d) (.buildSlice t len parts) ty ps af gd)).run P w = .ok (.value (.slice (some ⟨w.heap.size, 0, Option.none⟩) len len)) (w.alloc (.cells cs e)) := by
    rw [e2]
    unfold Instr.buildSlice
    simp only [Sem.run_bind, run_underlying ht, Result.andThen_ok, sizeOf, typeInfo, run_program, hi, Sem.run_pure, hsz, if_neg hb1, if_neg hb0, zeroValue, hz, e1, hfill]
    simp [newRow]
  unfold Oper.wp
  rw [hr, Oper.upon_value]
  exact k _ _ _ ((hs.mem_to (hs.mem.alloc _ _)).put (by simpa using hN) _)
theorem own_base {base base' e n1 : Nat} {size : Nat} {A : Value} {xs : List Value} (h : w.ownsRow base e size A n1 xs) (hb : base' ≤ base) : w.ownsRow base' e size A n1 xs := by
  refine ⟨h.1, ?_⟩
  rcases h.2 with h | ⟨g', cap', cur', he, hb', rest⟩
  · exact .inl h
  · exact .inr ⟨g', cap', cur', he, Nat.le_trans hb hb', rest⟩
/-- An append: the block behind it is the elder one or new. -/
theorem run_append_at (w : World) (t ty e : TypeId) (i : TypeInfo) (z : Value) (size bytes : Nat) (ht : P.underlying t = some (.slice e)) (hi : P.info? e = some i) (hz : i.zero = some z)
    (hsize : i.size = size) (hby : i.bytes = bytes) (hzs : z.cells.size = size) (hsz : 0 < size) (A : Value) (n1 : Nat) (xs : List Value) (hown : w.ownsRow 0 e size A n1 xs)
    (ad : Addr) (m1 c1 : Nat) (news : List Value) (hl : news.length = m1 * size) (hnews : ∀ j u, news[j]? = some u → w.cell? (ad.add j) = some u) (h1 : ∀ u ∈ news, u.oneCell' = true)
    (h63 : n1 + m1 ≤ maxLen) (hbytes : (n1 + m1) * bytes ≤ 140737488355328) :
    ∃ v' w', (Builtin.append_ #[t, t] ty #[A, .slice (some ad) m1 c1]).run P w = .ok v' w' ∧ w'.ownsRow 0 e size v' (n1 + m1) (xs ++ news) ∧ w.grownBy w' A.ownBlock ∧ (∀ g, v'.ownBlock = some g → A.ownBlock = some g ∨ w.heap.size ≤ g) := by
  have hlen := hown.1
  rcases hown.2 with ⟨hv, hn⟩ | ⟨g, cap, cur, hv, hbg, hg, hnc, hcm, hcs, htake⟩
  · subst hv; subst hn
    obtain rfl : xs = [] := List.eq_nil_of_length_eq_zero (by simpa using hlen)
    obtain ⟨v', w', hr, h2, h3, _⟩ := run_append_own (P := P) w w.heap.size t ty e i z size bytes ht hi hz hsize hby hzs hsz (.slice Option.none 0 0) 0 [] (World.ownsRow_nil _ _ _ _) ad m1 c1 news hl hnews h1 h63 hbytes (Nat.le_refl _)
    exact ⟨v', w', hr, own_base h2 (Nat.zero_le _), h3, fun g hg => .inr (h2.lt g hg).1⟩
  · subst hv
    by_cases hroom : n1 + m1 ≤ cap
    · obtain ⟨w', hr, h2, h3⟩ := run_append_fits (P := P) w 0 t ty e i size ht hi hsize g n1 cap xs hown ad m1 c1 news hl hnews h1 hroom
      exact ⟨_, w', hr, h2, h3, fun g' hg' => .inl hg'⟩
    · obtain ⟨v', w', hr, h2, h3⟩ := run_append_arg_grows (P := P) w t ty e i z size bytes ht hi hz hsize hby hzs hsz ⟨g, 0, Option.none⟩ n1 cap xs hlen (hown.cells (g := g) rfl) ad m1 c1 news hl hnews (by omega) h63 hbytes
      exact ⟨v', w', hr, own_base h2 (Nat.zero_le _), ⟨h3.os, h3.tape, h3.output, h3.size, fun k hk _ => h3.block k hk (by simp)⟩, fun g' hg' => .inr (h2.lt g' hg').1⟩
/-- append of a block's cells to a slice of the call's own. -/
theorem e_append {s1 x1 : Operand} {e : TypeId} {z : Value} {size bytes n1 m1 c1 g : Nat} {A : Value} {xs news : List Value} {cs : Array Value} {t2 : TypeId} {bs' bs2 : List Res} (k1 : Nat) (h1 : takeAt bs k1 = some (row e size A n1 xs, bs')) (k2 : Nat) (h2 : takeAt bs k2 = some (pt g cs t2, bs2)) (hs : St N w0 σ bs a w) (hN : Nat.blt d N = true)
    (ht : P.underlying t = some (.slice e)) (hinfo : (P.info? e).map (fun i => (i.zero, i.size, i.bytes)) = some (some z, size, bytes)) (hzs : z.cells.size = size) (hsz : Nat.blt 0 size = true)
    (hx : ev σ s1 = some A) (hy : ev σ x1 = some (.slice (some ⟨g, 0, Option.none⟩) m1 c1)) (hcs : cs.toList = news) (hl : news.length = m1 * size) (ho : news.all (·.oneCell') = true) (h63 : n1 + m1 ≤ maxLen) (hb : (n1 + m1) * bytes ≤ 140737488355328)
    (k : ∀ A' c' a w, St N w0 ((d, .slice A' (n1 + m1) c') :: σ) (row e size (.slice A' (n1 + m1) c') (n1 + m1) (xs ++ news) :: bs') a w → K a w) : (Oper.mk (some d) (.call { callee := .builtin .append, args := #[s1, x1], argTypes := #[t, t] }) ty ps af gd).wp P a w K Q := by
  obtain ⟨i, hi, hz, hsize, hby⟩ : ∃ i, P.info? e = some i ∧ i.zero = some z ∧ i.size = size ∧ i.bytes = bytes := by
    cases h3 : P.info? e with
    | none => rw [h3] at hinfo; cases hinfo
    | some i =>
      rw [h3] at hinfo
      simp only [Option.map_some, Option.some.injEq, Prod.mk.injEq] at hinfo
      exact ⟨i, rfl, hinfo.1, hinfo.2.1, hinfo.2.2⟩
  have hm1 := hs.mem.to k1 h1
  have hm2 := hs.mem.to k2 h2
  have hrow : w.ownsRow 0 e size A n1 xs := (hm1.own _ (.head _)).1
  obtain ⟨v', w', hr, hown, hgr, hbl⟩ := run_append_at (P := P) w t ty e i z size bytes ht hi hz hsize hby hzs (by simpa using hsz) A n1 xs hrow ⟨g, 0, Option.none⟩ m1 c1 news hl (fun j u hj => by
    have hadd : (⟨g, 0, Option.none⟩ : Addr).add j = ⟨g, j, Option.none⟩ := by unfold Addr.add; split <;> simp_all
    rw [hadd, hm2.cell, ← Array.getElem?_toList, hcs]
    exact hj) (fun u hu => (List.all_eq_true.1 ho) u hu) h63 hb
  have hshape : ∃ A' c', v' = .slice A' (n1 + m1) c' := by
    rcases hown.2 with ⟨hv, hn⟩ | ⟨g', cap, cur, hv, _⟩
    · exact ⟨Option.none, 0, by rw [hv, hn]⟩
    · exact ⟨_, _, hv⟩
  obtain ⟨A', c', rfl⟩ := hshape
  unfold Oper.wp execOp
  simp only [resolve, invoke, builtin, Sem.run_bind, Sem.run_pure, Result.andThen_ok, List.map_toArray, List.map_cons, List.map_nil, hs.ev hx, hs.ev hy, hr]
  rw [Oper.upon_value]
  exact k A' c' _ _ ((hs.mem_to (hm1.upd hgr.os hgr.tape hgr.output hgr.size (fun k hk hne => hgr.block k hk (fun e2 => hne e2.symm)) hown (fun g' hg' => ⟨hbl g' hg', (hown.lt g' hg').2⟩))).put (by simpa using hN) _)
theorem calls_enter {f : FuncId} {fn : Func} {c : Code} {args : List Value} {n : Nat} {R : Ending → World → Prop} (hf : P.funcs[f]? = some fn) (hb : fn.body = some c) (hn : fn.ntmps = N) (ha : args.length + n = N) (h : H w0 bs w)
    (k : ∀ a, St N w0 (argsOf args 0) bs a w → c.wp P (bodyPost P fn R) a w) : Calls P f args.toArray w R :=
  calls_of_wp hf hb (by
    have e : fn.ntmps - args.toArray.size = n := by rw [hn]; simp; omega
    rw [e]
    exact k _ (St.enter ha h))
theorem then_normal {next : Act → World → Prop} (h : next a w) : Exit.then next Q .normal a w := h
theorem then_exit {next : Act → World → Prop} {j : Nat} (h : Q (.exit j) a w) : Exit.then next Q (.exit j) a w := h
theorem then_ret {next : Act → World → Prop} (h : Q .ret a w) : Exit.then next Q .ret a w := h
theorem then_goto {next : Act → World → Prop} {j : Nat} (h : Q (.goto j) a w) : Exit.then next Q (.goto j) a w := h
theorem in_normal {j : Nat} (h : Q .normal a w) : Exit.inBlock j Q .normal a w := h
theorem in_ret {j : Nat} (h : Q .ret a w) : Exit.inBlock j Q .ret a w := h
theorem in_goto {j l : Nat} (h : Q (.goto l) a w) : Exit.inBlock j Q (.goto l) a w := h
theorem in_here {j : Nat} (h : Q .normal a w) : Exit.inBlock j Q (.exit j) a w := by simp only [Exit.inBlock, if_true]; exact h
theorem in_other {j l : Nat} (hne : Nat.beq l j = false) (h : Q (.exit l) a w) : Exit.inBlock j Q (.exit l) a w := by
  have : l ≠ j := fun e => by subst e; simp at hne
  simp only [Exit.inBlock, if_neg this]; exact h
theorem jump_normal {l : Nat} {J : Act → World → Prop} (h : Q .normal a w) : Exit.jump l J Q .normal a w := h
theorem jump_ret {l : Nat} {J : Act → World → Prop} (h : Q .ret a w) : Exit.jump l J Q .ret a w := h
theorem jump_goto {l : Nat} {J : Act → World → Prop} (h : J a w) : Exit.jump l J Q (.goto l) a w := ⟨rfl, h⟩
theorem least {p : Nat → Prop} (h : ∃ m, p m) : ∃ m, p m ∧ ∀ k, p k → m ≤ k := by
  obtain ⟨m, hm⟩ := h
  induction m using Nat.strongRecOn with
  | _ m ih =>
    by_cases h : ∃ k, k < m ∧ p k
    · obtain ⟨k, hk, hp⟩ := h
      exact ih k hk hp
    · exact ⟨m, hm, fun k hk => Nat.le_of_not_lt (fun hlt => h ⟨k, hlt, hk⟩)⟩
/-- What holds behind the first part, whichever way it came there. -/
theorem wp_seq_cut {x y : Code} (Mid : Act → World → Prop) (hx : x.wp P (Exit.then Mid Q) a w) (hy : ∀ a w, Mid a w → y.wp P Q a w) : (Code.seq x y).wp P Q a w :=
  wp_seq (wp_mono hx (fun e a w h => by cases e <;> first | exact hy _ _ h | exact h))
open Classical in
/-- A loop with a number that goes down. -/
theorem wp_loopN {c : Code} (I : Nat → Act → World → Prop) (n : Nat) (h0 : I n a w) (round : ∀ m a w, I m a w → c.wp P (Exit.then (fun a' w' => ∃ m', m' < m ∧ I m' a' w') Q) a w) : (Code.loop c).wp P Q a w := by
  refine wp_loop (fun a w => ∃ m, I m a w) (fun a w => if h : ∃ m, I m a w then Classical.choose (least h) else 0) ⟨n, h0⟩ (fun a w h => ?_)
  have hm := round (Classical.choose (least h)) a w ((Classical.choose_spec (least h)).1)
  refine wp_mono hm (fun e a' w' he => ?_)
  cases e <;> try exact he
  obtain ⟨m', hlt, hI⟩ := he
  have hex : ∃ m, I m a' w' := ⟨m', hI⟩
  refine ⟨hex, ?_⟩
  rw [dif_pos h, dif_pos hex]
  exact Nat.lt_of_le_of_lt ((Classical.choose_spec (least hex)).2 _ hI) hlt
/-- What a function's results read as. -/
inductive RV (P : Program) (tmps : Array Value) (w : World) : List ResultVar → List Value → Prop where
  | nil : RV P tmps w [] []
  | tmp {u : Tmp} {v : Value} {rs : List ResultVar} {vs : List Value} (hv : tmps.getD u undef = v) (h : RV P tmps w rs vs) : RV P tmps w (.tmp u :: rs) (v :: vs)
  | cell {p : Tmp} {ty : TypeId} {rs : List ResultVar} {vs : List Value} {g : Nat} {t : TypeId} {cs : Array Value} {d : TypeDesc} (hp : tmps.getD p undef = .pointer (some ⟨g, 0, Option.none⟩)) (hg : w.heap[g]? = some (.cells cs t (0, 0)))
      (hu : P.underlying ty = some d) (hd : scalarD d = false) (hi : (P.info? ty).map (·.size) = some cs.size) (h : RV P tmps w rs vs) : RV P tmps w (.cell p ty :: rs) (.agg cs :: vs)
theorem RV.run {tmps : Array Value} {rs : List ResultVar} {vs : List Value} (hv : RV P tmps w rs vs) (f : ResultVar → Sem Value) (hf : ∀ u, f (.tmp u) = pure (tmps.getD u undef)) (hc : ∀ a t, f (.cell a t) = (do loadVar t (← asAddr (tmps.getD a undef)))) :
    (rs.mapM f).run P w = .ok vs w := by
  induction hv with
  | nil => simp
  | tmp hv h ih => simp [List.mapM_cons, hf, ih, hv]
  | @cell p ty rs vs g t cs d hp hg hu hd hi h ih =>
    have hl := run_loadCells_list (P := P) (w := w) ⟨g, 0, Option.none⟩ cs.toList (fun k v hk => by
      have hadd : (⟨g, 0, Option.none⟩ : Addr).add k = ⟨g, k, Option.none⟩ := by unfold Addr.add; split <;> simp_all
      rw [hadd]; simpa [World.cell?, hg] using hk)
    have hsz : (sizeOf ty).run P w = .ok cs.size w := by
      cases h1 : P.info? ty with
      | none => simp [h1] at hi
      | some i => simp [h1] at hi; simp [sizeOf, typeInfo, h1, hi]
    rw [List.mapM_cons, hc, hp]
    simp at hl
    simp [asAddr, loadVar, run_isAgg hu, hd, hsz, hl, ih]
/-- How the results are told. -/
def tell : List Value → Value
  | [v] => v
  | vs => .tuple vs.toArray
theorem results_RV {fn : Func} {tmps : Array Value} {vs : List Value} (hv : RV P tmps w fn.results.toList vs) : (results fn tmps).run P w = .ok (tell vs) w := by
  unfold results
  rw [← Array.toArray_toList (xs := fn.results), List.mapM_toArray]
  simp only [Sem.run_bind, Sem.run_map]
  rw [hv.run]
  · match vs with
    | [] => simp [tell]
    | [v] => simp [tell]
    | v :: u :: r => simp [tell]
  · intro u
    rfl
  · intro a t
    rfl
theorem fin_ret {fn : Func} {vs : List Value} {R : Ending → World → Prop} (hs : St N w0 σ bs a w) (hv : RV P a.tmps w fn.results.toList vs) (hR : R (.returned (tell vs)) w) : bodyPost P fn R .ret a w :=
  ⟨hs.defers, _, results_RV hv, hR⟩
theorem fin_end {fn : Func} {vs : List Value} {R : Ending → World → Prop} (hs : St N w0 σ bs a w) (hv : RV P a.tmps w fn.results.toList vs) (hR : R (.returned (tell vs)) w) : bodyPost P fn R .normal a w :=
  ⟨hs.defers, _, results_RV hv, hR⟩
end
end Go.Proofs.YtibaidddhmdafaaDoor.E
end
