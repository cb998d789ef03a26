/- What YtibaidddhmdafaaDoorRTreeFresh's proof reaches of its texts, part 1. Conditions: as each says. -/
import Derived.ArgAppend
import Derived.Below
import Derived.BigQuiet
import Derived.ChangeArms
import Derived.DataReads
import Derived.Deep.AppendLies
import Derived.Deep.CutBlock
import Derived.Deep.DeepCutAuto
import Derived.Deep.Draws
import Derived.Deep.LoopGhost
import Derived.Deep.OwnRows
import Derived.Deep.QuietTactic
import Derived.Deep.RegionHeld3
import Derived.Deep.Slices
import Derived.KernelRfl
import Derived.Laws.BytesArg
import Derived.Laws.IdiomCopy
import Derived.Laws.MakeOwn
import Derived.Laws.OwnMore
import Derived.Laws.Rows
import Derived.Laws.Slices
import Derived.Lib.AppendStr
import Derived.Lib.ConvBytes
import Derived.Maps.AppendAt
import Derived.OwnWalk
import Derived.ProofKit
import Derived.RowKit
import Derived.RowKit3
import Derived.SizedLaws
import Derived.Tactics
import Derived.Test.YtibaidddhmdafaaDoorRows
import Derived.WalkKit
import Derived.WideLaws
import Derived.Test.YtibaidddhmdafaaDoorZTreeFresh0
section
namespace Go.Proofs.YtibaidddhmdafaaDoor.Open
open Go Go.RowKit Go.Proofs.YtibaidddhmdafaaDoorW.PrintWords Go.ChangeShapes Go.WideShapes
set_option linter.unusedVariables false
/-- What a reading of cells says. -/
def Opens {α : Type} (d : Kd α) (T : TypeId) (G : α → Prop) (m : α → Nat) (N : Nat) : Prop :=
  ∀ {H : Type} (enc : TypeId × Value → H) (W : World) (spare : Nat → Bool) (held : Bool) (fuel : Nat) (cs : List Value) (dat : DataW H) (ps : List MemPlace), fuel ≤ N →
    DataW.trod enc Tryd.prog W 0 spare held fuel T cs = some (dat, ps) → ∃ x, d.K W x cs ∧ G x ∧ m x ≤ Rows.uptoBulk dat
theorem opens_int {T : TypeId} {k : IntKind} (hu : Tryd.prog.underlying T = some (.int k)) (N : Nat) : Opens (Kd.int k) T (fun x => (Lit.int k x).wf = true) (fun _ => 1) N := by
  intro H enc W spare held fuel cs dat ps _ h
  obtain ⟨n, rfl, hx, hw⟩ := DataW.trod_int hu h
  obtain ⟨rfl, _⟩ := Prod.mk.inj hx
  exact ⟨n, rfl, hw, by simp [Rows.uptoBulk]⟩
theorem opens_string {T : TypeId} (hu : Tryd.prog.underlying T = some .string) (N : Nat) : Opens Kd.string T (fun s => s.size ≤ maxLen) (fun s => s.size + 1) N := by
  intro H enc W spare held fuel cs dat ps _ h
  obtain ⟨s, rfl, hx, hs⟩ := DataW.trod_string hu h
  obtain ⟨rfl, _⟩ := Prod.mk.inj hx
  exact ⟨s, rfl, hs, by simp only [Rows.uptoBulk, Array.length_toList]; exact Nat.le_refl _⟩
theorem bulk_sum {H : Type} (l : List (DataW H)) : Rows.uptoBulkAll l = (l.map Rows.uptoBulk).sum := by
  induction l with
  | nil => simp [Rows.uptoBulkAll]
  | cons d l ih => simp [Rows.uptoBulkAll, ih]
/-- So many elements, one by one. -/
theorem gather {α : Type} (P : Nat → α → Prop) (m : α → Nat) (b : Nat → Nat) (n : Nat) (h : ∀ i, i < n → ∃ x, P i x ∧ m x ≤ b i) :
    ∃ xs : List α, xs.length = n ∧ (∀ (j : Nat) p, xs[j]? = some p → P j p) ∧ (xs.map m).sum ≤ ((List.range n).map b).sum := by
  induction n with
  | zero => exact ⟨[], rfl, fun j p hj => by simp at hj, by simp⟩
  | succ n ih =>
    obtain ⟨xs, hl, hp, hs⟩ := ih (fun i hi => h i (by omega))
    obtain ⟨x, hx, hm⟩ := h n (by omega)
    refine ⟨xs ++ [x], by simp [hl], fun j p hj => ?_, ?_⟩
    · by_cases hjn : j < n
      · rw [List.getElem?_append_left (by omega)] at hj; exact hp j p hj
      · have hlt := (List.getElem?_eq_some_iff.1 hj).1
        rw [List.length_append, List.length_singleton] at hlt
        obtain rfl : j = n := by omega
        rw [List.getElem?_append_right (by omega), hl, Nat.sub_self] at hj
        have hj' : x = p := by simpa using hj
        rw [← hj']; exact hx
    · rw [List.map_append, List.sum_append, List.range_succ, List.map_append, List.sum_append]
      simp only [List.map_cons, List.map_nil, List.sum_cons, List.sum_nil]
      omega
set_option maxRecDepth 100000 in
theorem opens_slice {α : Type} {d : Kd α} {T E : TypeId} {G : α → Prop} {m : α → Nat} {N : Nat} (hu : Tryd.prog.underlying T = some (.slice E)) (hc : Tryd.prog.cellsOf E = d.sz) (ho : Opens d E G m N) :
    Opens (Kd.slice E d) T (fun xs => xs.length ≤ 9223372036854775807 ∧ ∀ x ∈ xs, G x) (fun xs => (xs.map m).sum + 1) (N + 1) := by
  intro H enc W spare held fuel cs dat ps hfu h
  rcases DataW.trod_slice hu h with ⟨rfl, hx⟩ | ⟨a, len, cap, elems, rest, n, hfn, rfl, hx, hb, hl, hm, hlen, hel, _⟩
  · obtain ⟨rfl, _⟩ := Prod.mk.inj hx
    exact ⟨[], ⟨none, 0, rfl, Nat.le_refl _, Kd.C_nil d W⟩, ⟨by simp, fun x hx => by simp at hx⟩, by simp [Rows.uptoBulk]⟩
  · obtain ⟨rfl, _⟩ := Prod.mk.inj hx
    have key : ∀ i, i < len → ∃ x : α, ((∃ c, c.length = d.sz ∧ d.K W x c ∧ ∀ j u, c[j]? = some u → W.cell? (a.add (i * d.sz + j)) = some u) ∧ G x) ∧ m x ≤ Rows.uptoBulk (elems.getD i (.nil, [])).1 := by
      intro i hi
      have h1 := hel i hi
      have hei : i < elems.length := by omega
      rw [List.getElem?_eq_getElem hei, hc] at h1
      obtain ⟨c, hc1, hc2⟩ := Option.bind_eq_some_iff.1 h1
      obtain ⟨hbase, hcl, hcell⟩ := World.cells?_some hc1
      have hq : elems[i] = ((elems[i]).1, (elems[i]).2) := rfl
      rw [hq] at hc2
      obtain ⟨x, hK, hG, hmx⟩ := ho enc W spare held n c _ _ (by omega) hc2
      refine ⟨x, ⟨⟨c, hcl, hK, fun j u hu => ?_⟩, hG⟩, ?_⟩
      · have hj : j < d.sz := by have := (List.getElem?_eq_some_iff.1 hu).1; omega
        have h2 := hcell j hj
        rw [Addr.add_add] at h2
        rw [h2, hu]
      · rw [List.getD_eq_getElem?_getD, List.getElem?_eq_getElem hei]; exact hmx
    obtain ⟨xs, hxl, hxp, hxs⟩ := gather _ m (fun i => Rows.uptoBulk (elems.getD i (.nil, [])).1) len key
    refine ⟨xs, ⟨some a, cap, by rw [hxl], by omega, hxl ▸ rfl, by unfold maxLen at hm; omega, fun _ => ⟨a, rfl, fun j p hj => (hxp j p hj).1⟩⟩, ⟨by unfold maxLen at hm; omega, fun x hx => ?_⟩, ?_⟩
    · obtain ⟨j, hj⟩ := List.mem_iff_getElem?.1 hx
      exact (hxp j x hj).2
    · have hsum : ((List.range len).map fun i => Rows.uptoBulk (elems.getD i (.nil, [])).1).sum = ((elems.map (·.1)).map Rows.uptoBulk).sum := by
        congr 1
        apply List.ext_getElem
        · simp [hlen]
        · intro i h1 h2
          simp only [List.getElem_map, List.getElem_range]
          rw [List.getD_eq_getElem?_getD, List.getElem?_eq_getElem (by simpa using h2)]; rfl
      simp only [Rows.uptoBulk, bulk_sum]
      omega
/-- A row's slice is no longer than its weight allows. -/
theorem sized_any {H : Type} {enc : TypeId × Value → H} {W : World} {base : Nat} {spare : Nat → Bool} {held : Bool} {t e : TypeId} {a : Option Addr} {len cap : Nat} {d : DataW H} {ps : List MemPlace} {ts : List TypeId} {ds : List (DataW H)} {j : Nat}
    (hsz : (DataW.weightsEach Tryd.prog ts ds).all (· ≤ reachBytes) = true) (ht : ts[j]? = some t) (hd : ds[j]? = some d) (hu : Tryd.prog.underlying t = some (.slice e)) {B : Nat} (hB : Tryd.prog.bytesOf e = B)
    (h : DataW.Trod enc Tryd.prog W base spare held t (.slice a len cap) d ps) : len * B ≤ 140737488351232 := by
  obtain ⟨fuel, hf⟩ := h
  rcases DataW.trod_slice hu hf with ⟨hcs, _⟩ | ⟨x, l, c, elems, rest, n, _, hcs, hx, _, hl, _, hlen, _, _⟩
  · simp [Value.cells] at hcs
    obtain ⟨rfl, rfl, rfl⟩ := hcs
    simp
  · simp [Value.cells] at hcs
    obtain ⟨rfl, rfl, rfl⟩ := hcs
    obtain ⟨rfl, _⟩ := Prod.mk.inj hx
    have z := sized_slice hsz ht hd hu
    rw [hB, List.length_map, List.length_map] at z
    exact Nat.le_trans (Nat.mul_le_mul_right _ (by omega)) z
end Go.Proofs.YtibaidddhmdafaaDoor.Open
end
