/- What YtibaidddhmdafaaDoorRTreeFresh's proof reaches of its texts, part 13. Conditions: as each says. -/
import Derived.ArgAppend
import Derived.Below
import Derived.BigCall
import Derived.BigQuiet
import Derived.Deep.AppendLies
import Derived.Deep.CutBlock
import Derived.Deep.DeepCutAuto
import Derived.Deep.Draws
import Derived.Deep.LoopGhost
import Derived.Deep.OwnRows
import Derived.Deep.QuietTactic
import Derived.Deep.RegionHeld3
import Derived.Deep.WholeRow
import Derived.KernelRfl
import Derived.Laws.AppendOwn
import Derived.Laws.BitsLemmas
import Derived.Laws.BytesArg
import Derived.Laws.CopyRow
import Derived.Laws.Externs
import Derived.Laws.IdiomCopy
import Derived.Laws.MakeOwn
import Derived.Laws.OwnMore
import Derived.Laws.Rows
import Derived.Laws.Slices
import Derived.Laws.StructEq
import Derived.Laws.Tables
import Derived.Lib.AppendStr
import Derived.Lib.Builder
import Derived.Lib.Bytealg
import Derived.Lib.ConvBytes
import Derived.Lib.ItoaLen
import Derived.Lib.LaidTab
import Derived.Lib.Strings
import Derived.Lib.Walk
import Derived.Maps.AppendAt
import Derived.OrdersHeld
import Derived.OwnWalk
import Derived.RowKit
import Derived.RowKit3
import Derived.ScopeJumps
import Derived.Shelf.LaysM
import Derived.Shelf.Strconv.Itoa3
import Derived.Shelf.Strings.Builder1
import Derived.Tactics
import Derived.Test.YtibaidddhmdafaaDoorProg
import Derived.WalkKit
import Derived.WideLaws
import Derived.Test.YtibaidddhmdafaaDoorZTreeFresh5
import Derived.Test.YtibaidddhmdafaaDoorZTreeFresh11
import Derived.Test.YtibaidddhmdafaaDoorZTreeFresh12
section
namespace Go.Proofs.YtibaidddhmdafaaDoor.E
open Go Go.RowKit Go.Proofs.YtibaidddhmdafaaDoorW.PrintWords Go.Proofs.YtibaidddhmdafaaDoorW.PrintLast Go.Proofs.YtibaidddhmdafaaDoorW.PrintMore Go.Proofs.YtibaidddhmdafaaDoor.PA
set_option linter.unusedVariables false
set_option linter.unusedSimpArgs false
def tokC (x : S94) : List Value := [.int .u8 x.f0, .string x.f1, .int .i64 x.f2, .int .i64 x.f3, .int .i64 x.f4]
theorem bytes_eq {a b : ByteArray} (h : a.toList = b.toList) : a = b := by
  rw [ByteArray.toList_eq, ByteArray.toList_eq] at h
  cases a; cases b
  exact congrArg ByteArray.mk (Array.toList_inj.1 h)
theorem word_name {t : ByteArray} (h : wordIn wordList t = true) : nameText t = true := by
  unfold wordIn at h
  obtain ⟨x, hx, he⟩ := List.any_eq_true.1 h
  have e : t = x := bytes_eq (of_decide_eq_true he)
  have hall : ∀ y ∈ wordList, nameText y = true := by decide +kernel
  rw [e]; exact hall x hx
def mayB (t : S94) : Bool :=
  if t.f0 = 1 then decide (t.f2 = 0) && nameOk t.f1 else if t.f0 = 2 then decide (t.f2 = 0) && wordIn wordList t.f1 else if t.f0 = 3 then decide (t.f1.size = 0) && (decide (0 ≤ t.f2) && decide (t.f2 ≤ 2147483647))
  else if t.f0 = 4 then decide (t.f2 = 0) && (decide (t.f1.size = 1) && kindOf (bt t.f1 0) == 3) else false
theorem empty_list (s : ByteArray) : s.toList = ([] : List UInt8) ↔ s.size = 0 := by
  rw [ByteArray.toList_eq]
  constructor
  · intro h; show s.data.toList.length = 0; rw [h]; rfl
  · intro h; exact List.eq_nil_of_length_eq_zero h
theorem named_f (s : ByteArray) (hs : s.size ≤ 9223372036854775807) : token_named.f (s.size + 3) s = some (nameText s) := by
  have h := named_loop s hs s.size 0 0 (by omega)
  rw [Nat.zero_add] at h
  exact h
theorem may_prog (t : S94) (hs : t.f1.size ≤ 9223372036854775807) : token_May.f (t.f1.size + 3) t.f0 t.f1 t.f2 t.f3 t.f4 = some (mayB t) := by
  unfold token_May.f mayB
  rw [named_f _ hs, show t.f1.size + 3 = (t.f1.size + 1) + 2 from rfl, kind_ok]
  simp only [Option.bind_some, token_is.f, empty_list]
  by_cases h1 : t.f0 = 1
  · rw [if_pos h1, if_pos h1]
    by_cases h2 : t.f2 = 0
    · rw [if_pos h2, decide_eq_true h2, Bool.true_and]
      unfold nameOk
      cases nameText t.f1 <;> simp
    · rw [if_neg h2, decide_eq_false h2]; rfl
  · rw [if_neg h1, if_neg h1]
    by_cases h2 : t.f0 = 2
    · rw [if_pos h2, if_pos h2]
      by_cases h3 : t.f2 = 0
      · rw [if_pos h3, decide_eq_true h3, Bool.true_and]
      · rw [if_neg h3, decide_eq_false h3]; rfl
    · rw [if_neg h2, if_neg h2]
      by_cases h3 : t.f0 = 3
      · rw [if_pos h3, if_pos h3]
        by_cases h4 : t.f1.size = 0
        · rw [if_pos h4, decide_eq_true h4]
          by_cases h5 : t.f2 ≥ 0
          · rw [if_pos h5, decide_eq_true (show 0 ≤ t.f2 from h5)]; rfl
          · rw [if_neg h5, decide_eq_false (show ¬ 0 ≤ t.f2 from h5)]; rfl
        · rw [if_neg h4, decide_eq_false h4]; rfl
      · rw [if_neg h3, if_neg h3]
        by_cases h4 : t.f0 = 4
        · rw [if_pos h4, if_pos h4]
          by_cases h5 : t.f2 = 0
          · rw [if_pos h5, decide_eq_true h5]
            by_cases h6 : t.f1.size = 1
            · rw [if_pos (by omega), if_pos (by omega), decide_eq_true h6]; rfl
            · rw [if_neg (by omega), decide_eq_false h6]; rfl
          · rw [if_neg h5, decide_eq_false h5]; rfl
        · rw [if_neg h4, if_neg h4]
def formT (t : S94) : ByteArray := if t.f0 = 3 then ⟨(Lib.itoa t.f2).toArray⟩ else t.f1
theorem name_size {s : ByteArray} (h : nameText s = true) : s.size ≤ 16 := by
  unfold nameText at h
  simp only [Bool.and_eq_true, decide_eq_true_eq] at h
  exact h.2.2
theorem form_size {t : S94} (h : mayB t = true) : (formT t).size ≤ 21 := by
  unfold mayB at h
  unfold formT
  split at h
  · rename_i h1
    rw [if_neg (by omega)]
    simp only [Bool.and_eq_true] at h
    have h2 := h.2
    unfold nameOk at h2
    simp only [Bool.and_eq_true] at h2
    have := name_size h2.1
    omega
  · split at h
    · rename_i h1
      rw [if_neg (by omega)]
      simp only [Bool.and_eq_true] at h
      have := name_size (word_name h.2)
      omega
    · split at h
      · rename_i h1
        rw [if_pos h1]
        simp only [Bool.and_eq_true, decide_eq_true_eq] at h
        have := Lib.itoa_length_le t.f2 (by omega) (by omega)
        show (Lib.itoa t.f2).toArray.size ≤ 21
        rw [List.size_toArray]; exact this
      · split at h
        · rename_i h1
          rw [if_neg (by omega)]
          simp only [Bool.and_eq_true, decide_eq_true_eq] at h
          omega
        · cases h
theorem may_num {t : S94} (h : mayB t = true) (h3 : t.f0 = 3) : 0 ≤ t.f2 ∧ t.f2 ≤ 2147483647 := by
  unfold mayB at h
  rw [if_neg (by omega), if_neg (by omega), if_pos h3] at h
  simp only [Bool.and_eq_true, decide_eq_true_eq] at h
  exact h.2
def stepJ (acc : ByteArray) (i : Nat) (t : S94) : ByteArray := (if i > 0 then acc ++ ⟨#[32]⟩ else acc) ++ formT t
def joinP : List S94 → ByteArray → Nat → Option ByteArray
  | [], acc, _ => some acc
  | t :: r, acc, i => if (stepJ acc i t).size > 65536 then none else joinP r (stepJ acc i t) (i + 1)
def joinF (l : List S94) : ByteArray × Int :=
  if l.all mayB = true then match joinP l ⟨#[]⟩ 0 with
    | some s => (s, 0)
    | none => (⟨#[]⟩, 4)
  else (⟨#[]⟩, 2)
def catF : List S94 → ByteArray → Nat → ByteArray
  | [], acc, _ => acc
  | t :: r, acc, i => catF r (stepJ acc i t) (i + 1)
theorem step_size (acc : ByteArray) (i : Nat) (t : S94) : (stepJ acc i t).size = acc.size + (formT t).size + (if i > 0 then 1 else 0) := by
  unfold stepJ
  split
  · rw [ByteArray.size_append, ByteArray.size_append]; show acc.size + 1 + _ = _; omega
  · rw [ByteArray.size_append]; omega
theorem cat_ge : ∀ (l : List S94) (acc : ByteArray) (i : Nat), acc.size ≤ (catF l acc i).size
  | [], acc, i => Nat.le_refl _
  | t :: r, acc, i => by
    have h := cat_ge r (stepJ acc i t) (i + 1)
    rw [step_size] at h
    rw [catF]; omega
theorem join_cat : ∀ (l : List S94) (acc : ByteArray) (i : Nat), acc.size ≤ 65536 → joinP l acc i = if (catF l acc i).size > 65536 then none else some (catF l acc i)
  | [], acc, i, h => by rw [joinP, catF, if_neg (by omega)]
  | t :: r, acc, i, h => by
    rw [joinP, catF]
    by_cases c : (stepJ acc i t).size > 65536
    · have := cat_ge r (stepJ acc i t) (i + 1)
      rw [if_pos c, if_pos (by omega)]
    · rw [if_neg c, join_cat r _ _ (by omega)]
theorem strCells_app (a b : ByteArray) : Lib.strCells (a ++ b) = Lib.strCells a ++ Lib.strCells b := by
  simp [Lib.strCells, ByteArray.data_append]
theorem C_some {A : Option Addr} {n : Nat} {l : List S94} {w : World} (h : Kd.C k94 w A n l) (h0 : 0 < n) :
    ∃ g o, A = some ⟨g, o, none⟩ ∧ ∀ (w' : World), Below w.heap.size w w' → ∀ i t, l[i]? = some t → ∀ j v, (tokC t)[j]? = some v → w'.cell? ⟨g, o + i * 5 + j, none⟩ = some v := by
  obtain ⟨hl, _, hc⟩ := h
  obtain ⟨ad, hA, hr⟩ := hc h0
  obtain ⟨g, o, sp⟩ := ad
  have hlt : 0 < l.length := by omega
  obtain ⟨c0, hlen0, hK0, hc0⟩ := hr 0 (l[0]'hlt) (List.getElem?_eq_getElem hlt)
  obtain rfl := k94_open hK0
  have hz := hc0 0 _ rfl
  have hsp : sp = none := by simpa [Addr.add] using World.cell?_spot hz
  subst hsp
  refine ⟨g, o, hA, fun w' hb i t ht j v hv => ?_⟩
  obtain ⟨c, hlen, hK, hcc⟩ := hr i t ht
  obtain rfl := k94_open hK
  have hcell := hcc j v hv
  have hadd : (⟨g, o, none⟩ : Addr).add (i * 5 + j) = ⟨g, o + i * 5 + j, none⟩ := by
    unfold Addr.add; split <;> simp_all <;> omega
  have hcell' : w.cell? ((⟨g, o, none⟩ : Addr).add (i * 5 + j)) = some v := hcell
  rw [hadd] at hcell'
  rw [World.cell?_of_block (w := w) (hb.block g (World.block_lt_of_cell? w _ hcell'))]
  exact hcell'
end Go.Proofs.YtibaidddhmdafaaDoor.E
end
