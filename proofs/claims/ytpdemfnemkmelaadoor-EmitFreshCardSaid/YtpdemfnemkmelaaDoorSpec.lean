/- What a program's bytes are, in plain words. No conditions. -/
import Derived.Test.YtpdemfnemkmelaaDoorEng6
import Derived.Test.YtpdemfnemkmelaaDoorNum
namespace Go.Proofs.YtpdemfnemkmelaaDoor.E
open Go Go.RowKit Go.Proofs.YtpdemfnemkmelaaDoorW.PrintWords Go.Proofs.YtpdemfnemkmelaaDoorW.PrintLast Go.Proofs.YtpdemfnemkmelaaDoorW.PrintMore Go.Proofs.YtpdemfnemkmelaaDoor.PA Go.Proofs.YtpdemfnemkmelaaDoor.Num
set_option linter.unusedVariables false
set_option linter.unusedSimpArgs false
abbrev Stp := S47
def encS (s : Stp) : List Value := [.int .u8 s.f0, .int .i64 s.f1, .int .i64 s.f2, .int .u8 s.f3]
theorem encS_K (w : World) (x : Stp) (cs : List Value) (h : k47.K w x cs) : cs = encS x := k47_open h
theorem encS_M (w : World) (base : Nat) (ok : Nat → Prop) (x : Stp) (cs : List Value) (h : k47.M w base ok x cs) : cs = encS x := k47_openM h
theorem encS_len (x : Stp) : (encS x).length = k47.sz := rfl
theorem oneS (s : Stp) : (encS s).all (·.oneCell') = true := rfl
/-- How many fields a kind names, and what they are called. -/
def fldN (k : Int) : Nat := if k = 1 then 1 else if k = 2 then 2 else if k = 3 then 3 else if k = 4 then 2 else 0
def fldS (k : Int) : ByteArray := if k = 1 then ⟨#[68]⟩ else if k = 2 then ⟨#[68, 83]⟩ else if k = 3 then ⟨#[68, 83, 67]⟩ else if k = 4 then ⟨#[68, 83]⟩ else ⟨#[]⟩
theorem fld_kinds {k : Int} (h : 0 ≤ k ∧ k ≤ 4) : k = 0 ∨ k = 1 ∨ k = 2 ∨ k = 3 ∨ k = 4 := by omega
theorem fldS_size {k : Int} (h : 0 ≤ k ∧ k ≤ 4) : (fldS k).size = fldN k := by
  rcases fld_kinds h with rfl | rfl | rfl | rfl | rfl <;> rfl
theorem fldN_le (k : Int) : fldN k ≤ 3 := by unfold fldN; split <;> (try split) <;> (try split) <;> (try split) <;> omega
/-- A kind's word. -/
def wordS (k : Int) : ByteArray := if k = 1 then ⟨#[99, 108, 101, 97, 114]⟩ else if k = 2 then ⟨#[108, 111, 97, 100]⟩ else if k = 3 then ⟨#[109, 97, 99]⟩ else if k = 4 then ⟨#[111, 117, 116]⟩ else ⟨#[]⟩
/-- A step that may be; a program that may be. -/
def okStep (s : Stp) : Bool := decide (1 ≤ s.f0 ∧ s.f0 ≤ 4 ∧ 0 ≤ s.f1 ∧ s.f1 ≤ 255 ∧ 0 ≤ s.f2 ∧ s.f2 ≤ 255 ∧ (fldN s.f0 < 2 → s.f2 = 0) ∧ (fldN s.f0 < 3 → s.f3 = 0))
def okHead (l : List Stp) (regs outs : Int) : Bool := decide (0 ≤ regs ∧ regs ≤ 256 ∧ 0 ≤ outs ∧ outs ≤ 64 ∧ l.length ≤ 65536)
def okProg (l : List Stp) (regs outs : Int) : Bool := okHead l regs outs && l.all okStep
theorem okStep_no {s : Stp} (h : ¬ (1 ≤ s.f0 ∧ s.f0 ≤ 4 ∧ 0 ≤ s.f1 ∧ s.f1 ≤ 255 ∧ 0 ≤ s.f2 ∧ s.f2 ≤ 255 ∧ (fldN s.f0 < 2 → s.f2 = 0) ∧ (fldN s.f0 < 3 → s.f3 = 0))) : okStep s = false := decide_eq_false h
theorem okStep_yes {s : Stp} (h : okStep s = true) : 1 ≤ s.f0 ∧ s.f0 ≤ 4 ∧ 0 ≤ s.f1 ∧ s.f1 ≤ 255 ∧ 0 ≤ s.f2 ∧ s.f2 ≤ 255 ∧ (fldN s.f0 < 2 → s.f2 = 0) ∧ (fldN s.f0 < 3 → s.f3 = 0) := of_decide_eq_true h
theorem okProg_head {l : List Stp} {regs outs : Int} (h : ¬ (0 ≤ regs ∧ regs ≤ 256 ∧ 0 ≤ outs ∧ outs ≤ 64 ∧ l.length ≤ 65536)) : okProg l regs outs = false := by
  unfold okProg okHead; rw [decide_eq_false h]; rfl
theorem okProg_step {l : List Stp} {regs outs : Int} {i : Nat} {s : Stp} (hs : l[i]? = some s) (h : okStep s = false) : okProg l regs outs = false := by
  unfold okProg
  rw [Bool.and_eq_false_iff]
  right
  rw [List.all_eq_false]
  exact ⟨s, List.mem_of_getElem? hs, by simp [h]⟩
theorem okProg_all {l : List Stp} {regs outs : Int} (h0 : 0 ≤ regs ∧ regs ≤ 256 ∧ 0 ≤ outs ∧ outs ≤ 64 ∧ l.length ≤ 65536) (h : ∀ j s, j < l.length → l[j]? = some s → okStep s = true) : okProg l regs outs = true := by
  unfold okProg okHead
  rw [decide_eq_true h0, Bool.true_and, List.all_eq_true]
  intro s hs
  obtain ⟨j, hj⟩ := List.getElem?_of_mem hs
  exact h j s (List.getElem?_eq_some_iff.1 hj).1 hj
theorem okProg_yes {l : List Stp} {regs outs : Int} (h : okProg l regs outs = true) : (0 ≤ regs ∧ regs ≤ 256 ∧ 0 ≤ outs ∧ outs ≤ 64 ∧ l.length ≤ 65536) ∧ ∀ s ∈ l, okStep s = true := by
  unfold okProg at h
  rw [Bool.and_eq_true, List.all_eq_true] at h
  exact ⟨of_decide_eq_true h.1, h.2⟩
/-- A step's bytes; a number's eight; a program's. -/
def fieldsL (s : Stp) : List Int := [s.f1, s.f2, s.f3].take (fldN s.f0)
def stepL (s : Stp) : List Int := s.f0 :: fieldsL s
def be8 (r : Int) : List Int := (List.range 8).map (fun j => r / 2 ^ (56 - 8 * j) % 256)
def writeL (l : List Stp) (regs outs reads : Int) : List Int := numL regs.toNat ++ (numL outs.toNat ++ (be8 reads ++ (numL l.length ++ l.flatMap stepL)))
theorem be8_snoc (r : Int) {j : Nat} (hj : j < 8) : (be8 r).take j ++ [r / 2 ^ (56 - 8 * j) % 256] = (be8 r).take (j + 1) := by
  rw [List.take_add_one]
  congr 1
  unfold be8
  rw [List.getElem?_map, List.getElem?_range hj]
  rfl
theorem be8_len (r : Int) : (be8 r).length = 8 := by unfold be8; simp
theorem step_field {s : Stp} (h : okStep s = true) (h3 : 0 ≤ s.f3 ∧ s.f3 ≤ 255) {k : Nat} (hk : k < fldN s.f0) :
    ∃ x, nthV [.int .i64 s.f1, .int .i64 s.f2, .int .i64 s.f3] k = some (.int .i64 x) ∧ (fieldsL s).take k ++ [x] = (fieldsL s).take (k + 1) ∧ 0 ≤ x ∧ x ≤ 255 := by
  have h1 := okStep_yes h
  have h2 := fldN_le s.f0
  obtain ⟨x, hx⟩ : ∃ x, [s.f1, s.f2, s.f3][k]? = some x := ⟨_, List.getElem?_eq_getElem (by simp; omega)⟩
  refine ⟨x, ?_, ?_, ?_⟩
  · rw [nthV_eq]
    have : [Value.int .i64 s.f1, .int .i64 s.f2, .int .i64 s.f3] = [s.f1, s.f2, s.f3].map (Value.int .i64) := rfl
    rw [this, List.getElem?_map, hx]; rfl
  · rw [List.take_add_one]
    congr 1
    unfold fieldsL
    rw [List.getElem?_take, if_pos hk, hx]; rfl
  · have := List.mem_of_getElem? hx
    simp only [List.mem_cons, List.not_mem_nil, or_false] at this
    omega
theorem fieldsL_len (s : Stp) : (fieldsL s).length = fldN s.f0 := by
  unfold fieldsL
  have := fldN_le s.f0
  rw [List.length_take]; simp; omega
theorem stepL_len (s : Stp) : (stepL s).length ≤ 4 := by
  unfold stepL fieldsL
  rw [List.length_cons, List.length_take]
  have := fldN_le s.f0
  omega
theorem numL_short {n : Nat} (h : n < 128 ^ 9) : (numL n).length ≤ 9 := numL_length 8 n h
end Go.Proofs.YtpdemfnemkmelaaDoor.E
