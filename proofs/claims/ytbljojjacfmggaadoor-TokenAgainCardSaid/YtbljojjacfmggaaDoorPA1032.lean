/- Printed by a program of this repo over the kit's printer: functions of the given program as plain Lean functions, each with the proof that the call does what it says. -/
import Derived.Test.YtbljojjacfmggaaDoorPA0
import Derived.Deep.WholeRow
import Derived.Laws.Tables
namespace Go.Proofs.YtbljojjacfmggaaDoor.PA
open Go.RowKit Go.Proofs.YtbljojjacfmggaaDoorW.PrintWords Go.Proofs.YtbljojjacfmggaaDoorW.PrintLast Go.Proofs.YtbljojjacfmggaaDoorW.PrintMore
attribute [local go_sem] max2_int min2_int max_two min_two max_three min_three max_four min_four   -- for this text's walks alone
set_option linter.unusedVariables false
set_option linter.unusedSimpArgs false

/-! ### token_words: function 32 -/
--OWNPART Derived.Deep.WholeRow Derived.Laws.Tables
open Go.RowKit
/-- The words. -/
def wordList : List ByteArray := [(⟨#[99, 111, 100, 101]⟩ : ByteArray), (⟨#[99, 111, 110, 115, 116]⟩ : ByteArray), (⟨#[99, 114, 111, 115, 115]⟩ : ByteArray), (⟨#[100, 111, 109, 97, 105, 110, 115]⟩ : ByteArray), (⟨#[106, 111, 105, 110]⟩ : ByteArray), (⟨#[108, 105, 115, 116]⟩ : ByteArray), (⟨#[108, 111, 99, 97, 108]⟩ : ByteArray), (⟨#[109, 97, 116, 114, 105, 120]⟩ : ByteArray), (⟨#[112, 108, 97, 99, 101]⟩ : ByteArray), (⟨#[112, 114, 111, 100, 117, 99, 116]⟩ : ByteArray), (⟨#[112, 121, 114, 97, 109, 105, 100]⟩ : ByteArray), (⟨#[114, 101, 101, 100]⟩ : ByteArray), (⟨#[114, 111, 119]⟩ : ByteArray), (⟨#[115, 112, 105, 114, 97, 108]⟩ : ByteArray), (⟨#[115, 112, 114, 101, 97, 100]⟩ : ByteArray), (⟨#[116, 111, 108, 101, 114, 97, 116, 101]⟩ : ByteArray), (⟨#[117, 115, 101]⟩ : ByteArray)]
def wordCells : Array Value := #[.string (⟨#[99, 111, 100, 101]⟩ : ByteArray), .string (⟨#[99, 111, 110, 115, 116]⟩ : ByteArray), .string (⟨#[99, 114, 111, 115, 115]⟩ : ByteArray), .string (⟨#[100, 111, 109, 97, 105, 110, 115]⟩ : ByteArray), .string (⟨#[106, 111, 105, 110]⟩ : ByteArray), .string (⟨#[108, 105, 115, 116]⟩ : ByteArray), .string (⟨#[108, 111, 99, 97, 108]⟩ : ByteArray), .string (⟨#[109, 97, 116, 114, 105, 120]⟩ : ByteArray), .string (⟨#[112, 108, 97, 99, 101]⟩ : ByteArray), .string (⟨#[112, 114, 111, 100, 117, 99, 116]⟩ : ByteArray), .string (⟨#[112, 121, 114, 97, 109, 105, 100]⟩ : ByteArray), .string (⟨#[114, 101, 101, 100]⟩ : ByteArray), .string (⟨#[114, 111, 119]⟩ : ByteArray), .string (⟨#[115, 112, 105, 114, 97, 108]⟩ : ByteArray), .string (⟨#[115, 112, 114, 101, 97, 100]⟩ : ByteArray), .string (⟨#[116, 111, 108, 101, 114, 97, 116, 101]⟩ : ByteArray), .string (⟨#[117, 115, 101]⟩ : ByteArray)]
def wordNone : Array Value := #[.string ⟨#[]⟩, .string ⟨#[]⟩, .string ⟨#[]⟩, .string ⟨#[]⟩, .string ⟨#[]⟩, .string ⟨#[]⟩, .string ⟨#[]⟩, .string ⟨#[]⟩, .string ⟨#[]⟩, .string ⟨#[]⟩, .string ⟨#[]⟩, .string ⟨#[]⟩, .string ⟨#[]⟩, .string ⟨#[]⟩, .string ⟨#[]⟩, .string ⟨#[]⟩, .string ⟨#[]⟩]
theorem words_info : (Tryd.prog.info? 63).map (fun i => (i.zero, i.size)) = some (some (.agg wordNone), 17) := by kernel_rfl
theorem words_heap (w : World) (a : Obj) : (w.alloc a).heap[w.heap.size]? = some a := heap_alloc_last w a
theorem words_below {b : Nat} {w w1 : World} {g : Nat} (h : Below b w w1) (hg : b ≤ g) (cs : Array Value) : Below b w (w1.setRow g cs) :=
  h.trans ⟨rfl, rfl, rfl, by simp, fun k hk => setRow_other w1 g k cs (by omega)⟩
theorem wordCells_one : wordCells.all (·.oneCell') = true := by simp [wordCells, Value.oneCell']
theorem token_words.calls (w : World) : Calls Tryd.prog 32 #[] w fun e w' => e = .returned (.agg wordCells) ∧ Below w.heap.size w w' := by
  obtain ⟨hz, hi0⟩ := zero_of_info words_info
  have HI := Aside0.mk (show (Tryd.prog.info? 63).map (·.size) = some wordCells.size from hi0)
  clear hi0
  go_enter Tryd.func32, Tryd.ntmps32
  go_wp2_with (first | (refine wpList_store_row rfl 63 _ _ rfl w.heap.size wordCells rfl rfl 63 wordNone (words_heap _ _) HI.out rfl wordCells_one ?_))
  refine bodyPost_ret (v := .agg wordCells) ?_ rfl ⟨rfl, ?_⟩
  · refine results_cell_row rfl _ _ w.heap.size 63 wordCells (0, 0) _ rfl ?_ Tryd.underlying63 rfl HI.out
    exact setRow_heap _ _ _ _ _ _ (words_heap _ _)
  · exact words_below ((Below.refl _ _).alloc (Nat.le_refl _) _) (Nat.le_refl _) _
theorem word_at (i : Nat) (hi : i < 17) : wordCells[i]? = some (.string (rdOf ByteArray.empty wordList i)) := by
  revert hi
  have : ∀ i : Fin 17, wordCells[i.1]? = some (.string (rdOf ByteArray.empty wordList (i.1 : Int))) := by
    intro i
    have h : i = 0 ∨ i = 1 ∨ i = 2 ∨ i = 3 ∨ i = 4 ∨ i = 5 ∨ i = 6 ∨ i = 7 ∨ i = 8 ∨ i = 9 ∨ i = 10 ∨ i = 11 ∨ i = 12 ∨ i = 13 ∨ i = 14 ∨ i = 15 ∨ i = 16 := by omega
    rcases h with rfl | rfl | rfl | rfl | rfl | rfl | rfl | rfl | rfl | rfl | rfl | rfl | rfl | rfl | rfl | rfl | rfl <;> rfl
  exact fun hi => this ⟨i, hi⟩
theorem wordList_length : wordList.length = 17 := rfl
theorem words_C (w : World) (g : Nat) (hg : w.heap[g]? = some (.cells wordCells 63)) : Kd.C Kd.string w (some ⟨g, 0, none⟩) wordList.length wordList := by
  refine ⟨rfl, by decide, fun _ => ⟨_, rfl, fun j p hj => ⟨[.string p], rfl, rfl, fun i u hu => ?_⟩⟩⟩
  have hi : i = 0 := by
    have := (List.getElem?_eq_some_iff.1 hu).1
    simpa using this
  subst hi
  have hu' : u = .string p := by simpa using hu.symm
  subst hu'
  rw [add_plain]
  simp only [World.cell?, hg]
  show wordCells[j * 1 + 0]? = _
  have hlt : j < 17 := (List.getElem?_eq_some_iff.1 hj).1
  rw [Nat.mul_one, Nat.add_zero, word_at j hlt]
  unfold rdOf
  rw [Int.toNat_natCast, List.getD_eq_getElem?_getD, hj]; rfl

end Go.Proofs.YtbljojjacfmggaaDoor.PA
