/- Printed by a program of this repo over the kit's printer: functions of the given program as plain Lean functions, each with the proof that the call does what it says. -/
import Derived.Test.YtbljojjacfmggaaDoorPA0
import Derived.Test.YtbljojjacfmggaaDoorPA1032
import Derived.Test.YtbljojjacfmggaaDoorPA1052
import Derived.Deep.WholeRow
import Derived.Laws.Tables
namespace Go.Proofs.YtbljojjacfmggaaDoor.PA
open Go.RowKit Go.Proofs.YtbljojjacfmggaaDoorW.PrintWords Go.Proofs.YtbljojjacfmggaaDoorW.PrintLast Go.Proofs.YtbljojjacfmggaaDoorW.PrintMore
attribute [local go_sem] max2_int min2_int max_two min_two max_three min_three max_four min_four   -- for this text's walks alone
set_option linter.unusedVariables false
set_option linter.unusedSimpArgs false

/-! ### token_is: function 36 -/
--OWNPART Derived.Deep.WholeRow Derived.Laws.Tables
open Go.RowKit
/-- Is a text a word? -/
def wordIn (l : List ByteArray) (a : ByteArray) : Bool := l.any (fun s => decide (a.toList = s.toList))
def token_is.f (a0 : ByteArray) : Option Bool := some (wordIn wordList a0)
theorem xw64 {n : Int} (h : -9223372036854775808 ≤ n) (h1 : n < 9223372036854775808) : wrap64 n = n := by unfold wrap64; omega
theorem xindex_words (a : ByteArray) : ∀ (k i : Nat), 17 ≤ i + k → i ≤ 17 → ∃ r, slices_Index_string_string.l0 (k + 1) wordList a 17 (i : Int) = some r ∧ (decide (r ≥ 0) = wordIn (wordList.drop i) a)
  | k, i, hk, hi => by
    by_cases c : i < 17
    · have c1 : ((i : Int) < 17) := by omega
      have hl : ((i : Int) < (wordList.length : Int)) := by rw [wordList_length]; omega
      have hg : wordList.drop i = rdOf ByteArray.empty wordList (i : Int) :: wordList.drop (i + 1) := by
        have h1 : i < wordList.length := by rw [wordList_length]; exact c
        rw [List.drop_eq_getElem_cons h1]
        unfold rdOf
        rw [Int.toNat_natCast, List.getD_eq_getElem?_getD, List.getElem?_eq_getElem h1]; rfl
      rw [hg]
      simp only [slices_Index_string_string.l0]
      rw [if_pos c1, if_pos (by omega), if_pos hl]
      by_cases e : a.toList = (rdOf ByteArray.empty wordList (i : Int)).toList
      · rw [if_pos e]
        refine ⟨_, rfl, ?_⟩
        have h0 : ((i : Int) ≥ 0) := by omega
        rw [decide_eq_true h0]
        unfold wordIn
        rw [List.any_cons, decide_eq_true e]; rfl
      · rw [if_neg e]
        obtain ⟨k', rfl⟩ : ∃ k', k = k' + 1 := ⟨k - 1, by omega⟩
        obtain ⟨r, hr, hd⟩ := xindex_words a k' (i + 1) (by omega) (by omega)
        refine ⟨r, ?_, ?_⟩
        · rw [show wrap64 ((i : Int) + 1) = ((i + 1 : Nat) : Int) by rw [xw64 (by omega) (by omega)]; omega]
          exact hr
        · rw [hd]
          unfold wordIn
          rw [List.any_cons, decide_eq_false e]; rfl
    · have c1 : ¬ ((i : Int) < 17) := by omega
      simp only [slices_Index_string_string.l0]
      rw [if_neg c1]
      refine ⟨_, rfl, ?_⟩
      rw [List.drop_eq_nil_of_le (by rw [wordList_length]; omega)]
      rfl
theorem xcontains_words (a : ByteArray) : slices_Contains_string_string.f 18 wordList a = some (wordIn wordList a) := by
  obtain ⟨r, hr, hd⟩ := xindex_words a 17 0 (by omega) (by omega)
  unfold slices_Contains_string_string.f slices_Index_string_string.f
  rw [wordList_length]
  have hr' : slices_Index_string_string.l0 18 wordList a ((17 : Nat) : Int) 0 = some r := hr
  rw [hr', Option.bind_some, hd, List.drop_zero]
set_option maxHeartbeats 1000000 in
theorem token_is.calls (a0 : ByteArray) (r : Bool) (w : World) (h : token_is.f a0 = some r) :
    Calls Tryd.prog 36 #[.string a0] w fun e w' => e = .returned (.bool r) ∧ Below w.heap.size w w' := by
  obtain rfl := Option.some.inj h
  clear h
  obtain ⟨hz, hi0⟩ := zero_of_info words_info
  have HI := Aside0.mk (show (Tryd.prog.info? 63).map (·.size) = some wordCells.size from hi0)
  clear hi0
  go_enter Tryd.func36, Tryd.ntmps36
  go_wp2_with (first | (go_at_call 32; refine (token_words.calls _).mono ?_; rintro e w1 ⟨rfl, hb⟩; have HB := Aside0.mk hb; clear hb) | (refine wpList_store_row rfl 63 _ _ rfl w1.heap.size wordCells rfl rfl 63 wordNone (words_heap _ _) HI.out rfl wordCells_one ?_; rw [World.setRow_alloc_new]) | (go_at_call 46; refine (slices_Contains_string_string.calls 18 _ 17 wordList a0 (wordIn wordList a0) _ (words_C _ w1.heap.size (words_heap _ _)) (by rw [wordList_length]; omega) (xcontains_words a0)).mono ?_; rintro e w2 ⟨rfl, hd⟩; obtain ⟨nd, rfl⟩ := hd))
  go_ret
  exact ⟨rfl, pw_below_drewN (HB.out.alloc HB.out.size _) nd⟩

end Go.Proofs.YtbljojjacfmggaaDoor.PA
