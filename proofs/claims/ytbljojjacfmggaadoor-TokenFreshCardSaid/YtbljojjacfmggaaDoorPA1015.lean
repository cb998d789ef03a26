/- Printed by a program of this repo over the kit's printer: functions of the given program as plain Lean functions, each with the proof that the call does what it says. -/
import Derived.Test.YtbljojjacfmggaaDoorPA0
import Derived.Test.YtbljojjacfmggaaDoorPA1011
import Derived.Test.YtbljojjacfmggaaDoorPA1014
import Derived.Test.YtbljojjacfmggaaDoorPA1032
import Derived.Test.YtbljojjacfmggaaDoorPA1034
import Derived.Deep.WholeRow
namespace Go.Proofs.YtbljojjacfmggaaDoor.PA
open Go.RowKit Go.Proofs.YtbljojjacfmggaaDoorW.PrintWords Go.Proofs.YtbljojjacfmggaaDoorW.PrintLast Go.Proofs.YtbljojjacfmggaaDoorW.PrintMore
attribute [local go_sem] max2_int min2_int max_two min_two max_three min_three max_four min_four   -- for this text's walks alone
set_option linter.unusedVariables false
set_option linter.unusedSimpArgs false

/-! ### recouplaw09_TokenNames: function 15 -/
--OWNPART Derived.Deep.WholeRow
def recouplaw09_TokenNames.f : Option Bool := some true
theorem words_ref : recoupref09_Words.f = some wordList := rfl
set_option maxHeartbeats 8000000 in
set_option maxRecDepth 100000 in
theorem recouplaw09_TokenNames.calls (r : Bool) (w : World) (h : recouplaw09_TokenNames.f = some r) :
    Calls Tryd.prog 15 #[] w fun e w' => e = .returned (.bool r) ∧ Below w.heap.size w w' := by
  obtain rfl := Option.some.inj h
  clear h
  go_enter Tryd.func15, Tryd.ntmps15
  go_wp2_with (first | (go_at_call 14; refine (token_Words.walk _).mono ?_; rintro e w1 ⟨g, rfl, hg, hb⟩; have HG := Aside0.mk hg; have HB := Aside0.mk hb; clear hg hb) | (go_at_call 33; refine (recoupref09_Words.calls wordList _ words_ref).mono ?_; rintro e w2 ⟨v, rfl, hR, hb⟩; have HR := Aside0.mk hR; have HB2 := Aside0.mk hb; clear hR hb; obtain ⟨A, c, rfl⟩ := Kd.R_slice HR.out) | (go_at_call 34; refine (token_Signs.calls _ _ rfl).mono ?_; rintro e w3 ⟨rfl, ⟨nd, rfl⟩⟩))
  have HG2 := Aside0.mk (show w2.heap[g]? = some (.cells wordCells 63) from (HB2.out.block g (Array.getElem?_eq_some_iff.1 HG.out).1).trans HG.out)
  have HC1 := Aside0.mk (words_C w2 g HG2.out)
  have HC2 := Aside0.mk (Kd.R_reads' HR.out).2.2
  have HB3 := Aside0.mk (HB.out.trans (HB2.out.mono HB.out.size))
  clear HG HG2 HR HB HB2
  simp only [wordList_length]
  go_loopg [3] 17 (fun q s3 wx => ∃ i : Nat, i + q = 17 ∧ s3 = .int .i64 i ∧ Drawn0 w2 wx)
  case atStart => exact ⟨0, by omega, rfl, ⟨nd, rfl⟩⟩
  case round =>
    obtain ⟨i, hi, rfl, ⟨n1, rfl⟩⟩ := hrel
    cases gk with
    | zero =>
      obtain rfl : i = 17 := by omega
      go_wp2
      go_ret
      exact ⟨rfl, pw_below_drewN HB3.out n1⟩
    | succ q =>
      have hik : i < 17 := by omega
      have hlt : decide ((i : Int) < 17) = true := decide_eq_true (by omega)
      obtain ⟨ad, e1, hx⟩ := Kd.at_string HC1.out (i : Int) (by omega) (by rw [wordList_length]; omega)
      obtain rfl := Option.some.inj e1
      obtain ⟨ad2, e2, hy⟩ := Kd.at_string HC2.out (i : Int) (by omega) (by rw [wordList_length]; omega)
      subst e2
      rw [Int.toNat_natCast] at hx hy
      rw [add_plain] at hx
      generalize rdOf ByteArray.empty wordList i = s at hx hy
      go_wp2
      go_quiet (fail)
      go_wp2
      go_roundg q
      case measure => omega
      case rel => exact ⟨i + 1, by omega, by first | rfl | simp, ⟨_, rfl⟩⟩

end Go.Proofs.YtbljojjacfmggaaDoor.PA
