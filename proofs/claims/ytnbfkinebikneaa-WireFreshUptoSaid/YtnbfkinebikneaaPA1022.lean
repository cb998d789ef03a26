/- Printed by a program of this repo over the kit's printer: functions of the given program as plain Lean functions, each with the proof that the call does what it says. -/
import Derived.Test.YtnbfkinebikneaaPA0
import Derived.Test.YtnbfkinebikneaaPA1019
import Derived.Test.YtnbfkinebikneaaPA1020
import Derived.Test.YtnbfkinebikneaaPA1033
import Derived.Lib.SlBytesConst
import Derived.Laws.NewBlocks
namespace Go.Proofs.Ytnbfkinebikneaa.PA
open Go.RowKit Go.Proofs.YtnbfkinebikneaaW.PrintWords Go.Proofs.YtnbfkinebikneaaW.PrintLast Go.Proofs.YtnbfkinebikneaaW.PrintMore
attribute [local go_sem] max2_int min2_int max_two min_two max_three min_three max_four min_four   -- for this text's walks alone
set_option linter.unusedVariables false
set_option linter.unusedSimpArgs false

/-! ### recouplaw08_anchored: function 22 -/
--OWNPART Derived.Lib.SlBytesConst Derived.Laws.NewBlocks
def recouplaw08_anchored.f : Option Bool := some true
theorem anchored_num : wire_Num.f 5 300 = some ([172, 2], 0) := by decide +kernel
theorem anchored_sum : wire_Sum.f [49, 50, 51, 52, 53, 54, 55, 56, 57] = some 3421780262 := by decide +kernel
theorem anchored_same : recoupref01_Same.f [172, 2] [172, 2] = some true := by simp [recoupref01_Same.f]
/-- A literal row that was just laid, marked or not, reads as its numbers. -/
theorem C_lit (k : IntKind) (w : World) (xs : List Int) (e : TypeId) (fr : Nat × Nat) (h : xs.length ≤ 9223372036854775807) :
    Kd.C (Kd.int k) (w.alloc (.cells (nums k xs).toArray e fr)) (some ⟨w.heap.size, 0, none⟩) xs.length xs := by
  refine ⟨rfl, h, fun _ => ⟨_, rfl, fun j p hj => ⟨[.int k p], rfl, rfl, fun i u hu => ?_⟩⟩⟩
  have hi : i = 0 := by
    have := (List.getElem?_eq_some_iff.1 hu).1
    simpa using this
  subst hi
  have hu' : u = .int k p := by simpa using hu.symm
  subst hu'
  rw [add_plain]
  have : (w.alloc (.cells (nums k xs).toArray e fr)).heap[w.heap.size]? = some (.cells (nums k xs).toArray e fr) := heap_alloc_new w _
  simp only [World.cell?, this]
  show (nums k xs).toArray[j * 1 + 0]? = _
  rw [Nat.mul_one, Nat.add_zero, List.getElem?_toArray]
  unfold nums
  rw [List.getElem?_map, hj]; rfl
set_option maxHeartbeats 8000000 in
set_option maxRecDepth 100000 in
theorem recouplaw08_anchored.calls (r : Bool) (w : World) (h : recouplaw08_anchored.f = some r) :
    Calls Try.prog 22 #[] w fun e w' => e = .returned (.bool r) ∧ Below w.heap.size w w' := by
  obtain rfl := Option.some.inj h
  clear h
  have kc := fun (w : World) (C : Array Value) (n c : Nat) => Go.Lib.run_convert_bytes_const (P := Try.prog) w 22 5 C n c Try.underlying22 Try.underlying5
  have HB := Aside0.mk (Below.refl w.heap.size w)
  go_enter Try.func22, Try.ntmps22
  go_wp2_with (first
    | (go_at_call 15; refine (wire_Num.calls 5 300 [172, 2] 0 _ anchored_num).mono ?_; rintro e w1 ⟨v1, rfl, hR, hb⟩; have HB1 := Aside0.mk hb; have HR := Aside0.mk hR; clear hb hR; obtain ⟨Ao, co, eo⟩ := Kd.R_slice HR.out; subst eo)
    | (go_at_call 19; refine (recoupref01_Same.calls _ _ [172, 2] _ _ [172, 2] true _ ?s1 ?s2 ?s3 ?s4 anchored_same).mono ?_; (case s1 => exact Kd.C_alloc (Kd.R_reads' HR.out).2.2 _); (case s2 => exact (Kd.R_reads' HR.out).2.1); (case s3 => exact C_lit .u8 w1 [172, 2] 5 (0, 0) (by decide)); (case s4 => exact Nat.le_refl _); rintro e w2 ⟨rfl, hd⟩; have HB2 := Aside0.mk (Below.trans (HB1.out.alloc HB1.out.size _) (hd.below.mono (Nat.le_trans HB1.out.size (by simp)))); clear hd)
    | (go_at_call 20; refine (wire_Sum.calls _ _ [49, 50, 51, 52, 53, 54, 55, 56, 57] 3421780262 _ (C_lit .u8 w2 _ 5 _ (by decide)) (Nat.le_refl _) anchored_sum).mono ?_; rintro e w3 ⟨rfl, hb3⟩; have HB3 := Aside0.mk (Below.trans (HB2.out.alloc HB2.out.size _) (hb3.mono (Nat.le_trans HB2.out.size (by simp)))); clear hb3))
  go_ret
  exact ⟨rfl, HB3.out⟩

end Go.Proofs.Ytnbfkinebikneaa.PA
