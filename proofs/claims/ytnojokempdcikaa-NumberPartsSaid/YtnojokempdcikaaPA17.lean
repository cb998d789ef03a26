/- Printed by a program of this repo over the kit's printer: functions of the given program as plain Lean functions, each with the proof that the call does what it says. -/
import Derived.Test.YtnojokempdcikaaPA0
import Derived.Deep.WholeRow
import Derived.Laws.Tables
namespace Go.Proofs.Ytnojokempdcikaa.PA
open Go.RowKit Go.Proofs.YtnojokempdcikaaW.PrintWords Go.Proofs.YtnojokempdcikaaW.PrintLast Go.Proofs.YtnojokempdcikaaW.PrintMore
attribute [local go_sem] max2_int min2_int max_two min_two max_three min_three max_four min_four   -- for this text's walks alone
set_option linter.unusedVariables false
set_option linter.unusedSimpArgs false

/-! ### number_Work: function 19 -/
--OWNPART Derived.Deep.WholeRow Derived.Laws.Tables
open Go.RowKit
/-- What the operations are, the two boxes standing at B + 1 and B + 2. -/
def workOps (B : Nat) : Array Value := #[.nilFunc, .nilFunc, .nilFunc, .func (.func 51) #[] #[], .func (.func 52) #[] #[], .func (.func 53) #[] #[], .func (.func 54) #[] #[],
  .func (.func 50) #[] #[.pointer (some ⟨B + 1, 0, none⟩)], .func (.func 50) #[] #[.pointer (some ⟨B + 2, 0, none⟩)]]
def opsNil : Array Value := #[.nilFunc, .nilFunc, .nilFunc, .nilFunc, .nilFunc, .nilFunc, .nilFunc, .nilFunc, .nilFunc]
def boxDiv : Obj := .cells #[.func (.func 55) #[] #[]] 90
def boxRest : Obj := .cells #[.func (.func 56) #[] #[]] 90
theorem ops_info : (Try.prog.info? 74).map (fun i => (i.zero, i.size)) = some (some (.agg opsNil), 9) := by kernel_rfl
theorem ops_heap0 (w : World) (a b c : Obj) : (((w.alloc a).alloc b).alloc c).heap[w.heap.size]? = some a := by
  show (((w.heap.push a).push b).push c)[w.heap.size]? = some a
  simp only [Array.getElem?_push, Array.size_push]
  rw [if_neg (by omega), if_neg (by omega), if_pos trivial]
theorem ops_heap1 (w : World) (a b c : Obj) : (((w.alloc a).alloc b).alloc c).heap[w.heap.size + 1]? = some b := by
  show (((w.heap.push a).push b).push c)[w.heap.size + 1]? = some b
  simp only [Array.getElem?_push, Array.size_push]
  rw [if_neg (by omega), if_pos trivial]
theorem ops_heap2 (w : World) (a b c : Obj) : (((w.alloc a).alloc b).alloc c).heap[w.heap.size + 2]? = some c := by
  show (((w.heap.push a).push b).push c)[w.heap.size + 2]? = some c
  simp only [Array.getElem?_push, Array.size_push]
  rw [if_pos trivial]
theorem ops_below {b : Nat} {w w1 : World} {g : Nat} (h : Below b w w1) (hg : b ≤ g) (cs : Array Value) : Below b w (w1.setRow g cs) :=
  h.trans ⟨rfl, rfl, rfl, by simp, fun k hk => setRow_other w1 g k cs (by omega)⟩
theorem workOps_one (B : Nat) : (workOps B).all (·.oneCell') = true := by
  simp [workOps, Value.oneCell']
theorem number_operations.calls (w : World) : Calls Try.prog 36 #[] w fun e w' => e = .returned (.agg (workOps w.heap.size)) ∧ Below w.heap.size w w' ∧ w'.heap.size = w.heap.size + 3 ∧ w'.heap[w.heap.size + 1]? = some boxDiv ∧ w'.heap[w.heap.size + 2]? = some boxRest := by
  obtain ⟨hz, hi0⟩ := zero_of_info ops_info
  have HI := Aside0.mk (show (Try.prog.info? 74).map (·.size) = some (workOps w.heap.size).size from hi0)
  have H0 := Aside0.mk (ops_heap0 w (.cells opsNil 74) boxDiv boxRest)
  clear hi0
  go_enter Try.func36, Try.ntmps36
  go_wp2_with (first | (refine wpList_store_row rfl 74 _ _ rfl w.heap.size (workOps w.heap.size) rfl rfl 74 opsNil H0.out HI.out rfl (workOps_one _) ?_) | go_in)
  refine bodyPost_ret (v := .agg (workOps w.heap.size)) ?_ rfl ⟨rfl, ?_, ?_, ?_, ?_⟩
  · refine results_cell_row rfl _ _ w.heap.size 74 (workOps w.heap.size) (0, 0) _ rfl ?_ Try.underlying74 rfl HI.out
    exact setRow_heap _ _ _ _ _ _ H0.out
  · exact ops_below (((Below.refl _ _).alloc (Nat.le_refl _) _).alloc (by simp) _ |>.alloc (by simp; omega) _) (Nat.le_refl _) _
  · simp
  · exact (setRow_other _ _ _ _ (by omega)).trans (ops_heap1 w _ _ _)
  · exact (setRow_other _ _ _ _ (by omega)).trans (ops_heap2 w _ _ _)
/-- What an operation comes to: the number and the error's. -/
def workPair (op a b : Int) : Int × Int :=
  if 3 ≤ op ∧ op ≤ 8 ∧ (-2147483647 ≤ a ∧ a ≤ 2147483647) ∧ (-2147483647 ≤ b ∧ b ≤ 2147483647) then
    (if b = 0 ∧ 7 ≤ op then (0, 5) else
      let n := if op = 3 then -a else if op = 4 then a + b else if op = 5 then a - b else if op = 6 then a * b else if op = 7 then a.tdiv b else a.tmod b
      if -2147483647 ≤ n ∧ n ≤ 2147483647 then (n, 0) else (0, 120))
  else (0, 2)
def number_Work.f (a0 a1 a2 : Int) : Option (Int × Int) := if 0 ≤ a0 ∧ a0 < 256 then some (workPair a0 a1 a2) else none
set_option maxRecDepth 100000 in
theorem ops_eq_nil (f : Fn) (x : Array Value) (y : Array Value) (w : World) : Sem.run Try.prog (binOp .eql 73 (.func f x y) .nilFunc) w = .ok (.bool false) w := by
  rfl
set_option maxRecDepth 100000 in
theorem ops_nil_nil (w : World) : Sem.run Try.prog (binOp .eql 73 .nilFunc .nilFunc) w = .ok (.bool true) w := by
  rfl
theorem ops_is (n : Int) (b : Bool) (h : decide (-2147483647 ≤ n ∧ n ≤ 2147483647) = b) (w : World) : Calls Try.prog 37 #[.int .i64 n] w fun e w' => e = .returned (.bool b) ∧ w' = w := by
  obtain rfl := h
  by_cases c : -2147483647 ≤ n
  · by_cases d : n ≤ 2147483647
    · rw [decide_eq_true (⟨c, d⟩ : _ ∧ _)]
      go_enter Try.func37, Try.ntmps37
      go_wp2
      go_ret
      exact ⟨rfl, rfl⟩
    · rw [decide_eq_false (fun h => d h.2)]
      go_enter Try.func37, Try.ntmps37
      have d1 : decide (n ≤ 2147483647) = false := decide_eq_false d
      go_wp2
      go_ret
      exact ⟨by rw [← d1]; rfl, rfl⟩
  · rw [decide_eq_false (fun h => c h.1)]
    go_enter Try.func37, Try.ntmps37
    go_wp2
    go_ret
    exact ⟨rfl, rfl⟩
set_option maxHeartbeats 4000000 in
set_option maxRecDepth 1000000 in
theorem number_Work.big (a0 a1 a2 : Int) (w : World) (c0 : a0 ≥ 9) (h0 : a0 < 256) :
    Calls Try.prog 19 #[.int .u8 a0, .int .i64 a1, .int .i64 a2] w fun e w' => e = .returned (.tuple #[.int .i64 0, .int .i64 2]) ∧ Below w.heap.size w w' := by
  obtain ⟨hz, hi0⟩ := zero_of_info ops_info
  have HI := Aside0.mk (show (Try.prog.info? 74).map (·.size) = some (workOps w.heap.size).size from hi0)
  clear hi0
  have c1 : decide (a0 ≥ 9) = true := decide_eq_true c0
  go_enter Try.func19, Try.ntmps19
  go_wp2_with (first | (go_at_call 36; refine (number_operations.calls _).mono ?_; rintro e w1 ⟨rfl, hb, hsz, hx1, hx2⟩; have HB := Aside0.mk hb; have HX1 := Aside0.mk hx1; have HX2 := Aside0.mk hx2; have HSZ := Aside0.mk hsz; clear hb hx1 hx2 hsz) | (refine wpList_store_row rfl 74 _ _ rfl w1.heap.size (workOps w.heap.size) rfl rfl 74 _ (heap_alloc_last _ _) HI.out rfl (workOps_one _) ?_; rw [World.setRow_alloc_new]))
  go_ret2
  exact ⟨rfl, HB.out.alloc HB.out.size _⟩
/-- A small number. -/
def OpNum (a : Int) : Prop := -2147483647 ≤ a ∧ a ≤ 2147483647
theorem op_wrap (n : Int) (h : -4611686014132420609 ≤ n ∧ n ≤ 4611686014132420609) : IntKind.i64.wrap n = n := by
  rw [i64_w]; unfold wrap64; omega
theorem op_mul (a b : Int) (ha : OpNum a) (hb : OpNum b) : -4611686014132420609 ≤ a * b ∧ a * b ≤ 4611686014132420609 := by
  have h1 : a.natAbs ≤ 2147483647 := by unfold OpNum at ha; omega
  have h2 : b.natAbs ≤ 2147483647 := by unfold OpNum at hb; omega
  have h3 := Nat.mul_le_mul h1 h2
  rw [← Int.natAbs_mul] at h3
  omega
theorem op_tdiv (a b : Int) (ha : OpNum a) : wrap64 (a.tdiv b) = a.tdiv b := by
  have h1 : (a.tdiv b).natAbs ≤ a.natAbs := by rw [Int.natAbs_tdiv]; exact Nat.div_le_self _ _
  unfold OpNum at ha
  unfold wrap64
  omega
theorem op_neg (a b : Int) (ha : OpNum a) (w : World) : Calls Try.prog 51 #[.int .i64 a, .int .i64 b] w fun e w' => e = .returned (.tuple #[.int .i64 (-a), .int .i64 0]) ∧ w' = w := by
  have hw := op_wrap (-a) (by unfold OpNum at ha; omega)
  go_enter Try.func51, Try.ntmps51
  go_wp2
  go_ret2
  exact ⟨rfl, rfl⟩
theorem op_add (a b : Int) (ha : OpNum a) (hb : OpNum b) (w : World) : Calls Try.prog 52 #[.int .i64 a, .int .i64 b] w fun e w' => e = .returned (.tuple #[.int .i64 (a + b), .int .i64 0]) ∧ w' = w := by
  have hw := op_wrap (a + b) (by unfold OpNum at ha hb; omega)
  go_enter Try.func52, Try.ntmps52
  go_wp2
  go_ret2
  exact ⟨rfl, rfl⟩
theorem op_sub (a b : Int) (ha : OpNum a) (hb : OpNum b) (w : World) : Calls Try.prog 53 #[.int .i64 a, .int .i64 b] w fun e w' => e = .returned (.tuple #[.int .i64 (a - b), .int .i64 0]) ∧ w' = w := by
  have hw := op_wrap (a - b) (by unfold OpNum at ha hb; omega)
  go_enter Try.func53, Try.ntmps53
  go_wp2
  go_ret2
  exact ⟨rfl, rfl⟩
theorem op_times (a b : Int) (ha : OpNum a) (hb : OpNum b) (w : World) : Calls Try.prog 54 #[.int .i64 a, .int .i64 b] w fun e w' => e = .returned (.tuple #[.int .i64 (a * b), .int .i64 0]) ∧ w' = w := by
  have hw := op_wrap (a * b) (op_mul a b ha hb)
  go_enter Try.func54, Try.ntmps54
  go_wp2
  go_ret2
  exact ⟨rfl, rfl⟩
theorem op_quo (a b : Int) (ha : OpNum a) (hb : b ≠ 0) (w : World) : Calls Try.prog 55 #[.int .i64 a, .int .i64 b] w fun e w' => e = .returned (.int .i64 (a.tdiv b)) ∧ w' = w := by
  have hw := Aside0.mk (op_tdiv a b ha)
  go_enter Try.func55, Try.ntmps55
  go_wp2
  go_ret
  exact ⟨by show Ending.returned (.int .i64 (wrap64 (a.tdiv b))) = _; rw [hw.out], rfl⟩
theorem op_rem (a b : Int) (hb : b ≠ 0) (w : World) : Calls Try.prog 56 #[.int .i64 a, .int .i64 b] w fun e w' => e = .returned (.int .i64 (a.tmod b)) ∧ w' = w := by
  go_enter Try.func56, Try.ntmps56
  go_wp2
  go_ret
  exact ⟨rfl, rfl⟩
theorem op_over0 (a : Int) (p : Value) (w : World) : Calls Try.prog 50 #[.int .i64 a, .int .i64 0, p] w fun e w' => e = .returned (.tuple #[.int .i64 0, .int .i64 5]) ∧ w' = w := by
  go_enter Try.func50, Try.ntmps50
  go_wp2
  go_ret2
  exact ⟨rfl, rfl⟩
theorem op_overDiv (a b : Int) (ha : OpNum a) (hb : b ≠ 0) (g : Nat) (w : World) (hg : w.heap[g]? = some boxDiv) : Calls Try.prog 50 #[.int .i64 a, .int .i64 b, .pointer (some ⟨g, 0, none⟩)] w fun e w' => e = .returned (.tuple #[.int .i64 (a.tdiv b), .int .i64 0]) ∧ w' = w := by
  have hcell : w.cell? ⟨g, 0, none⟩ = some (.func (.func 55) #[] #[]) := by
    simp only [World.cell?, hg, boxDiv]; rfl
  have hb0 : (b == 0) = false := by simpa using hb
  go_enter Try.func50, Try.ntmps50
  go_wp2_with (first | (go_at_call 55; refine (op_quo a b ha hb _).mono ?_; rintro e w' ⟨rfl, rfl⟩))
  go_ret2
  exact ⟨rfl, rfl⟩
theorem op_overRest (a b : Int) (hb : b ≠ 0) (g : Nat) (w : World) (hg : w.heap[g]? = some boxRest) : Calls Try.prog 50 #[.int .i64 a, .int .i64 b, .pointer (some ⟨g, 0, none⟩)] w fun e w' => e = .returned (.tuple #[.int .i64 (a.tmod b), .int .i64 0]) ∧ w' = w := by
  have hcell : w.cell? ⟨g, 0, none⟩ = some (.func (.func 56) #[] #[]) := by
    simp only [World.cell?, hg, boxRest]; rfl
  have hb0 : (b == 0) = false := by simpa using hb
  go_enter Try.func50, Try.ntmps50
  go_wp2_with (first | (go_at_call 56; refine (op_rem a b hb _).mono ?_; rintro e w' ⟨rfl, rfl⟩))
  go_ret2
  exact ⟨rfl, rfl⟩
/-! walks -/
theorem ops_old {w1 : World} {g : Nat} {o x : Obj} (hg : w1.heap[g]? = some x) : (w1.alloc o).heap[g]? = some x := by
  have := (Array.getElem?_eq_some_iff.1 hg).1
  show (w1.heap.push o)[g]? = _
  rw [Array.getElem?_push, if_neg (by omega)]; exact hg
set_option maxHeartbeats 4000000 in
set_option maxRecDepth 1000000 in
theorem number_Work.op0 (a1 a2 : Int) (w : World) :
    Calls Try.prog 19 #[.int .u8 0, .int .i64 a1, .int .i64 a2] w fun e w' => e = .returned (.tuple #[.int .i64 (workPair 0 a1 a2).1, .int .i64 (workPair 0 a1 a2).2]) ∧ Below w.heap.size w w' := by
  obtain ⟨hz, hi0⟩ := zero_of_info ops_info
  have HI := Aside0.mk (show (Try.prog.info? 74).map (·.size) = some (workOps w.heap.size).size from hi0)
  clear hi0
  have hef := ops_nil_nil
  have hcell : (workOps w.heap.size)[0]? = some .nilFunc := rfl
  have hp : workPair 0 a1 a2 = (0, 2) := by unfold workPair; rw [if_neg (by omega)]
  rw [hp]
  go_enter Try.func19, Try.ntmps19
  go_wp2_with (first | (go_at_call 36; refine (number_operations.calls _).mono ?_; rintro e w1 ⟨rfl, hb, hsz, hx1, hx2⟩; have HB := Aside0.mk hb; have HX1 := Aside0.mk hx1; have HX2 := Aside0.mk hx2; have HSZ := Aside0.mk hsz; clear hb hx1 hx2 hsz) | (refine wpList_store_row rfl 74 _ _ rfl w1.heap.size (workOps w.heap.size) rfl rfl 74 _ (heap_alloc_last _ _) HI.out rfl (workOps_one _) ?_; rw [World.setRow_alloc_new]))
  go_ret2
  exact ⟨rfl, HB.out.alloc HB.out.size _⟩
set_option maxHeartbeats 4000000 in
set_option maxRecDepth 1000000 in
theorem number_Work.op1 (a1 a2 : Int) (w : World) :
    Calls Try.prog 19 #[.int .u8 1, .int .i64 a1, .int .i64 a2] w fun e w' => e = .returned (.tuple #[.int .i64 (workPair 1 a1 a2).1, .int .i64 (workPair 1 a1 a2).2]) ∧ Below w.heap.size w w' := by
  obtain ⟨hz, hi0⟩ := zero_of_info ops_info
  have HI := Aside0.mk (show (Try.prog.info? 74).map (·.size) = some (workOps w.heap.size).size from hi0)
  clear hi0
  have hef := ops_nil_nil
  have hcell : (workOps w.heap.size)[1]? = some .nilFunc := rfl
  have hp : workPair 1 a1 a2 = (0, 2) := by unfold workPair; rw [if_neg (by omega)]
  rw [hp]
  go_enter Try.func19, Try.ntmps19
  go_wp2_with (first | (go_at_call 36; refine (number_operations.calls _).mono ?_; rintro e w1 ⟨rfl, hb, hsz, hx1, hx2⟩; have HB := Aside0.mk hb; have HX1 := Aside0.mk hx1; have HX2 := Aside0.mk hx2; have HSZ := Aside0.mk hsz; clear hb hx1 hx2 hsz) | (refine wpList_store_row rfl 74 _ _ rfl w1.heap.size (workOps w.heap.size) rfl rfl 74 _ (heap_alloc_last _ _) HI.out rfl (workOps_one _) ?_; rw [World.setRow_alloc_new]))
  go_ret2
  exact ⟨rfl, HB.out.alloc HB.out.size _⟩
set_option maxHeartbeats 4000000 in
set_option maxRecDepth 1000000 in
theorem number_Work.op2 (a1 a2 : Int) (w : World) :
    Calls Try.prog 19 #[.int .u8 2, .int .i64 a1, .int .i64 a2] w fun e w' => e = .returned (.tuple #[.int .i64 (workPair 2 a1 a2).1, .int .i64 (workPair 2 a1 a2).2]) ∧ Below w.heap.size w w' := by
  obtain ⟨hz, hi0⟩ := zero_of_info ops_info
  have HI := Aside0.mk (show (Try.prog.info? 74).map (·.size) = some (workOps w.heap.size).size from hi0)
  clear hi0
  have hef := ops_nil_nil
  have hcell : (workOps w.heap.size)[2]? = some .nilFunc := rfl
  have hp : workPair 2 a1 a2 = (0, 2) := by unfold workPair; rw [if_neg (by omega)]
  rw [hp]
  go_enter Try.func19, Try.ntmps19
  go_wp2_with (first | (go_at_call 36; refine (number_operations.calls _).mono ?_; rintro e w1 ⟨rfl, hb, hsz, hx1, hx2⟩; have HB := Aside0.mk hb; have HX1 := Aside0.mk hx1; have HX2 := Aside0.mk hx2; have HSZ := Aside0.mk hsz; clear hb hx1 hx2 hsz) | (refine wpList_store_row rfl 74 _ _ rfl w1.heap.size (workOps w.heap.size) rfl rfl 74 _ (heap_alloc_last _ _) HI.out rfl (workOps_one _) ?_; rw [World.setRow_alloc_new]))
  go_ret2
  exact ⟨rfl, HB.out.alloc HB.out.size _⟩
set_option maxHeartbeats 4000000 in
set_option maxRecDepth 1000000 in
theorem number_Work.op3 (a1 a2 : Int) (w : World) :
    Calls Try.prog 19 #[.int .u8 3, .int .i64 a1, .int .i64 a2] w fun e w' => e = .returned (.tuple #[.int .i64 (workPair 3 a1 a2).1, .int .i64 (workPair 3 a1 a2).2]) ∧ Below w.heap.size w w' := by
  obtain ⟨hz, hi0⟩ := zero_of_info ops_info
  have HI := Aside0.mk (show (Try.prog.info? 74).map (·.size) = some (workOps w.heap.size).size from hi0)
  clear hi0
  have hef := ops_eq_nil
  have hcell : (workOps w.heap.size)[3]? = some (.func (.func 51) #[] #[]) := rfl
  by_cases c1 : -2147483647 ≤ a1 ∧ a1 ≤ 2147483647
  · have d1 := decide_eq_true c1
    by_cases c2 : -2147483647 ≤ a2 ∧ a2 ≤ 2147483647
    · have d2 := decide_eq_true c2
      have hz2 : ¬ (a2 = 0 ∧ (7 : Int) ≤ 3) := by omega
      by_cases c4 : -2147483647 ≤ -a1 ∧ -a1 ≤ 2147483647
      · have hp : workPair 3 a1 a2 = (-a1, 0) := by unfold workPair; rw [if_pos ⟨by omega, by omega, c1, c2⟩, if_neg hz2]; exact if_pos c4
        have d3 := decide_eq_true c4
        rw [hp]
        go_enter Try.func19, Try.ntmps19
        go_wp2_with (first | (go_at_call 36; refine (number_operations.calls _).mono ?_; rintro e w1 ⟨rfl, hb, hsz, hx1, hx2⟩; have HB := Aside0.mk hb; have HX1 := Aside0.mk hx1; have HX2 := Aside0.mk hx2; have HSZ := Aside0.mk hsz; clear hb hx1 hx2 hsz) | (refine wpList_store_row rfl 74 _ _ rfl w1.heap.size (workOps w.heap.size) rfl rfl 74 _ (heap_alloc_last _ _) HI.out rfl (workOps_one _) ?_; rw [World.setRow_alloc_new]) | (go_at_call 37; refine (ops_is _ _ (by first | (with_reducible exact d1) | (with_reducible exact d2) | (with_reducible exact d3)) _).mono ?_; rintro e w' ⟨rfl, rfl⟩) | (go_at_call 51; refine (op_neg a1 a2 c1 _).mono ?_; rintro e w' ⟨rfl, rfl⟩))
        go_ret2
        exact ⟨rfl, HB.out.alloc HB.out.size _⟩
      · have hp : workPair 3 a1 a2 = (0, 120) := by unfold workPair; rw [if_pos ⟨by omega, by omega, c1, c2⟩, if_neg hz2]; exact if_neg c4
        have d3 := decide_eq_false c4
        rw [hp]
        go_enter Try.func19, Try.ntmps19
        go_wp2_with (first | (go_at_call 36; refine (number_operations.calls _).mono ?_; rintro e w1 ⟨rfl, hb, hsz, hx1, hx2⟩; have HB := Aside0.mk hb; have HX1 := Aside0.mk hx1; have HX2 := Aside0.mk hx2; have HSZ := Aside0.mk hsz; clear hb hx1 hx2 hsz) | (refine wpList_store_row rfl 74 _ _ rfl w1.heap.size (workOps w.heap.size) rfl rfl 74 _ (heap_alloc_last _ _) HI.out rfl (workOps_one _) ?_; rw [World.setRow_alloc_new]) | (go_at_call 37; refine (ops_is _ _ (by first | (with_reducible exact d1) | (with_reducible exact d2) | (with_reducible exact d3)) _).mono ?_; rintro e w' ⟨rfl, rfl⟩) | (go_at_call 51; refine (op_neg a1 a2 c1 _).mono ?_; rintro e w' ⟨rfl, rfl⟩))
        go_ret2
        exact ⟨rfl, HB.out.alloc HB.out.size _⟩
    · have hp : workPair 3 a1 a2 = (0, 2) := by unfold workPair; rw [if_neg (fun h => c2 h.2.2.2)]
      rw [hp]
      have d2 := decide_eq_false c2
      go_enter Try.func19, Try.ntmps19
      go_wp2_with (first | (go_at_call 36; refine (number_operations.calls _).mono ?_; rintro e w1 ⟨rfl, hb, hsz, hx1, hx2⟩; have HB := Aside0.mk hb; have HX1 := Aside0.mk hx1; have HX2 := Aside0.mk hx2; have HSZ := Aside0.mk hsz; clear hb hx1 hx2 hsz) | (refine wpList_store_row rfl 74 _ _ rfl w1.heap.size (workOps w.heap.size) rfl rfl 74 _ (heap_alloc_last _ _) HI.out rfl (workOps_one _) ?_; rw [World.setRow_alloc_new]) | (go_at_call 37; refine (ops_is _ _ (by first | (with_reducible exact d1) | (with_reducible exact d2) | (with_reducible exact d3)) _).mono ?_; rintro e w' ⟨rfl, rfl⟩))
      go_ret2
      exact ⟨rfl, HB.out.alloc HB.out.size _⟩
  · have hp : workPair 3 a1 a2 = (0, 2) := by unfold workPair; rw [if_neg (fun h => c1 h.2.2.1)]
    rw [hp]
    have d1 := decide_eq_false c1
    go_enter Try.func19, Try.ntmps19
    go_wp2_with (first | (go_at_call 36; refine (number_operations.calls _).mono ?_; rintro e w1 ⟨rfl, hb, hsz, hx1, hx2⟩; have HB := Aside0.mk hb; have HX1 := Aside0.mk hx1; have HX2 := Aside0.mk hx2; have HSZ := Aside0.mk hsz; clear hb hx1 hx2 hsz) | (refine wpList_store_row rfl 74 _ _ rfl w1.heap.size (workOps w.heap.size) rfl rfl 74 _ (heap_alloc_last _ _) HI.out rfl (workOps_one _) ?_; rw [World.setRow_alloc_new]) | (go_at_call 37; refine (ops_is _ _ (by first | (with_reducible exact d1) | (with_reducible exact d2) | (with_reducible exact d3)) _).mono ?_; rintro e w' ⟨rfl, rfl⟩))
    go_ret2
    exact ⟨rfl, HB.out.alloc HB.out.size _⟩
set_option maxHeartbeats 4000000 in
set_option maxRecDepth 1000000 in
theorem number_Work.op4 (a1 a2 : Int) (w : World) :
    Calls Try.prog 19 #[.int .u8 4, .int .i64 a1, .int .i64 a2] w fun e w' => e = .returned (.tuple #[.int .i64 (workPair 4 a1 a2).1, .int .i64 (workPair 4 a1 a2).2]) ∧ Below w.heap.size w w' := by
  obtain ⟨hz, hi0⟩ := zero_of_info ops_info
  have HI := Aside0.mk (show (Try.prog.info? 74).map (·.size) = some (workOps w.heap.size).size from hi0)
  clear hi0
  have hef := ops_eq_nil
  have hcell : (workOps w.heap.size)[4]? = some (.func (.func 52) #[] #[]) := rfl
  by_cases c1 : -2147483647 ≤ a1 ∧ a1 ≤ 2147483647
  · have d1 := decide_eq_true c1
    by_cases c2 : -2147483647 ≤ a2 ∧ a2 ≤ 2147483647
    · have d2 := decide_eq_true c2
      have hz2 : ¬ (a2 = 0 ∧ (7 : Int) ≤ 4) := by omega
      by_cases c4 : -2147483647 ≤ a1 + a2 ∧ a1 + a2 ≤ 2147483647
      · have hp : workPair 4 a1 a2 = (a1 + a2, 0) := by unfold workPair; rw [if_pos ⟨by omega, by omega, c1, c2⟩, if_neg hz2]; exact if_pos c4
        have d3 := decide_eq_true c4
        rw [hp]
        go_enter Try.func19, Try.ntmps19
        go_wp2_with (first | (go_at_call 36; refine (number_operations.calls _).mono ?_; rintro e w1 ⟨rfl, hb, hsz, hx1, hx2⟩; have HB := Aside0.mk hb; have HX1 := Aside0.mk hx1; have HX2 := Aside0.mk hx2; have HSZ := Aside0.mk hsz; clear hb hx1 hx2 hsz) | (refine wpList_store_row rfl 74 _ _ rfl w1.heap.size (workOps w.heap.size) rfl rfl 74 _ (heap_alloc_last _ _) HI.out rfl (workOps_one _) ?_; rw [World.setRow_alloc_new]) | (go_at_call 37; refine (ops_is _ _ (by first | (with_reducible exact d1) | (with_reducible exact d2) | (with_reducible exact d3)) _).mono ?_; rintro e w' ⟨rfl, rfl⟩) | (go_at_call 52; refine (op_add a1 a2 c1 c2 _).mono ?_; rintro e w' ⟨rfl, rfl⟩))
        go_ret2
        exact ⟨rfl, HB.out.alloc HB.out.size _⟩
      · have hp : workPair 4 a1 a2 = (0, 120) := by unfold workPair; rw [if_pos ⟨by omega, by omega, c1, c2⟩, if_neg hz2]; exact if_neg c4
        have d3 := decide_eq_false c4
        rw [hp]
        go_enter Try.func19, Try.ntmps19
        go_wp2_with (first | (go_at_call 36; refine (number_operations.calls _).mono ?_; rintro e w1 ⟨rfl, hb, hsz, hx1, hx2⟩; have HB := Aside0.mk hb; have HX1 := Aside0.mk hx1; have HX2 := Aside0.mk hx2; have HSZ := Aside0.mk hsz; clear hb hx1 hx2 hsz) | (refine wpList_store_row rfl 74 _ _ rfl w1.heap.size (workOps w.heap.size) rfl rfl 74 _ (heap_alloc_last _ _) HI.out rfl (workOps_one _) ?_; rw [World.setRow_alloc_new]) | (go_at_call 37; refine (ops_is _ _ (by first | (with_reducible exact d1) | (with_reducible exact d2) | (with_reducible exact d3)) _).mono ?_; rintro e w' ⟨rfl, rfl⟩) | (go_at_call 52; refine (op_add a1 a2 c1 c2 _).mono ?_; rintro e w' ⟨rfl, rfl⟩))
        go_ret2
        exact ⟨rfl, HB.out.alloc HB.out.size _⟩
    · have hp : workPair 4 a1 a2 = (0, 2) := by unfold workPair; rw [if_neg (fun h => c2 h.2.2.2)]
      rw [hp]
      have d2 := decide_eq_false c2
      go_enter Try.func19, Try.ntmps19
      go_wp2_with (first | (go_at_call 36; refine (number_operations.calls _).mono ?_; rintro e w1 ⟨rfl, hb, hsz, hx1, hx2⟩; have HB := Aside0.mk hb; have HX1 := Aside0.mk hx1; have HX2 := Aside0.mk hx2; have HSZ := Aside0.mk hsz; clear hb hx1 hx2 hsz) | (refine wpList_store_row rfl 74 _ _ rfl w1.heap.size (workOps w.heap.size) rfl rfl 74 _ (heap_alloc_last _ _) HI.out rfl (workOps_one _) ?_; rw [World.setRow_alloc_new]) | (go_at_call 37; refine (ops_is _ _ (by first | (with_reducible exact d1) | (with_reducible exact d2) | (with_reducible exact d3)) _).mono ?_; rintro e w' ⟨rfl, rfl⟩))
      go_ret2
      exact ⟨rfl, HB.out.alloc HB.out.size _⟩
  · have hp : workPair 4 a1 a2 = (0, 2) := by unfold workPair; rw [if_neg (fun h => c1 h.2.2.1)]
    rw [hp]
    have d1 := decide_eq_false c1
    go_enter Try.func19, Try.ntmps19
    go_wp2_with (first | (go_at_call 36; refine (number_operations.calls _).mono ?_; rintro e w1 ⟨rfl, hb, hsz, hx1, hx2⟩; have HB := Aside0.mk hb; have HX1 := Aside0.mk hx1; have HX2 := Aside0.mk hx2; have HSZ := Aside0.mk hsz; clear hb hx1 hx2 hsz) | (refine wpList_store_row rfl 74 _ _ rfl w1.heap.size (workOps w.heap.size) rfl rfl 74 _ (heap_alloc_last _ _) HI.out rfl (workOps_one _) ?_; rw [World.setRow_alloc_new]) | (go_at_call 37; refine (ops_is _ _ (by first | (with_reducible exact d1) | (with_reducible exact d2) | (with_reducible exact d3)) _).mono ?_; rintro e w' ⟨rfl, rfl⟩))
    go_ret2
    exact ⟨rfl, HB.out.alloc HB.out.size _⟩
set_option maxHeartbeats 4000000 in
set_option maxRecDepth 1000000 in
theorem number_Work.op5 (a1 a2 : Int) (w : World) :
    Calls Try.prog 19 #[.int .u8 5, .int .i64 a1, .int .i64 a2] w fun e w' => e = .returned (.tuple #[.int .i64 (workPair 5 a1 a2).1, .int .i64 (workPair 5 a1 a2).2]) ∧ Below w.heap.size w w' := by
  obtain ⟨hz, hi0⟩ := zero_of_info ops_info
  have HI := Aside0.mk (show (Try.prog.info? 74).map (·.size) = some (workOps w.heap.size).size from hi0)
  clear hi0
  have hef := ops_eq_nil
  have hcell : (workOps w.heap.size)[5]? = some (.func (.func 53) #[] #[]) := rfl
  by_cases c1 : -2147483647 ≤ a1 ∧ a1 ≤ 2147483647
  · have d1 := decide_eq_true c1
    by_cases c2 : -2147483647 ≤ a2 ∧ a2 ≤ 2147483647
    · have d2 := decide_eq_true c2
      have hz2 : ¬ (a2 = 0 ∧ (7 : Int) ≤ 5) := by omega
      by_cases c4 : -2147483647 ≤ a1 - a2 ∧ a1 - a2 ≤ 2147483647
      · have hp : workPair 5 a1 a2 = (a1 - a2, 0) := by unfold workPair; rw [if_pos ⟨by omega, by omega, c1, c2⟩, if_neg hz2]; exact if_pos c4
        have d3 := decide_eq_true c4
        rw [hp]
        go_enter Try.func19, Try.ntmps19
        go_wp2_with (first | (go_at_call 36; refine (number_operations.calls _).mono ?_; rintro e w1 ⟨rfl, hb, hsz, hx1, hx2⟩; have HB := Aside0.mk hb; have HX1 := Aside0.mk hx1; have HX2 := Aside0.mk hx2; have HSZ := Aside0.mk hsz; clear hb hx1 hx2 hsz) | (refine wpList_store_row rfl 74 _ _ rfl w1.heap.size (workOps w.heap.size) rfl rfl 74 _ (heap_alloc_last _ _) HI.out rfl (workOps_one _) ?_; rw [World.setRow_alloc_new]) | (go_at_call 37; refine (ops_is _ _ (by first | (with_reducible exact d1) | (with_reducible exact d2) | (with_reducible exact d3)) _).mono ?_; rintro e w' ⟨rfl, rfl⟩) | (go_at_call 53; refine (op_sub a1 a2 c1 c2 _).mono ?_; rintro e w' ⟨rfl, rfl⟩))
        go_ret2
        exact ⟨rfl, HB.out.alloc HB.out.size _⟩
      · have hp : workPair 5 a1 a2 = (0, 120) := by unfold workPair; rw [if_pos ⟨by omega, by omega, c1, c2⟩, if_neg hz2]; exact if_neg c4
        have d3 := decide_eq_false c4
        rw [hp]
        go_enter Try.func19, Try.ntmps19
        go_wp2_with (first | (go_at_call 36; refine (number_operations.calls _).mono ?_; rintro e w1 ⟨rfl, hb, hsz, hx1, hx2⟩; have HB := Aside0.mk hb; have HX1 := Aside0.mk hx1; have HX2 := Aside0.mk hx2; have HSZ := Aside0.mk hsz; clear hb hx1 hx2 hsz) | (refine wpList_store_row rfl 74 _ _ rfl w1.heap.size (workOps w.heap.size) rfl rfl 74 _ (heap_alloc_last _ _) HI.out rfl (workOps_one _) ?_; rw [World.setRow_alloc_new]) | (go_at_call 37; refine (ops_is _ _ (by first | (with_reducible exact d1) | (with_reducible exact d2) | (with_reducible exact d3)) _).mono ?_; rintro e w' ⟨rfl, rfl⟩) | (go_at_call 53; refine (op_sub a1 a2 c1 c2 _).mono ?_; rintro e w' ⟨rfl, rfl⟩))
        go_ret2
        exact ⟨rfl, HB.out.alloc HB.out.size _⟩
    · have hp : workPair 5 a1 a2 = (0, 2) := by unfold workPair; rw [if_neg (fun h => c2 h.2.2.2)]
      rw [hp]
      have d2 := decide_eq_false c2
      go_enter Try.func19, Try.ntmps19
      go_wp2_with (first | (go_at_call 36; refine (number_operations.calls _).mono ?_; rintro e w1 ⟨rfl, hb, hsz, hx1, hx2⟩; have HB := Aside0.mk hb; have HX1 := Aside0.mk hx1; have HX2 := Aside0.mk hx2; have HSZ := Aside0.mk hsz; clear hb hx1 hx2 hsz) | (refine wpList_store_row rfl 74 _ _ rfl w1.heap.size (workOps w.heap.size) rfl rfl 74 _ (heap_alloc_last _ _) HI.out rfl (workOps_one _) ?_; rw [World.setRow_alloc_new]) | (go_at_call 37; refine (ops_is _ _ (by first | (with_reducible exact d1) | (with_reducible exact d2) | (with_reducible exact d3)) _).mono ?_; rintro e w' ⟨rfl, rfl⟩))
      go_ret2
      exact ⟨rfl, HB.out.alloc HB.out.size _⟩
  · have hp : workPair 5 a1 a2 = (0, 2) := by unfold workPair; rw [if_neg (fun h => c1 h.2.2.1)]
    rw [hp]
    have d1 := decide_eq_false c1
    go_enter Try.func19, Try.ntmps19
    go_wp2_with (first | (go_at_call 36; refine (number_operations.calls _).mono ?_; rintro e w1 ⟨rfl, hb, hsz, hx1, hx2⟩; have HB := Aside0.mk hb; have HX1 := Aside0.mk hx1; have HX2 := Aside0.mk hx2; have HSZ := Aside0.mk hsz; clear hb hx1 hx2 hsz) | (refine wpList_store_row rfl 74 _ _ rfl w1.heap.size (workOps w.heap.size) rfl rfl 74 _ (heap_alloc_last _ _) HI.out rfl (workOps_one _) ?_; rw [World.setRow_alloc_new]) | (go_at_call 37; refine (ops_is _ _ (by first | (with_reducible exact d1) | (with_reducible exact d2) | (with_reducible exact d3)) _).mono ?_; rintro e w' ⟨rfl, rfl⟩))
    go_ret2
    exact ⟨rfl, HB.out.alloc HB.out.size _⟩
set_option maxHeartbeats 4000000 in
set_option maxRecDepth 1000000 in
theorem number_Work.op6 (a1 a2 : Int) (w : World) :
    Calls Try.prog 19 #[.int .u8 6, .int .i64 a1, .int .i64 a2] w fun e w' => e = .returned (.tuple #[.int .i64 (workPair 6 a1 a2).1, .int .i64 (workPair 6 a1 a2).2]) ∧ Below w.heap.size w w' := by
  obtain ⟨hz, hi0⟩ := zero_of_info ops_info
  have HI := Aside0.mk (show (Try.prog.info? 74).map (·.size) = some (workOps w.heap.size).size from hi0)
  clear hi0
  have hef := ops_eq_nil
  have hcell : (workOps w.heap.size)[6]? = some (.func (.func 54) #[] #[]) := rfl
  by_cases c1 : -2147483647 ≤ a1 ∧ a1 ≤ 2147483647
  · have d1 := decide_eq_true c1
    by_cases c2 : -2147483647 ≤ a2 ∧ a2 ≤ 2147483647
    · have d2 := decide_eq_true c2
      have hz2 : ¬ (a2 = 0 ∧ (7 : Int) ≤ 6) := by omega
      by_cases c4 : -2147483647 ≤ a1 * a2 ∧ a1 * a2 ≤ 2147483647
      · have hp : workPair 6 a1 a2 = (a1 * a2, 0) := by unfold workPair; rw [if_pos ⟨by omega, by omega, c1, c2⟩, if_neg hz2]; exact if_pos c4
        have d3 := decide_eq_true c4
        rw [hp]
        go_enter Try.func19, Try.ntmps19
        go_wp2_with (first | (go_at_call 36; refine (number_operations.calls _).mono ?_; rintro e w1 ⟨rfl, hb, hsz, hx1, hx2⟩; have HB := Aside0.mk hb; have HX1 := Aside0.mk hx1; have HX2 := Aside0.mk hx2; have HSZ := Aside0.mk hsz; clear hb hx1 hx2 hsz) | (refine wpList_store_row rfl 74 _ _ rfl w1.heap.size (workOps w.heap.size) rfl rfl 74 _ (heap_alloc_last _ _) HI.out rfl (workOps_one _) ?_; rw [World.setRow_alloc_new]) | (go_at_call 37; refine (ops_is _ _ (by first | (with_reducible exact d1) | (with_reducible exact d2) | (with_reducible exact d3)) _).mono ?_; rintro e w' ⟨rfl, rfl⟩) | (go_at_call 54; refine (op_times a1 a2 c1 c2 _).mono ?_; rintro e w' ⟨rfl, rfl⟩))
        go_ret2
        exact ⟨rfl, HB.out.alloc HB.out.size _⟩
      · have hp : workPair 6 a1 a2 = (0, 120) := by unfold workPair; rw [if_pos ⟨by omega, by omega, c1, c2⟩, if_neg hz2]; exact if_neg c4
        have d3 := decide_eq_false c4
        rw [hp]
        go_enter Try.func19, Try.ntmps19
        go_wp2_with (first | (go_at_call 36; refine (number_operations.calls _).mono ?_; rintro e w1 ⟨rfl, hb, hsz, hx1, hx2⟩; have HB := Aside0.mk hb; have HX1 := Aside0.mk hx1; have HX2 := Aside0.mk hx2; have HSZ := Aside0.mk hsz; clear hb hx1 hx2 hsz) | (refine wpList_store_row rfl 74 _ _ rfl w1.heap.size (workOps w.heap.size) rfl rfl 74 _ (heap_alloc_last _ _) HI.out rfl (workOps_one _) ?_; rw [World.setRow_alloc_new]) | (go_at_call 37; refine (ops_is _ _ (by first | (with_reducible exact d1) | (with_reducible exact d2) | (with_reducible exact d3)) _).mono ?_; rintro e w' ⟨rfl, rfl⟩) | (go_at_call 54; refine (op_times a1 a2 c1 c2 _).mono ?_; rintro e w' ⟨rfl, rfl⟩))
        go_ret2
        exact ⟨rfl, HB.out.alloc HB.out.size _⟩
    · have hp : workPair 6 a1 a2 = (0, 2) := by unfold workPair; rw [if_neg (fun h => c2 h.2.2.2)]
      rw [hp]
      have d2 := decide_eq_false c2
      go_enter Try.func19, Try.ntmps19
      go_wp2_with (first | (go_at_call 36; refine (number_operations.calls _).mono ?_; rintro e w1 ⟨rfl, hb, hsz, hx1, hx2⟩; have HB := Aside0.mk hb; have HX1 := Aside0.mk hx1; have HX2 := Aside0.mk hx2; have HSZ := Aside0.mk hsz; clear hb hx1 hx2 hsz) | (refine wpList_store_row rfl 74 _ _ rfl w1.heap.size (workOps w.heap.size) rfl rfl 74 _ (heap_alloc_last _ _) HI.out rfl (workOps_one _) ?_; rw [World.setRow_alloc_new]) | (go_at_call 37; refine (ops_is _ _ (by first | (with_reducible exact d1) | (with_reducible exact d2) | (with_reducible exact d3)) _).mono ?_; rintro e w' ⟨rfl, rfl⟩))
      go_ret2
      exact ⟨rfl, HB.out.alloc HB.out.size _⟩
  · have hp : workPair 6 a1 a2 = (0, 2) := by unfold workPair; rw [if_neg (fun h => c1 h.2.2.1)]
    rw [hp]
    have d1 := decide_eq_false c1
    go_enter Try.func19, Try.ntmps19
    go_wp2_with (first | (go_at_call 36; refine (number_operations.calls _).mono ?_; rintro e w1 ⟨rfl, hb, hsz, hx1, hx2⟩; have HB := Aside0.mk hb; have HX1 := Aside0.mk hx1; have HX2 := Aside0.mk hx2; have HSZ := Aside0.mk hsz; clear hb hx1 hx2 hsz) | (refine wpList_store_row rfl 74 _ _ rfl w1.heap.size (workOps w.heap.size) rfl rfl 74 _ (heap_alloc_last _ _) HI.out rfl (workOps_one _) ?_; rw [World.setRow_alloc_new]) | (go_at_call 37; refine (ops_is _ _ (by first | (with_reducible exact d1) | (with_reducible exact d2) | (with_reducible exact d3)) _).mono ?_; rintro e w' ⟨rfl, rfl⟩))
    go_ret2
    exact ⟨rfl, HB.out.alloc HB.out.size _⟩
set_option maxHeartbeats 4000000 in
set_option maxRecDepth 1000000 in
theorem number_Work.op7 (a1 a2 : Int) (w : World) :
    Calls Try.prog 19 #[.int .u8 7, .int .i64 a1, .int .i64 a2] w fun e w' => e = .returned (.tuple #[.int .i64 (workPair 7 a1 a2).1, .int .i64 (workPair 7 a1 a2).2]) ∧ Below w.heap.size w w' := by
  obtain ⟨hz, hi0⟩ := zero_of_info ops_info
  have HI := Aside0.mk (show (Try.prog.info? 74).map (·.size) = some (workOps w.heap.size).size from hi0)
  clear hi0
  have hef := ops_eq_nil
  have hcell : (workOps w.heap.size)[7]? = some (.func (.func 50) #[] #[.pointer (some ⟨w.heap.size + 1, 0, none⟩)]) := rfl
  by_cases c1 : -2147483647 ≤ a1 ∧ a1 ≤ 2147483647
  · have d1 := decide_eq_true c1
    by_cases c2 : -2147483647 ≤ a2 ∧ a2 ≤ 2147483647
    · have d2 := decide_eq_true c2
      by_cases c3 : a2 = 0
      · subst c3
        have hp : workPair 7 a1 0 = (0, 5) := by unfold workPair; rw [if_pos ⟨by omega, by omega, c1, c2⟩, if_pos ⟨rfl, by omega⟩]
        rw [hp]
        go_enter Try.func19, Try.ntmps19
        go_wp2_with (first | (go_at_call 36; refine (number_operations.calls _).mono ?_; rintro e w1 ⟨rfl, hb, hsz, hx1, hx2⟩; have HB := Aside0.mk hb; have HX1 := Aside0.mk hx1; have HX2 := Aside0.mk hx2; have HSZ := Aside0.mk hsz; clear hb hx1 hx2 hsz) | (refine wpList_store_row rfl 74 _ _ rfl w1.heap.size (workOps w.heap.size) rfl rfl 74 _ (heap_alloc_last _ _) HI.out rfl (workOps_one _) ?_; rw [World.setRow_alloc_new]) | (go_at_call 37; refine (ops_is _ _ (by first | (with_reducible exact d1) | (with_reducible exact d2) | (with_reducible exact d3)) _).mono ?_; rintro e w' ⟨rfl, rfl⟩) | (go_at_call 50; refine (op_over0 a1 _ _).mono ?_; rintro e w' ⟨rfl, rfl⟩))
        go_ret2
        exact ⟨rfl, HB.out.alloc HB.out.size _⟩
      · have hz2 : ¬ (a2 = 0 ∧ (7 : Int) ≤ 7) := fun h => c3 h.1
        by_cases c4 : -2147483647 ≤ a1.tdiv a2 ∧ a1.tdiv a2 ≤ 2147483647
        · have hp : workPair 7 a1 a2 = (a1.tdiv a2, 0) := by unfold workPair; rw [if_pos ⟨by omega, by omega, c1, c2⟩, if_neg hz2]; exact if_pos c4
          have d3 := decide_eq_true c4
          rw [hp]
          go_enter Try.func19, Try.ntmps19
          go_wp2_with (first | (go_at_call 36; refine (number_operations.calls _).mono ?_; rintro e w1 ⟨rfl, hb, hsz, hx1, hx2⟩; have HB := Aside0.mk hb; have HX1 := Aside0.mk hx1; have HX2 := Aside0.mk hx2; have HSZ := Aside0.mk hsz; clear hb hx1 hx2 hsz) | (refine wpList_store_row rfl 74 _ _ rfl w1.heap.size (workOps w.heap.size) rfl rfl 74 _ (heap_alloc_last _ _) HI.out rfl (workOps_one _) ?_; rw [World.setRow_alloc_new]) | (go_at_call 37; refine (ops_is _ _ (by first | (with_reducible exact d1) | (with_reducible exact d2) | (with_reducible exact d3)) _).mono ?_; rintro e w' ⟨rfl, rfl⟩) | (go_at_call 50; refine (op_overDiv a1 a2 c1 c3 _ _ (ops_old HX1.out)).mono ?_; rintro e w' ⟨rfl, rfl⟩))
          go_ret2
          exact ⟨rfl, HB.out.alloc HB.out.size _⟩
        · have hp : workPair 7 a1 a2 = (0, 120) := by unfold workPair; rw [if_pos ⟨by omega, by omega, c1, c2⟩, if_neg hz2]; exact if_neg c4
          have d3 := decide_eq_false c4
          rw [hp]
          go_enter Try.func19, Try.ntmps19
          go_wp2_with (first | (go_at_call 36; refine (number_operations.calls _).mono ?_; rintro e w1 ⟨rfl, hb, hsz, hx1, hx2⟩; have HB := Aside0.mk hb; have HX1 := Aside0.mk hx1; have HX2 := Aside0.mk hx2; have HSZ := Aside0.mk hsz; clear hb hx1 hx2 hsz) | (refine wpList_store_row rfl 74 _ _ rfl w1.heap.size (workOps w.heap.size) rfl rfl 74 _ (heap_alloc_last _ _) HI.out rfl (workOps_one _) ?_; rw [World.setRow_alloc_new]) | (go_at_call 37; refine (ops_is _ _ (by first | (with_reducible exact d1) | (with_reducible exact d2) | (with_reducible exact d3)) _).mono ?_; rintro e w' ⟨rfl, rfl⟩) | (go_at_call 50; refine (op_overDiv a1 a2 c1 c3 _ _ (ops_old HX1.out)).mono ?_; rintro e w' ⟨rfl, rfl⟩))
          go_ret2
          exact ⟨rfl, HB.out.alloc HB.out.size _⟩
    · have hp : workPair 7 a1 a2 = (0, 2) := by unfold workPair; rw [if_neg (fun h => c2 h.2.2.2)]
      rw [hp]
      have d2 := decide_eq_false c2
      go_enter Try.func19, Try.ntmps19
      go_wp2_with (first | (go_at_call 36; refine (number_operations.calls _).mono ?_; rintro e w1 ⟨rfl, hb, hsz, hx1, hx2⟩; have HB := Aside0.mk hb; have HX1 := Aside0.mk hx1; have HX2 := Aside0.mk hx2; have HSZ := Aside0.mk hsz; clear hb hx1 hx2 hsz) | (refine wpList_store_row rfl 74 _ _ rfl w1.heap.size (workOps w.heap.size) rfl rfl 74 _ (heap_alloc_last _ _) HI.out rfl (workOps_one _) ?_; rw [World.setRow_alloc_new]) | (go_at_call 37; refine (ops_is _ _ (by first | (with_reducible exact d1) | (with_reducible exact d2) | (with_reducible exact d3)) _).mono ?_; rintro e w' ⟨rfl, rfl⟩))
      go_ret2
      exact ⟨rfl, HB.out.alloc HB.out.size _⟩
  · have hp : workPair 7 a1 a2 = (0, 2) := by unfold workPair; rw [if_neg (fun h => c1 h.2.2.1)]
    rw [hp]
    have d1 := decide_eq_false c1
    go_enter Try.func19, Try.ntmps19
    go_wp2_with (first | (go_at_call 36; refine (number_operations.calls _).mono ?_; rintro e w1 ⟨rfl, hb, hsz, hx1, hx2⟩; have HB := Aside0.mk hb; have HX1 := Aside0.mk hx1; have HX2 := Aside0.mk hx2; have HSZ := Aside0.mk hsz; clear hb hx1 hx2 hsz) | (refine wpList_store_row rfl 74 _ _ rfl w1.heap.size (workOps w.heap.size) rfl rfl 74 _ (heap_alloc_last _ _) HI.out rfl (workOps_one _) ?_; rw [World.setRow_alloc_new]) | (go_at_call 37; refine (ops_is _ _ (by first | (with_reducible exact d1) | (with_reducible exact d2) | (with_reducible exact d3)) _).mono ?_; rintro e w' ⟨rfl, rfl⟩))
    go_ret2
    exact ⟨rfl, HB.out.alloc HB.out.size _⟩
set_option maxHeartbeats 4000000 in
set_option maxRecDepth 1000000 in
theorem number_Work.op8 (a1 a2 : Int) (w : World) :
    Calls Try.prog 19 #[.int .u8 8, .int .i64 a1, .int .i64 a2] w fun e w' => e = .returned (.tuple #[.int .i64 (workPair 8 a1 a2).1, .int .i64 (workPair 8 a1 a2).2]) ∧ Below w.heap.size w w' := by
  obtain ⟨hz, hi0⟩ := zero_of_info ops_info
  have HI := Aside0.mk (show (Try.prog.info? 74).map (·.size) = some (workOps w.heap.size).size from hi0)
  clear hi0
  have hef := ops_eq_nil
  have hcell : (workOps w.heap.size)[8]? = some (.func (.func 50) #[] #[.pointer (some ⟨w.heap.size + 2, 0, none⟩)]) := rfl
  by_cases c1 : -2147483647 ≤ a1 ∧ a1 ≤ 2147483647
  · have d1 := decide_eq_true c1
    by_cases c2 : -2147483647 ≤ a2 ∧ a2 ≤ 2147483647
    · have d2 := decide_eq_true c2
      by_cases c3 : a2 = 0
      · subst c3
        have hp : workPair 8 a1 0 = (0, 5) := by unfold workPair; rw [if_pos ⟨by omega, by omega, c1, c2⟩, if_pos ⟨rfl, by omega⟩]
        rw [hp]
        go_enter Try.func19, Try.ntmps19
        go_wp2_with (first | (go_at_call 36; refine (number_operations.calls _).mono ?_; rintro e w1 ⟨rfl, hb, hsz, hx1, hx2⟩; have HB := Aside0.mk hb; have HX1 := Aside0.mk hx1; have HX2 := Aside0.mk hx2; have HSZ := Aside0.mk hsz; clear hb hx1 hx2 hsz) | (refine wpList_store_row rfl 74 _ _ rfl w1.heap.size (workOps w.heap.size) rfl rfl 74 _ (heap_alloc_last _ _) HI.out rfl (workOps_one _) ?_; rw [World.setRow_alloc_new]) | (go_at_call 37; refine (ops_is _ _ (by first | (with_reducible exact d1) | (with_reducible exact d2) | (with_reducible exact d3)) _).mono ?_; rintro e w' ⟨rfl, rfl⟩) | (go_at_call 50; refine (op_over0 a1 _ _).mono ?_; rintro e w' ⟨rfl, rfl⟩))
        go_ret2
        exact ⟨rfl, HB.out.alloc HB.out.size _⟩
      · have hz2 : ¬ (a2 = 0 ∧ (7 : Int) ≤ 8) := fun h => c3 h.1
        by_cases c4 : -2147483647 ≤ a1.tmod a2 ∧ a1.tmod a2 ≤ 2147483647
        · have hp : workPair 8 a1 a2 = (a1.tmod a2, 0) := by unfold workPair; rw [if_pos ⟨by omega, by omega, c1, c2⟩, if_neg hz2]; exact if_pos c4
          have d3 := decide_eq_true c4
          rw [hp]
          go_enter Try.func19, Try.ntmps19
          go_wp2_with (first | (go_at_call 36; refine (number_operations.calls _).mono ?_; rintro e w1 ⟨rfl, hb, hsz, hx1, hx2⟩; have HB := Aside0.mk hb; have HX1 := Aside0.mk hx1; have HX2 := Aside0.mk hx2; have HSZ := Aside0.mk hsz; clear hb hx1 hx2 hsz) | (refine wpList_store_row rfl 74 _ _ rfl w1.heap.size (workOps w.heap.size) rfl rfl 74 _ (heap_alloc_last _ _) HI.out rfl (workOps_one _) ?_; rw [World.setRow_alloc_new]) | (go_at_call 37; refine (ops_is _ _ (by first | (with_reducible exact d1) | (with_reducible exact d2) | (with_reducible exact d3)) _).mono ?_; rintro e w' ⟨rfl, rfl⟩) | (go_at_call 50; refine (op_overRest a1 a2 c3 _ _ (ops_old HX2.out)).mono ?_; rintro e w' ⟨rfl, rfl⟩))
          go_ret2
          exact ⟨rfl, HB.out.alloc HB.out.size _⟩
        · have hp : workPair 8 a1 a2 = (0, 120) := by unfold workPair; rw [if_pos ⟨by omega, by omega, c1, c2⟩, if_neg hz2]; exact if_neg c4
          have d3 := decide_eq_false c4
          rw [hp]
          go_enter Try.func19, Try.ntmps19
          go_wp2_with (first | (go_at_call 36; refine (number_operations.calls _).mono ?_; rintro e w1 ⟨rfl, hb, hsz, hx1, hx2⟩; have HB := Aside0.mk hb; have HX1 := Aside0.mk hx1; have HX2 := Aside0.mk hx2; have HSZ := Aside0.mk hsz; clear hb hx1 hx2 hsz) | (refine wpList_store_row rfl 74 _ _ rfl w1.heap.size (workOps w.heap.size) rfl rfl 74 _ (heap_alloc_last _ _) HI.out rfl (workOps_one _) ?_; rw [World.setRow_alloc_new]) | (go_at_call 37; refine (ops_is _ _ (by first | (with_reducible exact d1) | (with_reducible exact d2) | (with_reducible exact d3)) _).mono ?_; rintro e w' ⟨rfl, rfl⟩) | (go_at_call 50; refine (op_overRest a1 a2 c3 _ _ (ops_old HX2.out)).mono ?_; rintro e w' ⟨rfl, rfl⟩))
          go_ret2
          exact ⟨rfl, HB.out.alloc HB.out.size _⟩
    · have hp : workPair 8 a1 a2 = (0, 2) := by unfold workPair; rw [if_neg (fun h => c2 h.2.2.2)]
      rw [hp]
      have d2 := decide_eq_false c2
      go_enter Try.func19, Try.ntmps19
      go_wp2_with (first | (go_at_call 36; refine (number_operations.calls _).mono ?_; rintro e w1 ⟨rfl, hb, hsz, hx1, hx2⟩; have HB := Aside0.mk hb; have HX1 := Aside0.mk hx1; have HX2 := Aside0.mk hx2; have HSZ := Aside0.mk hsz; clear hb hx1 hx2 hsz) | (refine wpList_store_row rfl 74 _ _ rfl w1.heap.size (workOps w.heap.size) rfl rfl 74 _ (heap_alloc_last _ _) HI.out rfl (workOps_one _) ?_; rw [World.setRow_alloc_new]) | (go_at_call 37; refine (ops_is _ _ (by first | (with_reducible exact d1) | (with_reducible exact d2) | (with_reducible exact d3)) _).mono ?_; rintro e w' ⟨rfl, rfl⟩))
      go_ret2
      exact ⟨rfl, HB.out.alloc HB.out.size _⟩
  · have hp : workPair 8 a1 a2 = (0, 2) := by unfold workPair; rw [if_neg (fun h => c1 h.2.2.1)]
    rw [hp]
    have d1 := decide_eq_false c1
    go_enter Try.func19, Try.ntmps19
    go_wp2_with (first | (go_at_call 36; refine (number_operations.calls _).mono ?_; rintro e w1 ⟨rfl, hb, hsz, hx1, hx2⟩; have HB := Aside0.mk hb; have HX1 := Aside0.mk hx1; have HX2 := Aside0.mk hx2; have HSZ := Aside0.mk hsz; clear hb hx1 hx2 hsz) | (refine wpList_store_row rfl 74 _ _ rfl w1.heap.size (workOps w.heap.size) rfl rfl 74 _ (heap_alloc_last _ _) HI.out rfl (workOps_one _) ?_; rw [World.setRow_alloc_new]) | (go_at_call 37; refine (ops_is _ _ (by first | (with_reducible exact d1) | (with_reducible exact d2) | (with_reducible exact d3)) _).mono ?_; rintro e w' ⟨rfl, rfl⟩))
    go_ret2
    exact ⟨rfl, HB.out.alloc HB.out.size _⟩
theorem number_Work.calls (a0 a1 a2 : Int) (r1 r2 : Int) (w : World) (h : number_Work.f a0 a1 a2 = some (r1, r2)) :
    Calls Try.prog 19 #[.int .u8 a0, .int .i64 a1, .int .i64 a2] w fun e w' => e = .returned (.tuple #[.int .i64 r1, .int .i64 r2]) ∧ Below w.heap.size w w' := by
  obtain ⟨h0, h⟩ : (0 ≤ a0 ∧ a0 < 256) ∧ workPair a0 a1 a2 = (r1, r2) := by
    unfold number_Work.f at h
    split at h
    · exact ⟨by assumption, Option.some.inj h⟩
    · exact absurd h (by simp)
  by_cases c0 : a0 ≥ 9
  · have hp : workPair a0 a1 a2 = (0, 2) := by unfold workPair; rw [if_neg (by omega)]
    rw [hp] at h
    injection h with h1 h2
    subst h1; subst h2
    exact number_Work.big a0 a1 a2 w c0 h0.2
  · have h1 : r1 = (workPair a0 a1 a2).1 := by rw [h]
    have h2 : r2 = (workPair a0 a1 a2).2 := by rw [h]
    subst h1; subst h2
    clear h
    have : a0 = 0 ∨ a0 = 1 ∨ a0 = 2 ∨ a0 = 3 ∨ a0 = 4 ∨ a0 = 5 ∨ a0 = 6 ∨ a0 = 7 ∨ a0 = 8 := by omega
    rcases this with rfl | rfl | rfl | rfl | rfl | rfl | rfl | rfl | rfl
    · exact number_Work.op0 a1 a2 w
    · exact number_Work.op1 a1 a2 w
    · exact number_Work.op2 a1 a2 w
    · exact number_Work.op3 a1 a2 w
    · exact number_Work.op4 a1 a2 w
    · exact number_Work.op5 a1 a2 w
    · exact number_Work.op6 a1 a2 w
    · exact number_Work.op7 a1 a2 w
    · exact number_Work.op8 a1 a2 w

end Go.Proofs.Ytnojokempdcikaa.PA
