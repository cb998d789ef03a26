/- Printed by a program of this repo over the kit's printer: functions of the given program as plain Lean functions, each with the proof that the call does what it says. -/
import Derived.Test.YtnbfkinebikneaaPA0
import Derived.Deep.WholeRow
import Derived.Laws.Tables
namespace Go.Proofs.Ytnbfkinebikneaa.PA
open Go.RowKit Go.Proofs.YtnbfkinebikneaaW.PrintWords Go.Proofs.YtnbfkinebikneaaW.PrintLast Go.Proofs.YtnbfkinebikneaaW.PrintMore
attribute [local go_sem] max2_int min2_int max_two min_two max_three min_three max_four min_four   -- for this text's walks alone
set_option linter.unusedVariables false
set_option linter.unusedSimpArgs false

/-! ### wire_Sum: function 20 -/
--OWNPART Derived.Deep.WholeRow Derived.Laws.Tables
open Go.RowKit
/-- One bit of a register, as the code goes. -/
def crcStep (x : Int) : Int := if (Go.bits .and .u32 x 1) = 1 then Go.bits .xor .u32 (x / 2) 3988292384 else x / 2
/-- So many bits. -/
def crcSteps : Nat → Int → Int
  | 0, x => x
  | k + 1, x => crcSteps k (crcStep x)
theorem crcSteps_succ (k : Nat) (x : Int) : crcSteps (k + 1) x = crcStep (crcSteps k x) := by
  induction k generalizing x with
  | zero => rfl
  | succ k ih => rw [crcSteps, ih, crcSteps]
/-- The table while it is made. -/
def crcCells (i : Nat) : Array Value := ((List.range 256).map fun j => Value.int .u32 (if j < i then crcSteps 8 j else 0)).toArray
theorem crcCells_size (i : Nat) : (crcCells i).size = 256 := by unfold crcCells; simp
theorem crcCells_zero : (Array.replicate 256 (Value.int .u32 0)) = crcCells 0 := by
  unfold crcCells
  apply Array.ext
  · simp
  · intro j h1 h2; simp
theorem crcCells_get (i j : Nat) (h : j < 256) : (crcCells i)[j]? = some (Value.int .u32 (if j < i then crcSteps 8 j else 0)) := by
  unfold crcCells
  simp [h]
theorem crcCells_set (i : Nat) (h : i < 256) : (crcCells i).setIfInBounds i (.int .u32 (crcSteps 8 i)) = crcCells (i + 1) := by
  apply Array.ext_getElem?
  intro j
  rw [Array.getElem?_setIfInBounds]
  by_cases hj : j < 256
  · rw [crcCells_get _ _ hj, crcCells_get _ _ hj]
    by_cases e : i = j
    · subst e; simp [crcCells_size, h]
    · rw [if_neg e]
      by_cases g : j < i
      · rw [if_pos g, if_pos (by omega)]
      · rw [if_neg g, if_neg (by omega)]
  · have hn : ∀ k, (crcCells k)[j]? = none := fun k => by simp [crcCells_size]; omega
    rw [hn, hn]
    rw [if_neg (by omega)]
theorem crcCells_one (i : Nat) : (crcCells i).all (·.oneCell') = true := by
  rw [Array.all_eq_true]
  intro j hj
  have h := crcCells_get i j (by rw [crcCells_size] at hj; exact hj)
  rw [Array.getElem?_eq_getElem hj] at h
  rw [Option.some.inj h]; rfl
theorem crcStep_range (x : Int) (h0 : 0 ≤ x) (h1 : x < 4294967296) : 0 ≤ crcStep x ∧ crcStep x < 4294967296 := by
  unfold crcStep
  split
  · have := wrap_within .u32 ((match BinOp.xor with | .and => BitVec.ofInt 32 (x / 2) &&& BitVec.ofInt 32 3988292384 | .or => BitVec.ofInt 32 (x / 2) ||| BitVec.ofInt 32 3988292384 | .xor => BitVec.ofInt 32 (x / 2) ^^^ BitVec.ofInt 32 3988292384 | _ => BitVec.ofInt 32 (x / 2) &&& ~~~ BitVec.ofInt 32 3988292384 : BitVec 32).toNat : Int)
    exact ⟨this.1, Int.lt_of_le_of_lt this.2 (by decide)⟩
  · omega
theorem crcSteps_range (k : Nat) (x : Int) (h0 : 0 ≤ x) (h1 : x < 4294967296) : 0 ≤ crcSteps k x ∧ crcSteps k x < 4294967296 := by
  induction k generalizing x with
  | zero => exact ⟨h0, h1⟩
  | succ k ih =>
    have h := crcStep_range x h0 h1
    exact ih _ h.1 h.2
theorem below_setRow {b : Nat} {w w1 : World} {g : Nat} (h : Below b w w1) (hg : b ≤ g) (cs : Array Value) : Below b w (w1.setRow g cs) :=
  h.trans ⟨rfl, rfl, rfl, by simp, fun k hk => setRow_other w1 g k cs (by omega)⟩
theorem table_info : (Try.prog.info? 72).map (fun i => (i.zero, i.size)) = some (some (.agg (Array.replicate 256 (.int .u32 0))), 256) := by kernel_rfl
set_option maxHeartbeats 4000000 in
set_option maxRecDepth 1000000 in
theorem wire_table.calls (w : World) : Calls Try.prog 40 #[] w fun e w' => e = .returned (.agg (crcCells 256)) ∧ Below w.heap.size w w' := by
  obtain ⟨hz, hi0⟩ := zero_of_info table_info
  have hi := Aside0.mk hi0
  clear hi0
  go_enter Try.func40, Try.ntmps40
  go_wp2
  rw [crcCells_zero]
  go_loopg [5] 256 (fun g s5 wx => ∃ i : Nat, i + g = 256 ∧ s5 = .int .i64 i ∧ wx = (w.alloc (.cells (crcCells 0) 72)).alloc (.cells (crcCells i) 72))
  case atStart => exact ⟨0, by omega, rfl, rfl⟩
  case round =>
    obtain ⟨i, hig, rfl, rfl⟩ := hrel
    cases gk with
    | zero =>
      obtain rfl : i = 256 := by omega
      have hs0 := crcCells_size 0
      have hs := crcCells_size 256
      have h1 := heap_alloc2_new w (.cells (crcCells 0) 72) (.cells (crcCells 256) 72)
      have h0 := heap_alloc2_old w (.cells (crcCells 0) 72) (.cells (crcCells 256) 72)
      have hi1 : (Try.prog.info? 72).map (·.size) = some (crcCells 256).size := by rw [hs]; exact hi.out
      have H1 := Aside0.mk h1
      have H0 := Aside0.mk h0
      have HI := Aside0.mk hi1
      have HS := Aside0.mk (show (crcCells 0).size = (crcCells 256).size by rw [hs0, hs])
      clear h1 h0 hi1 hs hs0 hi
      go_wp2_with (first | (refine wpList_load_row rfl 72 _ rfl (w.heap.size + 1) rfl 72 (crcCells 256) (0, 0) _ H1.out Try.underlying72 rfl HI.out ?_) | (refine wpList_store_row rfl 72 _ _ rfl w.heap.size (crcCells 256) rfl rfl 72 (crcCells 0) H0.out HI.out HS.out (crcCells_one 256) ?_))
      refine bodyPost_ret (v := .agg (crcCells 256)) ?_ rfl ⟨rfl, ?_⟩
      · refine results_cell_row rfl _ _ w.heap.size 72 (crcCells 256) (0, 0) _ rfl ?_ Try.underlying72 rfl HI.out
        exact setRow_heap _ _ _ _ _ _ H0.out
      · exact below_setRow (((Below.refl _ _).alloc (Nat.le_refl _) _).alloc (by simp) _) (Nat.le_refl _) _
    | succ g =>
      have hi : i < 256 := by omega
      have hiz : (i : Int) < 256 := by omega
      go_wp2
      go_loopg [3, 10] 8 (fun g s3 s10 wx => ∃ k : Nat, k + g = 8 ∧ s3 = .int .u32 (crcSteps k i) ∧ s10 = .int .i64 k ∧ wx = (w.alloc (.cells (crcCells 0) 72)).alloc (.cells (crcCells i) 72))
      case atStart => exact ⟨0, by omega, rfl, rfl, rfl⟩
      case round =>
        obtain ⟨k, hkg, rfl, rfl, rfl⟩ := hrel
        have hb := crcSteps_range k i (by omega) (by omega)
        cases gk with
        | zero =>
          obtain rfl : k = 8 := by omega
          have HSET := Aside0.mk (crcCells_set i hi)
          have hcell : (crcCells i)[i]? = some (.int .u32 0) := by rw [crcCells_get i i hi, if_neg (Nat.lt_irrefl i)]
          have hsz := crcCells_size i
          go_wp2
          go_roundg g
          case measure => omega
          case rel => exact ⟨i + 1, by omega, by first | rfl | simp, by rw [← HSET.out]⟩
        | succ g1 =>
          have hk : k < 8 := by omega
          have hkz : (k : Int) < 8 := by omega
          have HST := Aside0.mk (crcSteps_succ k i)
          generalize crcSteps k i = x at hb HST ⊢
          by_cases hc : Go.bits .and .u32 x 1 = 1
          · have hcb : (Go.bits .and .u32 x 1 == 1) = true := beq_iff_eq.2 hc
            have HC := Aside0.mk hc
            clear hc
            go_wp2
            go_roundg g1
            case measure => omega
            case rel => exact ⟨k + 1, by omega, by rw [HST.out, crcStep, if_pos HC.out], by first | rfl | simp, rfl⟩
          · have hcb : (Go.bits .and .u32 x 1 == 1) = false := beq_eq_false_iff_ne.2 hc
            have HC := Aside0.mk hc
            clear hc
            go_wp2
            go_roundg g1
            case measure => omega
            case rel => exact ⟨k + 1, by omega, by rw [HST.out, crcStep, if_neg HC.out], by first | rfl | simp, rfl⟩
/-- One byte. -/
def sumStep (x c : Int) : Int := Go.bits .xor .u32 (x / 256) (crcSteps 8 (Go.bits .xor .u8 (x % 256) c))
def sumFold (l : List Int) : Int := l.foldl sumStep 4294967295
theorem sumFold_snoc (l : List Int) (c : Int) : sumFold (l ++ [c]) = sumStep (sumFold l) c := by unfold sumFold; rw [List.foldl_append]; rfl
def wire_Sum.f (l0 : List Int) : Option Int := some (Go.bits .xor .u32 4294967295 (sumFold l0))
theorem xor_u8_range (x c : Int) : 0 ≤ Go.bits .xor .u8 x c ∧ Go.bits .xor .u8 x c < 256 := by
  have h := bits_within .xor .u8 x c
  exact ⟨h.1, Int.lt_of_le_of_lt h.2 (by decide)⟩
theorem xor_u32_range (x c : Int) : 0 ≤ Go.bits .xor .u32 x c ∧ Go.bits .xor .u32 x c < 4294967296 := by
  have h := bits_within .xor .u32 x c
  exact ⟨h.1, Int.lt_of_le_of_lt h.2 (by decide)⟩
theorem sumFold_range (l : List Int) : 0 ≤ sumFold l ∧ sumFold l < 4294967296 := by
  rcases List.eq_nil_or_concat l with rfl | ⟨l, c, rfl⟩
  · exact ⟨by decide, by decide⟩
  · rw [List.concat_eq_append, sumFold_snoc]; exact xor_u32_range _ _
theorem take_snoc_rd (l : List Int) (k : Nat) (h : k < l.length) : l.take (k + 1) = l.take k ++ [rd l k] := by
  rw [List.take_add_one]; unfold rd; simp [h]
set_option maxHeartbeats 4000000 in
set_option maxRecDepth 1000000 in
theorem wire_Sum.calls (A0 : Option Addr) (c0 : Nat) (l0 : List Int) (r : Int) (w : World) (hr0 : Kd.C (Kd.int .u8) w A0 l0.length l0) (hc0 : l0.length ≤ c0) (h : wire_Sum.f l0 = some r) :
    Calls Try.prog 20 #[.slice A0 l0.length c0] w fun e w' => e = .returned (.int .u32 r) ∧ Below w.heap.size w w' := by
  obtain ⟨hz, hi0⟩ := zero_of_info table_info
  have hlen : l0.length ≤ 9223372036854775807 := hr0.2.1
  have HR := Aside0.mk hr0
  have hsg : IntKind.u32.signed = false := rfl
  have hmx : IntKind.u32.max = 4294967295 := rfl
  obtain rfl := Option.some.inj h
  have HI := Aside0.mk (show (Try.prog.info? 72).map (·.size) = some (crcCells 256).size by rw [crcCells_size]; exact hi0)
  have HS := Aside0.mk (show (Array.replicate 256 (Value.int .u32 0)).size = (crcCells 256).size by rw [crcCells_size]; simp)
  clear hr0 hc0 hi0
  go_enter Try.func20, Try.ntmps20
  go_wp2_with (first | (go_at_call 40; refine (wire_table.calls _).mono ?_; rintro e w1 ⟨rfl, hb⟩; have HB := Aside0.mk hb; clear hb) | (refine wpList_store_row rfl 72 _ _ rfl w1.heap.size (crcCells 256) rfl rfl 72 _ (heap_alloc_last _ _) HI.out HS.out (crcCells_one 256) ?_; rw [World.setRow_alloc_new]))
  go_loopg [4, 10] l0.length (fun g s4 s10 wx => ∃ k : Nat, k + g = l0.length ∧ s4 = .int .u32 (sumFold (l0.take k)) ∧ s10 = .int .i64 k ∧ wx = w1.alloc (.cells (crcCells 256) 72))
  case atStart => exact ⟨0, by omega, rfl, rfl, rfl⟩
  case round =>
    obtain ⟨k, hkg, rfl, rfl, rfl⟩ := hrel
    have hb := sumFold_range (l0.take k)
    cases gk with
    | zero =>
      obtain rfl : k = l0.length := by omega
      have hge : decide ((l0.length : Int) < (l0.length : Int)) = false := decide_eq_false (by omega)
      rw [List.take_length] at hb ⊢
      go_wp2
      go_ret
      exact ⟨rfl, HB.out.alloc HB.out.size _⟩
    | succ g =>
      have hk : k < l0.length := by omega
      have hlt : decide ((k : Int) < (l0.length : Int)) = true := decide_eq_true (by omega)
      obtain ⟨ad, rfl, hx⟩ := Kd.at_int (Kd.C_below HR.out (HB.out.alloc HB.out.size (.cells (crcCells 256) 72))) (k : Int) (by omega) (by omega)
      have HT := Aside0.mk (take_snoc_rd l0 k hk)
      have HS2 := Aside0.mk (sumFold_snoc (l0.take k) (rd l0 k))
      generalize sumFold (l0.take k) = x at hb HS2 ⊢
      generalize hcc : rd l0 k = c at hx HS2 HT
      clear hcc
      have hj := xor_u8_range (x % 256) c
      have hcell : (crcCells 256)[(Go.bits .xor .u8 (x % 256) c).toNat]? = some (.int .u32 (crcSteps 8 (Go.bits .xor .u8 (x % 256) c))) := by
        rw [crcCells_get _ _ (by omega), if_pos (by omega), Int.toNat_of_nonneg hj.1]
      rw [Int.toNat_natCast] at hx
      go_wp2
      go_roundg g
      case measure => omega
      case rel => exact ⟨k + 1, by omega, by rw [HT.out, HS2.out]; rfl, by first | rfl | simp, rfl⟩

end Go.Proofs.Ytnbfkinebikneaa.PA
