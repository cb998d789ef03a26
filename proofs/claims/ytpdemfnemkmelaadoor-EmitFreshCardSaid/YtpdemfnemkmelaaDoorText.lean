/- A program's lines: the numbers of a set, a line. Conditions: strconv's and math/bits' tables stand in their variables. -/
import Derived.Test.YtpdemfnemkmelaaDoorMay
import Derived.Test.YtpdemfnemkmelaaDoorBits
import Derived.Test.YtpdemfnemkmelaaDoorBuilder
import Derived.Lib.ItoaMem
import Derived.Lib.ItoaLen
import Derived.Sort.Grow
namespace Go.Proofs.YtpdemfnemkmelaaDoor.E
open Go Go.RowKit Go.Proofs.YtpdemfnemkmelaaDoorW.PrintWords Go.Proofs.YtpdemfnemkmelaaDoorW.PrintLast Go.Proofs.YtpdemfnemkmelaaDoorW.PrintMore Go.Proofs.YtpdemfnemkmelaaDoor.PA Go.Proofs.YtpdemfnemkmelaaDoor.Num
set_option linter.unusedVariables false
set_option linter.unusedSimpArgs false
/-- The table that finds a power of two. -/
def DB (w : World) : Prop := Lib.TabIs Tryd.prog w "math/bits.deBruijn64tab" .u8 (Lib.deBruijn64tab.map Int.ofNat)
theorem db_cell {w : World} (h : w.var? Tryd.prog "math/bits.deBruijn64tab" = some ((Lib.deBruijn64tab.map Int.ofNat).map fun z => Value.int .u8 z).toArray) {i k : Nat} (hi : i < 64) (hk : Lib.deBruijn64tab.getD i 0 = k) : w.cell? ⟨0, i, none⟩ = some (.int .u8 ((k : Nat) : Int)) := by
  have h1 := Lib.TabIs.cell (P := Tryd.prog) (W := w) (name := "math/bits.deBruijn64tab") (k := .u8) (zs := Lib.deBruijn64tab.map Int.ofNat) (g := 0) h (by kernel_rfl) i (by rw [List.length_map]; exact hi)
  rw [h1]
  have e : (Lib.deBruijn64tab.map Int.ofNat).getD i 0 = ((k : Nat) : Int) := by
    rw [← hk, List.getD_eq_getElem?_getD, List.getElem?_map, List.getD_eq_getElem?_getD]
    cases Lib.deBruijn64tab[i]? <;> rfl
  rw [e]
theorem tz_and (x : Nat) (hx : x < 2 ^ 64) (h0 : x ≠ 0) : Go.bits .and .u64 (x : Int) ((0 - (x : Int)) % 18446744073709551616) = ((2 ^ Lib.ctz 64 x : Nat) : Int) := by
  have e : (0 - (x : Int)) % 18446744073709551616 = ((2 ^ 64 - x : Nat) : Int) := by omega
  rw [e, u64_and_nat x (2 ^ 64 - x) (by omega) (by omega), (Lib.lowest_bit 64 x h0 hx).1]
theorem tz_all (x : Nat) (hx : x < 2 ^ 64) (h0 : x ≠ 0) (hct : Lib.ctz 64 x < 64) : ∃ p q j k : Nat, Go.bits .and .u64 (x : Int) ((0 - (x : Int)) % 18446744073709551616) = (p : Int) ∧ q = p * 285870213051353865 % 18446744073709551616 ∧ j = q / 288230376151711744 ∧ j < 64 ∧ Lib.deBruijn64tab.getD j 0 = k ∧ k = Lib.ctz 64 x := by
  obtain ⟨h1, h2⟩ := Lib.deBruijn64_at (Lib.ctz 64 x) hct
  exact ⟨2 ^ Lib.ctz 64 x, _, _, _, tz_and x hx h0, rfl, rfl, h1, h2, rfl⟩

set_option maxRecDepth 100000 in
theorem trailing (x : Nat) (hx : x < 2 ^ 64) (h0 : x ≠ 0) (hct : Lib.ctz 64 x < 64) (v0 : World) (hD : DB v0) :
    Calls Tryd.prog 54 #[.int .u64 (x : Int)] v0 fun e w' => e = .returned (.int .i64 ((Lib.ctz 64 x : Nat) : Int)) ∧ Below v0.heap.size v0 w' := by
  refine calls_enter (N := 14) (n := 13) (args := [.int .u64 (x : Int)]) Tryd.func54 rfl rfl rfl (H.init v0) (fun a hs => ?_)
  obtain ⟨p, q9, j, k, hq8, hq9, hj, hlt, hat, hk⟩ := tz_all x hx h0 hct
  refine wp_seq ?_
  refine wp_region_lit ?_
  refine a_val hs rfl rfl rfl (y_assign hs rfl) ?_; clear hs a; intro a hs
  refine wpList_nil (then_normal ?_)
  refine wp_seq ?_
  refine wp_seq ?_
  refine wp_region_lit ?_
  refine a_val hs rfl rfl rfl (y_move hs rfl) ?_; clear hs a; intro a hs
  refine a_val hs rfl rfl rfl (y_cmp (b := false) hs rfl rfl (congrArg some (beq_eq_false_iff_ne.2 (by omega)))) ?_; clear hs a; intro a hs
  refine wpList_nil (then_normal ?_)
  refine wp_cond_false (hs.ev rfl) ?_
  refine wp_skip (then_normal ?_)
  refine wp_seq ?_
  refine wp_region_lit ?_
  refine a_val hs rfl rfl rfl (y_move hs rfl) ?_; clear hs a; intro a hs
  refine a_val hs rfl rfl rfl (y_move hs rfl) ?_; clear hs a; intro a hs
  refine a_val hs rfl rfl rfl (y_neg hs rfl) ?_; clear hs a; intro a hs
  refine a_val hs rfl rfl rfl (y_bin (q := (p : Int)) hs rfl rfl (by rw [bin_and, IntKind.wrap_u64]; exact congrArg some hq8)) ?_; clear hs a; intro a hs
  refine a_val hs rfl rfl rfl (y_arith (q := (q9 : Int)) hs rfl rfl (by simp only [arith]; rw [IntKind.wrap_u64]; congr 1; omega)) ?_; clear hs a; intro a hs
  refine a_val hs rfl rfl rfl (y_shift (q := (j : Int)) hs rfl rfl (by rw [show (58 : Int) = ((58 : Nat) : Int) from rfl, shr_div _ _ 58 (by decide)]; congr 1; omega)) ?_; clear hs a; intro a hs
  refine a_val hs rfl rfl rfl (y_idxP (size := 1) (off := j) hs Tryd.underlying120 (by kernel_rfl) rfl rfl (by omega) (by omega) (by simp)) ?_; clear hs a; intro a hs
  refine a_val hs rfl rfl rfl (y_load (v := .int .u8 (k : Int)) hs Tryd.underlying5 rfl rfl (fun w hw => db_cell (varKeep hw.base hD) hlt hat)) ?_; clear hs a; intro a hs
  refine a_val hs rfl rfl rfl (y_conv hs Tryd.underlying5 Tryd.underlying3 rfl) ?_; clear hs a; intro a hs
  refine a_val hs rfl rfl rfl (y_assign hs rfl) ?_; clear hs a; intro a hs
  refine wpList_nil (then_normal ?_)
  refine wp_ret ?_
  refine fin_ret hs (.tmp (hs.slots _ _ rfl) .nil) ⟨?_, hs.mem.base⟩
  rw [i64_nat (by omega), hk]; rfl

set_option maxRecDepth 100000 in
theorem subset_List (r : Nat) (hr : r < 2 ^ 64) (v0 : World) (hD : DB v0) :
    Calls Tryd.prog 31 #[.int .u64 ((r : Nat) : Int)] v0 fun e w' => ∃ A c, e = .returned (.slice A (bitsL r).length c) ∧ H v0 [row 3 1 (.slice A (bitsL r).length c) (bitsL r).length ((bitsL r).flatMap encI)] w' := by
  refine calls_enter (N := 16) (n := 15) (args := [.int .u64 ((r : Nat) : Int)]) Tryd.func31 rfl rfl rfl (H.init v0) (fun a hs => ?_)
  refine wp_seq ?_
  refine wp_region_lit ?_
  refine a_val hs rfl rfl rfl (y_assign hs rfl) ?_; clear hs a; intro a hs
  refine wpList_nil (then_normal ?_)
  refine wp_seq ?_
  refine wp_region_lit ?_
  refine a_val hs rfl rfl rfl (y_assign hs rfl) ?_; clear hs a; intro a hs
  refine wpList_nil (then_normal ?_)
  refine wp_seq ?_
  refine wp_block ?_
  refine wp_loopN (fun m a w1 => ∃ (x : Nat) (acc : List Int) (A : Option Addr) (c : Nat), (m = x) ∧ (x < 2 ^ 64 ∧ acc.length + (bitsL x).length ≤ 64) ∧ (acc ++ bitsL x = bitsL r) ∧ St 16 v0 [(0, .int .u64 ((x : Nat) : Int)), (3, .slice A (acc).length c)] [row 3 1 (.slice A (acc).length c) (acc).length ((acc).flatMap encI)] a w1) (r) ⟨r, [], none, 0, rfl, ⟨hr, by have := bitsL_len r; simp only [List.length_nil]; omega⟩, rfl, ?_⟩ (fun m a w1 hJ => ?_)
  · exact (hs.mem_to (hs.mem.nilRow 3 1)).cut _ ⟨rfl, rfl, trivial⟩
  · clear hs
    obtain ⟨x, acc, A, c, hm, hx, hinv, hs⟩ := hJ
    refine wp_seq ?_
    refine wp_seq ?_
    refine wp_region_lit ?_
    refine a_val hs rfl rfl rfl (y_move hs rfl) ?_; clear hs a; intro a hs
    refine a_val hs rfl rfl rfl (y_cmp hs rfl rfl rfl) ?_; clear hs a; intro a hs
    refine wpList_nil (then_normal ?_)
    refine wp_cond_split (hs.ev rfl) (fun h5 => ?_) (fun h5 => ?_)
    · replace h5 := bne_iff_ne.1 h5
      obtain ⟨hn1, hn2, hn3⟩ := bitsN_next (x := x) (by omega) hx.1
      have hbl : bitsL x = ((Lib.ctz 64 x : Nat) : Int) :: bitsL (x &&& (x - 1)) := by unfold bitsL; rw [hn3]; rfl
      refine wp_skip (then_normal ?_)
      refine wp_seq ?_
      refine wp_block ?_
      refine wp_region_lit ?_
      refine a_val hs rfl rfl rfl (y_move hs rfl) ?_; clear hs a; intro a hs
      refine a_val hs rfl rfl rfl (y_move hs rfl) ?_; clear hs a; intro a hs
      refine a_eff rfl (e_callB Tryd.func54 rfl rfl hs rfl rfl (trailing x (by omega) (by omega) hn1 _ (varKeep hs.mem.base hD)) ?_); clear hs a; intro a w hs
      refine a_eff rfl (e_bslice (z := .int .i64 0) (size := 1) (zc := #[.int .i64 0]) (cl := [_]) hs rfl Tryd.underlying59 (by kernel_rfl) rfl rfl rfl (by kernel_rfl) (by rfl) rfl ?_); clear hs a; intro gl a w hs
      refine a_eff rfl (e_appL (z := .int .i64 0) (size := 1) (bytes := 8) encI (acc) ([((Lib.ctz 64 x : Nat) : Int)]) 1 rfl 0 rfl hs rfl Tryd.underlying59 (by kernel_rfl) rfl rfl (fun _ => rfl) rfl rfl rfl rfl (oneI _) (by unfold maxLen; simp only [List.length_cons, List.length_nil]; omega) (by simp only [List.length_cons, List.length_nil]; omega) ?_); clear hs a; intro A2 c2 a w hs
      refine a_val hs rfl rfl rfl (y_assign hs rfl) ?_; clear hs a; intro a hs
      refine wpList_nil (in_normal (then_normal ?_))
      refine wp_region_lit ?_
      refine a_val hs rfl rfl rfl (y_move hs rfl) ?_; clear hs a; intro a hs
      refine a_val hs rfl rfl rfl (y_move hs rfl) ?_; clear hs a; intro a hs
      refine a_val hs rfl rfl rfl (y_arith (q := ((x - 1 : Nat) : Int)) hs rfl rfl (by simp only [arith]; rw [IntKind.wrap_u64]; congr 1; omega)) ?_; clear hs a; intro a hs
      refine a_val hs rfl rfl rfl (y_bin (q := ((x &&& (x - 1) : Nat) : Int)) hs rfl rfl (by rw [bin_and, u64_and_nat x (x - 1) (by omega) (by omega)])) ?_; clear hs a; intro a hs
      refine a_val hs rfl rfl rfl (y_assign hs rfl) ?_; clear hs a; intro a hs
      refine wpList_nil (then_normal ?_)
      refine ⟨(x &&& (x - 1)), by omega, x &&& (x - 1), acc ++ [((Lib.ctz 64 x : Nat) : Int)], A2, c2, rfl, ⟨by omega, by rw [hbl, List.length_cons] at hx; rw [List.length_append, List.length_singleton]; omega⟩, by rw [hbl] at hinv; rw [List.append_assoc]; exact hinv, ?_⟩
      exact (hs.mem_to (hs.mem.to 1 rfl).drop).cut _ ⟨rfl, rfl, trivial⟩
    · replace h5 := bne_eq_false_iff_eq.1 h5
      obtain rfl : x = 0 := by omega
      have e0 : acc = bitsL r := by rw [← hinv, show bitsL 0 = [] from by unfold bitsL; rw [bitsN_zero]; rfl, List.append_nil]
      rw [e0] at hs
      refine wp_exit (then_exit (then_exit (in_here (then_normal ?_))))
      refine wp_seq ?_
      refine wp_region_lit ?_
      refine a_val hs rfl rfl rfl (y_move hs rfl) ?_; clear hs a; intro a hs
      refine a_val hs rfl rfl rfl (y_assign hs rfl) ?_; clear hs a; intro a hs
      refine wpList_nil (then_normal ?_)
      refine wp_ret ?_
      refine fin_ret hs (.tmp (hs.slots _ _ rfl) .nil) ⟨A, c, rfl, hs.mem⟩

theorem ref_List (r : Nat) (hr : r < 2 ^ 64) (v0 : World) :
    Calls Tryd.prog 63 #[.int .u64 ((r : Nat) : Int)] v0 fun e w' => ∃ A c, e = .returned (.slice A (bitsL r).length c) ∧ H v0 [row 3 1 (.slice A (bitsL r).length c) (bitsL r).length ((bitsL r).flatMap encI)] w' := by
  refine (recoupref06_List.calls 65 (r : Int) (bitsL r) v0 (rlist_ok r hr)).mono ?_
  rintro e w' ⟨v, rfl, hR, hb⟩
  obtain ⟨A, c, rfl, hm⟩ := (H.init v0).addR encI_M encI_len hb hR
  exact ⟨A, c, rfl, hm⟩

/-- strconv's table stands in its variable. -/
def Pow10 (w : World) : Prop := Lib.TabIs Tryd.prog w "internal/strconv.uint64pow10" .u64 Lib.pow10Tab
theorem grow_below (w : World) (k : Nat) (os : Array Obj) : Below w.heap.size w (Go.Sort.grow (w.drewN k) os) := by
  refine ⟨rfl, rfl, rfl, ?_, fun j hj => ?_⟩
  · show w.heap.size ≤ (w.heap ++ os).size; simp
  · show (w.heap ++ os)[j]? = _
    rw [Array.getElem?_append_left hj]
def itoaB (n : Int) : ByteArray := ⟨(Lib.itoa n).toArray⟩
theorem itoaB_size {n : Int} (h0 : -9223372036854775808 ≤ n) (h1 : n ≤ 9223372036854775807) : (itoaB n).size ≤ 21 := by
  have := Lib.itoa_length_le n h0 h1
  simpa [itoaB, ByteArray.size] using this
theorem itoa_ok (n : Int) (h0 : -9223372036854775808 ≤ n) (h1 : n ≤ 9223372036854775807) (w : World) (hP : w.var? Tryd.prog "internal/strconv.uint64pow10" = some (Lib.pow10Tab.map fun z => Value.int .u64 z).toArray) :
    Calls Tryd.prog 53 #[.int .i64 n] w fun e w' => e = .returned (.string (itoaB n)) ∧ Below w.heap.size w w' :=
  (Tryd.strconv_Itoa n h0 h1 w hP).mono (by rintro e w1 ⟨rfl, k, os, rfl⟩; exact ⟨rfl, grow_below _ k os⟩)
/-- A blank, a line's end; a line of a word and numbers. -/
def joinN (s : ByteArray) (l : List Int) : ByteArray := l.foldl (fun s n => s ++ (⟨#[32]⟩ ++ itoaB n)) s
def lineB (s : ByteArray) (l : List Int) : ByteArray := joinN s l ++ ⟨#[10]⟩
theorem joinN_snoc (s : ByteArray) (l : List Int) (n : Int) : joinN s (l ++ [n]) = joinN s l ++ (⟨#[32]⟩ ++ itoaB n) := by unfold joinN; rw [List.foldl_append]; rfl
theorem joinN_size (s : ByteArray) (l : List Int) (h : ∀ n ∈ l, -9223372036854775808 ≤ n ∧ n ≤ 9223372036854775807) : (joinN s l).size ≤ s.size + 22 * l.length := by
  induction l generalizing s with
  | nil => simp [joinN]
  | cons n l ih =>
    have h1 := ih (s ++ (⟨#[32]⟩ ++ itoaB n)) (fun x hx => h x (.tail _ hx))
    have h2 := itoaB_size (h n (.head _)).1 (h n (.head _)).2
    have e : joinN s (n :: l) = joinN (s ++ (⟨#[32]⟩ ++ itoaB n)) l := rfl
    have h3 : (⟨#[32]⟩ : ByteArray).size = 1 := rfl
    rw [e, List.length_cons]
    rw [ByteArray.size_append, ByteArray.size_append] at h1
    omega

set_option maxRecDepth 100000 in
theorem emit_line (s : ByteArray) (A : Option Addr) (c : Nat) (l : List Int) (v0 : World) (hA : Kd.C (Kd.int .i64) v0 A l.length l) (hl : ∀ n ∈ l, -9223372036854775808 ≤ n ∧ n ≤ 9223372036854775807) (hz : s.size + 22 * l.length ≤ 1000000) (hP : Pow10 v0) :
    Calls Tryd.prog 30 #[.string s, .slice A l.length c] v0 fun e w' => e = .returned (.string (lineB s l)) ∧ Below v0.heap.size v0 w' := by
  refine calls_enter (N := 21) (n := 19) (args := [.string s, .slice A l.length c]) Tryd.func30 rfl rfl rfl (H.init v0) (fun a hs => ?_)
  refine wp_seq ?_
  refine wp_region_lit ?_
  refine a_val hs rfl rfl rfl (y_assign hs rfl) ?_; clear hs a; intro a hs
  refine wpList_nil (then_normal ?_)
  refine wp_seq ?_
  refine wp_seq ?_
  refine wp_region_lit ?_
  refine a_val hs rfl rfl rfl (y_move hs rfl) ?_; clear hs a; intro a hs
  refine a_val hs rfl rfl rfl (y_lenL hs Tryd.underlying59 rfl) ?_; clear hs a; intro a hs
  refine a_val hs rfl rfl rfl (y_move hs rfl) ?_; clear hs a; intro a hs
  refine wpList_nil (then_normal ?_)
  refine wp_block ?_
  refine wp_loopN (fun m a w1 => ∃ (i : Nat), (i + m = l.length) ∧ St 21 v0 [(0, .string (joinN s (l.take i))), (7, .slice A l.length c), (8, .int .i64 (l.length : Int)), (9, .int .i64 ((i : Nat) : Int))] [] a w1) (l.length) ⟨0, by omega, ?_⟩ (fun m a w1 hJ => ?_)
  · exact (hs.mem_to hs.mem).cut _ ⟨rfl, rfl, rfl, rfl, trivial⟩
  · clear hs
    obtain ⟨i, hi, hs⟩ := hJ
    refine wp_seq ?_
    refine wp_region_lit ?_
    refine a_val hs rfl rfl rfl (y_cmp hs rfl rfl rfl) ?_; clear hs a; intro a hs
    refine wpList_nil (then_normal ?_)
    refine wp_seq ?_
    refine wp_cond_split (hs.ev rfl) (fun h10 => ?_) (fun h10 => ?_)
    · replace h10 := of_decide_eq_true h10
      obtain ⟨n, hn⟩ : ∃ n, l[i]? = some n := ⟨_, List.getElem?_eq_getElem (by omega)⟩
      obtain ⟨g0, o, rfl, hcell⟩ := C_at encI_K encI_len (by decide) hA (by omega)
      have hnb := hl n (List.mem_of_getElem? hn)
      have hsz := joinN_size s (l.take i) (fun x hx => hl x (List.mem_of_mem_take hx))
      rw [List.length_take] at hsz
      have hit := itoaB_size hnb.1 hnb.2
      refine wp_skip (then_normal ?_)
      refine wp_seq ?_
      refine wp_block ?_
      refine wp_seq ?_
      refine wp_region_lit ?_
      refine a_val hs rfl rfl rfl (y_idxB (size := 1) (off := o + i * 1) hs Tryd.underlying59 (by kernel_rfl) rfl rfl (by omega) (by omega) (by simp)) ?_; clear hs a; intro a hs
      refine a_val hs rfl rfl rfl (y_load hs Tryd.underlying3 rfl rfl (fun w hw => hcell w hw.base i n hn 0 _ rfl)) ?_; clear hs a; intro a hs
      refine a_val hs rfl rfl rfl (y_assign hs rfl) ?_; clear hs a; intro a hs
      refine wpList_nil (then_normal ?_)
      refine wp_region_lit ?_
      refine a_val hs rfl rfl rfl (y_move hs rfl) ?_; clear hs a; intro a hs
      refine a_val hs rfl rfl rfl (y_move hs rfl) ?_; clear hs a; intro a hs
      refine a_eff rfl (e_callB Tryd.func53 rfl rfl hs rfl rfl (itoa_ok (n) (by omega) (by omega) _ (varKeep hs.mem.base hP)) ?_); clear hs a; intro a w hs
      refine a_val hs rfl rfl rfl (y_sadd hs rfl rfl (by rw [show (⟨#[32]⟩ : ByteArray).size = 1 from rfl]; omega)) ?_; clear hs a; intro a hs
      refine a_val hs rfl rfl rfl (y_sadd hs rfl rfl (by rw [ByteArray.size_append, show (⟨#[32]⟩ : ByteArray).size = 1 from rfl]; omega)) ?_; clear hs a; intro a hs
      refine a_val hs rfl rfl rfl (y_assign hs rfl) ?_; clear hs a; intro a hs
      refine wpList_nil (in_normal (then_normal ?_))
      refine wp_region_lit ?_
      refine a_val hs rfl rfl rfl (y_add hs rfl rfl (by omega)) ?_; clear hs a; intro a hs
      refine a_val hs rfl rfl rfl (y_move hs rfl) ?_; clear hs a; intro a hs
      refine wpList_nil (then_normal ?_)
      rw [← joinN_snoc, show l.take i ++ [n] = l.take (i + 1) by rw [List.take_add_one, hn]; rfl] at hs
      refine ⟨m - 1, by omega, i + 1, by omega, ?_⟩
      exact (hs.mem_to hs.mem).cut _ ⟨rfl, rfl, rfl, rfl, trivial⟩
    · replace h10 := of_decide_eq_false h10
      rw [List.take_of_length_le (by omega)] at hs
      have hsz := joinN_size s l hl
      refine wp_exit (then_exit (then_exit (in_here (then_normal ?_))))
      refine wp_seq ?_
      refine wp_region_lit ?_
      refine a_val hs rfl rfl rfl (y_move hs rfl) ?_; clear hs a; intro a hs
      refine a_val hs rfl rfl rfl (y_sadd hs rfl rfl (by rw [show (⟨#[10]⟩ : ByteArray).size = 1 from rfl]; omega)) ?_; clear hs a; intro a hs
      refine a_val hs rfl rfl rfl (y_assign hs rfl) ?_; clear hs a; intro a hs
      refine wpList_nil (then_normal ?_)
      refine wp_ret ?_
      refine fin_ret hs (.tmp (hs.slots _ _ rfl) .nil) ⟨rfl, hs.mem.base⟩
end Go.Proofs.YtpdemfnemkmelaaDoor.E
