/- The walk of the cutter's cut. Conditions: the text has at most 65536 bytes. -/
import Derived.Test.YtbljojjacfmggaaDoorCutter
import Derived.Test.YtbljojjacfmggaaDoorPA1036
import Derived.Test.YtbljojjacfmggaaDoorPA1037
import Derived.Test.YtbljojjacfmggaaDoorValue
namespace Go.Proofs.YtbljojjacfmggaaDoor.E
open Go Go.RowKit Go.Proofs.YtbljojjacfmggaaDoorW.PrintWords Go.Proofs.YtbljojjacfmggaaDoorW.PrintLast Go.Proofs.YtbljojjacfmggaaDoorW.PrintMore Go.Proofs.YtbljojjacfmggaaDoor.PA
/-- Where a remark ends. -/
def remTo (s : ByteArray) : Nat → Nat → Nat → Nat → Nat × Nat × Nat
  | 0, p, q, r => (p, q, r)
  | n + 1, p, q, r => if p < s.size ∧ bt s p ≠ 10 then remTo s n (p + 1) (if bt s p = 10 then q + 1 else q) (if bt s p = 10 then 1 else r + 1) else (p, q, r)
theorem remTo_stop {s : ByteArray} {n p q r : Nat} (h : ¬ (p < s.size ∧ bt s p ≠ 10)) : remTo s n p q r = (p, q, r) := by
  cases n with
  | zero => rfl
  | succ n => rw [remTo, if_neg h]
theorem runTo_le (s : ByteArray) (l : List Int) : ∀ (n p q r : Nat), p ≤ s.size → q ≤ p + 1 → r ≤ p + 1 → p ≤ (runTo s l n p q r).1 ∧ (runTo s l n p q r).1 ≤ s.size ∧ (runTo s l n p q r).2.1 ≤ (runTo s l n p q r).1 + 1 ∧ (runTo s l n p q r).2.2 ≤ (runTo s l n p q r).1 + 1
  | 0, p, q, r, hp, hq, hr => ⟨Nat.le_refl _, hp, hq, hr⟩
  | n + 1, p, q, r, hp, hq, hr => by
    rw [runTo]
    split
    · rename_i h
      have ih := runTo_le s l n (p + 1) (if bt s p = 10 then q + 1 else q) (if bt s p = 10 then 1 else r + 1) (by omega) (by split <;> omega) (by split <;> omega)
      exact ⟨by omega, ih.2.1, ih.2.2.1, ih.2.2.2⟩
    · exact ⟨Nat.le_refl _, hp, hq, hr⟩
theorem runTo_fst (s : ByteArray) (l : List Int) : ∀ (n p q r : Nat), p ≤ (runTo s l n p q r).1
  | 0, p, q, r => Nat.le_refl _
  | n + 1, p, q, r => by
    rw [runTo]
    split
    · have ih := runTo_fst s l n (p + 1) (if bt s p = 10 then q + 1 else q) (if bt s p = 10 then 1 else r + 1)
      omega
    · exact Nat.le_refl _
theorem runTo_lt (s : ByteArray) (l : List Int) (p q r : Nat) (hp : p < s.size) (hk : l.contains (kd s p) = true) : p < (runTo s l (s.size - p) p q r).1 := by
  rw [show s.size - p = (s.size - (p + 1)) + 1 by omega, runTo, if_pos ⟨hp, hk⟩]
  have := runTo_fst s l (s.size - (p + 1)) (p + 1) (if bt s p = 10 then q + 1 else q) (if bt s p = 10 then 1 else r + 1)
  omega
/-- What cut comes to: where a fault stands (or none), and the tokens. -/
def cutF (s : ByteArray) : Nat → Nat → Nat → Nat → List S34 → Option ((Int × Int × Bool) × List S34)
  | 0, _, _, _, _ => none
  | n + 1, p, q, r, l =>
    if p = s.size then some ((0, 0, true), l)
    else if kd s p = 4 then cutF s n (p + 1) (if bt s p = 10 then q + 1 else q) (if bt s p = 10 then 1 else r + 1) l
    else if kd s p = 5 then cutF s n (remTo s (s.size - p) p q r).1 (remTo s (s.size - p) p q r).2.1 (remTo s (s.size - p) p q r).2.2 l
    else if kd s p = 1 then
      if nameText (s.extract p (runTo s [1, 2] (s.size - p) p q r).1) = true then cutF s n (runTo s [1, 2] (s.size - p) p q r).1 (runTo s [1, 2] (s.size - p) p q r).2.1 (runTo s [1, 2] (s.size - p) p q r).2.2
        (l ++ [if wordIn wordList (s.extract p (runTo s [1, 2] (s.size - p) p q r).1) = true then ⟨2, s.extract p (runTo s [1, 2] (s.size - p) p q r).1, 0, q, r⟩ else ⟨1, s.extract p (runTo s [1, 2] (s.size - p) p q r).1, 0, q, r⟩])
      else some ((q, r, false), l)
    else if kd s p = 2 then
      if (valueF (s.extract p (runTo s [2] (s.size - p) p q r).1)).2 = true then
        if kd s (runTo s [2] (s.size - p) p q r).1 = 1 then some (((runTo s [2] (s.size - p) p q r).2.1, (runTo s [2] (s.size - p) p q r).2.2, false), l)
        else cutF s n (runTo s [2] (s.size - p) p q r).1 (runTo s [2] (s.size - p) p q r).2.1 (runTo s [2] (s.size - p) p q r).2.2 (l ++ [⟨3, ⟨#[]⟩, (valueF (s.extract p (runTo s [2] (s.size - p) p q r).1)).1, q, r⟩])
      else some ((q, r, false), l)
    else if kd s p = 3 then cutF s n (p + 1) (if bt s p = 10 then q + 1 else q) (if bt s p = 10 then 1 else r + 1) (l ++ [⟨4, s.extract p (p + 1), 0, q, r⟩])
    else some ((q, r, false), l)
theorem con12 (a : Int) : slices_Contains_int_int.f 4 [1, 2] a = some ([1, 2].contains a) := by
  simp only [slices_Contains_int_int.f, slices_Index_int_int.f, slices_Index_int_int.l0]
  by_cases h1 : a = 1
  · subst h1; decide
  · by_cases h2 : a = 2
    · subst h2; simp [rd, wrap64]
    · simp [rd, h1, h2, wrap64]
theorem con2 (a : Int) : slices_Contains_int_int.f 4 [2] a = some ([2].contains a) := by
  simp only [slices_Contains_int_int.f, slices_Index_int_int.f, slices_Index_int_int.l0]
  by_cases h2 : a = 2
  · subst h2; simp [rd, wrap64]
  · simp [rd, h2, wrap64]
theorem snoc_mem {w0 w : World} {bs : List Res} {g : Nat} {s : ByteArray} {p q r c : Nat} {A : Option Addr} {l : List S34} {tk : S34}
    (h : H w0 (pt g #[.string s, .int .i64 (p : Int), .int .i64 (q : Int), .int .i64 (r : Int), .slice A (l.length + 1) c] 44 :: row 34 5 (.slice A (l.length + 1) c) (l.length + 1) (l.flatMap tokC ++ tokC tk) :: bs) w) :
    H w0 (pt g #[.string s, .int .i64 (p : Int), .int .i64 (q : Int), .int .i64 (r : Int), .slice A (l ++ [tk]).length c] 44 :: row 34 5 (.slice A (l ++ [tk]).length c) (l ++ [tk]).length ((l ++ [tk]).flatMap tokC) :: bs) w := by
  have e : (l ++ [tk]).length = l.length + 1 := by simp
  have e2 : (l ++ [tk]).flatMap tokC = l.flatMap tokC ++ tokC tk := by simp
  rw [e, e2]; exact h
set_option maxRecDepth 100000 in
theorem cutter_cut (g : Nat) (s : ByteArray) (hz : s.size ≤ 65536) (n0 : Nat) (R : Int × Int × Bool) (L : List S34) (hF : cutF s n0 0 1 1 [] = some (R, L)) (bs : List Res) (w0 w : World) (hE : ErrVars w0) (h : H w0 (pt g #[.string s, .int .i64 ((0 : Nat) : Int), .int .i64 ((1 : Nat) : Int), .int .i64 ((1 : Nat) : Int), (.slice none 0 0)] 44 :: row 34 5 (.slice none 0 0) 0 [] :: bs) w) :
    Calls Tryd.prog 18 #[.pointer (some ⟨g, 0, none⟩)] w fun e w' => ∃ (p q r : Nat) (A : Option Addr) (c : Nat), e = .returned (.tuple #[.int .i64 R.1, .int .i64 R.2.1, .bool R.2.2]) ∧ H w0 (pt g #[.string s, .int .i64 ((p : Nat) : Int), .int .i64 ((q : Nat) : Int), .int .i64 ((r : Nat) : Int), (.slice A (L).length c)] 44 :: row 34 5 (.slice A (L).length c) (L).length ((L).flatMap tokC) :: bs) w' := by
  refine calls_enter (N := 140) (n := 139) (args := [.pointer (some ⟨g, 0, none⟩)]) Tryd.func18 rfl rfl rfl h (fun a hs => ?_)
  repeat with_reducible refine wp_seq ?_
  refine wp_region_lit ?_
  refine a_val hs rfl rfl rfl (y_assign hs rfl) ?_; clear hs a; intro a hs
  refine a_val hs rfl rfl rfl (y_assign hs rfl) ?_; clear hs a; intro a hs
  refine a_val hs rfl rfl rfl (y_assign hs rfl) ?_; clear hs a; intro a hs
  refine wpList_nil ?_
  repeat first | with_reducible refine in_normal ?_ | with_reducible refine then_normal ?_ | with_reducible refine then_ret ?_ | with_reducible refine in_ret ?_ | with_reducible refine then_exit ?_ | with_reducible refine in_here ?_ | with_reducible refine in_other rfl ?_ | with_reducible refine then_goto ?_ | with_reducible refine in_goto ?_ | with_reducible refine jump_normal ?_ | with_reducible refine jump_ret ?_ | with_reducible refine jump_goto ?_
  repeat with_reducible refine wp_seq ?_
  refine wp_scopeL 0 (fun m a w => ∃ (p q r : Nat) (l : List S34) (A : Option Addr) (c : Nat), p ≤ s.size ∧ q ≤ p + 1 ∧ r ≤ p + 1 ∧ l.length ≤ p ∧ cutF s m p q r l = some (R, L) ∧ St 140 w0 [(0, .pointer (some ⟨g, 0, none⟩))] (pt g #[.string s, .int .i64 ((p : Nat) : Int), .int .i64 ((q : Nat) : Int), .int .i64 ((r : Nat) : Int), (.slice A (l).length c)] 44 :: row 34 5 (.slice A (l).length c) (l).length ((l).flatMap tokC) :: bs) a w) n0 ⟨0, 1, 1, [], none, 0, Nat.zero_le _, by omega, by omega, Nat.le_refl _, hF, hs.cut _ ⟨rfl, trivial⟩⟩ (by rfl) (fun m a w hJ => ?_)
  clear hs hF
  obtain ⟨p, q, r, l, A, c, hp, hq, hr, hl, hF, hs⟩ := hJ
  cases m with
  | zero => exact absurd hF (by simp [cutF])
  | succ m =>
    rw [cutF] at hF
    by_cases he : p = s.size
    · repeat with_reducible refine wp_seq ?_
      refine b_enter [0, 1] (by kernel_rfl) hs #[false, false, false, false, false, false, false, false, false, false] (by rfl) 10 (by rfl) ?_; clear hs; intro w hs
      refine b_take 0 rfl #[true, false, false, false, false, false, false, false, false, false] rfl (by kernel_rfl) hs ((((hs.mem.to 1 rfl).to 1 rfl).first 2)) rfl rfl rfl (fun _ _ _ h => h) (y_move hs rfl) ?_; clear hs a; intro a hs
      refine b_take 1 rfl #[true, true, false, false, false, false, false, false, false, false] rfl (by kernel_rfl) hs ((((hs.mem.to 1 rfl).to 1 rfl).first 2)) rfl rfl rfl (fun _ _ _ h => h) (y_nilchk hs rfl) ?_; clear hs a; intro a hs
      refine b_take 2 rfl #[true, true, true, false, false, false, false, false, false, false] rfl (by kernel_rfl) hs ((((hs.mem.to 1 rfl).to 1 rfl).first 2)) rfl rfl rfl (fun _ _ _ h => h) (y_faddr (k' := 1) 1 hs (by kernel_rfl) rfl rfl) ?_; clear hs a; intro a hs
      refine b_take 3 rfl #[true, true, true, true, false, false, false, false, false, false] rfl (by kernel_rfl) hs ((((hs.mem.to 1 rfl).to 1 rfl).first 2)) rfl rfl rfl (fun _ _ _ h => h) (y_load hs Tryd.underlying3 rfl rfl (fun w hw => (hw.to 0 rfl).cellV rfl)) ?_; clear hs a; intro a hs
      refine b_take 4 rfl #[true, true, true, true, true, false, false, false, false, false] rfl (by kernel_rfl) hs ((((hs.mem.to 1 rfl).to 1 rfl).first 2)) rfl rfl rfl (fun _ _ _ h => h) (y_move hs rfl) ?_; clear hs a; intro a hs
      refine b_take 5 rfl #[true, true, true, true, true, true, false, false, false, false] rfl (by kernel_rfl) hs ((((hs.mem.to 1 rfl).to 1 rfl).first 2)) rfl rfl rfl (fun _ _ _ h => h) (y_nilchk hs rfl) ?_; clear hs a; intro a hs
      refine b_take 6 rfl #[true, true, true, true, true, true, true, false, false, false] rfl (by kernel_rfl) hs ((((hs.mem.to 1 rfl).to 1 rfl).first 2)) rfl rfl rfl (fun _ _ _ h => h) (y_faddr (k' := 0) 0 hs (by kernel_rfl) rfl rfl) ?_; clear hs a; intro a hs
      refine b_take 7 rfl #[true, true, true, true, true, true, true, true, false, false] rfl (by kernel_rfl) hs ((((hs.mem.to 1 rfl).to 1 rfl).first 2)) rfl rfl rfl (fun _ _ _ h => h) (y_load hs Tryd.underlying9 rfl rfl (fun w hw => (hw.to 0 rfl).cellV rfl)) ?_; clear hs a; intro a hs
      refine b_take 8 rfl #[true, true, true, true, true, true, true, true, true, false] rfl (by kernel_rfl) hs ((((hs.mem.to 1 rfl).to 1 rfl).first 2)) rfl rfl rfl (fun _ _ _ h => h) (y_lenS hs Tryd.underlying9 rfl) ?_; clear hs a; intro a hs
      refine b_take 9 rfl #[true, true, true, true, true, true, true, true, true, true] rfl (by kernel_rfl) hs ((((hs.mem.to 1 rfl).to 1 rfl).first 2)) rfl rfl rfl (fun _ _ _ h => h) (y_cmp (b := true) hs rfl rfl (congrArg some (beq_iff_eq.2 (by omega)))) ?_; clear hs a; intro a hs
      refine b_done (by kernel_rfl) ?_
      repeat first | with_reducible refine in_normal ?_ | with_reducible refine then_normal ?_ | with_reducible refine then_ret ?_ | with_reducible refine in_ret ?_ | with_reducible refine then_exit ?_ | with_reducible refine in_here ?_ | with_reducible refine in_other rfl ?_ | with_reducible refine then_goto ?_ | with_reducible refine in_goto ?_ | with_reducible refine jump_normal ?_ | with_reducible refine jump_ret ?_ | with_reducible refine jump_goto ?_
      repeat with_reducible refine wp_seq ?_
      refine wp_cond_true (hs.ev rfl) ?_
      repeat with_reducible refine wp_seq ?_
      refine wp_region_lit ?_
      refine a_val hs rfl rfl rfl (y_assign hs rfl) ?_; clear hs a; intro a hs
      refine a_val hs rfl rfl rfl (y_assign hs rfl) ?_; clear hs a; intro a hs
      refine a_val hs rfl rfl rfl (y_assign hs rfl) ?_; clear hs a; intro a hs
      refine wpList_nil ?_
      repeat first | with_reducible refine in_normal ?_ | with_reducible refine then_normal ?_ | with_reducible refine then_ret ?_ | with_reducible refine in_ret ?_ | with_reducible refine then_exit ?_ | with_reducible refine in_here ?_ | with_reducible refine in_other rfl ?_ | with_reducible refine then_goto ?_ | with_reducible refine in_goto ?_ | with_reducible refine jump_normal ?_ | with_reducible refine jump_ret ?_ | with_reducible refine jump_goto ?_
      rw [if_pos he] at hF
      injection hF with hF
      injection hF with h1 h2
      subst h1 h2
      repeat with_reducible refine wp_seq ?_
      refine wp_ret ?_
      repeat first | with_reducible refine in_normal ?_ | with_reducible refine then_normal ?_ | with_reducible refine then_ret ?_ | with_reducible refine in_ret ?_ | with_reducible refine then_exit ?_ | with_reducible refine in_here ?_ | with_reducible refine in_other rfl ?_ | with_reducible refine then_goto ?_ | with_reducible refine in_goto ?_ | with_reducible refine jump_normal ?_ | with_reducible refine jump_ret ?_ | with_reducible refine jump_goto ?_
      refine fin_ret (vs := [.int .i64 0, .int .i64 0, .bool true]) hs (.tmp (hs.slots _ _ rfl) (.tmp (hs.slots _ _ rfl) (.tmp (hs.slots _ _ rfl) .nil))) ⟨p, q, r, A, c, rfl, hs.mem⟩
    · repeat with_reducible refine wp_seq ?_
      refine b_enter [0, 1] (by kernel_rfl) hs #[false, false, false, false, false, false, false, false, false, false] (by rfl) 10 (by rfl) ?_; clear hs; intro w hs
      refine b_take 0 rfl #[true, false, false, false, false, false, false, false, false, false] rfl (by kernel_rfl) hs ((((hs.mem.to 1 rfl).to 1 rfl).first 2)) rfl rfl rfl (fun _ _ _ h => h) (y_move hs rfl) ?_; clear hs a; intro a hs
      refine b_take 1 rfl #[true, true, false, false, false, false, false, false, false, false] rfl (by kernel_rfl) hs ((((hs.mem.to 1 rfl).to 1 rfl).first 2)) rfl rfl rfl (fun _ _ _ h => h) (y_nilchk hs rfl) ?_; clear hs a; intro a hs
      refine b_take 2 rfl #[true, true, true, false, false, false, false, false, false, false] rfl (by kernel_rfl) hs ((((hs.mem.to 1 rfl).to 1 rfl).first 2)) rfl rfl rfl (fun _ _ _ h => h) (y_faddr (k' := 1) 1 hs (by kernel_rfl) rfl rfl) ?_; clear hs a; intro a hs
      refine b_take 3 rfl #[true, true, true, true, false, false, false, false, false, false] rfl (by kernel_rfl) hs ((((hs.mem.to 1 rfl).to 1 rfl).first 2)) rfl rfl rfl (fun _ _ _ h => h) (y_load hs Tryd.underlying3 rfl rfl (fun w hw => (hw.to 0 rfl).cellV rfl)) ?_; clear hs a; intro a hs
      refine b_take 4 rfl #[true, true, true, true, true, false, false, false, false, false] rfl (by kernel_rfl) hs ((((hs.mem.to 1 rfl).to 1 rfl).first 2)) rfl rfl rfl (fun _ _ _ h => h) (y_move hs rfl) ?_; clear hs a; intro a hs
      refine b_take 5 rfl #[true, true, true, true, true, true, false, false, false, false] rfl (by kernel_rfl) hs ((((hs.mem.to 1 rfl).to 1 rfl).first 2)) rfl rfl rfl (fun _ _ _ h => h) (y_nilchk hs rfl) ?_; clear hs a; intro a hs
      refine b_take 6 rfl #[true, true, true, true, true, true, true, false, false, false] rfl (by kernel_rfl) hs ((((hs.mem.to 1 rfl).to 1 rfl).first 2)) rfl rfl rfl (fun _ _ _ h => h) (y_faddr (k' := 0) 0 hs (by kernel_rfl) rfl rfl) ?_; clear hs a; intro a hs
      refine b_take 7 rfl #[true, true, true, true, true, true, true, true, false, false] rfl (by kernel_rfl) hs ((((hs.mem.to 1 rfl).to 1 rfl).first 2)) rfl rfl rfl (fun _ _ _ h => h) (y_load hs Tryd.underlying9 rfl rfl (fun w hw => (hw.to 0 rfl).cellV rfl)) ?_; clear hs a; intro a hs
      refine b_take 8 rfl #[true, true, true, true, true, true, true, true, true, false] rfl (by kernel_rfl) hs ((((hs.mem.to 1 rfl).to 1 rfl).first 2)) rfl rfl rfl (fun _ _ _ h => h) (y_lenS hs Tryd.underlying9 rfl) ?_; clear hs a; intro a hs
      refine b_take 9 rfl #[true, true, true, true, true, true, true, true, true, true] rfl (by kernel_rfl) hs ((((hs.mem.to 1 rfl).to 1 rfl).first 2)) rfl rfl rfl (fun _ _ _ h => h) (y_cmp (b := false) hs rfl rfl (congrArg some (beq_eq_false_iff_ne.2 (by omega)))) ?_; clear hs a; intro a hs
      refine b_done (by kernel_rfl) ?_
      repeat first | with_reducible refine in_normal ?_ | with_reducible refine then_normal ?_ | with_reducible refine then_ret ?_ | with_reducible refine in_ret ?_ | with_reducible refine then_exit ?_ | with_reducible refine in_here ?_ | with_reducible refine in_other rfl ?_ | with_reducible refine then_goto ?_ | with_reducible refine in_goto ?_ | with_reducible refine jump_normal ?_ | with_reducible refine jump_ret ?_ | with_reducible refine jump_goto ?_
      repeat with_reducible refine wp_seq ?_
      refine wp_cond_false (hs.ev rfl) ?_
      repeat with_reducible refine wp_seq ?_
      refine wp_skip ?_
      repeat first | with_reducible refine in_normal ?_ | with_reducible refine then_normal ?_ | with_reducible refine then_ret ?_ | with_reducible refine in_ret ?_ | with_reducible refine then_exit ?_ | with_reducible refine in_here ?_ | with_reducible refine in_other rfl ?_
      rw [if_neg he] at hF
      have hlt : p < s.size := by omega
      repeat with_reducible refine wp_seq ?_
      refine b_enter [0, 1] (by kernel_rfl) hs #[false, false, false, false, false, false, false, false, false, false, false] (by rfl) 11 (by rfl) ?_; clear hs; intro w hs
      refine b_take 0 rfl #[true, false, false, false, false, false, false, false, false, false, false] rfl (by kernel_rfl) hs ((((hs.mem.to 1 rfl).to 1 rfl).first 2)) rfl rfl rfl (fun _ _ _ h => h) (y_move hs rfl) ?_; clear hs a; intro a hs
      refine b_take 1 rfl #[true, true, false, false, false, false, false, false, false, false, false] rfl (by kernel_rfl) hs ((((hs.mem.to 1 rfl).to 1 rfl).first 2)) rfl rfl rfl (fun _ _ _ h => h) (y_nilchk hs rfl) ?_; clear hs a; intro a hs
      refine b_take 2 rfl #[true, true, true, false, false, false, false, false, false, false, false] rfl (by kernel_rfl) hs ((((hs.mem.to 1 rfl).to 1 rfl).first 2)) rfl rfl rfl (fun _ _ _ h => h) (y_faddr (k' := 2) 2 hs (by kernel_rfl) rfl rfl) ?_; clear hs a; intro a hs
      refine b_take 3 rfl #[true, true, true, true, false, false, false, false, false, false, false] rfl (by kernel_rfl) hs ((((hs.mem.to 1 rfl).to 1 rfl).first 2)) rfl rfl rfl (fun _ _ _ h => h) (y_load hs Tryd.underlying3 rfl rfl (fun w hw => (hw.to 0 rfl).cellV rfl)) ?_; clear hs a; intro a hs
      refine b_take 4 rfl #[true, true, true, true, true, false, false, false, false, false, false] rfl (by kernel_rfl) hs ((((hs.mem.to 1 rfl).to 1 rfl).first 2)) rfl rfl rfl (fun _ _ _ h => h) (y_move hs rfl) ?_; clear hs a; intro a hs
      refine b_take 5 rfl #[true, true, true, true, true, true, false, false, false, false, false] rfl (by kernel_rfl) hs ((((hs.mem.to 1 rfl).to 1 rfl).first 2)) rfl rfl rfl (fun _ _ _ h => h) (y_nilchk hs rfl) ?_; clear hs a; intro a hs
      refine b_take 6 rfl #[true, true, true, true, true, true, true, false, false, false, false] rfl (by kernel_rfl) hs ((((hs.mem.to 1 rfl).to 1 rfl).first 2)) rfl rfl rfl (fun _ _ _ h => h) (y_faddr (k' := 3) 3 hs (by kernel_rfl) rfl rfl) ?_; clear hs a; intro a hs
      refine b_take 7 rfl #[true, true, true, true, true, true, true, true, false, false, false] rfl (by kernel_rfl) hs ((((hs.mem.to 1 rfl).to 1 rfl).first 2)) rfl rfl rfl (fun _ _ _ h => h) (y_load hs Tryd.underlying3 rfl rfl (fun w hw => (hw.to 0 rfl).cellV rfl)) ?_; clear hs a; intro a hs
      refine b_take 8 rfl #[true, true, true, true, true, true, true, true, true, false, false] rfl (by kernel_rfl) hs ((((hs.mem.to 1 rfl).to 1 rfl).first 2)) rfl rfl rfl (fun _ _ _ h => h) (y_struct (zc := #[.int .u8 0, .string ⟨#[]⟩, .int .i64 0, .int .i64 0, .int .i64 0]) (pl := [(0, 1), (1, 1), (2, 1), (3, 1), (4, 1)]) (cl := [.int .u8 0, .string ⟨#[]⟩, .int .i64 0, _, _]) hs (by kernel_rfl) rfl (by rfl) rfl) ?_; clear hs a; intro a hs
      refine b_eff 9 (by kernel_rfl) rfl #[true, true, true, true, true, true, true, true, true, true, false] rfl hs rfl (e_alloc (z := .agg #[.int .u8 0, .string ⟨#[]⟩, .int .i64 0, .int .i64 0, .int .i64 0]) (cs := #[.int .u8 0, .string ⟨#[]⟩, .int .i64 0, .int .i64 0, .int .i64 0]) hs rfl (by kernel_rfl) rfl ?_); clear hs a; intro gt a w hs
      refine ⟨(((hs.mem.to 2 rfl).to 2 rfl).first 2), ?_⟩
      refine b_eff 10 (by kernel_rfl) rfl #[true, true, true, true, true, true, true, true, true, true, true] rfl hs rfl (e_store (cl := [_, _, _, _, _]) 0 rfl hs rfl rfl (by kernel_rfl) rfl rfl rfl ?_); clear hs a; intro a w hs
      refine ⟨(((hs.mem.to 2 rfl).to 2 rfl).first 2), ?_⟩
      refine b_done (by kernel_rfl) ?_
      repeat first | with_reducible refine in_normal ?_ | with_reducible refine then_normal ?_ | with_reducible refine then_ret ?_ | with_reducible refine in_ret ?_ | with_reducible refine then_exit ?_ | with_reducible refine in_here ?_ | with_reducible refine in_other rfl ?_ | with_reducible refine then_goto ?_ | with_reducible refine in_goto ?_ | with_reducible refine jump_normal ?_ | with_reducible refine jump_ret ?_ | with_reducible refine jump_goto ?_
      repeat with_reducible refine wp_seq ?_
      refine b_enter [0, 1, 2] (by kernel_rfl) hs #[false, false, false, false, false, false, false, false, false, false] (by rfl) 10 (by rfl) ?_; clear hs; intro w hs
      refine b_take 0 rfl #[true, false, false, false, false, false, false, false, false, false] rfl (by kernel_rfl) hs (((((hs.mem.to 2 rfl).to 2 rfl).to 2 rfl).first 3)) rfl rfl rfl (fun _ _ _ h => h) (y_move hs rfl) ?_; clear hs a; intro a hs
      refine b_take 1 rfl #[true, true, false, false, false, false, false, false, false, false] rfl (by kernel_rfl) hs (((((hs.mem.to 2 rfl).to 2 rfl).to 2 rfl).first 3)) rfl rfl rfl (fun _ _ _ h => h) (y_nilchk hs rfl) ?_; clear hs a; intro a hs
      refine b_take 2 rfl #[true, true, true, false, false, false, false, false, false, false] rfl (by kernel_rfl) hs (((((hs.mem.to 2 rfl).to 2 rfl).to 2 rfl).first 3)) rfl rfl rfl (fun _ _ _ h => h) (y_faddr (k' := 2) 2 hs (by kernel_rfl) rfl rfl) ?_; clear hs a; intro a hs
      refine b_take 3 rfl #[true, true, true, true, false, false, false, false, false, false] rfl (by kernel_rfl) hs (((((hs.mem.to 2 rfl).to 2 rfl).to 2 rfl).first 3)) rfl rfl rfl (fun _ _ _ h => h) (y_load hs Tryd.underlying3 rfl rfl (fun w hw => (hw.to 1 rfl).cellV rfl)) ?_; clear hs a; intro a hs
      refine b_take 4 rfl #[true, true, true, true, true, false, false, false, false, false] rfl (by kernel_rfl) hs (((((hs.mem.to 2 rfl).to 2 rfl).to 2 rfl).first 3)) rfl rfl rfl (fun _ _ _ h => h) (y_move hs rfl) ?_; clear hs a; intro a hs
      refine b_take 5 rfl #[true, true, true, true, true, true, false, false, false, false] rfl (by kernel_rfl) hs (((((hs.mem.to 2 rfl).to 2 rfl).to 2 rfl).first 3)) rfl rfl rfl (fun _ _ _ h => h) (y_nilchk hs rfl) ?_; clear hs a; intro a hs
      refine b_take 6 rfl #[true, true, true, true, true, true, true, false, false, false] rfl (by kernel_rfl) hs (((((hs.mem.to 2 rfl).to 2 rfl).to 2 rfl).first 3)) rfl rfl rfl (fun _ _ _ h => h) (y_faddr (k' := 3) 3 hs (by kernel_rfl) rfl rfl) ?_; clear hs a; intro a hs
      refine b_take 7 rfl #[true, true, true, true, true, true, true, true, false, false] rfl (by kernel_rfl) hs (((((hs.mem.to 2 rfl).to 2 rfl).to 2 rfl).first 3)) rfl rfl rfl (fun _ _ _ h => h) (y_load hs Tryd.underlying3 rfl rfl (fun w hw => (hw.to 1 rfl).cellV rfl)) ?_; clear hs a; intro a hs
      refine b_take 8 rfl #[true, true, true, true, true, true, true, true, true, false] rfl (by kernel_rfl) hs (((((hs.mem.to 2 rfl).to 2 rfl).to 2 rfl).first 3)) rfl rfl rfl (fun _ _ _ h => h) (y_assign hs rfl) ?_; clear hs a; intro a hs
      refine b_take 9 rfl #[true, true, true, true, true, true, true, true, true, true] rfl (by kernel_rfl) hs (((((hs.mem.to 2 rfl).to 2 rfl).to 2 rfl).first 3)) rfl rfl rfl (fun _ _ _ h => h) (y_assign hs rfl) ?_; clear hs a; intro a hs
      refine b_done (by kernel_rfl) ?_
      repeat first | with_reducible refine in_normal ?_ | with_reducible refine then_normal ?_ | with_reducible refine then_ret ?_ | with_reducible refine in_ret ?_ | with_reducible refine then_exit ?_ | with_reducible refine in_here ?_ | with_reducible refine in_other rfl ?_ | with_reducible refine then_goto ?_ | with_reducible refine in_goto ?_ | with_reducible refine jump_normal ?_ | with_reducible refine jump_ret ?_ | with_reducible refine jump_goto ?_
      refine wp_seq_cut (fun a w => ∃ (p1 q1 r1 : Nat) (tk : S34), p < p1 ∧ p1 ≤ s.size ∧ q1 ≤ p1 + 1 ∧ r1 ≤ p1 + 1 ∧ cutF s m p1 q1 r1 (l ++ [tk]) = some (R, L) ∧ St 140 w0 [(0, .pointer (some ⟨g, 0, none⟩)), (5, .pointer (some ⟨gt, 0, none⟩))] (pt gt (tokC tk).toArray 34 :: pt g #[.string s, .int .i64 ((p1 : Nat) : Int), .int .i64 ((q1 : Nat) : Int), .int .i64 ((r1 : Nat) : Int), (.slice A (l).length c)] 44 :: row 34 5 (.slice A (l).length c) (l).length ((l).flatMap tokC) :: bs) a w) ?_ ?_
      · repeat with_reducible refine wp_seq ?_
        refine wp_region_lit ?_
        refine a_val hs rfl rfl rfl (y_move hs rfl) ?_; clear hs a; intro a hs
        refine a_eff rfl (e_call Tryd.func39 rfl rfl hs rfl rfl (cutter_now g s p q r (.slice A (l).length c) _ w0 _ (by omega) (hs.mem.to 1 rfl)) (fun w hm => ⟨_, hm, ?_⟩)); clear hs a; intro a hs
        refine wpList_nil ?_
        repeat first | with_reducible refine in_normal ?_ | with_reducible refine then_normal ?_ | with_reducible refine then_ret ?_ | with_reducible refine in_ret ?_ | with_reducible refine then_exit ?_ | with_reducible refine in_here ?_ | with_reducible refine in_other rfl ?_ | with_reducible refine then_goto ?_ | with_reducible refine in_goto ?_ | with_reducible refine jump_normal ?_ | with_reducible refine jump_ret ?_ | with_reducible refine jump_goto ?_
        repeat with_reducible refine wp_seq ?_
        refine wp_block ?_
        by_cases k4 : kd s p = 4
        · repeat with_reducible refine wp_seq ?_
          refine wp_region_lit ?_
          refine a_val hs rfl rfl rfl (y_cmp (b := true) hs rfl rfl (congrArg some (beq_iff_eq.2 k4))) ?_; clear hs a; intro a hs
          refine a_val hs rfl rfl rfl (y_assign hs rfl) ?_; clear hs a; intro a hs
          refine wpList_nil ?_
          repeat first | with_reducible refine in_normal ?_ | with_reducible refine then_normal ?_ | with_reducible refine then_ret ?_ | with_reducible refine in_ret ?_ | with_reducible refine then_exit ?_ | with_reducible refine in_here ?_ | with_reducible refine in_other rfl ?_ | with_reducible refine then_goto ?_ | with_reducible refine in_goto ?_ | with_reducible refine jump_normal ?_ | with_reducible refine jump_ret ?_ | with_reducible refine jump_goto ?_
          repeat with_reducible refine wp_seq ?_
          refine wp_cond_true (hs.ev rfl) ?_
          rw [if_pos k4] at hF
          repeat with_reducible refine wp_seq ?_
          refine wp_region_lit ?_
          refine a_val hs rfl rfl rfl (y_move hs rfl) ?_; clear hs a; intro a hs
          refine a_eff rfl (e_call Tryd.func40 rfl rfl hs rfl rfl (cutter_step g s p q r (.slice A (l).length c) _ w0 _ hlt (by omega) hs.mem) (fun w hm => ⟨_, hm, ?_⟩)); clear hs a; intro a hs
          refine wpList_nil ?_
          repeat first | with_reducible refine in_normal ?_ | with_reducible refine then_normal ?_ | with_reducible refine then_ret ?_ | with_reducible refine in_ret ?_ | with_reducible refine then_exit ?_ | with_reducible refine in_here ?_ | with_reducible refine in_other rfl ?_ | with_reducible refine then_goto ?_ | with_reducible refine in_goto ?_ | with_reducible refine jump_normal ?_ | with_reducible refine jump_ret ?_ | with_reducible refine jump_goto ?_
          repeat with_reducible refine wp_seq ?_
          refine wp_goto ?_
          repeat first | with_reducible refine in_normal ?_ | with_reducible refine then_normal ?_ | with_reducible refine then_ret ?_ | with_reducible refine in_ret ?_ | with_reducible refine then_exit ?_ | with_reducible refine in_here ?_ | with_reducible refine in_other rfl ?_ | with_reducible refine then_goto ?_ | with_reducible refine in_goto ?_ | with_reducible refine jump_normal ?_ | with_reducible refine jump_ret ?_ | with_reducible refine jump_goto ?_
          refine ⟨m, by omega, (p + 1), (if bt s p = 10 then q + 1 else q), (if bt s p = 10 then 1 else r + 1), l, A, c, by omega, ?_, ?_, by omega, hF, (hs.mem_to (((hs.mem.to 1 rfl).drop.to 1 rfl).to 1 rfl)).cut _ ⟨rfl, trivial⟩⟩ <;> split <;> omega
        · repeat with_reducible refine wp_seq ?_
          refine wp_region_lit ?_
          refine a_val hs rfl rfl rfl (y_cmp (b := false) hs rfl rfl (congrArg some (beq_eq_false_iff_ne.2 k4))) ?_; clear hs a; intro a hs
          refine a_val hs rfl rfl rfl (y_assign hs rfl) ?_; clear hs a; intro a hs
          refine wpList_nil ?_
          repeat first | with_reducible refine in_normal ?_ | with_reducible refine then_normal ?_ | with_reducible refine then_ret ?_ | with_reducible refine in_ret ?_ | with_reducible refine then_exit ?_ | with_reducible refine in_here ?_ | with_reducible refine in_other rfl ?_ | with_reducible refine then_goto ?_ | with_reducible refine in_goto ?_ | with_reducible refine jump_normal ?_ | with_reducible refine jump_ret ?_ | with_reducible refine jump_goto ?_
          repeat with_reducible refine wp_seq ?_
          refine wp_cond_false (hs.ev rfl) ?_
          by_cases k5 : kd s p = 5
          · repeat with_reducible refine wp_seq ?_
            refine wp_region_lit ?_
            refine a_val hs rfl rfl rfl (y_cmp (b := true) hs rfl rfl (congrArg some (beq_iff_eq.2 k5))) ?_; clear hs a; intro a hs
            refine a_val hs rfl rfl rfl (y_assign hs rfl) ?_; clear hs a; intro a hs
            refine wpList_nil ?_
            repeat first | with_reducible refine in_normal ?_ | with_reducible refine then_normal ?_ | with_reducible refine then_ret ?_ | with_reducible refine in_ret ?_ | with_reducible refine then_exit ?_ | with_reducible refine in_here ?_ | with_reducible refine in_other rfl ?_ | with_reducible refine then_goto ?_ | with_reducible refine in_goto ?_ | with_reducible refine jump_normal ?_ | with_reducible refine jump_ret ?_ | with_reducible refine jump_goto ?_
            repeat with_reducible refine wp_seq ?_
            refine wp_cond_true (hs.ev rfl) ?_
            rw [if_neg k4, if_pos k5] at hF
            repeat with_reducible refine wp_seq ?_
            refine wp_block ?_
            refine wp_loopN (fun k a w => ∃ p1 q1 r1 : Nat, k = s.size - p1 ∧ p ≤ p1 ∧ p1 ≤ s.size ∧ q1 ≤ p1 + 1 ∧ r1 ≤ p1 + 1 ∧ remTo s (s.size - p1) p1 q1 r1 = remTo s (s.size - p) p q r ∧ St 140 w0 [(0, .pointer (some ⟨g, 0, none⟩))] (pt g #[.string s, .int .i64 ((p1 : Nat) : Int), .int .i64 ((q1 : Nat) : Int), .int .i64 ((r1 : Nat) : Int), (.slice A (l).length c)] 44 :: row 34 5 (.slice A (l).length c) (l).length ((l).flatMap tokC) :: bs) a w) (s.size - p) ⟨p, q, r, rfl, Nat.le_refl _, by omega, by omega, by omega, rfl, (hs.mem_to (((hs.mem.to 1 rfl).drop.to 1 rfl).to 1 rfl)).cut _ ⟨rfl, trivial⟩⟩ (fun k a w hI => ?_)
            clear hs
            obtain ⟨p1, q1, r1, hm, hp1, hp2, hq1, hr1, hrun, hs⟩ := hI
            by_cases hlt1 : p1 < s.size
            · obtain ⟨ch, hc⟩ : ∃ ch, s[p1]? = some ch := ⟨_, getElem?_pos s p1 hlt1⟩
              by_cases c10 : ch.toNat = 10
              · repeat with_reducible refine wp_seq ?_
                refine b_enter [0, 1] (by kernel_rfl) hs #[false, false, false, false, false, false, false, false, false, false, false, false, false, false, false, false, false, false, false, false, false, false] (by rfl) 22 (by rfl) ?_; clear hs; intro w hs
                refine b_take 0 rfl #[true, false, false, false, false, false, false, false, false, false, false, false, false, false, false, false, false, false, false, false, false, false] rfl (by kernel_rfl) hs ((((hs.mem.to 1 rfl).to 1 rfl).first 2)) rfl rfl rfl (fun _ _ _ h => h) (y_move hs rfl) ?_; clear hs a; intro a hs
                refine b_take 1 rfl #[true, true, false, false, false, false, false, false, false, false, false, false, false, false, false, false, false, false, false, false, false, false] rfl (by kernel_rfl) hs ((((hs.mem.to 1 rfl).to 1 rfl).first 2)) rfl rfl rfl (fun _ _ _ h => h) (y_nilchk hs rfl) ?_; clear hs a; intro a hs
                refine b_take 2 rfl #[true, true, true, false, false, false, false, false, false, false, false, false, false, false, false, false, false, false, false, false, false, false] rfl (by kernel_rfl) hs ((((hs.mem.to 1 rfl).to 1 rfl).first 2)) rfl rfl rfl (fun _ _ _ h => h) (y_faddr (k' := 1) 1 hs (by kernel_rfl) rfl rfl) ?_; clear hs a; intro a hs
                refine b_take 3 rfl #[true, true, true, true, false, false, false, false, false, false, false, false, false, false, false, false, false, false, false, false, false, false] rfl (by kernel_rfl) hs ((((hs.mem.to 1 rfl).to 1 rfl).first 2)) rfl rfl rfl (fun _ _ _ h => h) (y_load hs Tryd.underlying3 rfl rfl (fun w hw => (hw.to 0 rfl).cellV rfl)) ?_; clear hs a; intro a hs
                refine b_take 4 rfl #[true, true, true, true, true, false, false, false, false, false, false, false, false, false, false, false, false, false, false, false, false, false] rfl (by kernel_rfl) hs ((((hs.mem.to 1 rfl).to 1 rfl).first 2)) rfl rfl rfl (fun _ _ _ h => h) (y_move hs rfl) ?_; clear hs a; intro a hs
                refine b_take 5 rfl #[true, true, true, true, true, true, false, false, false, false, false, false, false, false, false, false, false, false, false, false, false, false] rfl (by kernel_rfl) hs ((((hs.mem.to 1 rfl).to 1 rfl).first 2)) rfl rfl rfl (fun _ _ _ h => h) (y_nilchk hs rfl) ?_; clear hs a; intro a hs
                refine b_take 6 rfl #[true, true, true, true, true, true, true, false, false, false, false, false, false, false, false, false, false, false, false, false, false, false] rfl (by kernel_rfl) hs ((((hs.mem.to 1 rfl).to 1 rfl).first 2)) rfl rfl rfl (fun _ _ _ h => h) (y_faddr (k' := 0) 0 hs (by kernel_rfl) rfl rfl) ?_; clear hs a; intro a hs
                refine b_take 7 rfl #[true, true, true, true, true, true, true, true, false, false, false, false, false, false, false, false, false, false, false, false, false, false] rfl (by kernel_rfl) hs ((((hs.mem.to 1 rfl).to 1 rfl).first 2)) rfl rfl rfl (fun _ _ _ h => h) (y_load hs Tryd.underlying9 rfl rfl (fun w hw => (hw.to 0 rfl).cellV rfl)) ?_; clear hs a; intro a hs
                refine b_take 8 rfl #[true, true, true, true, true, true, true, true, true, false, false, false, false, false, false, false, false, false, false, false, false, false] rfl (by kernel_rfl) hs ((((hs.mem.to 1 rfl).to 1 rfl).first 2)) rfl rfl rfl (fun _ _ _ h => h) (y_lenS hs Tryd.underlying9 rfl) ?_; clear hs a; intro a hs
                refine b_take 9 rfl #[true, true, true, true, true, true, true, true, true, true, false, false, false, false, false, false, false, false, false, false, false, false] rfl (by kernel_rfl) hs ((((hs.mem.to 1 rfl).to 1 rfl).first 2)) rfl rfl rfl (fun _ _ _ h => h) (y_cmp (b := true) hs rfl rfl (congrArg some (decide_eq_true (by omega)))) ?_; clear hs a; intro a hs
                refine b_take 10 rfl #[true, true, true, true, true, true, true, true, true, true, true, false, false, false, false, false, false, false, false, false, false, false] rfl (by kernel_rfl) hs ((((hs.mem.to 1 rfl).to 1 rfl).first 2)) rfl rfl rfl (fun _ _ _ h => h) (y_move hs rfl) ?_; clear hs a; intro a hs
                refine b_take 11 rfl #[true, true, true, true, true, true, true, true, true, true, true, true, false, false, false, false, false, false, false, false, false, false] rfl (by kernel_rfl) hs ((((hs.mem.to 1 rfl).to 1 rfl).first 2)) rfl rfl rfl (fun _ _ _ h => h) (y_move hs rfl) ?_; clear hs a; intro a hs
                refine b_take 12 rfl #[true, true, true, true, true, true, true, true, true, true, true, true, true, false, false, false, false, false, false, false, false, false] rfl (by kernel_rfl) hs ((((hs.mem.to 1 rfl).to 1 rfl).first 2)) rfl rfl rfl (fun _ _ _ h => h) (y_nilchk hs rfl) ?_; clear hs a; intro a hs
                refine b_take 13 rfl #[true, true, true, true, true, true, true, true, true, true, true, true, true, true, false, false, false, false, false, false, false, false] rfl (by kernel_rfl) hs ((((hs.mem.to 1 rfl).to 1 rfl).first 2)) rfl rfl rfl (fun _ _ _ h => h) (y_faddr (k' := 0) 0 hs (by kernel_rfl) rfl rfl) ?_; clear hs a; intro a hs
                refine b_take 14 rfl #[true, true, true, true, true, true, true, true, true, true, true, true, true, true, true, false, false, false, false, false, false, false] rfl (by kernel_rfl) hs ((((hs.mem.to 1 rfl).to 1 rfl).first 2)) rfl rfl rfl (fun _ _ _ h => h) (y_load hs Tryd.underlying9 rfl rfl (fun w hw => (hw.to 0 rfl).cellV rfl)) ?_; clear hs a; intro a hs
                refine b_take 15 rfl #[true, true, true, true, true, true, true, true, true, true, true, true, true, true, true, true, false, false, false, false, false, false] rfl (by kernel_rfl) hs ((((hs.mem.to 1 rfl).to 1 rfl).first 2)) rfl rfl rfl (fun _ _ _ h => h) (y_move hs rfl) ?_; clear hs a; intro a hs
                refine b_take 16 rfl #[true, true, true, true, true, true, true, true, true, true, true, true, true, true, true, true, true, false, false, false, false, false] rfl (by kernel_rfl) hs ((((hs.mem.to 1 rfl).to 1 rfl).first 2)) rfl rfl rfl (fun _ _ _ h => h) (y_nilchk hs rfl) ?_; clear hs a; intro a hs
                refine b_take 17 rfl #[true, true, true, true, true, true, true, true, true, true, true, true, true, true, true, true, true, true, false, false, false, false] rfl (by kernel_rfl) hs ((((hs.mem.to 1 rfl).to 1 rfl).first 2)) rfl rfl rfl (fun _ _ _ h => h) (y_faddr (k' := 1) 1 hs (by kernel_rfl) rfl rfl) ?_; clear hs a; intro a hs
                refine b_take 18 rfl #[true, true, true, true, true, true, true, true, true, true, true, true, true, true, true, true, true, true, true, false, false, false] rfl (by kernel_rfl) hs ((((hs.mem.to 1 rfl).to 1 rfl).first 2)) rfl rfl rfl (fun _ _ _ h => h) (y_load hs Tryd.underlying3 rfl rfl (fun w hw => (hw.to 0 rfl).cellV rfl)) ?_; clear hs a; intro a hs
                refine b_take 19 rfl #[true, true, true, true, true, true, true, true, true, true, true, true, true, true, true, true, true, true, true, true, false, false] rfl (by kernel_rfl) hs ((((hs.mem.to 1 rfl).to 1 rfl).first 2)) rfl rfl rfl (fun _ _ _ h => h) (y_idxS hs Tryd.underlying9 rfl rfl (by omega) hc) ?_; clear hs a; intro a hs
                refine b_take 20 rfl #[true, true, true, true, true, true, true, true, true, true, true, true, true, true, true, true, true, true, true, true, true, false] rfl (by kernel_rfl) hs ((((hs.mem.to 1 rfl).to 1 rfl).first 2)) rfl rfl rfl (fun _ _ _ h => h) (y_cmp (b := false) hs rfl rfl (congrArg some (by rw [show ((ch.toNat : Nat) : Int) = 10 by omega]; rfl))) ?_; clear hs a; intro a hs
                refine b_take 21 rfl #[true, true, true, true, true, true, true, true, true, true, true, true, true, true, true, true, true, true, true, true, true, true] rfl (by kernel_rfl) hs ((((hs.mem.to 1 rfl).to 1 rfl).first 2)) rfl rfl rfl (fun _ _ _ h => h) (y_pick hs rfl rfl rfl) ?_; clear hs a; intro a hs
                refine b_done (by kernel_rfl) ?_
                repeat first | with_reducible refine in_normal ?_ | with_reducible refine then_normal ?_ | with_reducible refine then_ret ?_ | with_reducible refine in_ret ?_ | with_reducible refine then_exit ?_ | with_reducible refine in_here ?_ | with_reducible refine in_other rfl ?_ | with_reducible refine then_goto ?_ | with_reducible refine in_goto ?_ | with_reducible refine jump_normal ?_ | with_reducible refine jump_ret ?_ | with_reducible refine jump_goto ?_
                repeat with_reducible refine wp_seq ?_
                refine wp_cond_false (hs.ev rfl) ?_
                repeat with_reducible refine wp_seq ?_
                refine wp_exit ?_
                repeat first | with_reducible refine in_normal ?_ | with_reducible refine then_normal ?_ | with_reducible refine then_ret ?_ | with_reducible refine in_ret ?_ | with_reducible refine then_exit ?_ | with_reducible refine in_here ?_ | with_reducible refine in_other rfl ?_ | with_reducible refine then_goto ?_ | with_reducible refine in_goto ?_ | with_reducible refine jump_normal ?_ | with_reducible refine jump_ret ?_ | with_reducible refine jump_goto ?_
                repeat with_reducible refine wp_seq ?_
                refine wp_goto ?_
                repeat first | with_reducible refine in_normal ?_ | with_reducible refine then_normal ?_ | with_reducible refine then_ret ?_ | with_reducible refine in_ret ?_ | with_reducible refine then_exit ?_ | with_reducible refine in_here ?_ | with_reducible refine in_other rfl ?_ | with_reducible refine then_goto ?_ | with_reducible refine in_goto ?_ | with_reducible refine jump_normal ?_ | with_reducible refine jump_ret ?_ | with_reducible refine jump_goto ?_
                have hr2 : remTo s (s.size - p) p q r = (p1, q1, r1) := by rw [← hrun]; exact remTo_stop (fun h => h.2 (by rw [bt_of hc]; omega))
                rw [hr2] at hF
                exact ⟨m, by omega, p1, q1, r1, l, A, c, hp2, hq1, hr1, by omega, hF, (hs.mem_to ((hs.mem.to 1 rfl).to 1 rfl)).cut _ ⟨rfl, trivial⟩⟩
              · repeat with_reducible refine wp_seq ?_
                refine b_enter [0, 1] (by kernel_rfl) hs #[false, false, false, false, false, false, false, false, false, false, false, false, false, false, false, false, false, false, false, false, false, false] (by rfl) 22 (by rfl) ?_; clear hs; intro w hs
                refine b_take 0 rfl #[true, false, false, false, false, false, false, false, false, false, false, false, false, false, false, false, false, false, false, false, false, false] rfl (by kernel_rfl) hs ((((hs.mem.to 1 rfl).to 1 rfl).first 2)) rfl rfl rfl (fun _ _ _ h => h) (y_move hs rfl) ?_; clear hs a; intro a hs
                refine b_take 1 rfl #[true, true, false, false, false, false, false, false, false, false, false, false, false, false, false, false, false, false, false, false, false, false] rfl (by kernel_rfl) hs ((((hs.mem.to 1 rfl).to 1 rfl).first 2)) rfl rfl rfl (fun _ _ _ h => h) (y_nilchk hs rfl) ?_; clear hs a; intro a hs
                refine b_take 2 rfl #[true, true, true, false, false, false, false, false, false, false, false, false, false, false, false, false, false, false, false, false, false, false] rfl (by kernel_rfl) hs ((((hs.mem.to 1 rfl).to 1 rfl).first 2)) rfl rfl rfl (fun _ _ _ h => h) (y_faddr (k' := 1) 1 hs (by kernel_rfl) rfl rfl) ?_; clear hs a; intro a hs
                refine b_take 3 rfl #[true, true, true, true, false, false, false, false, false, false, false, false, false, false, false, false, false, false, false, false, false, false] rfl (by kernel_rfl) hs ((((hs.mem.to 1 rfl).to 1 rfl).first 2)) rfl rfl rfl (fun _ _ _ h => h) (y_load hs Tryd.underlying3 rfl rfl (fun w hw => (hw.to 0 rfl).cellV rfl)) ?_; clear hs a; intro a hs
                refine b_take 4 rfl #[true, true, true, true, true, false, false, false, false, false, false, false, false, false, false, false, false, false, false, false, false, false] rfl (by kernel_rfl) hs ((((hs.mem.to 1 rfl).to 1 rfl).first 2)) rfl rfl rfl (fun _ _ _ h => h) (y_move hs rfl) ?_; clear hs a; intro a hs
                refine b_take 5 rfl #[true, true, true, true, true, true, false, false, false, false, false, false, false, false, false, false, false, false, false, false, false, false] rfl (by kernel_rfl) hs ((((hs.mem.to 1 rfl).to 1 rfl).first 2)) rfl rfl rfl (fun _ _ _ h => h) (y_nilchk hs rfl) ?_; clear hs a; intro a hs
                refine b_take 6 rfl #[true, true, true, true, true, true, true, false, false, false, false, false, false, false, false, false, false, false, false, false, false, false] rfl (by kernel_rfl) hs ((((hs.mem.to 1 rfl).to 1 rfl).first 2)) rfl rfl rfl (fun _ _ _ h => h) (y_faddr (k' := 0) 0 hs (by kernel_rfl) rfl rfl) ?_; clear hs a; intro a hs
                refine b_take 7 rfl #[true, true, true, true, true, true, true, true, false, false, false, false, false, false, false, false, false, false, false, false, false, false] rfl (by kernel_rfl) hs ((((hs.mem.to 1 rfl).to 1 rfl).first 2)) rfl rfl rfl (fun _ _ _ h => h) (y_load hs Tryd.underlying9 rfl rfl (fun w hw => (hw.to 0 rfl).cellV rfl)) ?_; clear hs a; intro a hs
                refine b_take 8 rfl #[true, true, true, true, true, true, true, true, true, false, false, false, false, false, false, false, false, false, false, false, false, false] rfl (by kernel_rfl) hs ((((hs.mem.to 1 rfl).to 1 rfl).first 2)) rfl rfl rfl (fun _ _ _ h => h) (y_lenS hs Tryd.underlying9 rfl) ?_; clear hs a; intro a hs
                refine b_take 9 rfl #[true, true, true, true, true, true, true, true, true, true, false, false, false, false, false, false, false, false, false, false, false, false] rfl (by kernel_rfl) hs ((((hs.mem.to 1 rfl).to 1 rfl).first 2)) rfl rfl rfl (fun _ _ _ h => h) (y_cmp (b := true) hs rfl rfl (congrArg some (decide_eq_true (by omega)))) ?_; clear hs a; intro a hs
                refine b_take 10 rfl #[true, true, true, true, true, true, true, true, true, true, true, false, false, false, false, false, false, false, false, false, false, false] rfl (by kernel_rfl) hs ((((hs.mem.to 1 rfl).to 1 rfl).first 2)) rfl rfl rfl (fun _ _ _ h => h) (y_move hs rfl) ?_; clear hs a; intro a hs
                refine b_take 11 rfl #[true, true, true, true, true, true, true, true, true, true, true, true, false, false, false, false, false, false, false, false, false, false] rfl (by kernel_rfl) hs ((((hs.mem.to 1 rfl).to 1 rfl).first 2)) rfl rfl rfl (fun _ _ _ h => h) (y_move hs rfl) ?_; clear hs a; intro a hs
                refine b_take 12 rfl #[true, true, true, true, true, true, true, true, true, true, true, true, true, false, false, false, false, false, false, false, false, false] rfl (by kernel_rfl) hs ((((hs.mem.to 1 rfl).to 1 rfl).first 2)) rfl rfl rfl (fun _ _ _ h => h) (y_nilchk hs rfl) ?_; clear hs a; intro a hs
                refine b_take 13 rfl #[true, true, true, true, true, true, true, true, true, true, true, true, true, true, false, false, false, false, false, false, false, false] rfl (by kernel_rfl) hs ((((hs.mem.to 1 rfl).to 1 rfl).first 2)) rfl rfl rfl (fun _ _ _ h => h) (y_faddr (k' := 0) 0 hs (by kernel_rfl) rfl rfl) ?_; clear hs a; intro a hs
                refine b_take 14 rfl #[true, true, true, true, true, true, true, true, true, true, true, true, true, true, true, false, false, false, false, false, false, false] rfl (by kernel_rfl) hs ((((hs.mem.to 1 rfl).to 1 rfl).first 2)) rfl rfl rfl (fun _ _ _ h => h) (y_load hs Tryd.underlying9 rfl rfl (fun w hw => (hw.to 0 rfl).cellV rfl)) ?_; clear hs a; intro a hs
                refine b_take 15 rfl #[true, true, true, true, true, true, true, true, true, true, true, true, true, true, true, true, false, false, false, false, false, false] rfl (by kernel_rfl) hs ((((hs.mem.to 1 rfl).to 1 rfl).first 2)) rfl rfl rfl (fun _ _ _ h => h) (y_move hs rfl) ?_; clear hs a; intro a hs
                refine b_take 16 rfl #[true, true, true, true, true, true, true, true, true, true, true, true, true, true, true, true, true, false, false, false, false, false] rfl (by kernel_rfl) hs ((((hs.mem.to 1 rfl).to 1 rfl).first 2)) rfl rfl rfl (fun _ _ _ h => h) (y_nilchk hs rfl) ?_; clear hs a; intro a hs
                refine b_take 17 rfl #[true, true, true, true, true, true, true, true, true, true, true, true, true, true, true, true, true, true, false, false, false, false] rfl (by kernel_rfl) hs ((((hs.mem.to 1 rfl).to 1 rfl).first 2)) rfl rfl rfl (fun _ _ _ h => h) (y_faddr (k' := 1) 1 hs (by kernel_rfl) rfl rfl) ?_; clear hs a; intro a hs
                refine b_take 18 rfl #[true, true, true, true, true, true, true, true, true, true, true, true, true, true, true, true, true, true, true, false, false, false] rfl (by kernel_rfl) hs ((((hs.mem.to 1 rfl).to 1 rfl).first 2)) rfl rfl rfl (fun _ _ _ h => h) (y_load hs Tryd.underlying3 rfl rfl (fun w hw => (hw.to 0 rfl).cellV rfl)) ?_; clear hs a; intro a hs
                refine b_take 19 rfl #[true, true, true, true, true, true, true, true, true, true, true, true, true, true, true, true, true, true, true, true, false, false] rfl (by kernel_rfl) hs ((((hs.mem.to 1 rfl).to 1 rfl).first 2)) rfl rfl rfl (fun _ _ _ h => h) (y_idxS hs Tryd.underlying9 rfl rfl (by omega) hc) ?_; clear hs a; intro a hs
                refine b_take 20 rfl #[true, true, true, true, true, true, true, true, true, true, true, true, true, true, true, true, true, true, true, true, true, false] rfl (by kernel_rfl) hs ((((hs.mem.to 1 rfl).to 1 rfl).first 2)) rfl rfl rfl (fun _ _ _ h => h) (y_cmp (b := true) hs rfl rfl (congrArg some (bne_iff_ne.2 (by omega)))) ?_; clear hs a; intro a hs
                refine b_take 21 rfl #[true, true, true, true, true, true, true, true, true, true, true, true, true, true, true, true, true, true, true, true, true, true] rfl (by kernel_rfl) hs ((((hs.mem.to 1 rfl).to 1 rfl).first 2)) rfl rfl rfl (fun _ _ _ h => h) (y_pick hs rfl rfl rfl) ?_; clear hs a; intro a hs
                refine b_done (by kernel_rfl) ?_
                repeat first | with_reducible refine in_normal ?_ | with_reducible refine then_normal ?_ | with_reducible refine then_ret ?_ | with_reducible refine in_ret ?_ | with_reducible refine then_exit ?_ | with_reducible refine in_here ?_ | with_reducible refine in_other rfl ?_ | with_reducible refine then_goto ?_ | with_reducible refine in_goto ?_ | with_reducible refine jump_normal ?_ | with_reducible refine jump_ret ?_ | with_reducible refine jump_goto ?_
                repeat with_reducible refine wp_seq ?_
                refine wp_cond_true (hs.ev rfl) ?_
                repeat with_reducible refine wp_seq ?_
                refine wp_skip ?_
                repeat first | with_reducible refine in_normal ?_ | with_reducible refine then_normal ?_ | with_reducible refine then_ret ?_ | with_reducible refine in_ret ?_ | with_reducible refine then_exit ?_ | with_reducible refine in_here ?_ | with_reducible refine in_other rfl ?_
                repeat with_reducible refine wp_seq ?_
                refine wp_block ?_
                repeat with_reducible refine wp_seq ?_
                refine wp_region_lit ?_
                refine a_val hs rfl rfl rfl (y_move hs rfl) ?_; clear hs a; intro a hs
                refine a_eff rfl (e_call Tryd.func40 rfl rfl hs rfl rfl (cutter_step g s p1 q1 r1 (.slice A (l).length c) _ w0 _ hlt1 (by omega) hs.mem) (fun w hm => ⟨_, hm, ?_⟩)); clear hs a; intro a hs
                refine wpList_nil ?_
                repeat first | with_reducible refine in_normal ?_ | with_reducible refine then_normal ?_ | with_reducible refine then_ret ?_ | with_reducible refine in_ret ?_ | with_reducible refine then_exit ?_ | with_reducible refine in_here ?_ | with_reducible refine in_other rfl ?_ | with_reducible refine then_goto ?_ | with_reducible refine in_goto ?_ | with_reducible refine jump_normal ?_ | with_reducible refine jump_ret ?_ | with_reducible refine jump_goto ?_
                have hr2 := hrun
                rw [show s.size - p1 = (s.size - (p1 + 1)) + 1 by omega, remTo, if_pos ⟨hlt1, by rw [bt_of hc]; omega⟩] at hr2
                refine ⟨s.size - (p1 + 1), by omega, p1 + 1, _, _, rfl, by omega, by omega, ?_, ?_, hr2, (hs.mem_to ((hs.mem.to 1 rfl).to 1 rfl)).cut _ ⟨rfl, trivial⟩⟩ <;> split <;> omega
            · repeat with_reducible refine wp_seq ?_
              refine b_enter [0, 1] (by kernel_rfl) hs #[false, false, false, false, false, false, false, false, false, false, false, false, false, false, false, false, false, false, false, false, false, false] (by rfl) 22 (by rfl) ?_; clear hs; intro w hs
              refine b_take 0 rfl #[true, false, false, false, false, false, false, false, false, false, false, false, false, false, false, false, false, false, false, false, false, false] rfl (by kernel_rfl) hs ((((hs.mem.to 1 rfl).to 1 rfl).first 2)) rfl rfl rfl (fun _ _ _ h => h) (y_move hs rfl) ?_; clear hs a; intro a hs
              refine b_take 1 rfl #[true, true, false, false, false, false, false, false, false, false, false, false, false, false, false, false, false, false, false, false, false, false] rfl (by kernel_rfl) hs ((((hs.mem.to 1 rfl).to 1 rfl).first 2)) rfl rfl rfl (fun _ _ _ h => h) (y_nilchk hs rfl) ?_; clear hs a; intro a hs
              refine b_take 2 rfl #[true, true, true, false, false, false, false, false, false, false, false, false, false, false, false, false, false, false, false, false, false, false] rfl (by kernel_rfl) hs ((((hs.mem.to 1 rfl).to 1 rfl).first 2)) rfl rfl rfl (fun _ _ _ h => h) (y_faddr (k' := 1) 1 hs (by kernel_rfl) rfl rfl) ?_; clear hs a; intro a hs
              refine b_take 3 rfl #[true, true, true, true, false, false, false, false, false, false, false, false, false, false, false, false, false, false, false, false, false, false] rfl (by kernel_rfl) hs ((((hs.mem.to 1 rfl).to 1 rfl).first 2)) rfl rfl rfl (fun _ _ _ h => h) (y_load hs Tryd.underlying3 rfl rfl (fun w hw => (hw.to 0 rfl).cellV rfl)) ?_; clear hs a; intro a hs
              refine b_take 4 rfl #[true, true, true, true, true, false, false, false, false, false, false, false, false, false, false, false, false, false, false, false, false, false] rfl (by kernel_rfl) hs ((((hs.mem.to 1 rfl).to 1 rfl).first 2)) rfl rfl rfl (fun _ _ _ h => h) (y_move hs rfl) ?_; clear hs a; intro a hs
              refine b_take 5 rfl #[true, true, true, true, true, true, false, false, false, false, false, false, false, false, false, false, false, false, false, false, false, false] rfl (by kernel_rfl) hs ((((hs.mem.to 1 rfl).to 1 rfl).first 2)) rfl rfl rfl (fun _ _ _ h => h) (y_nilchk hs rfl) ?_; clear hs a; intro a hs
              refine b_take 6 rfl #[true, true, true, true, true, true, true, false, false, false, false, false, false, false, false, false, false, false, false, false, false, false] rfl (by kernel_rfl) hs ((((hs.mem.to 1 rfl).to 1 rfl).first 2)) rfl rfl rfl (fun _ _ _ h => h) (y_faddr (k' := 0) 0 hs (by kernel_rfl) rfl rfl) ?_; clear hs a; intro a hs
              refine b_take 7 rfl #[true, true, true, true, true, true, true, true, false, false, false, false, false, false, false, false, false, false, false, false, false, false] rfl (by kernel_rfl) hs ((((hs.mem.to 1 rfl).to 1 rfl).first 2)) rfl rfl rfl (fun _ _ _ h => h) (y_load hs Tryd.underlying9 rfl rfl (fun w hw => (hw.to 0 rfl).cellV rfl)) ?_; clear hs a; intro a hs
              refine b_take 8 rfl #[true, true, true, true, true, true, true, true, true, false, false, false, false, false, false, false, false, false, false, false, false, false] rfl (by kernel_rfl) hs ((((hs.mem.to 1 rfl).to 1 rfl).first 2)) rfl rfl rfl (fun _ _ _ h => h) (y_lenS hs Tryd.underlying9 rfl) ?_; clear hs a; intro a hs
              refine b_take 9 rfl #[true, true, true, true, true, true, true, true, true, true, false, false, false, false, false, false, false, false, false, false, false, false] rfl (by kernel_rfl) hs ((((hs.mem.to 1 rfl).to 1 rfl).first 2)) rfl rfl rfl (fun _ _ _ h => h) (y_cmp (b := false) hs rfl rfl (congrArg some (decide_eq_false (by omega)))) ?_; clear hs a; intro a hs
              refine b_take 10 rfl #[true, true, true, true, true, true, true, true, true, true, true, false, false, false, false, false, false, false, false, false, false, false] rfl (by kernel_rfl) hs ((((hs.mem.to 1 rfl).to 1 rfl).first 2)) rfl rfl rfl (fun _ _ _ h => h) (y_move hs rfl) ?_; clear hs a; intro a hs
              refine b_skip 11 rfl #[true, true, true, true, true, true, true, true, true, true, true, true, false, false, false, false, false, false, false, false, false, false] rfl (by kernel_rfl) hs ((((hs.mem.to 1 rfl).to 1 rfl).first 2)) rfl rfl rfl (fun _ _ _ h => h) ?_; clear hs a; intro a hs
              refine b_skip 12 rfl #[true, true, true, true, true, true, true, true, true, true, true, true, true, false, false, false, false, false, false, false, false, false] rfl (by kernel_rfl) hs ((((hs.mem.to 1 rfl).to 1 rfl).first 2)) rfl rfl rfl (fun _ _ _ h => h) ?_; clear hs a; intro a hs
              refine b_skip 13 rfl #[true, true, true, true, true, true, true, true, true, true, true, true, true, true, false, false, false, false, false, false, false, false] rfl (by kernel_rfl) hs ((((hs.mem.to 1 rfl).to 1 rfl).first 2)) rfl rfl rfl (fun _ _ _ h => h) ?_; clear hs a; intro a hs
              refine b_skip 14 rfl #[true, true, true, true, true, true, true, true, true, true, true, true, true, true, true, false, false, false, false, false, false, false] rfl (by kernel_rfl) hs ((((hs.mem.to 1 rfl).to 1 rfl).first 2)) rfl rfl rfl (fun _ _ _ h => h) ?_; clear hs a; intro a hs
              refine b_skip 15 rfl #[true, true, true, true, true, true, true, true, true, true, true, true, true, true, true, true, false, false, false, false, false, false] rfl (by kernel_rfl) hs ((((hs.mem.to 1 rfl).to 1 rfl).first 2)) rfl rfl rfl (fun _ _ _ h => h) ?_; clear hs a; intro a hs
              refine b_skip 16 rfl #[true, true, true, true, true, true, true, true, true, true, true, true, true, true, true, true, true, false, false, false, false, false] rfl (by kernel_rfl) hs ((((hs.mem.to 1 rfl).to 1 rfl).first 2)) rfl rfl rfl (fun _ _ _ h => h) ?_; clear hs a; intro a hs
              refine b_skip 17 rfl #[true, true, true, true, true, true, true, true, true, true, true, true, true, true, true, true, true, true, false, false, false, false] rfl (by kernel_rfl) hs ((((hs.mem.to 1 rfl).to 1 rfl).first 2)) rfl rfl rfl (fun _ _ _ h => h) ?_; clear hs a; intro a hs
              refine b_skip 18 rfl #[true, true, true, true, true, true, true, true, true, true, true, true, true, true, true, true, true, true, true, false, false, false] rfl (by kernel_rfl) hs ((((hs.mem.to 1 rfl).to 1 rfl).first 2)) rfl rfl rfl (fun _ _ _ h => h) ?_; clear hs a; intro a hs
              refine b_skip 19 rfl #[true, true, true, true, true, true, true, true, true, true, true, true, true, true, true, true, true, true, true, true, false, false] rfl (by kernel_rfl) hs ((((hs.mem.to 1 rfl).to 1 rfl).first 2)) rfl rfl rfl (fun _ _ _ h => h) ?_; clear hs a; intro a hs
              refine b_skip 20 rfl #[true, true, true, true, true, true, true, true, true, true, true, true, true, true, true, true, true, true, true, true, true, false] rfl (by kernel_rfl) hs ((((hs.mem.to 1 rfl).to 1 rfl).first 2)) rfl rfl rfl (fun _ _ _ h => h) ?_; clear hs a; intro a hs
              refine b_take 21 rfl #[true, true, true, true, true, true, true, true, true, true, true, true, true, true, true, true, true, true, true, true, true, true] rfl (by kernel_rfl) hs ((((hs.mem.to 1 rfl).to 1 rfl).first 2)) rfl rfl rfl (fun _ _ _ h => h) (y_pick hs rfl rfl rfl) ?_; clear hs a; intro a hs
              refine b_done (by kernel_rfl) ?_
              repeat first | with_reducible refine in_normal ?_ | with_reducible refine then_normal ?_ | with_reducible refine then_ret ?_ | with_reducible refine in_ret ?_ | with_reducible refine then_exit ?_ | with_reducible refine in_here ?_ | with_reducible refine in_other rfl ?_ | with_reducible refine then_goto ?_ | with_reducible refine in_goto ?_ | with_reducible refine jump_normal ?_ | with_reducible refine jump_ret ?_ | with_reducible refine jump_goto ?_
              repeat with_reducible refine wp_seq ?_
              refine wp_cond_false (hs.ev rfl) ?_
              repeat with_reducible refine wp_seq ?_
              refine wp_exit ?_
              repeat first | with_reducible refine in_normal ?_ | with_reducible refine then_normal ?_ | with_reducible refine then_ret ?_ | with_reducible refine in_ret ?_ | with_reducible refine then_exit ?_ | with_reducible refine in_here ?_ | with_reducible refine in_other rfl ?_ | with_reducible refine then_goto ?_ | with_reducible refine in_goto ?_ | with_reducible refine jump_normal ?_ | with_reducible refine jump_ret ?_ | with_reducible refine jump_goto ?_
              repeat with_reducible refine wp_seq ?_
              refine wp_goto ?_
              repeat first | with_reducible refine in_normal ?_ | with_reducible refine then_normal ?_ | with_reducible refine then_ret ?_ | with_reducible refine in_ret ?_ | with_reducible refine then_exit ?_ | with_reducible refine in_here ?_ | with_reducible refine in_other rfl ?_ | with_reducible refine then_goto ?_ | with_reducible refine in_goto ?_ | with_reducible refine jump_normal ?_ | with_reducible refine jump_ret ?_ | with_reducible refine jump_goto ?_
              have hr2 : remTo s (s.size - p) p q r = (p1, q1, r1) := by rw [← hrun]; exact remTo_stop (fun h => hlt1 h.1)
              rw [hr2] at hF
              exact ⟨m, by omega, p1, q1, r1, l, A, c, hp2, hq1, hr1, by omega, hF, (hs.mem_to ((hs.mem.to 1 rfl).to 1 rfl)).cut _ ⟨rfl, trivial⟩⟩
          · repeat with_reducible refine wp_seq ?_
            refine wp_region_lit ?_
            refine a_val hs rfl rfl rfl (y_cmp (b := false) hs rfl rfl (congrArg some (beq_eq_false_iff_ne.2 k5))) ?_; clear hs a; intro a hs
            refine a_val hs rfl rfl rfl (y_assign hs rfl) ?_; clear hs a; intro a hs
            refine wpList_nil ?_
            repeat first | with_reducible refine in_normal ?_ | with_reducible refine then_normal ?_ | with_reducible refine then_ret ?_ | with_reducible refine in_ret ?_ | with_reducible refine then_exit ?_ | with_reducible refine in_here ?_ | with_reducible refine in_other rfl ?_ | with_reducible refine then_goto ?_ | with_reducible refine in_goto ?_ | with_reducible refine jump_normal ?_ | with_reducible refine jump_ret ?_ | with_reducible refine jump_goto ?_
            repeat with_reducible refine wp_seq ?_
            refine wp_cond_false (hs.ev rfl) ?_
            by_cases k1 : kd s p = 1
            · repeat with_reducible refine wp_seq ?_
              refine wp_region_lit ?_
              refine a_val hs rfl rfl rfl (y_cmp (b := true) hs rfl rfl (congrArg some (beq_iff_eq.2 k1))) ?_; clear hs a; intro a hs
              refine a_val hs rfl rfl rfl (y_assign hs rfl) ?_; clear hs a; intro a hs
              refine wpList_nil ?_
              repeat first | with_reducible refine in_normal ?_ | with_reducible refine then_normal ?_ | with_reducible refine then_ret ?_ | with_reducible refine in_ret ?_ | with_reducible refine then_exit ?_ | with_reducible refine in_here ?_ | with_reducible refine in_other rfl ?_ | with_reducible refine then_goto ?_ | with_reducible refine in_goto ?_ | with_reducible refine jump_normal ?_ | with_reducible refine jump_ret ?_ | with_reducible refine jump_goto ?_
              repeat with_reducible refine wp_seq ?_
              refine wp_cond_true (hs.ev rfl) ?_
              rw [if_neg k4, if_neg k5, if_pos k1] at hF
              obtain ⟨b1, b2, b3, b4⟩ := runTo_le s [1, 2] (s.size - p) p q r (by omega) (by omega) (by omega)
              have b5 := runTo_lt s [1, 2] p q r hlt (by rw [k1]; rfl)
              repeat with_reducible refine wp_seq ?_
              refine wp_region_lit ?_
              refine a_val hs rfl rfl rfl (y_move hs rfl) ?_; clear hs a; intro a hs
              refine a_eff rfl (e_bslice (z := .int .i64 0) (size := 1) (zc := #[.int .i64 0, .int .i64 0]) (cl := [_, _]) hs rfl Tryd.underlying75 (by kernel_rfl) rfl rfl rfl (by kernel_rfl) (by rfl) rfl ?_); clear hs a; intro gk a w hs
              refine a_eff rfl (e_call Tryd.func41 rfl rfl hs rfl rfl (cutter_run g gk s [1, 2] p q r (.slice A (l).length c) _ w0 _ (by omega) hz (by omega) (by omega) (by decide) con12 (hs.mem.to 1 rfl)) (fun w hm => ⟨_, hm, ?_⟩)); clear hs a; intro a hs
              refine a_val hs rfl rfl rfl (y_faddr (k' := 0) 0 hs (by kernel_rfl) rfl rfl) ?_; clear hs a; intro a hs
              refine a_eff rfl (e_store (cl := [_, _, _, _, _]) 2 rfl hs rfl rfl (by kernel_rfl) rfl rfl rfl ?_); clear hs a; intro a w hs
              refine a_val hs rfl rfl rfl (y_faddr (k' := 1) 1 hs (by kernel_rfl) rfl rfl) ?_; clear hs a; intro a hs
              refine a_eff rfl (e_store (cl := [_, _, _, _, _]) 0 rfl hs rfl rfl (by kernel_rfl) rfl rfl rfl ?_); clear hs a; intro a w hs
              refine wpList_nil ?_
              repeat first | with_reducible refine in_normal ?_ | with_reducible refine then_normal ?_ | with_reducible refine then_ret ?_ | with_reducible refine in_ret ?_ | with_reducible refine then_exit ?_ | with_reducible refine in_here ?_ | with_reducible refine in_other rfl ?_ | with_reducible refine then_goto ?_ | with_reducible refine in_goto ?_ | with_reducible refine jump_normal ?_ | with_reducible refine jump_ret ?_ | with_reducible refine jump_goto ?_
              repeat with_reducible refine wp_seq ?_
              refine wp_region_lit ?_
              refine a_val hs rfl rfl rfl (y_faddr (k' := 1) 1 hs (by kernel_rfl) rfl rfl) ?_; clear hs a; intro a hs
              refine a_val hs rfl rfl rfl (y_load hs Tryd.underlying9 rfl rfl (fun w hw => (hw.to 0 rfl).cellV rfl)) ?_; clear hs a; intro a hs
              refine a_eff rfl (e_callB Tryd.func36 rfl rfl hs rfl rfl (token_is.calls _ _ _ rfl) ?_); clear hs a; intro a w hs
              refine wpList_nil ?_
              repeat first | with_reducible refine in_normal ?_ | with_reducible refine then_normal ?_ | with_reducible refine then_ret ?_ | with_reducible refine in_ret ?_ | with_reducible refine then_exit ?_ | with_reducible refine in_here ?_ | with_reducible refine in_other rfl ?_ | with_reducible refine then_goto ?_ | with_reducible refine in_goto ?_ | with_reducible refine jump_normal ?_ | with_reducible refine jump_ret ?_ | with_reducible refine jump_goto ?_
              repeat with_reducible refine wp_seq ?_
              refine wp_cond_split (hs.ev rfl) (fun hb => ?_) (fun hb => ?_)
              · have hw : wordIn wordList (s.extract p (runTo s [1, 2] (s.size - p) p q r).1) = true := hb
                repeat with_reducible refine wp_seq ?_
                refine wp_region_lit ?_
                refine a_val hs rfl rfl rfl (y_faddr (k' := 0) 0 hs (by kernel_rfl) rfl rfl) ?_; clear hs a; intro a hs
                refine a_eff rfl (e_store (cl := [_, _, _, _, _]) 0 rfl hs rfl rfl (by kernel_rfl) rfl rfl rfl ?_); clear hs a; intro a w hs
                refine wpList_nil ?_
                repeat first | with_reducible refine in_normal ?_ | with_reducible refine then_normal ?_ | with_reducible refine then_ret ?_ | with_reducible refine in_ret ?_ | with_reducible refine then_exit ?_ | with_reducible refine in_here ?_ | with_reducible refine in_other rfl ?_ | with_reducible refine then_goto ?_ | with_reducible refine in_goto ?_ | with_reducible refine jump_normal ?_ | with_reducible refine jump_ret ?_ | with_reducible refine jump_goto ?_
                repeat with_reducible refine wp_seq ?_
                refine wp_region_lit ?_
                refine a_val hs rfl rfl rfl (y_faddr (k' := 1) 1 hs (by kernel_rfl) rfl rfl) ?_; clear hs a; intro a hs
                refine a_val hs rfl rfl rfl (y_load hs Tryd.underlying9 rfl rfl (fun w hw => (hw.to 0 rfl).cellV rfl)) ?_; clear hs a; intro a hs
                refine a_eff rfl (e_callB Tryd.func35 rfl rfl hs rfl rfl ((token_named.calls _ _ _ _ (named_ok _ (Nat.le_trans (ex_size hz) (by decide)))).mono (by rintro e w1 ⟨rfl, hd⟩; exact ⟨rfl, drawn_below hd⟩)) ?_); clear hs a; intro a w hs
                refine a_val hs rfl rfl rfl (y_not hs rfl) ?_; clear hs a; intro a hs
                refine wpList_nil ?_
                repeat first | with_reducible refine in_normal ?_ | with_reducible refine then_normal ?_ | with_reducible refine then_ret ?_ | with_reducible refine in_ret ?_ | with_reducible refine then_exit ?_ | with_reducible refine in_here ?_ | with_reducible refine in_other rfl ?_ | with_reducible refine then_goto ?_ | with_reducible refine in_goto ?_ | with_reducible refine jump_normal ?_ | with_reducible refine jump_ret ?_ | with_reducible refine jump_goto ?_
                repeat with_reducible refine wp_seq ?_
                refine wp_cond_split (hs.ev rfl) (fun hb => ?_) (fun hb => ?_)
                · repeat with_reducible refine wp_seq ?_
                  refine wp_region_lit ?_
                  refine a_val hs rfl rfl rfl (y_move hs rfl) ?_; clear hs a; intro a hs
                  refine a_val hs rfl rfl rfl (y_move hs rfl) ?_; clear hs a; intro a hs
                  refine a_val hs rfl rfl rfl (y_assign hs rfl) ?_; clear hs a; intro a hs
                  refine a_val hs rfl rfl rfl (y_assign hs rfl) ?_; clear hs a; intro a hs
                  refine a_val hs rfl rfl rfl (y_assign hs rfl) ?_; clear hs a; intro a hs
                  refine wpList_nil ?_
                  repeat first | with_reducible refine in_normal ?_ | with_reducible refine then_normal ?_ | with_reducible refine then_ret ?_ | with_reducible refine in_ret ?_ | with_reducible refine then_exit ?_ | with_reducible refine in_here ?_ | with_reducible refine in_other rfl ?_ | with_reducible refine then_goto ?_ | with_reducible refine in_goto ?_ | with_reducible refine jump_normal ?_ | with_reducible refine jump_ret ?_ | with_reducible refine jump_goto ?_
                  have hn : nameText (s.extract p (runTo s [1, 2] (s.size - p) p q r).1) = false := by simpa using hb
                  rw [hn, if_neg (by simp)] at hF
                  injection hF with hF
                  injection hF with h1 h2
                  subst h1 h2
                  repeat with_reducible refine wp_seq ?_
                  refine wp_ret ?_
                  repeat first | with_reducible refine in_normal ?_ | with_reducible refine then_normal ?_ | with_reducible refine then_ret ?_ | with_reducible refine in_ret ?_ | with_reducible refine then_exit ?_ | with_reducible refine in_here ?_ | with_reducible refine in_other rfl ?_ | with_reducible refine then_goto ?_ | with_reducible refine in_goto ?_ | with_reducible refine jump_normal ?_ | with_reducible refine jump_ret ?_ | with_reducible refine jump_goto ?_
                  refine fin_ret (vs := [.int .i64 (q : Int), .int .i64 (r : Int), .bool false]) hs (.tmp (hs.slots _ _ rfl) (.tmp (hs.slots _ _ rfl) (.tmp (hs.slots _ _ rfl) .nil))) ⟨_, _, _, A, c, rfl, ((((hs.mem.to 0 rfl).drop.to 1 rfl).drop.to 1 rfl).to 1 rfl)⟩
                · repeat with_reducible refine wp_seq ?_
                  refine wp_skip ?_
                  repeat first | with_reducible refine in_normal ?_ | with_reducible refine then_normal ?_ | with_reducible refine then_ret ?_ | with_reducible refine in_ret ?_ | with_reducible refine then_exit ?_ | with_reducible refine in_here ?_ | with_reducible refine in_other rfl ?_
                  have hn : nameText (s.extract p (runTo s [1, 2] (s.size - p) p q r).1) = true := by simpa using hb
                  rw [if_pos hn, if_pos hw] at hF
                  refine ⟨_, _, _, ⟨2, (s.extract p (runTo s [1, 2] (s.size - p) p q r).1), 0, q, r⟩, b5, b2, b3, b4, hF, (hs.mem_to ((((hs.mem.to 2 rfl).drop.to 2 rfl).to 2 rfl).to 2 rfl)).cut _ ⟨rfl, rfl, trivial⟩⟩
              · have hw : ¬ wordIn wordList (s.extract p (runTo s [1, 2] (s.size - p) p q r).1) = true := by rw [show wordIn wordList (s.extract p (runTo s [1, 2] (s.size - p) p q r).1) = false from hb]; simp
                repeat with_reducible refine wp_seq ?_
                refine wp_skip ?_
                repeat first | with_reducible refine in_normal ?_ | with_reducible refine then_normal ?_ | with_reducible refine then_ret ?_ | with_reducible refine in_ret ?_ | with_reducible refine then_exit ?_ | with_reducible refine in_here ?_ | with_reducible refine in_other rfl ?_
                repeat with_reducible refine wp_seq ?_
                refine wp_region_lit ?_
                refine a_val hs rfl rfl rfl (y_faddr (k' := 1) 1 hs (by kernel_rfl) rfl rfl) ?_; clear hs a; intro a hs
                refine a_val hs rfl rfl rfl (y_load hs Tryd.underlying9 rfl rfl (fun w hw => (hw.to 0 rfl).cellV rfl)) ?_; clear hs a; intro a hs
                refine a_eff rfl (e_callB Tryd.func35 rfl rfl hs rfl rfl ((token_named.calls _ _ _ _ (named_ok _ (Nat.le_trans (ex_size hz) (by decide)))).mono (by rintro e w1 ⟨rfl, hd⟩; exact ⟨rfl, drawn_below hd⟩)) ?_); clear hs a; intro a w hs
                refine a_val hs rfl rfl rfl (y_not hs rfl) ?_; clear hs a; intro a hs
                refine wpList_nil ?_
                repeat first | with_reducible refine in_normal ?_ | with_reducible refine then_normal ?_ | with_reducible refine then_ret ?_ | with_reducible refine in_ret ?_ | with_reducible refine then_exit ?_ | with_reducible refine in_here ?_ | with_reducible refine in_other rfl ?_ | with_reducible refine then_goto ?_ | with_reducible refine in_goto ?_ | with_reducible refine jump_normal ?_ | with_reducible refine jump_ret ?_ | with_reducible refine jump_goto ?_
                repeat with_reducible refine wp_seq ?_
                refine wp_cond_split (hs.ev rfl) (fun hb => ?_) (fun hb => ?_)
                · repeat with_reducible refine wp_seq ?_
                  refine wp_region_lit ?_
                  refine a_val hs rfl rfl rfl (y_move hs rfl) ?_; clear hs a; intro a hs
                  refine a_val hs rfl rfl rfl (y_move hs rfl) ?_; clear hs a; intro a hs
                  refine a_val hs rfl rfl rfl (y_assign hs rfl) ?_; clear hs a; intro a hs
                  refine a_val hs rfl rfl rfl (y_assign hs rfl) ?_; clear hs a; intro a hs
                  refine a_val hs rfl rfl rfl (y_assign hs rfl) ?_; clear hs a; intro a hs
                  refine wpList_nil ?_
                  repeat first | with_reducible refine in_normal ?_ | with_reducible refine then_normal ?_ | with_reducible refine then_ret ?_ | with_reducible refine in_ret ?_ | with_reducible refine then_exit ?_ | with_reducible refine in_here ?_ | with_reducible refine in_other rfl ?_ | with_reducible refine then_goto ?_ | with_reducible refine in_goto ?_ | with_reducible refine jump_normal ?_ | with_reducible refine jump_ret ?_ | with_reducible refine jump_goto ?_
                  have hn : nameText (s.extract p (runTo s [1, 2] (s.size - p) p q r).1) = false := by simpa using hb
                  rw [hn, if_neg (by simp)] at hF
                  injection hF with hF
                  injection hF with h1 h2
                  subst h1 h2
                  repeat with_reducible refine wp_seq ?_
                  refine wp_ret ?_
                  repeat first | with_reducible refine in_normal ?_ | with_reducible refine then_normal ?_ | with_reducible refine then_ret ?_ | with_reducible refine in_ret ?_ | with_reducible refine then_exit ?_ | with_reducible refine in_here ?_ | with_reducible refine in_other rfl ?_ | with_reducible refine then_goto ?_ | with_reducible refine in_goto ?_ | with_reducible refine jump_normal ?_ | with_reducible refine jump_ret ?_ | with_reducible refine jump_goto ?_
                  refine fin_ret (vs := [.int .i64 (q : Int), .int .i64 (r : Int), .bool false]) hs (.tmp (hs.slots _ _ rfl) (.tmp (hs.slots _ _ rfl) (.tmp (hs.slots _ _ rfl) .nil))) ⟨_, _, _, A, c, rfl, ((((hs.mem.to 0 rfl).drop.to 1 rfl).drop.to 1 rfl).to 1 rfl)⟩
                · repeat with_reducible refine wp_seq ?_
                  refine wp_skip ?_
                  repeat first | with_reducible refine in_normal ?_ | with_reducible refine then_normal ?_ | with_reducible refine then_ret ?_ | with_reducible refine in_ret ?_ | with_reducible refine then_exit ?_ | with_reducible refine in_here ?_ | with_reducible refine in_other rfl ?_
                  have hn : nameText (s.extract p (runTo s [1, 2] (s.size - p) p q r).1) = true := by simpa using hb
                  rw [if_pos hn, if_neg hw] at hF
                  refine ⟨_, _, _, ⟨1, (s.extract p (runTo s [1, 2] (s.size - p) p q r).1), 0, q, r⟩, b5, b2, b3, b4, hF, (hs.mem_to ((((hs.mem.to 2 rfl).drop.to 2 rfl).to 2 rfl).to 2 rfl)).cut _ ⟨rfl, rfl, trivial⟩⟩
            · repeat with_reducible refine wp_seq ?_
              refine wp_region_lit ?_
              refine a_val hs rfl rfl rfl (y_cmp (b := false) hs rfl rfl (congrArg some (beq_eq_false_iff_ne.2 k1))) ?_; clear hs a; intro a hs
              refine a_val hs rfl rfl rfl (y_assign hs rfl) ?_; clear hs a; intro a hs
              refine wpList_nil ?_
              repeat first | with_reducible refine in_normal ?_ | with_reducible refine then_normal ?_ | with_reducible refine then_ret ?_ | with_reducible refine in_ret ?_ | with_reducible refine then_exit ?_ | with_reducible refine in_here ?_ | with_reducible refine in_other rfl ?_ | with_reducible refine then_goto ?_ | with_reducible refine in_goto ?_ | with_reducible refine jump_normal ?_ | with_reducible refine jump_ret ?_ | with_reducible refine jump_goto ?_
              repeat with_reducible refine wp_seq ?_
              refine wp_cond_false (hs.ev rfl) ?_
              by_cases k2 : kd s p = 2
              · repeat with_reducible refine wp_seq ?_
                refine wp_region_lit ?_
                refine a_val hs rfl rfl rfl (y_cmp (b := true) hs rfl rfl (congrArg some (beq_iff_eq.2 k2))) ?_; clear hs a; intro a hs
                refine a_val hs rfl rfl rfl (y_assign hs rfl) ?_; clear hs a; intro a hs
                refine wpList_nil ?_
                repeat first | with_reducible refine in_normal ?_ | with_reducible refine then_normal ?_ | with_reducible refine then_ret ?_ | with_reducible refine in_ret ?_ | with_reducible refine then_exit ?_ | with_reducible refine in_here ?_ | with_reducible refine in_other rfl ?_ | with_reducible refine then_goto ?_ | with_reducible refine in_goto ?_ | with_reducible refine jump_normal ?_ | with_reducible refine jump_ret ?_ | with_reducible refine jump_goto ?_
                repeat with_reducible refine wp_seq ?_
                refine wp_cond_true (hs.ev rfl) ?_
                rw [if_neg k4, if_neg k5, if_neg k1, if_pos k2] at hF
                obtain ⟨b1, b2, b3, b4⟩ := runTo_le s [2] (s.size - p) p q r (by omega) (by omega) (by omega)
                have b5 := runTo_lt s [2] p q r hlt (by rw [k2]; rfl)
                repeat with_reducible refine wp_seq ?_
                refine wp_region_lit ?_
                refine a_val hs rfl rfl rfl (y_faddr (k' := 0) 0 hs (by kernel_rfl) rfl rfl) ?_; clear hs a; intro a hs
                refine a_eff rfl (e_store (cl := [_, _, _, _, _]) 1 rfl hs rfl rfl (by kernel_rfl) rfl rfl rfl ?_); clear hs a; intro a w hs
                refine wpList_nil ?_
                repeat first | with_reducible refine in_normal ?_ | with_reducible refine then_normal ?_ | with_reducible refine then_ret ?_ | with_reducible refine in_ret ?_ | with_reducible refine then_exit ?_ | with_reducible refine in_here ?_ | with_reducible refine in_other rfl ?_ | with_reducible refine then_goto ?_ | with_reducible refine in_goto ?_ | with_reducible refine jump_normal ?_ | with_reducible refine jump_ret ?_ | with_reducible refine jump_goto ?_
                repeat with_reducible refine wp_seq ?_
                refine wp_region_lit ?_
                refine a_val hs rfl rfl rfl (y_move hs rfl) ?_; clear hs a; intro a hs
                refine a_eff rfl (e_bslice (z := .int .i64 0) (size := 1) (zc := #[.int .i64 0]) (cl := [_]) hs rfl Tryd.underlying75 (by kernel_rfl) rfl rfl rfl (by kernel_rfl) (by rfl) rfl ?_); clear hs a; intro gk a w hs
                refine a_eff rfl (e_call Tryd.func41 rfl rfl hs rfl rfl (cutter_run g gk s [2] p q r (.slice A (l).length c) _ w0 _ (by omega) hz (by omega) (by omega) (by decide) con2 (hs.mem.to 2 rfl)) (fun w hm => ⟨_, hm, ?_⟩)); clear hs a; intro a hs
                refine a_eff rfl (e_callB Tryd.func42 rfl rfl hs rfl rfl (token_value _ _ (hE.keep hs.mem) (ex_size hz)) ?_); clear hs a; intro a w hs
                refine a_val hs rfl rfl rfl (y_move hs rfl) ?_; clear hs a; intro a hs
                refine a_val hs rfl rfl rfl (y_extract hs rfl rfl) ?_; clear hs a; intro a hs
                refine a_val hs rfl rfl rfl (y_extract hs rfl rfl) ?_; clear hs a; intro a hs
                refine a_val hs rfl rfl rfl (y_faddr (k' := 2) 2 hs (by kernel_rfl) rfl rfl) ?_; clear hs a; intro a hs
                refine a_eff rfl (e_store (cl := [_, _, _, _, _]) 2 rfl hs rfl rfl (by kernel_rfl) rfl rfl rfl ?_); clear hs a; intro a w hs
                refine a_val hs rfl rfl rfl (y_assign hs rfl) ?_; clear hs a; intro a hs
                refine wpList_nil ?_
                repeat first | with_reducible refine in_normal ?_ | with_reducible refine then_normal ?_ | with_reducible refine then_ret ?_ | with_reducible refine in_ret ?_ | with_reducible refine then_exit ?_ | with_reducible refine in_here ?_ | with_reducible refine in_other rfl ?_ | with_reducible refine then_goto ?_ | with_reducible refine in_goto ?_ | with_reducible refine jump_normal ?_ | with_reducible refine jump_ret ?_ | with_reducible refine jump_goto ?_
                repeat with_reducible refine wp_seq ?_
                refine wp_region_lit ?_
                refine a_val hs rfl rfl rfl (y_move hs rfl) ?_; clear hs a; intro a hs
                refine a_val hs rfl rfl rfl (y_not hs rfl) ?_; clear hs a; intro a hs
                refine wpList_nil ?_
                repeat first | with_reducible refine in_normal ?_ | with_reducible refine then_normal ?_ | with_reducible refine then_ret ?_ | with_reducible refine in_ret ?_ | with_reducible refine then_exit ?_ | with_reducible refine in_here ?_ | with_reducible refine in_other rfl ?_ | with_reducible refine then_goto ?_ | with_reducible refine in_goto ?_ | with_reducible refine jump_normal ?_ | with_reducible refine jump_ret ?_ | with_reducible refine jump_goto ?_
                repeat with_reducible refine wp_seq ?_
                refine wp_cond_split (hs.ev rfl) (fun hb => ?_) (fun hb => ?_)
                · repeat with_reducible refine wp_seq ?_
                  refine wp_region_lit ?_
                  refine a_val hs rfl rfl rfl (y_move hs rfl) ?_; clear hs a; intro a hs
                  refine a_val hs rfl rfl rfl (y_move hs rfl) ?_; clear hs a; intro a hs
                  refine a_val hs rfl rfl rfl (y_assign hs rfl) ?_; clear hs a; intro a hs
                  refine a_val hs rfl rfl rfl (y_assign hs rfl) ?_; clear hs a; intro a hs
                  refine a_val hs rfl rfl rfl (y_assign hs rfl) ?_; clear hs a; intro a hs
                  refine wpList_nil ?_
                  repeat first | with_reducible refine in_normal ?_ | with_reducible refine then_normal ?_ | with_reducible refine then_ret ?_ | with_reducible refine in_ret ?_ | with_reducible refine then_exit ?_ | with_reducible refine in_here ?_ | with_reducible refine in_other rfl ?_ | with_reducible refine then_goto ?_ | with_reducible refine in_goto ?_ | with_reducible refine jump_normal ?_ | with_reducible refine jump_ret ?_ | with_reducible refine jump_goto ?_
                  have hn : (valueF (s.extract p (runTo s [2] (s.size - p) p q r).1)).2 = false := by simpa using hb
                  rw [hn, if_neg (by simp)] at hF
                  injection hF with hF
                  injection hF with h1 h2
                  subst h1 h2
                  repeat with_reducible refine wp_seq ?_
                  refine wp_ret ?_
                  repeat first | with_reducible refine in_normal ?_ | with_reducible refine then_normal ?_ | with_reducible refine then_ret ?_ | with_reducible refine in_ret ?_ | with_reducible refine then_exit ?_ | with_reducible refine in_here ?_ | with_reducible refine in_other rfl ?_ | with_reducible refine then_goto ?_ | with_reducible refine in_goto ?_ | with_reducible refine jump_normal ?_ | with_reducible refine jump_ret ?_ | with_reducible refine jump_goto ?_
                  refine fin_ret (vs := [.int .i64 (q : Int), .int .i64 (r : Int), .bool false]) hs (.tmp (hs.slots _ _ rfl) (.tmp (hs.slots _ _ rfl) (.tmp (hs.slots _ _ rfl) .nil))) ⟨_, _, _, A, c, rfl, ((((hs.mem.to 0 rfl).drop.to 1 rfl).drop.to 1 rfl).to 1 rfl)⟩
                · repeat with_reducible refine wp_seq ?_
                  refine wp_skip ?_
                  repeat first | with_reducible refine in_normal ?_ | with_reducible refine then_normal ?_ | with_reducible refine then_ret ?_ | with_reducible refine in_ret ?_ | with_reducible refine then_exit ?_ | with_reducible refine in_here ?_ | with_reducible refine in_other rfl ?_
                  have hn : (valueF (s.extract p (runTo s [2] (s.size - p) p q r).1)).2 = true := by simpa using hb
                  rw [if_pos hn] at hF
                  repeat with_reducible refine wp_seq ?_
                  refine wp_region_lit ?_
                  refine a_val hs rfl rfl rfl (y_move hs rfl) ?_; clear hs a; intro a hs
                  refine a_eff rfl (e_call Tryd.func39 rfl rfl hs rfl rfl (cutter_now g s _ _ _ _ _ w0 _ b2 (hs.mem.to 1 rfl)) (fun w hm => ⟨_, hm, ?_⟩)); clear hs a; intro a hs
                  refine a_val hs rfl rfl rfl (y_cmp hs rfl rfl rfl) ?_; clear hs a; intro a hs
                  refine wpList_nil ?_
                  repeat first | with_reducible refine in_normal ?_ | with_reducible refine then_normal ?_ | with_reducible refine then_ret ?_ | with_reducible refine in_ret ?_ | with_reducible refine then_exit ?_ | with_reducible refine in_here ?_ | with_reducible refine in_other rfl ?_ | with_reducible refine then_goto ?_ | with_reducible refine in_goto ?_ | with_reducible refine jump_normal ?_ | with_reducible refine jump_ret ?_ | with_reducible refine jump_goto ?_
                  repeat with_reducible refine wp_seq ?_
                  refine wp_cond_split (hs.ev rfl) (fun hb => ?_) (fun hb => ?_)
                  · have hk : kd s (runTo s [2] (s.size - p) p q r).1 = 1 := eq_of_beq hb
                    repeat with_reducible refine wp_seq ?_
                    refine b_enter [0] (by kernel_rfl) hs #[false, false, false, false, false, false, false, false, false, false, false] (by rfl) 11 (by rfl) ?_; clear hs; intro w hs
                    refine b_take 0 rfl #[true, false, false, false, false, false, false, false, false, false, false] rfl (by kernel_rfl) hs ((hs.mem.first 1)) rfl rfl rfl (fun _ _ _ h => h) (y_move hs rfl) ?_; clear hs a; intro a hs
                    refine b_take 1 rfl #[true, true, false, false, false, false, false, false, false, false, false] rfl (by kernel_rfl) hs ((hs.mem.first 1)) rfl rfl rfl (fun _ _ _ h => h) (y_nilchk hs rfl) ?_; clear hs a; intro a hs
                    refine b_take 2 rfl #[true, true, true, false, false, false, false, false, false, false, false] rfl (by kernel_rfl) hs ((hs.mem.first 1)) rfl rfl rfl (fun _ _ _ h => h) (y_faddr (k' := 2) 2 hs (by kernel_rfl) rfl rfl) ?_; clear hs a; intro a hs
                    refine b_take 3 rfl #[true, true, true, true, false, false, false, false, false, false, false] rfl (by kernel_rfl) hs ((hs.mem.first 1)) rfl rfl rfl (fun _ _ _ h => h) (y_load hs Tryd.underlying3 rfl rfl (fun w hw => (hw.to 0 rfl).cellV rfl)) ?_; clear hs a; intro a hs
                    refine b_take 4 rfl #[true, true, true, true, true, false, false, false, false, false, false] rfl (by kernel_rfl) hs ((hs.mem.first 1)) rfl rfl rfl (fun _ _ _ h => h) (y_move hs rfl) ?_; clear hs a; intro a hs
                    refine b_take 5 rfl #[true, true, true, true, true, true, false, false, false, false, false] rfl (by kernel_rfl) hs ((hs.mem.first 1)) rfl rfl rfl (fun _ _ _ h => h) (y_nilchk hs rfl) ?_; clear hs a; intro a hs
                    refine b_take 6 rfl #[true, true, true, true, true, true, true, false, false, false, false] rfl (by kernel_rfl) hs ((hs.mem.first 1)) rfl rfl rfl (fun _ _ _ h => h) (y_faddr (k' := 3) 3 hs (by kernel_rfl) rfl rfl) ?_; clear hs a; intro a hs
                    refine b_take 7 rfl #[true, true, true, true, true, true, true, true, false, false, false] rfl (by kernel_rfl) hs ((hs.mem.first 1)) rfl rfl rfl (fun _ _ _ h => h) (y_load hs Tryd.underlying3 rfl rfl (fun w hw => (hw.to 0 rfl).cellV rfl)) ?_; clear hs a; intro a hs
                    refine b_take 8 rfl #[true, true, true, true, true, true, true, true, true, false, false] rfl (by kernel_rfl) hs ((hs.mem.first 1)) rfl rfl rfl (fun _ _ _ h => h) (y_assign hs rfl) ?_; clear hs a; intro a hs
                    refine b_take 9 rfl #[true, true, true, true, true, true, true, true, true, true, false] rfl (by kernel_rfl) hs ((hs.mem.first 1)) rfl rfl rfl (fun _ _ _ h => h) (y_assign hs rfl) ?_; clear hs a; intro a hs
                    refine b_take 10 rfl #[true, true, true, true, true, true, true, true, true, true, true] rfl (by kernel_rfl) hs ((hs.mem.first 1)) rfl rfl rfl (fun _ _ _ h => h) (y_assign hs rfl) ?_; clear hs a; intro a hs
                    refine b_done (by kernel_rfl) ?_
                    repeat first | with_reducible refine in_normal ?_ | with_reducible refine then_normal ?_ | with_reducible refine then_ret ?_ | with_reducible refine in_ret ?_ | with_reducible refine then_exit ?_ | with_reducible refine in_here ?_ | with_reducible refine in_other rfl ?_ | with_reducible refine then_goto ?_ | with_reducible refine in_goto ?_ | with_reducible refine jump_normal ?_ | with_reducible refine jump_ret ?_ | with_reducible refine jump_goto ?_
                    rw [if_pos hk] at hF
                    injection hF with hF
                    injection hF with h1 h2
                    subst h1 h2
                    repeat with_reducible refine wp_seq ?_
                    refine wp_ret ?_
                    repeat first | with_reducible refine in_normal ?_ | with_reducible refine then_normal ?_ | with_reducible refine then_ret ?_ | with_reducible refine in_ret ?_ | with_reducible refine then_exit ?_ | with_reducible refine in_here ?_ | with_reducible refine in_other rfl ?_ | with_reducible refine then_goto ?_ | with_reducible refine in_goto ?_ | with_reducible refine jump_normal ?_ | with_reducible refine jump_ret ?_ | with_reducible refine jump_goto ?_
                    refine fin_ret (vs := [.int .i64 (((runTo s [2] (s.size - p) p q r).2.1 : Nat) : Int), .int .i64 (((runTo s [2] (s.size - p) p q r).2.2 : Nat) : Int), .bool false]) hs (.tmp (hs.slots _ _ rfl) (.tmp (hs.slots _ _ rfl) (.tmp (hs.slots _ _ rfl) .nil))) ⟨_, _, _, A, c, rfl, ((((hs.mem.to 1 rfl).drop.to 1 rfl).drop.to 1 rfl).to 1 rfl)⟩
                  · have hk : ¬ kd s (runTo s [2] (s.size - p) p q r).1 = 1 := ne_of_beq_false hb
                    repeat with_reducible refine wp_seq ?_
                    refine wp_skip ?_
                    repeat first | with_reducible refine in_normal ?_ | with_reducible refine then_normal ?_ | with_reducible refine then_ret ?_ | with_reducible refine in_ret ?_ | with_reducible refine then_exit ?_ | with_reducible refine in_here ?_ | with_reducible refine in_other rfl ?_
                    rw [if_neg hk] at hF
                    refine ⟨_, _, _, ⟨3, ⟨#[]⟩, (valueF (s.extract p (runTo s [2] (s.size - p) p q r).1)).1, q, r⟩, b5, b2, b3, b4, hF, (hs.mem_to ((((hs.mem.to 2 rfl).drop.to 2 rfl).to 1 rfl).to 2 rfl)).cut _ ⟨rfl, rfl, trivial⟩⟩
              · repeat with_reducible refine wp_seq ?_
                refine wp_region_lit ?_
                refine a_val hs rfl rfl rfl (y_cmp (b := false) hs rfl rfl (congrArg some (beq_eq_false_iff_ne.2 k2))) ?_; clear hs a; intro a hs
                refine a_val hs rfl rfl rfl (y_assign hs rfl) ?_; clear hs a; intro a hs
                refine wpList_nil ?_
                repeat first | with_reducible refine in_normal ?_ | with_reducible refine then_normal ?_ | with_reducible refine then_ret ?_ | with_reducible refine in_ret ?_ | with_reducible refine then_exit ?_ | with_reducible refine in_here ?_ | with_reducible refine in_other rfl ?_ | with_reducible refine then_goto ?_ | with_reducible refine in_goto ?_ | with_reducible refine jump_normal ?_ | with_reducible refine jump_ret ?_ | with_reducible refine jump_goto ?_
                repeat with_reducible refine wp_seq ?_
                refine wp_cond_false (hs.ev rfl) ?_
                by_cases k3 : kd s p = 3
                · repeat with_reducible refine wp_seq ?_
                  refine wp_region_lit ?_
                  refine a_val hs rfl rfl rfl (y_cmp (b := true) hs rfl rfl (congrArg some (beq_iff_eq.2 k3))) ?_; clear hs a; intro a hs
                  refine a_val hs rfl rfl rfl (y_assign hs rfl) ?_; clear hs a; intro a hs
                  refine wpList_nil ?_
                  repeat first | with_reducible refine in_normal ?_ | with_reducible refine then_normal ?_ | with_reducible refine then_ret ?_ | with_reducible refine in_ret ?_ | with_reducible refine then_exit ?_ | with_reducible refine in_here ?_ | with_reducible refine in_other rfl ?_ | with_reducible refine then_goto ?_ | with_reducible refine in_goto ?_ | with_reducible refine jump_normal ?_ | with_reducible refine jump_ret ?_ | with_reducible refine jump_goto ?_
                  repeat with_reducible refine wp_seq ?_
                  refine wp_cond_true (hs.ev rfl) ?_
                  rw [if_neg k4, if_neg k5, if_neg k1, if_neg k2, if_pos k3] at hF
                  repeat with_reducible refine wp_seq ?_
                  refine b_enter [0, 2] (by kernel_rfl) hs #[false, false, false, false, false, false, false, false, false, false, false, false, false, false, false, false, false, false] (by rfl) 18 (by rfl) ?_; clear hs; intro w hs
                  refine b_take 0 rfl #[true, false, false, false, false, false, false, false, false, false, false, false, false, false, false, false, false, false] rfl (by kernel_rfl) hs ((((hs.mem.to 2 rfl).to 1 rfl).first 2)) rfl rfl rfl (fun _ _ _ h => h) (y_move hs rfl) ?_; clear hs a; intro a hs
                  refine b_take 1 rfl #[true, true, false, false, false, false, false, false, false, false, false, false, false, false, false, false, false, false] rfl (by kernel_rfl) hs ((((hs.mem.to 2 rfl).to 1 rfl).first 2)) rfl rfl rfl (fun _ _ _ h => h) (y_nilchk hs rfl) ?_; clear hs a; intro a hs
                  refine b_take 2 rfl #[true, true, true, false, false, false, false, false, false, false, false, false, false, false, false, false, false, false] rfl (by kernel_rfl) hs ((((hs.mem.to 2 rfl).to 1 rfl).first 2)) rfl rfl rfl (fun _ _ _ h => h) (y_faddr (k' := 0) 0 hs (by kernel_rfl) rfl rfl) ?_; clear hs a; intro a hs
                  refine b_take 3 rfl #[true, true, true, true, false, false, false, false, false, false, false, false, false, false, false, false, false, false] rfl (by kernel_rfl) hs ((((hs.mem.to 2 rfl).to 1 rfl).first 2)) rfl rfl rfl (fun _ _ _ h => h) (y_load hs Tryd.underlying9 rfl rfl (fun w hw => (hw.to 0 rfl).cellV rfl)) ?_; clear hs a; intro a hs
                  refine b_take 4 rfl #[true, true, true, true, true, false, false, false, false, false, false, false, false, false, false, false, false, false] rfl (by kernel_rfl) hs ((((hs.mem.to 2 rfl).to 1 rfl).first 2)) rfl rfl rfl (fun _ _ _ h => h) (y_move hs rfl) ?_; clear hs a; intro a hs
                  refine b_take 5 rfl #[true, true, true, true, true, true, false, false, false, false, false, false, false, false, false, false, false, false] rfl (by kernel_rfl) hs ((((hs.mem.to 2 rfl).to 1 rfl).first 2)) rfl rfl rfl (fun _ _ _ h => h) (y_nilchk hs rfl) ?_; clear hs a; intro a hs
                  refine b_take 6 rfl #[true, true, true, true, true, true, true, false, false, false, false, false, false, false, false, false, false, false] rfl (by kernel_rfl) hs ((((hs.mem.to 2 rfl).to 1 rfl).first 2)) rfl rfl rfl (fun _ _ _ h => h) (y_faddr (k' := 1) 1 hs (by kernel_rfl) rfl rfl) ?_; clear hs a; intro a hs
                  refine b_take 7 rfl #[true, true, true, true, true, true, true, true, false, false, false, false, false, false, false, false, false, false] rfl (by kernel_rfl) hs ((((hs.mem.to 2 rfl).to 1 rfl).first 2)) rfl rfl rfl (fun _ _ _ h => h) (y_load hs Tryd.underlying3 rfl rfl (fun w hw => (hw.to 0 rfl).cellV rfl)) ?_; clear hs a; intro a hs
                  refine b_take 8 rfl #[true, true, true, true, true, true, true, true, true, false, false, false, false, false, false, false, false, false] rfl (by kernel_rfl) hs ((((hs.mem.to 2 rfl).to 1 rfl).first 2)) rfl rfl rfl (fun _ _ _ h => h) (y_move hs rfl) ?_; clear hs a; intro a hs
                  refine b_take 9 rfl #[true, true, true, true, true, true, true, true, true, true, false, false, false, false, false, false, false, false] rfl (by kernel_rfl) hs ((((hs.mem.to 2 rfl).to 1 rfl).first 2)) rfl rfl rfl (fun _ _ _ h => h) (y_nilchk hs rfl) ?_; clear hs a; intro a hs
                  refine b_take 10 rfl #[true, true, true, true, true, true, true, true, true, true, true, false, false, false, false, false, false, false] rfl (by kernel_rfl) hs ((((hs.mem.to 2 rfl).to 1 rfl).first 2)) rfl rfl rfl (fun _ _ _ h => h) (y_faddr (k' := 1) 1 hs (by kernel_rfl) rfl rfl) ?_; clear hs a; intro a hs
                  refine b_take 11 rfl #[true, true, true, true, true, true, true, true, true, true, true, true, false, false, false, false, false, false] rfl (by kernel_rfl) hs ((((hs.mem.to 2 rfl).to 1 rfl).first 2)) rfl rfl rfl (fun _ _ _ h => h) (y_load hs Tryd.underlying3 rfl rfl (fun w hw => (hw.to 0 rfl).cellV rfl)) ?_; clear hs a; intro a hs
                  refine b_take 12 rfl #[true, true, true, true, true, true, true, true, true, true, true, true, true, false, false, false, false, false] rfl (by kernel_rfl) hs ((((hs.mem.to 2 rfl).to 1 rfl).first 2)) rfl rfl rfl (fun _ _ _ h => h) (y_add hs rfl rfl (by omega)) ?_; clear hs a; intro a hs
                  refine b_take 13 rfl #[true, true, true, true, true, true, true, true, true, true, true, true, true, true, false, false, false, false] rfl (by kernel_rfl) hs ((((hs.mem.to 2 rfl).to 1 rfl).first 2)) rfl rfl rfl (fun _ _ _ h => h) (y_sliceS hs Tryd.underlying9 rfl rfl rfl (by omega) (by omega) (by omega)) ?_; clear hs a; intro a hs
                  refine b_take 14 rfl #[true, true, true, true, true, true, true, true, true, true, true, true, true, true, true, false, false, false] rfl (by kernel_rfl) hs ((((hs.mem.to 2 rfl).to 1 rfl).first 2)) rfl rfl rfl (fun _ _ _ h => h) (y_faddr (k' := 0) 0 hs (by kernel_rfl) rfl rfl) ?_; clear hs a; intro a hs
                  refine b_eff 15 (by kernel_rfl) rfl #[true, true, true, true, true, true, true, true, true, true, true, true, true, true, true, true, false, false] rfl hs rfl (e_store (cl := [_, _, _, _, _]) 1 rfl hs rfl rfl (by kernel_rfl) rfl rfl rfl ?_); clear hs a; intro a w hs
                  refine ⟨(((hs.mem.to 2 rfl).to 2 rfl).first 2), ?_⟩
                  refine b_take 16 rfl #[true, true, true, true, true, true, true, true, true, true, true, true, true, true, true, true, true, false] rfl (by kernel_rfl) hs ((((hs.mem.to 2 rfl).to 2 rfl).first 2)) rfl rfl rfl (fun _ _ _ h => h) (y_faddr (k' := 1) 1 hs (by kernel_rfl) rfl rfl) ?_; clear hs a; intro a hs
                  refine b_eff 17 (by kernel_rfl) rfl #[true, true, true, true, true, true, true, true, true, true, true, true, true, true, true, true, true, true] rfl hs rfl (e_store (cl := [_, _, _, _, _]) 0 rfl hs rfl rfl (by kernel_rfl) rfl rfl rfl ?_); clear hs a; intro a w hs
                  refine ⟨(((hs.mem.to 2 rfl).to 2 rfl).first 2), ?_⟩
                  refine b_done (by kernel_rfl) ?_
                  repeat first | with_reducible refine in_normal ?_ | with_reducible refine then_normal ?_ | with_reducible refine then_ret ?_ | with_reducible refine in_ret ?_ | with_reducible refine then_exit ?_ | with_reducible refine in_here ?_ | with_reducible refine in_other rfl ?_ | with_reducible refine then_goto ?_ | with_reducible refine in_goto ?_ | with_reducible refine jump_normal ?_ | with_reducible refine jump_ret ?_ | with_reducible refine jump_goto ?_
                  repeat with_reducible refine wp_seq ?_
                  refine wp_region_lit ?_
                  refine a_val hs rfl rfl rfl (y_move hs rfl) ?_; clear hs a; intro a hs
                  refine a_eff rfl (e_call Tryd.func40 rfl rfl hs rfl rfl (cutter_step g s p q r (.slice A (l).length c) _ w0 _ hlt (by omega) (hs.mem.to 1 rfl)) (fun w hm => ⟨_, hm, ?_⟩)); clear hs a; intro a hs
                  refine wpList_nil ?_
                  repeat first | with_reducible refine in_normal ?_ | with_reducible refine then_normal ?_ | with_reducible refine then_ret ?_ | with_reducible refine in_ret ?_ | with_reducible refine then_exit ?_ | with_reducible refine in_here ?_ | with_reducible refine in_other rfl ?_ | with_reducible refine then_goto ?_ | with_reducible refine in_goto ?_ | with_reducible refine jump_normal ?_ | with_reducible refine jump_ret ?_ | with_reducible refine jump_goto ?_
                  have e1 : (if bt s p = 10 then q + 1 else q) ≤ p + 1 + 1 := by split <;> omega
                  have e2 : (if bt s p = 10 then 1 else r + 1) ≤ p + 1 + 1 := by split <;> omega
                  refine ⟨(p + 1), (if bt s p = 10 then q + 1 else q), (if bt s p = 10 then 1 else r + 1), ⟨4, s.extract p (p + 1), 0, q, r⟩, by omega, by omega, e1, e2, hF, (hs.mem_to (((hs.mem.to 2 rfl).to 1 rfl).to 2 rfl)).cut _ ⟨rfl, rfl, trivial⟩⟩
                · repeat with_reducible refine wp_seq ?_
                  refine wp_region_lit ?_
                  refine a_val hs rfl rfl rfl (y_cmp (b := false) hs rfl rfl (congrArg some (beq_eq_false_iff_ne.2 k3))) ?_; clear hs a; intro a hs
                  refine a_val hs rfl rfl rfl (y_assign hs rfl) ?_; clear hs a; intro a hs
                  refine wpList_nil ?_
                  repeat first | with_reducible refine in_normal ?_ | with_reducible refine then_normal ?_ | with_reducible refine then_ret ?_ | with_reducible refine in_ret ?_ | with_reducible refine then_exit ?_ | with_reducible refine in_here ?_ | with_reducible refine in_other rfl ?_ | with_reducible refine then_goto ?_ | with_reducible refine in_goto ?_ | with_reducible refine jump_normal ?_ | with_reducible refine jump_ret ?_ | with_reducible refine jump_goto ?_
                  repeat with_reducible refine wp_seq ?_
                  refine wp_cond_false (hs.ev rfl) ?_
                  repeat with_reducible refine wp_seq ?_
                  refine wp_region_lit ?_
                  refine a_val hs rfl rfl rfl (y_move hs rfl) ?_; clear hs a; intro a hs
                  refine a_val hs rfl rfl rfl (y_move hs rfl) ?_; clear hs a; intro a hs
                  refine a_val hs rfl rfl rfl (y_assign hs rfl) ?_; clear hs a; intro a hs
                  refine a_val hs rfl rfl rfl (y_assign hs rfl) ?_; clear hs a; intro a hs
                  refine a_val hs rfl rfl rfl (y_assign hs rfl) ?_; clear hs a; intro a hs
                  refine wpList_nil ?_
                  repeat first | with_reducible refine in_normal ?_ | with_reducible refine then_normal ?_ | with_reducible refine then_ret ?_ | with_reducible refine in_ret ?_ | with_reducible refine then_exit ?_ | with_reducible refine in_here ?_ | with_reducible refine in_other rfl ?_ | with_reducible refine then_goto ?_ | with_reducible refine in_goto ?_ | with_reducible refine jump_normal ?_ | with_reducible refine jump_ret ?_ | with_reducible refine jump_goto ?_
                  rw [if_neg k4, if_neg k5, if_neg k1, if_neg k2, if_neg k3] at hF
                  injection hF with hF
                  injection hF with h1 h2
                  subst h1 h2
                  repeat with_reducible refine wp_seq ?_
                  refine wp_ret ?_
                  repeat first | with_reducible refine in_normal ?_ | with_reducible refine then_normal ?_ | with_reducible refine then_ret ?_ | with_reducible refine in_ret ?_ | with_reducible refine then_exit ?_ | with_reducible refine in_here ?_ | with_reducible refine in_other rfl ?_ | with_reducible refine then_goto ?_ | with_reducible refine in_goto ?_ | with_reducible refine jump_normal ?_ | with_reducible refine jump_ret ?_ | with_reducible refine jump_goto ?_
                  refine fin_ret (vs := [.int .i64 (q : Int), .int .i64 (r : Int), .bool false]) hs (.tmp (hs.slots _ _ rfl) (.tmp (hs.slots _ _ rfl) (.tmp (hs.slots _ _ rfl) .nil))) ⟨p, q, r, A, c, rfl, ?_⟩
                  exact (((hs.mem.to 1 rfl).drop.to 1 rfl).to 1 rfl)
      · clear hs a w
        rintro a w ⟨p1, q1, r1, tk, h1, h2, h3, h4, hF, hs⟩
        repeat with_reducible refine wp_seq ?_
        refine b_enter [0] (by kernel_rfl) hs #[false, false, false, false, false, false, false, false, false, false, false] (by rfl) 11 (by rfl) ?_; clear hs; intro w hs
        refine b_take 0 rfl #[true, false, false, false, false, false, false, false, false, false, false] rfl (by kernel_rfl) hs ((hs.mem.first 1)) rfl rfl rfl (fun _ _ _ h => h) (y_move hs rfl) ?_; clear hs a; intro a hs
        refine b_take 1 rfl #[true, true, false, false, false, false, false, false, false, false, false] rfl (by kernel_rfl) hs ((hs.mem.first 1)) rfl rfl rfl (fun _ _ _ h => h) (y_move hs rfl) ?_; clear hs a; intro a hs
        refine b_take 2 rfl #[true, true, true, false, false, false, false, false, false, false, false] rfl (by kernel_rfl) hs ((hs.mem.first 1)) rfl rfl rfl (fun _ _ _ h => h) (y_nilchk hs rfl) ?_; clear hs a; intro a hs
        refine b_take 3 rfl #[true, true, true, true, false, false, false, false, false, false, false] rfl (by kernel_rfl) hs ((hs.mem.first 1)) rfl rfl rfl (fun _ _ _ h => h) (y_faddr (k' := 4) 4 hs (by kernel_rfl) rfl rfl) ?_; clear hs a; intro a hs
        refine b_take 5 rfl #[true, true, true, true, false, true, false, false, false, false, false] rfl (by kernel_rfl) hs ((hs.mem.first 1)) rfl rfl rfl (fun _ _ _ h => h) (y_loadPt 0 rfl hs Tryd.underlying34 rfl (by kernel_rfl) rfl) ?_; clear hs a; intro a hs
        refine b_eff2 4 6 (by kernel_rfl) rfl rfl #[true, true, true, true, true, true, false, false, false, false, false] #[true, true, true, true, false, true, true, false, false, false, false] rfl rfl hs rfl rfl (e_yield hs rfl rfl (y_load hs Tryd.underlying22 rfl rfl (fun w hw => (hw.to 1 rfl).cellV rfl)) ?_) (e_bslice (z := .agg #[.int .u8 0, .string ⟨#[]⟩, .int .i64 0, .int .i64 0, .int .i64 0]) (size := 5) (zc := #[.int .u8 0, .string ⟨#[]⟩, .int .i64 0, .int .i64 0, .int .i64 0]) (cl := [_, _, _, _, _]) hs rfl Tryd.underlying22 (by kernel_rfl) rfl rfl rfl (by kernel_rfl) (by rfl) rfl ?_)
        · clear hs a; intro a hs
          refine ⟨(hs.mem.first 1), ?_⟩
          refine b_eff 6 (by kernel_rfl) rfl #[true, true, true, true, true, true, true, false, false, false, false] rfl hs rfl (e_bslice (z := .agg #[.int .u8 0, .string ⟨#[]⟩, .int .i64 0, .int .i64 0, .int .i64 0]) (size := 5) (zc := #[.int .u8 0, .string ⟨#[]⟩, .int .i64 0, .int .i64 0, .int .i64 0]) (cl := [_, _, _, _, _]) hs rfl Tryd.underlying22 (by kernel_rfl) rfl rfl rfl (by kernel_rfl) (by rfl) rfl ?_); clear hs a; intro gn a w hs
          refine ⟨((hs.mem.to 1 rfl).first 1), ?_⟩
          refine b_eff 7 (by kernel_rfl) rfl #[true, true, true, true, true, true, true, true, false, false, false] rfl hs rfl (e_append (z := .agg #[.int .u8 0, .string ⟨#[]⟩, .int .i64 0, .int .i64 0, .int .i64 0]) (size := 5) (bytes := 48) 3 rfl 0 rfl hs rfl Tryd.underlying22 (by kernel_rfl) rfl rfl rfl rfl (news := tokC tk) rfl rfl rfl (by unfold maxLen; omega) (by omega) ?_); clear hs a; intro A2 c2 a w hs
          refine ⟨((hs.mem.to 2 rfl).first 1), ?_⟩
          refine b_take 8 rfl #[true, true, true, true, true, true, true, true, true, false, false] rfl (by kernel_rfl) hs (((hs.mem.to 2 rfl).first 1)) rfl rfl rfl (fun _ _ _ h => h) (y_nilchk hs rfl) ?_; clear hs a; intro a hs
          refine b_take 9 rfl #[true, true, true, true, true, true, true, true, true, true, false] rfl (by kernel_rfl) hs (((hs.mem.to 2 rfl).first 1)) rfl rfl rfl (fun _ _ _ h => h) (y_faddr (k' := 4) 4 hs (by kernel_rfl) rfl rfl) ?_; clear hs a; intro a hs
          refine b_eff 10 (by kernel_rfl) rfl #[true, true, true, true, true, true, true, true, true, true, true] rfl hs rfl (e_store (cl := [_, _, _, _, _]) 3 rfl hs rfl rfl (by kernel_rfl) rfl rfl rfl ?_); clear hs a; intro a w hs
          refine ⟨((hs.mem.to 3 rfl).first 1), ?_⟩
          refine b_done (by kernel_rfl) ?_
          repeat first | with_reducible refine in_normal ?_ | with_reducible refine then_normal ?_ | with_reducible refine then_ret ?_ | with_reducible refine in_ret ?_ | with_reducible refine then_exit ?_ | with_reducible refine in_here ?_ | with_reducible refine in_other rfl ?_ | with_reducible refine then_goto ?_ | with_reducible refine in_goto ?_ | with_reducible refine jump_normal ?_ | with_reducible refine jump_ret ?_ | with_reducible refine jump_goto ?_
          repeat with_reducible refine wp_seq ?_
          refine wp_goto ?_
          repeat first | with_reducible refine in_normal ?_ | with_reducible refine then_normal ?_ | with_reducible refine then_ret ?_ | with_reducible refine in_ret ?_ | with_reducible refine then_exit ?_ | with_reducible refine in_here ?_ | with_reducible refine in_other rfl ?_ | with_reducible refine then_goto ?_ | with_reducible refine in_goto ?_ | with_reducible refine jump_normal ?_ | with_reducible refine jump_ret ?_ | with_reducible refine jump_goto ?_
          refine ⟨m, by omega, p1, q1, r1, l ++ [tk], A2, c2, by omega, by omega, by omega, by simp; omega, hF, ?_⟩
          exact (hs.mem_to (snoc_mem ((((hs.mem.to 2 rfl).drop.to 2 rfl).drop.to 1 rfl).to 1 rfl))).cut _ ⟨rfl, trivial⟩
        · clear hs a; intro gn a w hs
          refine ⟨((hs.mem.to 1 rfl).first 1), ?_⟩
          refine b_eff 4 (by kernel_rfl) rfl #[true, true, true, true, true, true, true, false, false, false, false] rfl hs rfl (e_yield hs rfl rfl (y_load hs Tryd.underlying22 rfl rfl (fun w hw => (hw.to 2 rfl).cellV rfl)) ?_); clear hs a; intro a hs
          refine ⟨((hs.mem.to 1 rfl).first 1), ?_⟩
          refine b_eff 7 (by kernel_rfl) rfl #[true, true, true, true, true, true, true, true, false, false, false] rfl hs rfl (e_append (z := .agg #[.int .u8 0, .string ⟨#[]⟩, .int .i64 0, .int .i64 0, .int .i64 0]) (size := 5) (bytes := 48) 3 rfl 0 rfl hs rfl Tryd.underlying22 (by kernel_rfl) rfl rfl rfl rfl (news := tokC tk) rfl rfl rfl (by unfold maxLen; omega) (by omega) ?_); clear hs a; intro A2 c2 a w hs
          refine ⟨((hs.mem.to 2 rfl).first 1), ?_⟩
          refine b_take 8 rfl #[true, true, true, true, true, true, true, true, true, false, false] rfl (by kernel_rfl) hs (((hs.mem.to 2 rfl).first 1)) rfl rfl rfl (fun _ _ _ h => h) (y_nilchk hs rfl) ?_; clear hs a; intro a hs
          refine b_take 9 rfl #[true, true, true, true, true, true, true, true, true, true, false] rfl (by kernel_rfl) hs (((hs.mem.to 2 rfl).first 1)) rfl rfl rfl (fun _ _ _ h => h) (y_faddr (k' := 4) 4 hs (by kernel_rfl) rfl rfl) ?_; clear hs a; intro a hs
          refine b_eff 10 (by kernel_rfl) rfl #[true, true, true, true, true, true, true, true, true, true, true] rfl hs rfl (e_store (cl := [_, _, _, _, _]) 3 rfl hs rfl rfl (by kernel_rfl) rfl rfl rfl ?_); clear hs a; intro a w hs
          refine ⟨((hs.mem.to 3 rfl).first 1), ?_⟩
          refine b_done (by kernel_rfl) ?_
          repeat first | with_reducible refine in_normal ?_ | with_reducible refine then_normal ?_ | with_reducible refine then_ret ?_ | with_reducible refine in_ret ?_ | with_reducible refine then_exit ?_ | with_reducible refine in_here ?_ | with_reducible refine in_other rfl ?_ | with_reducible refine then_goto ?_ | with_reducible refine in_goto ?_ | with_reducible refine jump_normal ?_ | with_reducible refine jump_ret ?_ | with_reducible refine jump_goto ?_
          repeat with_reducible refine wp_seq ?_
          refine wp_goto ?_
          repeat first | with_reducible refine in_normal ?_ | with_reducible refine then_normal ?_ | with_reducible refine then_ret ?_ | with_reducible refine in_ret ?_ | with_reducible refine then_exit ?_ | with_reducible refine in_here ?_ | with_reducible refine in_other rfl ?_ | with_reducible refine then_goto ?_ | with_reducible refine in_goto ?_ | with_reducible refine jump_normal ?_ | with_reducible refine jump_ret ?_ | with_reducible refine jump_goto ?_
          refine ⟨m, by omega, p1, q1, r1, l ++ [tk], A2, c2, by omega, by omega, by omega, by simp; omega, hF, ?_⟩
          exact (hs.mem_to (snoc_mem ((((hs.mem.to 2 rfl).drop.to 2 rfl).drop.to 1 rfl).to 1 rfl))).cut _ ⟨rfl, trivial⟩
end Go.Proofs.YtbljojjacfmggaaDoor.E
