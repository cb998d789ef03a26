/- emit.Write, and the reference's: a program's bytes. Conditions: the numbers are of their kinds. -/
import Derived.Test.YtpdemfnemkmelaaDoorMay
import Derived.Test.YtpdemfnemkmelaaDoorPAM0
namespace Go.Proofs.YtpdemfnemkmelaaDoor.E
open Go Go.RowKit Go.Proofs.YtpdemfnemkmelaaDoorW.PrintWords Go.Proofs.YtpdemfnemkmelaaDoorW.PrintLast Go.Proofs.YtpdemfnemkmelaaDoorW.PrintMore Go.Proofs.YtpdemfnemkmelaaDoor.PA Go.Proofs.YtpdemfnemkmelaaDoor.Num
set_option linter.unusedVariables false
set_option linter.unusedSimpArgs false
set_option maxRecDepth 100000 in
theorem wire_numH (n : Nat) (hn : n ≤ 9223372036854775807) (hl : (numL n).length ≤ 100) (v0 : World) :
    Calls Tryd.prog 51 #[.int .i64 ((n : Nat) : Int)] v0 fun e w' => ∃ A c, e = .returned (.slice A (numL n).length c) ∧ H v0 [row 5 1 (.slice A (numL n).length c) (numL n).length ((numL n).flatMap encU)] w' := by
  refine calls_enter (N := 19) (n := 18) (args := [.int .i64 ((n : Nat) : Int)]) Tryd.func51 rfl rfl rfl (H.init v0) (fun a hs => ?_)
  refine wp_seq ?_
  refine wp_region_lit ?_
  refine a_val hs rfl rfl rfl (y_assign hs rfl) ?_; clear hs a; intro a hs
  refine wpList_nil (then_normal ?_)
  refine wp_seq ?_
  refine wp_region_lit ?_
  refine a_val hs rfl rfl rfl (y_assign hs rfl) ?_; clear hs a; intro a hs
  refine wpList_nil (then_normal ?_)
  refine wp_seq ?_
  refine wp_block ?_
  refine wp_loopN (fun m a w1 => ∃ (x : Nat) (acc : List Int) (A : Option Addr) (c : Nat), (m = x) ∧ (x ≤ 9223372036854775807 ∧ acc.length ≤ 100 ∧ acc.length + (numL x).length = (numL n).length) ∧ (acc ++ numL x = numL n) ∧ St 19 v0 [(0, .int .i64 ((x : Nat) : Int)), (3, .slice A (acc).length c)] [row 5 1 (.slice A (acc).length c) (acc).length ((acc).flatMap encU)] a w1) (n) ⟨n, [], none, 0, rfl, by have := numL_pos n; simp; omega, by simp, ?_⟩ (fun m a w1 hJ => ?_)
  · exact (hs.mem_to (hs.mem.nilRow 5 1)).cut _ ⟨rfl, rfl, trivial⟩
  · clear hs
    obtain ⟨x, acc, A, c, hm, hx, hinv, hs⟩ := hJ
    refine wp_seq ?_
    refine wp_seq ?_
    refine wp_region_lit ?_
    refine a_val hs rfl rfl rfl (y_move hs rfl) ?_; clear hs a; intro a hs
    refine a_val hs rfl rfl rfl (y_cmp hs rfl rfl rfl) ?_; clear hs a; intro a hs
    refine wpList_nil (then_normal ?_)
    refine wp_cond_split (hs.ev rfl) (fun h5 => ?_) (fun h5 => ?_)
    · replace h5 := of_decide_eq_true h5
      refine wp_skip (then_normal ?_)
      refine wp_block ?_
      refine wp_seq ?_
      refine wp_region_lit ?_
      refine a_val hs rfl rfl rfl (y_move hs rfl) ?_; clear hs a; intro a hs
      refine a_val hs rfl rfl rfl (y_move hs rfl) ?_; clear hs a; intro a hs
      refine a_val hs rfl rfl rfl (y_conv hs Tryd.underlying3 Tryd.underlying5 rfl) ?_; clear hs a; intro a hs
      refine a_val hs rfl rfl rfl (y_bin (q := ((x % 128 + 128 : Nat) : Int)) hs rfl rfl (by rw [bin_or, IntKind.wrap_u8, bits_top])) ?_; clear hs a; intro a hs
      refine a_eff rfl (e_bslice (z := .int .u8 0) (size := 1) (zc := #[.int .u8 0]) (cl := [_]) hs rfl Tryd.underlying27 (by kernel_rfl) rfl rfl rfl (by kernel_rfl) (by rfl) rfl ?_); clear hs a; intro gl a w hs
      refine a_eff rfl (e_appL (z := .int .u8 0) (size := 1) (bytes := 1) encU (acc) ([((x % 128 + 128 : Nat) : Int)]) 1 rfl 0 rfl hs rfl Tryd.underlying27 (by kernel_rfl) rfl rfl (fun _ => rfl) rfl rfl rfl rfl (oneU _) (by unfold maxLen; simp only [List.length_cons, List.length_nil]; omega) (by simp only [List.length_cons, List.length_nil]; omega) ?_); clear hs a; intro A2 c2 a w hs
      refine a_val hs rfl rfl rfl (y_assign hs rfl) ?_; clear hs a; intro a hs
      refine wpList_nil (then_normal ?_)
      refine wp_region_lit ?_
      refine a_val hs rfl rfl rfl (y_move hs rfl) ?_; clear hs a; intro a hs
      refine a_val hs rfl rfl rfl (y_shift (q := ((x / 128 : Nat) : Int)) hs rfl rfl (by rw [show (7 : Int) = ((7 : Nat) : Int) from rfl, shr_div _ _ 7 (by decide)]; congr 1)) ?_; clear hs a; intro a hs
      refine a_val hs rfl rfl rfl (y_assign hs rfl) ?_; clear hs a; intro a hs
      refine wpList_nil (in_normal (then_normal ?_))
      refine ⟨x / 128, by omega, x / 128, acc ++ [((x % 128 + 128 : Nat) : Int)], A2, c2, rfl, by rw [numL_big (by omega), List.length_cons] at hx; rw [List.length_append, List.length_singleton]; have := numL_pos n; omega, by rw [numL_big (by omega)] at hinv; rw [List.append_assoc]; exact hinv, ?_⟩
      exact (hs.mem_to (hs.mem.to 1 rfl).drop).cut _ ⟨rfl, rfl, trivial⟩
    · replace h5 := of_decide_eq_false h5
      refine wp_exit (then_exit (then_exit (in_here (then_normal ?_))))
      refine wp_seq ?_
      refine wp_region_lit ?_
      refine a_val hs rfl rfl rfl (y_move hs rfl) ?_; clear hs a; intro a hs
      refine a_val hs rfl rfl rfl (y_move hs rfl) ?_; clear hs a; intro a hs
      refine a_val hs rfl rfl rfl (y_conv hs Tryd.underlying3 Tryd.underlying5 rfl) ?_; clear hs a; intro a hs
      replace hs := hs.say 16 rfl (congrArg (Value.int IntKind.u8) (u8_in (n := (x : Int)) (by omega)))
      refine a_eff rfl (e_bslice (z := .int .u8 0) (size := 1) (zc := #[.int .u8 0]) (cl := [_]) hs rfl Tryd.underlying27 (by kernel_rfl) rfl rfl rfl (by kernel_rfl) (by rfl) rfl ?_); clear hs a; intro gl a w hs
      refine a_eff rfl (e_appL (z := .int .u8 0) (size := 1) (bytes := 1) encU (acc) ([((x : Nat) : Int)]) 1 rfl 0 rfl hs rfl Tryd.underlying27 (by kernel_rfl) rfl rfl (fun _ => rfl) rfl rfl rfl rfl (oneU _) (by unfold maxLen; simp only [List.length_cons, List.length_nil]; omega) (by simp only [List.length_cons, List.length_nil]; omega) ?_); clear hs a; intro A2 c2 a w hs
      refine a_val hs rfl rfl rfl (y_assign hs rfl) ?_; clear hs a; intro a hs
      refine wpList_nil (then_normal ?_)
      refine wp_ret ?_
      have e0 : acc ++ [((x : Nat) : Int)] = numL n := by rw [numL_small (by omega)] at hinv; exact hinv
      rw [e0] at hs
      refine fin_ret hs (.tmp (hs.slots _ _ rfl) .nil) ⟨A2, c2, rfl, (hs.mem.to 1 rfl).drop⟩

theorem numL_short2 {n : Nat} (hn : n ≤ 9223372036854775807) : (numL n).length ≤ 100 := by
  have h := numL_length 8 n (by omega)
  omega

set_option maxRecDepth 100000 in
theorem wire_NumH (n : Nat) (hn : n ≤ 9223372036854775807) (v0 : World) :
    Calls Tryd.prog 27 #[.int .i64 ((n : Nat) : Int)] v0 fun e w' => ∃ A c, e = .returned (.tuple #[.slice A (numL n).length c, .int .i64 0]) ∧ H v0 [row 5 1 (.slice A (numL n).length c) (numL n).length ((numL n).flatMap encU)] w' := by
  refine calls_enter (N := 8) (n := 7) (args := [.int .i64 ((n : Nat) : Int)]) Tryd.func27 rfl rfl rfl (H.init v0) (fun a hs => ?_)
  refine wp_seq ?_
  refine wp_region_lit ?_
  refine a_val hs rfl rfl rfl (y_assign hs rfl) ?_; clear hs a; intro a hs
  refine a_val hs rfl rfl rfl (y_assign hs rfl) ?_; clear hs a; intro a hs
  refine wpList_nil (then_normal ?_)
  refine wp_seq ?_
  refine wp_seq ?_
  refine wp_region_lit ?_
  refine a_val hs rfl rfl rfl (y_move hs rfl) ?_; clear hs a; intro a hs
  refine a_val hs rfl rfl rfl (y_cmp (b := false) hs rfl rfl (congrArg some (decide_eq_false (by omega)))) ?_; clear hs a; intro a hs
  refine wpList_nil (then_normal ?_)
  refine wp_cond_false (hs.ev rfl) ?_
  refine wp_skip (then_normal ?_)
  refine wp_seq ?_
  refine wp_region_lit ?_
  refine a_val hs rfl rfl rfl (y_move hs rfl) ?_; clear hs a; intro a hs
  refine a_eff rfl (e_callX Tryd.func51 rfl rfl hs rfl rfl (wire_numH n (by omega) (numL_short2 hn) _) (fun e w1 ⟨A, c, he, hm⟩ => ⟨_, he, _, hs.mem.more hm, ?_⟩)); clear hs a; intro a hs
  refine a_val hs rfl rfl rfl (y_assign hs rfl) ?_; clear hs a; intro a hs
  refine a_val hs rfl rfl rfl (y_assign hs rfl) ?_; clear hs a; intro a hs
  refine wpList_nil (then_normal ?_)
  refine wp_ret ?_
  refine fin_ret hs (.tmp (hs.slots _ _ rfl) (.tmp (hs.slots _ _ rfl) .nil)) ⟨A, c, rfl, hs.mem⟩

set_option maxRecDepth 100000 in
theorem write_put (n : Nat) (hn : n ≤ 9223372036854775807) (gb : Nat) (acc : List Int) (ha : acc.length ≤ 1000000) (A : Option Addr) (c : Nat) (bs : List Res) (w0 v0 : World) (h : H w0 (pt gb #[.slice A (acc).length c] 27 :: row 5 1 (.slice A (acc).length c) (acc).length ((acc).flatMap encU) :: bs) v0) :
    Calls Tryd.prog 26 #[.int .i64 ((n : Nat) : Int), .pointer (some ⟨gb, 0, none⟩)] v0 fun e w' => ∃ A' c', e = .returned (.tuple #[]) ∧ H w0 (pt gb #[.slice A' (acc ++ numL n).length c'] 27 :: row 5 1 (.slice A' (acc ++ numL n).length c') (acc ++ numL n).length ((acc ++ numL n).flatMap encU) :: bs) w' := by
  refine calls_enter (N := 13) (n := 11) (args := [.int .i64 ((n : Nat) : Int), .pointer (some ⟨gb, 0, none⟩)]) Tryd.func26 rfl rfl rfl (h) (fun a hs => ?_)
  refine wp_seq ?_
  refine wp_region_lit ?_
  refine a_val hs rfl rfl rfl (y_move hs rfl) ?_; clear hs a; intro a hs
  refine a_eff rfl (e_callX Tryd.func27 rfl rfl hs rfl rfl (wire_NumH n hn _) (fun e w1 ⟨A1, c1, he, hm⟩ => ⟨_, he, _, hs.mem.more hm, ?_⟩)); clear hs a; intro a hs
  refine a_val hs rfl rfl rfl (y_move hs rfl) ?_; clear hs a; intro a hs
  refine a_val hs rfl rfl rfl (y_extract hs rfl rfl) ?_; clear hs a; intro a hs
  refine a_val hs rfl rfl rfl (y_extract hs rfl rfl) ?_; clear hs a; intro a hs
  refine a_val hs rfl rfl rfl (y_assign hs rfl) ?_; clear hs a; intro a hs
  refine a_val hs rfl rfl rfl (y_assign hs rfl) ?_; clear hs a; intro a hs
  refine wpList_nil (then_normal ?_)
  refine wp_region_lit ?_
  refine a_val hs rfl rfl rfl (y_load hs Tryd.underlying27 rfl rfl (fun w hw => (hw.to 1 rfl).cellV rfl)) ?_; clear hs a; intro a hs
  refine a_val hs rfl rfl rfl (y_move hs rfl) ?_; clear hs a; intro a hs
  refine a_eff rfl (e_appR (z := .int .u8 0) (size := 1) (bytes := 1) encU (acc) (numL n) 2 rfl 0 rfl hs rfl Tryd.underlying27 (by kernel_rfl) rfl rfl (fun _ => rfl) rfl rfl (numL_pos n) (oneU _) (by unfold maxLen; have := numL_length 8 n (by omega); omega) (by have := numL_length 8 n (by omega); omega) ?_); clear hs a; intro A2 c2 a w hs
  refine a_eff rfl (e_store (cl := [_]) 2 rfl hs rfl rfl (by kernel_rfl) rfl rfl rfl ?_); clear hs a; intro a w hs
  refine wpList_nil ?_
  refine fin_end (vs := []) hs .nil ⟨A2, c2, rfl, (((hs.mem.to 2 rfl).drop.to 1 rfl).to 1 rfl)⟩

theorem accLen (l : List Stp) (regs outs reads : Int) (i : Nat) (h : 0 ≤ regs ∧ regs ≤ 256 ∧ 0 ≤ outs ∧ outs ≤ 64 ∧ l.length ≤ 65536) : (numL regs.toNat ++ numL outs.toNat ++ be8 reads ++ numL l.length ++ (l.take i).flatMap stepL).length ≤ 300000 := by
  have hn1 := numL_length 8 regs.toNat (by omega)
  have hn2 := numL_length 8 outs.toNat (by omega)
  have hn3 := numL_length 8 l.length (by omega)
  have h4 : ∀ r : List Stp, (r.flatMap stepL).length ≤ 4 * r.length := by
    intro r
    induction r with
    | nil => simp
    | cons s r ih => rw [List.flatMap_cons, List.length_append, List.length_cons]; have := stepL_len s; omega
  have h5 := h4 (l.take i)
  rw [List.length_take] at h5
  simp only [List.length_append, be8_len]
  omega
theorem flat_next {l : List Stp} {i q : Nat} {s : Stp} (X : List Int) (hs : l[i]? = some s) (hq : fldN s.f0 ≤ q) : X ++ (l.take i).flatMap stepL ++ [s.f0] ++ (fieldsL s).take q = X ++ (l.take (i + 1)).flatMap stepL := by
  have e : (fieldsL s).take q = fieldsL s := List.take_of_length_le (by rw [fieldsL_len]; exact hq)
  rw [List.take_add_one, hs, List.flatMap_append, e]
  simp [stepL]

set_option maxRecDepth 100000 in
theorem emit_Write (A : Option Addr) (c : Nat) (l : List Stp) (regs outs reads : Int) (v0 : World) (hA : Kd.C k47 v0 A l.length l) (hg : ∀ s ∈ l, 0 ≤ s.f0 ∧ 0 ≤ s.f3 ∧ s.f3 ≤ 255) :
    Calls Tryd.prog 10 #[.agg #[.slice A l.length c, .int .i64 regs, .int .i64 outs, .int .u64 reads]] v0 fun e w' => (okProg l regs outs = false ∧ e = .returned (.tuple #[.slice none 0 0, .int .i64 2]) ∧ Below v0.heap.size v0 w') ∨ (okProg l regs outs = true ∧ ∃ A c, e = .returned (.tuple #[.slice A (writeL l regs outs reads).length c, .int .i64 0]) ∧ H v0 [row 5 1 (.slice A (writeL l regs outs reads).length c) (writeL l regs outs reads).length ((writeL l regs outs reads).flatMap encU)] w') := by
  refine calls_enter (N := 68) (n := 67) (args := [.agg #[.slice A l.length c, .int .i64 regs, .int .i64 outs, .int .u64 reads]]) Tryd.func10 rfl rfl rfl (H.init v0) (fun a hs => ?_)
  refine wp_seq ?_
  refine wp_region_lit ?_
  refine a_eff rfl (e_box (cs := #[_, _, _, _]) hs rfl rfl rfl ?_); clear hs a; intro gp a w hs
  refine a_val hs rfl rfl rfl (y_assign hs rfl) ?_; clear hs a; intro a hs
  refine a_val hs rfl rfl rfl (y_assign hs rfl) ?_; clear hs a; intro a hs
  refine wpList_nil (then_normal ?_)
  refine wp_seq ?_
  refine wp_seq ?_
  refine wp_region_lit ?_
  refine a_val hs rfl rfl rfl (y_loadPt 0 rfl hs Tryd.underlying26 rfl (by kernel_rfl) rfl) ?_; clear hs a; intro a hs
  refine a_eff rfl (e_callB Tryd.func25 rfl rfl hs rfl rfl (emit_may A c l regs outs reads _ (Kd.C_below hA hs.mem.base) hg) ?_); clear hs a; intro a w hs
  refine a_val hs rfl rfl rfl (y_not hs rfl) ?_; clear hs a; intro a hs
  refine wpList_nil (then_normal ?_)
  refine wp_cond_split (hs.ev rfl) (fun h13 => ?_) (fun h13 => ?_)
  · replace h13 := (not_t h13)
    have hok : okProg l regs outs = false := h13
    refine wp_seq ?_
    refine wp_region_lit ?_
    refine a_val hs rfl rfl rfl (y_assign hs rfl) ?_; clear hs a; intro a hs
    refine a_val hs rfl rfl rfl (y_assign hs rfl) ?_; clear hs a; intro a hs
    refine wpList_nil (then_normal ?_)
    refine wp_ret (then_ret ?_)
    refine fin_ret hs (.tmp (hs.slots _ _ rfl) (.tmp (hs.slots _ _ rfl) .nil)) (.inl ⟨hok, rfl, hs.mem.base⟩)
  · replace h13 := (not_f h13)
    have hok' := h13
    obtain ⟨hok, hall⟩ := okProg_yes h13
    have hn1 := numL_length 8 regs.toNat (by omega)
    have hn2 := numL_length 8 outs.toNat (by omega)
    have hn3 := numL_length 8 l.length (by omega)
    refine wp_skip (then_normal ?_)
    refine wp_seq ?_
    refine wp_region_lit ?_
    refine a_eff rfl (e_alloc (z := .slice none 0 0) (cs := #[.slice none 0 0]) hs rfl (by kernel_rfl) rfl ?_); clear hs a; intro gb a w hs
    refine wpList_nil (then_normal ?_)
    refine wp_seq ?_
    refine wp_region_lit ?_
    refine a_val hs rfl rfl rfl (y_func hs rfl rfl) ?_; clear hs a; intro a hs
    refine a_val hs rfl rfl rfl (y_assign hs rfl) ?_; clear hs a; intro a hs
    refine wpList_nil (then_normal ?_)
    refine wp_seq ?_
    replace hs := hs.mem_to ((hs.mem.nilRow 5 1).to 1 rfl)
    refine wp_region_lit ?_
    refine a_val hs rfl rfl rfl (y_move hs rfl) ?_; clear hs a; intro a hs
    refine a_val hs rfl rfl rfl (y_faddr (k' := 1) 1 hs (by kernel_rfl) rfl rfl) ?_; clear hs a; intro a hs
    refine a_val hs rfl rfl rfl (y_load hs Tryd.underlying3 rfl rfl (fun w hw => (hw.to 2 rfl).cellV rfl)) ?_; clear hs a; intro a hs
    replace hs := hs.say 17 rfl (show Value.int .i64 regs = .int .i64 ((regs.toNat : Nat) : Int) by congr 1; omega)
    refine a_eff rfl (e_callF Tryd.func26 rfl rfl hs rfl rfl rfl (write_put (regs.toNat) (by omega) gb ([]) (by simp) none 0 _ v0 _ ((hs.mem.to 1 rfl).to 1 rfl)) (fun e w1 ⟨A1, c1, he, hm⟩ => ⟨_, he, _, hm, ?_⟩)); clear hs a; intro a hs
    refine wpList_nil (then_normal ?_)
    refine wp_seq ?_
    refine wp_region_lit ?_
    refine a_val hs rfl rfl rfl (y_move hs rfl) ?_; clear hs a; intro a hs
    refine a_val hs rfl rfl rfl (y_faddr (k' := 2) 2 hs (by kernel_rfl) rfl rfl) ?_; clear hs a; intro a hs
    refine a_val hs rfl rfl rfl (y_load hs Tryd.underlying3 rfl rfl (fun w hw => (hw.to 2 rfl).cellV rfl)) ?_; clear hs a; intro a hs
    replace hs := hs.say 21 rfl (show Value.int .i64 outs = .int .i64 ((outs.toNat : Nat) : Int) by congr 1; omega)
    refine a_eff rfl (e_callF Tryd.func26 rfl rfl hs rfl rfl rfl (write_put (outs.toNat) (by omega) gb (numL regs.toNat) (by omega) A1 c1 _ v0 _ ((hs.mem.to 1 rfl).to 1 rfl)) (fun e w1 ⟨A2, c2, he, hm⟩ => ⟨_, he, _, hm, ?_⟩)); clear hs a; intro a hs
    refine wpList_nil (then_normal ?_)
    refine wp_seq ?_
    refine wp_seq ?_
    refine wp_region_lit ?_
    refine a_val hs rfl rfl rfl (y_assign hs rfl) ?_; clear hs a; intro a hs
    refine wpList_nil (then_normal ?_)
    refine wp_block ?_
    refine wp_loopN (fun m a w1 => ∃ (j : Nat) (A3 : Option Addr) (c3 : Nat), (j + m = 8) ∧ St 68 v0 [(1, .pointer (some ⟨gp, 0, none⟩)), (4, .pointer (some ⟨gb, 0, none⟩)), (5, .func (.func 26) #[] #[.pointer (some ⟨gb, 0, none⟩)]), (6, .int .i64 (7 - (j : Int)))] [pt gb #[.slice A3 (((numL regs.toNat ++ numL outs.toNat) ++ (be8 reads).take j)).length c3] 27, row 5 1 (.slice A3 (((numL regs.toNat ++ numL outs.toNat) ++ (be8 reads).take j)).length c3) (((numL regs.toNat ++ numL outs.toNat) ++ (be8 reads).take j)).length ((((numL regs.toNat ++ numL outs.toNat) ++ (be8 reads).take j)).flatMap encU), pt gp #[.slice A l.length c, .int .i64 regs, .int .i64 outs, .int .u64 reads] 26] a w1) (8) ⟨0, A2, c2, rfl, ?_⟩ (fun m a w1 hJ => ?_)
    · have e0 : (numL regs.toNat ++ numL outs.toNat) = (numL regs.toNat ++ numL outs.toNat) ++ (be8 reads).take 0 := by simp
      rw [e0] at hs
      exact (hs.mem_to (((hs.mem.to 2 rfl).to 2 rfl).to 2 rfl)).cut _ ⟨rfl, rfl, rfl, rfl, trivial⟩
    · clear hs
      obtain ⟨j, A3, c3, hj, hs⟩ := hJ
      refine wp_seq ?_
      refine wp_seq ?_
      refine wp_region_lit ?_
      refine a_val hs rfl rfl rfl (y_move hs rfl) ?_; clear hs a; intro a hs
      refine a_val hs rfl rfl rfl (y_cmp hs rfl rfl rfl) ?_; clear hs a; intro a hs
      refine wpList_nil (then_normal ?_)
      refine wp_cond_split (hs.ev rfl) (fun h24 => ?_) (fun h24 => ?_)
      · replace h24 := of_decide_eq_true h24
        refine wp_skip (then_normal ?_)
        refine wp_seq ?_
        refine wp_block ?_
        refine b_enter [2] (by kernel_rfl) hs #[false, false, false, false, false, false, false, false, false, false] (by rfl) 10 (by rfl) ?_; clear hs; intro w hs
        refine b_take 1 rfl #[false, true, false, false, false, false, false, false, false, false] rfl (by kernel_rfl) hs (((hs.mem.to 2 rfl).first 1)) rfl rfl rfl (fun _ _ _ h => h) (y_faddr (k' := 3) 3 hs (by kernel_rfl) rfl rfl) ?_; clear hs a; intro a hs
        refine b_take 2 rfl #[false, true, true, false, false, false, false, false, false, false] rfl (by kernel_rfl) hs (((hs.mem.to 2 rfl).first 1)) rfl rfl rfl (fun _ _ _ h => h) (y_load hs Tryd.underlying24 rfl rfl (fun w hw => (hw.to 0 rfl).cellV rfl)) ?_; clear hs a; intro a hs
        refine b_take 3 rfl #[false, true, true, true, false, false, false, false, false, false] rfl (by kernel_rfl) hs (((hs.mem.to 2 rfl).first 1)) rfl rfl rfl (fun _ _ _ h => h) (y_move hs rfl) ?_; clear hs a; intro a hs
        refine b_take 4 rfl #[false, true, true, true, true, false, false, false, false, false] rfl (by kernel_rfl) hs (((hs.mem.to 2 rfl).first 1)) rfl rfl rfl (fun _ _ _ h => h) (y_arith (q := ((56 - 8 * j : Nat) : Int)) hs rfl rfl (by simp only [arith]; congr 1; rw [i64_nat (by omega)]; omega)) ?_; clear hs a; intro a hs
        refine b_take 5 rfl #[false, true, true, true, true, true, false, false, false, false] rfl (by kernel_rfl) hs (((hs.mem.to 2 rfl).first 1)) rfl rfl rfl (fun _ _ _ h => h) (y_shift (q := reads / 2 ^ (56 - 8 * j)) hs rfl rfl (shr_div _ _ _ (by have : IntKind.u64.bits = 64 := rfl; omega))) ?_; clear hs a; intro a hs
        refine b_take 6 rfl #[false, true, true, true, true, true, true, false, false, false] rfl (by kernel_rfl) hs (((hs.mem.to 2 rfl).first 1)) rfl rfl rfl (fun _ _ _ h => h) (y_conv hs Tryd.underlying23 Tryd.underlying5 rfl) ?_; clear hs a; intro a hs
        try replace hs := hs.say 33 rfl (congrArg (Value.int IntKind.u8) (IntKind.wrap_u8 _))
        refine b_eff2 0 7 (by kernel_rfl) rfl rfl #[true, true, true, true, true, true, true, false, false, false] #[false, true, true, true, true, true, true, true, false, false] rfl rfl hs rfl rfl (e_yield hs rfl rfl (y_load hs Tryd.underlying27 rfl rfl (fun w hw => (hw.to 0 rfl).cellV rfl)) ?_) (e_bslice (z := .int .u8 0) (size := 1) (zc := #[.int .u8 0]) (cl := [_]) hs rfl Tryd.underlying27 (by kernel_rfl) rfl rfl rfl (by kernel_rfl) (by rfl) rfl ?_)
        · clear hs a; intro a hs
          refine ⟨((hs.mem.to 2 rfl).first 1), ?_⟩
          try replace hs := hs.say 33 rfl (congrArg (Value.int IntKind.u8) (IntKind.wrap_u8 _))
          refine b_eff 7 (by kernel_rfl) rfl #[true, true, true, true, true, true, true, true, false, false] rfl hs rfl (e_bslice (z := .int .u8 0) (size := 1) (zc := #[.int .u8 0]) (cl := [_]) hs rfl Tryd.underlying27 (by kernel_rfl) rfl rfl rfl (by kernel_rfl) (by rfl) rfl ?_); clear hs a; intro gl a w hs
          refine ⟨((hs.mem.to 3 rfl).first 1), ?_⟩
          have hb8 := be8_len reads
          have hn1 := numL_length 8 regs.toNat (by omega)
          have hn2 := numL_length 8 outs.toNat (by omega)
          refine b_eff 8 (by kernel_rfl) rfl #[true, true, true, true, true, true, true, true, true, false] rfl hs rfl (e_appL (z := .int .u8 0) (size := 1) (bytes := 1) encU (((numL regs.toNat ++ numL outs.toNat) ++ (be8 reads).take j)) ([reads / 2 ^ (56 - 8 * j) % 256]) 2 rfl 0 rfl hs rfl Tryd.underlying27 (by kernel_rfl) rfl rfl (fun _ => rfl) rfl rfl rfl rfl (oneU _) (by unfold maxLen; simp only [List.length_cons, List.length_nil]; simp only [List.length_append, List.length_take]; omega) (by simp only [List.length_cons, List.length_nil]; simp only [List.length_append, List.length_take]; omega) ?_); clear hs a; intro A5 c5 a w hs
          rw [List.append_assoc (numL regs.toNat ++ numL outs.toNat), be8_snoc reads (show j < 8 by omega)] at hs
          refine ⟨((hs.mem.to 3 rfl).first 1), ?_⟩
          refine b_eff 9 (by kernel_rfl) rfl #[true, true, true, true, true, true, true, true, true, true] rfl hs rfl (e_store (cl := [_]) 2 rfl hs rfl rfl (by kernel_rfl) rfl rfl rfl ?_); clear hs a; intro a w hs
          refine ⟨((hs.mem.to 3 rfl).first 1), ?_⟩
          refine b_done (by kernel_rfl) (in_normal (then_normal ?_))
          refine wp_region_lit ?_
          refine a_val hs rfl rfl rfl (y_move hs rfl) ?_; clear hs a; intro a hs
          refine a_val hs rfl rfl rfl (y_sub hs rfl rfl (by omega)) ?_; clear hs a; intro a hs
          refine a_val hs rfl rfl rfl (y_assign hs rfl) ?_; clear hs a; intro a hs
          refine wpList_nil (then_normal ?_)
          have e0 : (7 : Int) - (j : Int) - 1 = 7 - ((j + 1 : Nat) : Int) := by omega
          rw [e0] at hs
          refine ⟨m - 1, by omega, j + 1, A5, c5, by omega, ?_⟩
          exact (hs.mem_to ((((hs.mem.to 2 rfl).drop.to 2 rfl).to 2 rfl).to 2 rfl)).cut _ ⟨rfl, rfl, rfl, rfl, trivial⟩
        · clear hs a; intro gl a w hs
          refine ⟨((hs.mem.to 3 rfl).first 1), ?_⟩
          refine b_eff 0 (by kernel_rfl) rfl #[true, true, true, true, true, true, true, true, false, false] rfl hs rfl (e_yield hs rfl rfl (y_load hs Tryd.underlying27 rfl rfl (fun w hw => (hw.to 1 rfl).cellV rfl)) ?_); clear hs a; intro a hs
          refine ⟨((hs.mem.to 3 rfl).first 1), ?_⟩
          have hb8 := be8_len reads
          have hn1 := numL_length 8 regs.toNat (by omega)
          have hn2 := numL_length 8 outs.toNat (by omega)
          refine b_eff 8 (by kernel_rfl) rfl #[true, true, true, true, true, true, true, true, true, false] rfl hs rfl (e_appL (z := .int .u8 0) (size := 1) (bytes := 1) encU (((numL regs.toNat ++ numL outs.toNat) ++ (be8 reads).take j)) ([reads / 2 ^ (56 - 8 * j) % 256]) 2 rfl 0 rfl hs rfl Tryd.underlying27 (by kernel_rfl) rfl rfl (fun _ => rfl) rfl rfl rfl rfl (oneU _) (by unfold maxLen; simp only [List.length_cons, List.length_nil]; simp only [List.length_append, List.length_take]; omega) (by simp only [List.length_cons, List.length_nil]; simp only [List.length_append, List.length_take]; omega) ?_); clear hs a; intro A5 c5 a w hs
          rw [List.append_assoc (numL regs.toNat ++ numL outs.toNat), be8_snoc reads (show j < 8 by omega)] at hs
          refine ⟨((hs.mem.to 3 rfl).first 1), ?_⟩
          refine b_eff 9 (by kernel_rfl) rfl #[true, true, true, true, true, true, true, true, true, true] rfl hs rfl (e_store (cl := [_]) 2 rfl hs rfl rfl (by kernel_rfl) rfl rfl rfl ?_); clear hs a; intro a w hs
          refine ⟨((hs.mem.to 3 rfl).first 1), ?_⟩
          refine b_done (by kernel_rfl) (in_normal (then_normal ?_))
          refine wp_region_lit ?_
          refine a_val hs rfl rfl rfl (y_move hs rfl) ?_; clear hs a; intro a hs
          refine a_val hs rfl rfl rfl (y_sub hs rfl rfl (by omega)) ?_; clear hs a; intro a hs
          refine a_val hs rfl rfl rfl (y_assign hs rfl) ?_; clear hs a; intro a hs
          refine wpList_nil (then_normal ?_)
          have e0 : (7 : Int) - (j : Int) - 1 = 7 - ((j + 1 : Nat) : Int) := by omega
          rw [e0] at hs
          refine ⟨m - 1, by omega, j + 1, A5, c5, by omega, ?_⟩
          exact (hs.mem_to ((((hs.mem.to 2 rfl).drop.to 2 rfl).to 2 rfl).to 2 rfl)).cut _ ⟨rfl, rfl, rfl, rfl, trivial⟩
      · replace h24 := of_decide_eq_false h24
        obtain rfl : j = 8 := by omega
        rw [List.take_of_length_le (l := be8 reads) (by rw [be8_len]; omega)] at hs
        refine wp_exit (then_exit (then_exit (in_here (then_normal ?_))))
        refine wp_seq ?_
        refine wp_region_lit ?_
        refine a_val hs rfl rfl rfl (y_move hs rfl) ?_; clear hs a; intro a hs
        refine a_val hs rfl rfl rfl (y_faddr (k' := 0) 0 hs (by kernel_rfl) rfl rfl) ?_; clear hs a; intro a hs
        refine a_val hs rfl rfl rfl (y_load hs Tryd.underlying22 rfl rfl (fun w hw => (hw.to 2 rfl).cellV rfl)) ?_; clear hs a; intro a hs
        refine a_val hs rfl rfl rfl (y_lenL hs Tryd.underlying22 rfl) ?_; clear hs a; intro a hs
        refine a_eff rfl (e_callF Tryd.func26 rfl rfl hs rfl rfl rfl (write_put (l.length) (by omega) gb (((numL regs.toNat ++ numL outs.toNat) ++ be8 reads)) (by simp only [List.length_append, be8_len]; omega) A3 c3 _ v0 _ ((hs.mem.to 1 rfl).to 1 rfl)) (fun e w1 ⟨A4, c4, he, hm⟩ => ⟨_, he, _, hm, ?_⟩)); clear hs a; intro a hs
        refine wpList_nil (then_normal ?_)
        refine wp_seq ?_
        refine wp_seq ?_
        refine wp_region_lit ?_
        refine a_val hs rfl rfl rfl (y_faddr (k' := 0) 0 hs (by kernel_rfl) rfl rfl) ?_; clear hs a; intro a hs
        refine a_val hs rfl rfl rfl (y_load hs Tryd.underlying22 rfl rfl (fun w hw => (hw.to 2 rfl).cellV rfl)) ?_; clear hs a; intro a hs
        refine a_val hs rfl rfl rfl (y_lenL hs Tryd.underlying22 rfl) ?_; clear hs a; intro a hs
        refine a_val hs rfl rfl rfl (y_move hs rfl) ?_; clear hs a; intro a hs
        refine wpList_nil (then_normal ?_)
        refine wp_block ?_
        refine wp_loopN (fun m a w1 => ∃ (i : Nat) (A5 : Option Addr) (c5 : Nat), (i + m = l.length) ∧ St 68 v0 [(4, .pointer (some ⟨gb, 0, none⟩)), (42, .slice A l.length c), (43, .int .i64 (l.length : Int)), (44, .int .i64 ((i : Nat) : Int))] [pt gb #[.slice A5 ((((numL regs.toNat ++ numL outs.toNat) ++ be8 reads ++ numL l.length) ++ (l.take i).flatMap stepL)).length c5] 27, row 5 1 (.slice A5 ((((numL regs.toNat ++ numL outs.toNat) ++ be8 reads ++ numL l.length) ++ (l.take i).flatMap stepL)).length c5) ((((numL regs.toNat ++ numL outs.toNat) ++ be8 reads ++ numL l.length) ++ (l.take i).flatMap stepL)).length (((((numL regs.toNat ++ numL outs.toNat) ++ be8 reads ++ numL l.length) ++ (l.take i).flatMap stepL)).flatMap encU)] a w1) (l.length) ⟨0, A4, c4, by omega, ?_⟩ (fun m a w1 hJ => ?_)
        · have e0 : ((numL regs.toNat ++ numL outs.toNat) ++ be8 reads ++ numL l.length) = ((numL regs.toNat ++ numL outs.toNat) ++ be8 reads ++ numL l.length) ++ (l.take 0).flatMap stepL := by simp
          rw [e0] at hs
          exact (hs.mem_to (((hs.mem.to 2 rfl).drop.to 1 rfl).to 1 rfl)).cut _ ⟨rfl, rfl, rfl, rfl, trivial⟩
        · clear hs
          obtain ⟨i, A5, c5, hi, hs⟩ := hJ
          refine wp_seq ?_
          refine wp_region_lit ?_
          refine a_val hs rfl rfl rfl (y_cmp hs rfl rfl rfl) ?_; clear hs a; intro a hs
          refine wpList_nil (then_normal ?_)
          refine wp_seq ?_
          refine wp_cond_split (hs.ev rfl) (fun h45 => ?_) (fun h45 => ?_)
          · replace h45 := of_decide_eq_true h45
            obtain ⟨s, hsi⟩ : ∃ s, l[i]? = some s := ⟨_, List.getElem?_eq_getElem (by omega)⟩
            obtain ⟨g0, o, rfl, hcell⟩ := C_at encS_K encS_len (by decide) hA (by omega)
            have hs0 := hg s (List.mem_of_getElem? hsi)
            have hlen := accLen l regs outs reads i (by omega)
            have hst := hall s (List.mem_of_getElem? hsi)
            have hst1 := okStep_yes hst
            have hfl := fldN_le s.f0
            refine wp_skip (then_normal ?_)
            refine wp_seq ?_
            refine wp_block ?_
            refine wp_seq ?_
            refine wp_region_lit ?_
            refine a_val hs rfl rfl rfl (y_idxB (size := 4) (off := o + i * 4) hs Tryd.underlying22 (by kernel_rfl) rfl rfl (by omega) (by omega) (by simp)) ?_; clear hs a; intro a hs
            refine a_val hs rfl rfl rfl (y_loadAgg (vs := encS s) hs Tryd.underlying47 rfl (by kernel_rfl) rfl (fun w hw k v hk => hcell w hw.base i s hsi k v hk)) ?_; clear hs a; intro a hs
            refine a_eff rfl (e_alloc (z := .agg #[.int .u8 0, .int .i64 0, .int .i64 0, .int .u8 0]) (cs := #[.int .u8 0, .int .i64 0, .int .i64 0, .int .u8 0]) hs rfl (by kernel_rfl) rfl ?_); clear hs a; intro gs a w hs
            refine a_eff rfl (e_store (cl := [_, _, _, _]) 0 rfl hs rfl rfl (by kernel_rfl) rfl rfl rfl ?_); clear hs a; intro a w hs
            refine wpList_nil (then_normal ?_)
            refine wp_seq ?_
            refine wp_region_lit ?_
            refine a_val hs rfl rfl rfl (y_load hs Tryd.underlying27 rfl rfl (fun w hw => (hw.to 1 rfl).cellV rfl)) ?_; clear hs a; intro a hs
            refine a_val hs rfl rfl rfl (y_faddr (k' := 0) 0 hs (by kernel_rfl) rfl rfl) ?_; clear hs a; intro a hs
            refine a_val hs rfl rfl rfl (y_load hs Tryd.underlying45 rfl rfl (fun w hw => (hw.to 0 rfl).cellV rfl)) ?_; clear hs a; intro a hs
            refine a_eff rfl (e_bslice (z := .int .u8 0) (size := 1) (zc := #[.int .u8 0]) (cl := [_]) hs rfl Tryd.underlying27 (by kernel_rfl) rfl rfl rfl (by kernel_rfl) (by rfl) rfl ?_); clear hs a; intro gl a w hs
            refine a_eff rfl (e_appL (z := .int .u8 0) (size := 1) (bytes := 1) encU ((((numL regs.toNat ++ numL outs.toNat) ++ be8 reads ++ numL l.length) ++ (l.take i).flatMap stepL)) ([s.f0]) 3 rfl 0 rfl hs rfl Tryd.underlying27 (by kernel_rfl) rfl rfl (fun _ => rfl) rfl rfl rfl rfl (oneU _) (by unfold maxLen; simp only [List.length_cons, List.length_nil]; omega) (by simp only [List.length_cons, List.length_nil]; omega) ?_); clear hs a; intro A6 c6 a w hs
            refine a_eff rfl (e_store (cl := [_]) 3 rfl hs rfl rfl (by kernel_rfl) rfl rfl rfl ?_); clear hs a; intro a w hs
            refine wpList_nil (then_normal ?_)
            refine wp_seq ?_
            refine wp_region_lit ?_
            refine a_val hs rfl rfl rfl (y_loadPt 3 rfl hs Tryd.underlying47 rfl (by kernel_rfl) rfl) ?_; clear hs a; intro a hs
            refine a_eff rfl (e_callX Tryd.func28 rfl rfl hs rfl rfl (emit_all s (by omega) (by omega) _) (fun e w1 ⟨ga, he, hm⟩ => ⟨_, he, _, hs.mem.more hm, ?_⟩)); clear hs a; intro a hs
            refine a_val hs rfl rfl rfl (y_lenL hs Tryd.underlying59 rfl) ?_; clear hs a; intro a hs
            refine a_val hs rfl rfl rfl (y_move hs rfl) ?_; clear hs a; intro a hs
            refine wpList_nil (then_normal ?_)
            refine wp_block ?_
            refine wp_loopN (fun mq a w1 => ∃ (q : Nat) (A7 : Option Addr) (c7 : Nat), (q + mq = fldN s.f0) ∧ St 68 v0 [(4, .pointer (some ⟨gb, 0, none⟩)), (42, .slice (some ⟨g0, o, none⟩) l.length c), (43, .int .i64 (l.length : Int)), (44, .int .i64 ((i : Nat) : Int)), (54, .slice (some ⟨ga, 0, none⟩) (fldN s.f0) 3), (55, .int .i64 ((fldN s.f0 : Nat) : Int)), (56, .int .i64 ((q : Nat) : Int))] [pt gb #[.slice A7 (((((numL regs.toNat ++ numL outs.toNat) ++ be8 reads ++ numL l.length) ++ (l.take i).flatMap stepL) ++ [s.f0] ++ (fieldsL s).take q)).length c7] 27, row 5 1 (.slice A7 (((((numL regs.toNat ++ numL outs.toNat) ++ be8 reads ++ numL l.length) ++ (l.take i).flatMap stepL) ++ [s.f0] ++ (fieldsL s).take q)).length c7) (((((numL regs.toNat ++ numL outs.toNat) ++ be8 reads ++ numL l.length) ++ (l.take i).flatMap stepL) ++ [s.f0] ++ (fieldsL s).take q)).length ((((((numL regs.toNat ++ numL outs.toNat) ++ be8 reads ++ numL l.length) ++ (l.take i).flatMap stepL) ++ [s.f0] ++ (fieldsL s).take q)).flatMap encU), pt ga #[.int .i64 s.f1, .int .i64 s.f2, .int .i64 s.f3] 3] a w1) (fldN s.f0) ⟨0, A6, c6, by omega, ?_⟩ (fun mq a w1 hJ => ?_)
            · have e0 : ((((numL regs.toNat ++ numL outs.toNat) ++ be8 reads ++ numL l.length) ++ (l.take i).flatMap stepL) ++ [s.f0]) = ((((numL regs.toNat ++ numL outs.toNat) ++ be8 reads ++ numL l.length) ++ (l.take i).flatMap stepL) ++ [s.f0]) ++ (fieldsL s).take 0 := by simp
              rw [e0] at hs
              exact (hs.mem_to ((((hs.mem.to 3 rfl).drop.to 3 rfl).drop.to 2 rfl).to 2 rfl)).cut _ ⟨rfl, rfl, rfl, rfl, rfl, rfl, rfl, trivial⟩
            · clear hs 
              obtain ⟨q, A7, c7, hq, hs⟩ := hJ
              refine wp_seq ?_
              refine wp_region_lit ?_
              refine a_val hs rfl rfl rfl (y_cmp hs rfl rfl rfl) ?_; clear hs a; intro a hs
              refine wpList_nil (then_normal ?_)
              refine wp_seq ?_
              refine wp_cond_split (hs.ev rfl) (fun h57 => ?_) (fun h57 => ?_)
              · replace h57 := of_decide_eq_true h57
                obtain ⟨x, hx, hx2, hx3⟩ := step_field hst (by omega) (show q < fldN s.f0 by omega)
                refine wp_skip (then_normal ?_)
                refine wp_seq ?_
                refine wp_block ?_
                refine wp_seq ?_
                refine wp_region_lit ?_
                refine a_val hs rfl rfl rfl (y_idxA (size := 1) (off := q) hs Tryd.underlying59 (by kernel_rfl) rfl rfl (by omega) (by omega) (by simp)) ?_; clear hs a; intro a hs
                refine a_val hs rfl rfl rfl (y_load hs Tryd.underlying3 rfl rfl (fun w hw => (hw.to 2 rfl).cellV hx)) ?_; clear hs a; intro a hs
                refine a_val hs rfl rfl rfl (y_assign hs rfl) ?_; clear hs a; intro a hs
                refine wpList_nil (then_normal ?_)
                refine wp_region_lit ?_
                refine a_val hs rfl rfl rfl (y_load hs Tryd.underlying27 rfl rfl (fun w hw => (hw.to 0 rfl).cellV rfl)) ?_; clear hs a; intro a hs
                refine a_val hs rfl rfl rfl (y_move hs rfl) ?_; clear hs a; intro a hs
                refine a_val hs rfl rfl rfl (y_conv hs Tryd.underlying3 Tryd.underlying5 rfl) ?_; clear hs a; intro a hs
                replace hs := hs.say 62 rfl (congrArg (Value.int IntKind.u8) (u8_in (n := x) (by omega)))
                refine a_eff rfl (e_bslice (z := .int .u8 0) (size := 1) (zc := #[.int .u8 0]) (cl := [_]) hs rfl Tryd.underlying27 (by kernel_rfl) rfl rfl rfl (by kernel_rfl) (by rfl) rfl ?_); clear hs a; intro gl a w hs
                refine a_eff rfl (e_appL (z := .int .u8 0) (size := 1) (bytes := 1) encU ((((numL regs.toNat ++ numL outs.toNat) ++ be8 reads ++ numL l.length) ++ (l.take i).flatMap stepL) ++ [s.f0] ++ (fieldsL s).take q) ([x]) 2 rfl 0 rfl hs rfl Tryd.underlying27 (by kernel_rfl) rfl rfl (fun _ => rfl) rfl rfl rfl rfl (oneU _) (by unfold maxLen; simp only [List.length_cons, List.length_nil]; simp only [List.length_append, List.length_take, List.length_cons, List.length_nil] at hlen ⊢; have := fldN_le s.f0; omega) (by simp only [List.length_cons, List.length_nil]; simp only [List.length_append, List.length_take, List.length_cons, List.length_nil] at hlen ⊢; have := fldN_le s.f0; omega) ?_); clear hs a; intro A8 c8 a w hs
                rw [List.append_assoc ((((numL regs.toNat ++ numL outs.toNat) ++ be8 reads ++ numL l.length) ++ (l.take i).flatMap stepL) ++ [s.f0]), hx2] at hs
                refine a_eff rfl (e_store (cl := [_]) 2 rfl hs rfl rfl (by kernel_rfl) rfl rfl rfl ?_); clear hs a; intro a w hs
                refine wpList_nil (in_normal (then_normal ?_))
                refine wp_region_lit ?_
                refine a_val hs rfl rfl rfl (y_add hs rfl rfl (by omega)) ?_; clear hs a; intro a hs
                refine a_val hs rfl rfl rfl (y_move hs rfl) ?_; clear hs a; intro a hs
                refine wpList_nil (then_normal ?_)
                refine ⟨mq - 1, by omega, q + 1, A8, c8, by omega, ?_⟩
                exact (hs.mem_to ((((hs.mem.to 2 rfl).drop.to 2 rfl).to 2 rfl).to 2 rfl)).cut _ ⟨rfl, rfl, rfl, rfl, rfl, rfl, rfl, trivial⟩
              · replace h57 := of_decide_eq_false h57
                have e1 : (((numL regs.toNat ++ numL outs.toNat) ++ be8 reads ++ numL l.length) ++ (l.take i).flatMap stepL) ++ [s.f0] ++ (fieldsL s).take q = ((numL regs.toNat ++ numL outs.toNat) ++ be8 reads ++ numL l.length) ++ (l.take (i + 1)).flatMap stepL := flat_next _ hsi (by omega)
                rw [e1] at hs
                refine wp_exit (then_exit (then_exit (in_here (in_normal (then_normal ?_)))))
                refine wp_region_lit ?_
                refine a_val hs rfl rfl rfl (y_add hs rfl rfl (by omega)) ?_; clear hs a; intro a hs
                refine a_val hs rfl rfl rfl (y_move hs rfl) ?_; clear hs a; intro a hs
                refine wpList_nil (then_normal ?_)
                refine ⟨m - 1, by omega, i + 1, A7, c7, by omega, ?_⟩
                exact (hs.mem_to (((hs.mem.to 2 rfl).drop.to 1 rfl).to 1 rfl)).cut _ ⟨rfl, rfl, rfl, rfl, trivial⟩
          · replace h45 := of_decide_eq_false h45
            refine wp_exit (then_exit (then_exit (in_here (then_normal ?_))))
            refine wp_seq ?_
            refine wp_region_lit ?_
            refine a_val hs rfl rfl rfl (y_load hs Tryd.underlying27 rfl rfl (fun w hw => (hw.to 0 rfl).cellV rfl)) ?_; clear hs a; intro a hs
            refine a_val hs rfl rfl rfl (y_assign hs rfl) ?_; clear hs a; intro a hs
            refine a_val hs rfl rfl rfl (y_assign hs rfl) ?_; clear hs a; intro a hs
            refine wpList_nil (then_normal ?_)
            refine wp_ret ?_
            have e2 : ((numL regs.toNat ++ numL outs.toNat) ++ be8 reads ++ numL l.length) ++ (l.take i).flatMap stepL = writeL l regs outs reads := by rw [List.take_of_length_le (by omega)]; unfold writeL; simp only [List.append_assoc]
            rw [e2] at hs
            refine fin_ret hs (.tmp (hs.slots _ _ rfl) (.tmp (hs.slots _ _ rfl) .nil)) (.inr ⟨hok', A5, c5, rfl, (hs.mem.to 0 rfl).drop⟩)
end Go.Proofs.YtpdemfnemkmelaaDoor.E
