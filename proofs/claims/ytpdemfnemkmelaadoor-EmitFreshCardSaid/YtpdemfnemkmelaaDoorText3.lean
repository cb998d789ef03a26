/- The reference's Text: a program's lines. Conditions: strconv's table stands in its variable. -/
import Derived.Test.YtpdemfnemkmelaaDoorText2
namespace Go.Proofs.YtpdemfnemkmelaaDoor.E
open Go Go.RowKit Go.Proofs.YtpdemfnemkmelaaDoorW.PrintWords Go.Proofs.YtpdemfnemkmelaaDoorW.PrintLast Go.Proofs.YtpdemfnemkmelaaDoorW.PrintMore Go.Proofs.YtpdemfnemkmelaaDoor.PA Go.Proofs.YtpdemfnemkmelaaDoor.Num
set_option linter.unusedVariables false
set_option linter.unusedSimpArgs false
theorem head_start (regs outs : Int) : ⟨#[112, 114, 111, 103, 114, 97, 109, 32]⟩ ++ itoaB regs ++ ⟨#[32]⟩ ++ itoaB outs = joinN ⟨#[112, 114, 111, 103, 114, 97, 109]⟩ [regs, outs] := by
  have e : (⟨#[112, 114, 111, 103, 114, 97, 109, 32]⟩ : ByteArray) = ⟨#[112, 114, 111, 103, 114, 97, 109]⟩ ++ ⟨#[32]⟩ := rfl
  rw [e]
  show _ = (⟨#[112, 114, 111, 103, 114, 97, 109]⟩ ++ (⟨#[32]⟩ ++ itoaB regs)) ++ (⟨#[32]⟩ ++ itoaB outs)
  simp only [ByteArray.append_assoc]

set_option maxRecDepth 100000 in
theorem ref_head (A : Option Addr) (c : Nat) (l : List Stp) (regs outs : Int) (r : Nat) (hr : r < 2 ^ 64) (v0 : World) (hA : Kd.C k47 v0 A l.length l) (hg : ∀ s ∈ l, 0 ≤ s.f0 ∧ 0 ≤ s.f3 ∧ s.f3 ≤ 255) (hP : Pow10 v0) (hb : 0 ≤ regs ∧ regs ≤ 256 ∧ 0 ≤ outs ∧ outs ≤ 64) :
    Calls Tryd.prog 49 #[.agg #[.slice A l.length c, .int .i64 regs, .int .i64 outs, .int .u64 (r : Int)]] v0 fun e w' => e = .returned (.string (joinN ⟨#[112, 114, 111, 103, 114, 97, 109]⟩ ([regs, outs] ++ bitsL r))) ∧ Below v0.heap.size v0 w' := by
  refine calls_enter (N := 33) (n := 32) (args := [.agg #[.slice A l.length c, .int .i64 regs, .int .i64 outs, .int .u64 (r : Int)]]) Tryd.func49 rfl rfl rfl (H.init v0) (fun a hs => ?_)
  refine wp_seq ?_
  refine wp_region_lit ?_
  refine a_eff rfl (e_box (cs := #[_, _, _, _]) hs rfl rfl rfl ?_); clear hs a; intro gp a w hs
  refine a_val hs rfl rfl rfl (y_assign hs rfl) ?_; clear hs a; intro a hs
  refine wpList_nil (then_normal ?_)
  refine wp_seq ?_
  refine b_enter [0] (by kernel_rfl) hs #[false, false, false, false, false, false, false, false, false, false] (by rfl) 10 (by rfl) ?_; clear hs; intro w hs
  refine b_take 0 rfl #[true, false, false, false, false, false, false, false, false, false] rfl (by kernel_rfl) hs ((hs.mem.first 1)) rfl rfl rfl (fun _ _ _ h => h) (y_faddr (k' := 1) 1 hs (by kernel_rfl) rfl rfl) ?_; clear hs a; intro a hs
  refine b_take 1 rfl #[true, true, false, false, false, false, false, false, false, false] rfl (by kernel_rfl) hs ((hs.mem.first 1)) rfl rfl rfl (fun _ _ _ h => h) (y_load hs Tryd.underlying3 rfl rfl (fun w hw => (hw.to 0 rfl).cellV rfl)) ?_; clear hs a; intro a hs
  refine b_take 5 rfl #[true, true, false, false, false, true, false, false, false, false] rfl (by kernel_rfl) hs ((hs.mem.first 1)) rfl rfl rfl (fun _ _ _ h => h) (y_faddr (k' := 2) 2 hs (by kernel_rfl) rfl rfl) ?_; clear hs a; intro a hs
  refine b_take 6 rfl #[true, true, false, false, false, true, true, false, false, false] rfl (by kernel_rfl) hs ((hs.mem.first 1)) rfl rfl rfl (fun _ _ _ h => h) (y_load hs Tryd.underlying3 rfl rfl (fun w hw => (hw.to 0 rfl).cellV rfl)) ?_; clear hs a; intro a hs
  refine b_eff 2 (by kernel_rfl) rfl #[true, true, true, false, false, true, true, false, false, false] rfl hs rfl (e_callB Tryd.func53 rfl rfl hs rfl rfl (itoa_ok (regs) (by omega) (by omega) _ (varKeep hs.mem.base hP)) ?_); clear hs a; intro a w hs
  refine ⟨(hs.mem.first 1), ?_⟩
  have hi1 := itoaB_size (n := regs) (by omega) (by omega)
  have hi2 := itoaB_size (n := outs) (by omega) (by omega)
  refine b_take 3 rfl #[true, true, true, true, false, true, true, false, false, false] rfl (by kernel_rfl) hs ((hs.mem.first 1)) rfl rfl rfl (fun _ _ _ h => h) (y_sadd hs rfl rfl (by simp only [ByteArray.size_append, show (⟨#[32]⟩ : ByteArray).size = 1 from rfl, show (⟨#[112, 114, 111, 103, 114, 97, 109, 32]⟩ : ByteArray).size = 8 from rfl]; omega)) ?_; clear hs a; intro a hs
  refine b_take 4 rfl #[true, true, true, true, true, true, true, false, false, false] rfl (by kernel_rfl) hs ((hs.mem.first 1)) rfl rfl rfl (fun _ _ _ h => h) (y_sadd hs rfl rfl (by simp only [ByteArray.size_append, show (⟨#[32]⟩ : ByteArray).size = 1 from rfl, show (⟨#[112, 114, 111, 103, 114, 97, 109, 32]⟩ : ByteArray).size = 8 from rfl]; omega)) ?_; clear hs a; intro a hs
  refine b_eff 7 (by kernel_rfl) rfl #[true, true, true, true, true, true, true, true, false, false] rfl hs rfl (e_callB Tryd.func53 rfl rfl hs rfl rfl (itoa_ok (outs) (by omega) (by omega) _ (varKeep hs.mem.base hP)) ?_); clear hs a; intro a w hs
  refine ⟨(hs.mem.first 1), ?_⟩
  refine b_take 8 rfl #[true, true, true, true, true, true, true, true, true, false] rfl (by kernel_rfl) hs ((hs.mem.first 1)) rfl rfl rfl (fun _ _ _ h => h) (y_sadd hs rfl rfl (by simp only [ByteArray.size_append, show (⟨#[32]⟩ : ByteArray).size = 1 from rfl, show (⟨#[112, 114, 111, 103, 114, 97, 109, 32]⟩ : ByteArray).size = 8 from rfl]; omega)) ?_; clear hs a; intro a hs
  refine b_take 9 rfl #[true, true, true, true, true, true, true, true, true, true] rfl (by kernel_rfl) hs ((hs.mem.first 1)) rfl rfl rfl (fun _ _ _ h => h) (y_assign hs rfl) ?_; clear hs a; intro a hs
  refine b_done (by kernel_rfl) (then_normal ?_)
  refine wp_seq ?_
  refine wp_region_lit ?_
  replace hs := hs.say 3 rfl (congrArg Value.string (head_start regs outs))
  refine a_val hs rfl rfl rfl (y_faddr (k' := 3) 3 hs (by kernel_rfl) rfl rfl) ?_; clear hs a; intro a hs
  refine a_val hs rfl rfl rfl (y_load hs Tryd.underlying24 rfl rfl (fun w hw => (hw.to 0 rfl).cellV rfl)) ?_; clear hs a; intro a hs
  refine a_eff rfl (e_callX Tryd.func63 rfl rfl hs rfl rfl (ref_List r hr _) (fun e w1 ⟨B1, b1, he, hm⟩ => ⟨_, he, _, hs.mem.more hm, ?_⟩)); clear hs a; intro a hs
  refine a_val hs rfl rfl rfl (y_assign hs rfl) ?_; clear hs a; intro a hs
  refine wpList_nil (then_normal ?_)
  refine wp_seq ?_
  refine wp_seq ?_
  refine wp_region_lit ?_
  refine a_val hs rfl rfl rfl (y_assign hs rfl) ?_; clear hs a; intro a hs
  refine wpList_nil (then_normal ?_)
  refine wp_block ?_
  refine wp_loopN (fun m a w1 => ∃ (i : Nat), (i + m = (bitsL r).length) ∧ St 33 v0 [(3, .string (joinN ⟨#[112, 114, 111, 103, 114, 97, 109]⟩ ([regs, outs] ++ (bitsL r).take i))), (4, .slice B1 (bitsL r).length b1), (5, .int .i64 ((i : Nat) : Int))] [row 3 1 (.slice B1 (bitsL r).length b1) (bitsL r).length ((bitsL r).flatMap encI)] a w1) ((bitsL r).length) ⟨0, by omega, ?_⟩ (fun m a w1 hJ => ?_)
  · rw [show [regs, outs] = [regs, outs] ++ (bitsL r).take 0 by simp] at hs
    exact (hs.mem_to (hs.mem.to 1 rfl).drop).cut _ ⟨rfl, rfl, rfl, trivial⟩
  · clear hs
    obtain ⟨i, hi, hs⟩ := hJ
    refine wp_seq ?_
    refine wp_seq ?_
    refine wp_region_lit ?_
    refine a_val hs rfl rfl rfl (y_move hs rfl) ?_; clear hs a; intro a hs
    refine a_val hs rfl rfl rfl (y_move hs rfl) ?_; clear hs a; intro a hs
    refine a_val hs rfl rfl rfl (y_lenL hs Tryd.underlying59 rfl) ?_; clear hs a; intro a hs
    refine a_val hs rfl rfl rfl (y_cmp hs rfl rfl rfl) ?_; clear hs a; intro a hs
    refine wpList_nil (then_normal ?_)
    refine wp_cond_split (hs.ev rfl) (fun h21 => ?_) (fun h21 => ?_)
    · replace h21 := of_decide_eq_true h21
      obtain ⟨n, hn⟩ : ∃ n, (bitsL r)[i]? = some n := ⟨_, List.getElem?_eq_getElem (by omega)⟩
      have hnb := bitsL_mem (List.mem_of_getElem? hn)
      have hn1 : nthV ((bitsL r).flatMap encI) i = some (.int .i64 n) := by rw [nthV_eq, flatI, List.getElem?_map, hn]; rfl
      have hbl := bitsL_len r
      obtain ⟨g0, rfl⟩ := (hs.mem.to 0 rfl).rowAddr (by omega)
      have hsz := joinN_size ⟨#[112, 114, 111, 103, 114, 97, 109]⟩ ([regs, outs] ++ (bitsL r).take i) (fun x hx => headB_mem (r := r) (regs := regs) (outs := outs) (by omega) x (by rcases List.mem_append.1 hx with h | h; exact List.mem_append_left _ h; exact List.mem_append_right _ (List.mem_of_mem_take h)))
      rw [show (⟨#[112, 114, 111, 103, 114, 97, 109]⟩ : ByteArray).size = 7 from rfl, List.length_append, List.length_take, List.length_cons, List.length_cons, List.length_nil] at hsz
      have hit := itoaB_size (n := n) (by omega) (by omega)
      refine wp_skip (then_normal ?_)
      refine wp_seq ?_
      refine wp_block ?_
      refine wp_region_lit ?_
      refine a_val hs rfl rfl rfl (y_move hs rfl) ?_; clear hs a; intro a hs
      refine a_val hs rfl rfl rfl (y_move hs rfl) ?_; clear hs a; intro a hs
      refine a_val hs rfl rfl rfl (y_move hs rfl) ?_; clear hs a; intro a hs
      refine a_val hs rfl rfl rfl (y_idxA (size := 1) (off := i) hs Tryd.underlying59 (by kernel_rfl) rfl rfl (by omega) (by omega) (by simp)) ?_; clear hs a; intro a hs
      refine a_val hs rfl rfl rfl (y_load hs Tryd.underlying3 rfl rfl (fun w hw => (hw.to 0 rfl).rowCell hn1)) ?_; clear hs a; intro a hs
      refine a_eff rfl (e_callB Tryd.func53 rfl rfl hs rfl rfl (itoa_ok (n) (by omega) (by omega) _ (varKeep hs.mem.base hP)) ?_); clear hs a; intro a w hs
      refine a_val hs rfl rfl rfl (y_sadd hs rfl rfl (by rw [show (⟨#[32]⟩ : ByteArray).size = 1 from rfl]; omega)) ?_; clear hs a; intro a hs
      refine a_val hs rfl rfl rfl (y_sadd hs rfl rfl (by rw [ByteArray.size_append, show (⟨#[32]⟩ : ByteArray).size = 1 from rfl]; omega)) ?_; clear hs a; intro a hs
      refine a_val hs rfl rfl rfl (y_assign hs rfl) ?_; clear hs a; intro a hs
      refine wpList_nil (in_normal (then_normal ?_))
      refine wp_region_lit ?_
      refine a_val hs rfl rfl rfl (y_move hs rfl) ?_; clear hs a; intro a hs
      refine a_val hs rfl rfl rfl (y_add hs rfl rfl (by omega)) ?_; clear hs a; intro a hs
      refine a_val hs rfl rfl rfl (y_assign hs rfl) ?_; clear hs a; intro a hs
      refine wpList_nil (then_normal ?_)
      rw [← joinN_snoc, show [regs, outs] ++ (bitsL r).take i ++ [n] = [regs, outs] ++ (bitsL r).take (i + 1) by rw [List.append_assoc, List.take_add_one, hn]; rfl] at hs
      refine ⟨m - 1, by omega, i + 1, by omega, ?_⟩
      exact (hs.mem_to hs.mem).cut _ ⟨rfl, rfl, rfl, trivial⟩
    · replace h21 := of_decide_eq_false h21
      rw [List.take_of_length_le (by omega)] at hs
      refine wp_exit (then_exit (then_exit (in_here (then_normal ?_))))
      refine wp_seq ?_
      refine wp_region_lit ?_
      refine a_val hs rfl rfl rfl (y_move hs rfl) ?_; clear hs a; intro a hs
      refine a_val hs rfl rfl rfl (y_assign hs rfl) ?_; clear hs a; intro a hs
      refine wpList_nil (then_normal ?_)
      refine wp_ret ?_
      refine fin_ret hs (.tmp (hs.slots _ _ rfl) .nil) ⟨rfl, hs.mem.base⟩

set_option maxRecDepth 100000 in
theorem ref_line (s : Stp) (hst : okStep s = true) (h3 : 0 ≤ s.f3 ∧ s.f3 ≤ 255) (v0 : World) (hP : Pow10 v0) :
    Calls Tryd.prog 50 #[.agg #[.int .u8 s.f0, .int .i64 s.f1, .int .i64 s.f2, .int .u8 s.f3]] v0 fun e w' => e = .returned (.string (joinN (wordS s.f0) (fieldsL s))) ∧ Below v0.heap.size v0 w' := by
  refine calls_enter (N := 34) (n := 33) (args := [.agg #[.int .u8 s.f0, .int .i64 s.f1, .int .i64 s.f2, .int .u8 s.f3]]) Tryd.func50 rfl rfl rfl (H.init v0) (fun a hs => ?_)
  have hst1 := okStep_yes hst
  have hfl := fldN_le s.f0
  have hf1 : 1 ≤ fldN s.f0 := by unfold fldN; split <;> (try split) <;> (try split) <;> (try split) <;> omega
  refine wp_seq ?_
  refine wp_region_lit ?_
  refine a_eff rfl (e_box (cs := #[_, _, _, _]) hs rfl rfl rfl ?_); clear hs a; intro gs a w hs
  refine a_val hs rfl rfl rfl (y_assign hs rfl) ?_; clear hs a; intro a hs
  refine wpList_nil (then_normal ?_)
  refine wp_seq ?_
  refine b_enter [0] (by kernel_rfl) hs #[false, false, false, false, false, false, false, false, false] (by rfl) 9 (by rfl) ?_; clear hs; intro w hs
  refine b_take 0 rfl #[true, false, false, false, false, false, false, false, false] rfl (by kernel_rfl) hs ((hs.mem.first 1)) rfl rfl rfl (fun _ _ _ h => h) (y_faddr (k' := 0) 0 hs (by kernel_rfl) rfl rfl) ?_; clear hs a; intro a hs
  refine b_take 1 rfl #[true, true, false, false, false, false, false, false, false] rfl (by kernel_rfl) hs ((hs.mem.first 1)) rfl rfl rfl (fun _ _ _ h => h) (y_load hs Tryd.underlying45 rfl rfl (fun w hw => (hw.to 0 rfl).cellV rfl)) ?_; clear hs a; intro a hs
  refine b_take 4 rfl #[true, true, false, false, true, false, false, false, false] rfl (by kernel_rfl) hs ((hs.mem.first 1)) rfl rfl rfl (fun _ _ _ h => h) (y_faddr (k' := 1) 1 hs (by kernel_rfl) rfl rfl) ?_; clear hs a; intro a hs
  refine b_take 5 rfl #[true, true, false, false, true, true, false, false, false] rfl (by kernel_rfl) hs ((hs.mem.first 1)) rfl rfl rfl (fun _ _ _ h => h) (y_load hs Tryd.underlying3 rfl rfl (fun w hw => (hw.to 0 rfl).cellV rfl)) ?_; clear hs a; intro a hs
  refine b_eff 2 (by kernel_rfl) rfl #[true, true, true, false, true, true, false, false, false] rfl hs rfl (e_callB Tryd.func62 rfl rfl hs rfl rfl (ref_word s.f0 (by omega) _) ?_); clear hs a; intro a w hs
  refine ⟨(hs.mem.first 1), ?_⟩
  have hi1 := itoaB_size (n := s.f1) (by omega) (by omega)
  have hi2 := itoaB_size (n := s.f2) (by omega) (by omega)
  have hi3 := itoaB_size (n := s.f3) (by omega) (by omega)
  have hwz := wordS_size s.f0
  refine b_take 3 rfl #[true, true, true, true, true, true, false, false, false] rfl (by kernel_rfl) hs ((hs.mem.first 1)) rfl rfl rfl (fun _ _ _ h => h) (y_sadd hs rfl rfl (by simp only [ByteArray.size_append, show (⟨#[32]⟩ : ByteArray).size = 1 from rfl]; omega)) ?_; clear hs a; intro a hs
  refine b_eff 6 (by kernel_rfl) rfl #[true, true, true, true, true, true, true, false, false] rfl hs rfl (e_callB Tryd.func53 rfl rfl hs rfl rfl (itoa_ok (s.f1) (by omega) (by omega) _ (varKeep hs.mem.base hP)) ?_); clear hs a; intro a w hs
  refine ⟨(hs.mem.first 1), ?_⟩
  refine b_take 7 rfl #[true, true, true, true, true, true, true, true, false] rfl (by kernel_rfl) hs ((hs.mem.first 1)) rfl rfl rfl (fun _ _ _ h => h) (y_sadd hs rfl rfl (by simp only [ByteArray.size_append, show (⟨#[32]⟩ : ByteArray).size = 1 from rfl]; omega)) ?_; clear hs a; intro a hs
  refine b_take 8 rfl #[true, true, true, true, true, true, true, true, true] rfl (by kernel_rfl) hs ((hs.mem.first 1)) rfl rfl rfl (fun _ _ _ h => h) (y_assign hs rfl) ?_; clear hs a; intro a hs
  refine b_done (by kernel_rfl) (then_normal ?_)
  refine wp_seq ?_
  refine wp_seq ?_
  refine wp_region_lit ?_
  refine a_val hs rfl rfl rfl (y_faddr (k' := 0) 0 hs (by kernel_rfl) rfl rfl) ?_; clear hs a; intro a hs
  refine a_val hs rfl rfl rfl (y_load hs Tryd.underlying45 rfl rfl (fun w hw => (hw.to 0 rfl).cellV rfl)) ?_; clear hs a; intro a hs
  refine a_eff rfl (e_callB Tryd.func34 rfl rfl hs rfl rfl (ref_fields s.f0 (by omega) _) ?_); clear hs a; intro a w hs
  refine a_val hs rfl rfl rfl (y_cmp hs rfl rfl rfl) ?_; clear hs a; intro a hs
  refine wpList_nil (then_normal ?_)
  refine wp_cond_split (hs.ev rfl) (fun h15 => ?_) (fun h15 => ?_)
  · replace h15 := of_decide_eq_true h15
    refine wp_region_lit ?_
    refine a_val hs rfl rfl rfl (y_move hs rfl) ?_; clear hs a; intro a hs
    refine a_val hs rfl rfl rfl (y_faddr (k' := 2) 2 hs (by kernel_rfl) rfl rfl) ?_; clear hs a; intro a hs
    refine a_val hs rfl rfl rfl (y_load hs Tryd.underlying3 rfl rfl (fun w hw => (hw.to 0 rfl).cellV rfl)) ?_; clear hs a; intro a hs
    refine a_eff rfl (e_callB Tryd.func53 rfl rfl hs rfl rfl (itoa_ok (s.f2) (by omega) (by omega) _ (varKeep hs.mem.base hP)) ?_); clear hs a; intro a w hs
    refine a_val hs rfl rfl rfl (y_sadd hs rfl rfl (by simp only [ByteArray.size_append, show (⟨#[32]⟩ : ByteArray).size = 1 from rfl]; omega)) ?_; clear hs a; intro a hs
    refine a_val hs rfl rfl rfl (y_sadd hs rfl rfl (by simp only [ByteArray.size_append, show (⟨#[32]⟩ : ByteArray).size = 1 from rfl]; omega)) ?_; clear hs a; intro a hs
    refine a_val hs rfl rfl rfl (y_assign hs rfl) ?_; clear hs a; intro a hs
    refine wpList_nil (then_normal ?_)
    refine wp_seq ?_
    refine wp_seq ?_
    refine wp_region_lit ?_
    refine a_val hs rfl rfl rfl (y_faddr (k' := 0) 0 hs (by kernel_rfl) rfl rfl) ?_; clear hs a; intro a hs
    refine a_val hs rfl rfl rfl (y_load hs Tryd.underlying45 rfl rfl (fun w hw => (hw.to 0 rfl).cellV rfl)) ?_; clear hs a; intro a hs
    refine a_eff rfl (e_callB Tryd.func34 rfl rfl hs rfl rfl (ref_fields s.f0 (by omega) _) ?_); clear hs a; intro a w hs
    refine a_val hs rfl rfl rfl (y_cmp hs rfl rfl rfl) ?_; clear hs a; intro a hs
    refine wpList_nil (then_normal ?_)
    refine wp_cond_split (hs.ev rfl) (fun h25 => ?_) (fun h25 => ?_)
    · replace h25 := of_decide_eq_true h25
      refine wp_region_lit ?_
      refine a_val hs rfl rfl rfl (y_move hs rfl) ?_; clear hs a; intro a hs
      refine a_val hs rfl rfl rfl (y_faddr (k' := 3) 3 hs (by kernel_rfl) rfl rfl) ?_; clear hs a; intro a hs
      refine a_val hs rfl rfl rfl (y_load hs Tryd.underlying5 rfl rfl (fun w hw => (hw.to 0 rfl).cellV rfl)) ?_; clear hs a; intro a hs
      refine a_val hs rfl rfl rfl (y_conv hs Tryd.underlying5 Tryd.underlying3 rfl) ?_; clear hs a; intro a hs
      replace hs := hs.say 29 rfl (congrArg (Value.int IntKind.i64) (i64_nat (n := s.f3) (by omega)))
      refine a_eff rfl (e_callB Tryd.func53 rfl rfl hs rfl rfl (itoa_ok (s.f3) (by omega) (by omega) _ (varKeep hs.mem.base hP)) ?_); clear hs a; intro a w hs
      refine a_val hs rfl rfl rfl (y_sadd hs rfl rfl (by simp only [ByteArray.size_append, show (⟨#[32]⟩ : ByteArray).size = 1 from rfl]; omega)) ?_; clear hs a; intro a hs
      refine a_val hs rfl rfl rfl (y_sadd hs rfl rfl (by simp only [ByteArray.size_append, show (⟨#[32]⟩ : ByteArray).size = 1 from rfl]; omega)) ?_; clear hs a; intro a hs
      refine a_val hs rfl rfl rfl (y_assign hs rfl) ?_; clear hs a; intro a hs
      refine wpList_nil (then_normal ?_)
      refine wp_seq ?_
      refine wp_region_lit ?_
      refine a_val hs rfl rfl rfl (y_move hs rfl) ?_; clear hs a; intro a hs
      refine a_val hs rfl rfl rfl (y_assign hs rfl) ?_; clear hs a; intro a hs
      refine wpList_nil (then_normal ?_)
      refine wp_ret ?_
      refine fin_ret hs (.tmp (hs.slots _ _ rfl) .nil) ⟨?_, hs.mem.base⟩
      rw [show fieldsL s = [s.f1, s.f2, s.f3] from by unfold fieldsL; rw [show fldN s.f0 = 3 by omega]; rfl]; exact congrArg (fun x => Ending.returned (Value.string x)) (by simp [joinN, ByteArray.append_assoc])
    · replace h25 := of_decide_eq_false h25
      refine wp_skip (then_normal ?_)
      refine wp_seq ?_
      refine wp_region_lit ?_
      refine a_val hs rfl rfl rfl (y_move hs rfl) ?_; clear hs a; intro a hs
      refine a_val hs rfl rfl rfl (y_assign hs rfl) ?_; clear hs a; intro a hs
      refine wpList_nil (then_normal ?_)
      refine wp_ret ?_
      refine fin_ret hs (.tmp (hs.slots _ _ rfl) .nil) ⟨?_, hs.mem.base⟩
      rw [show fieldsL s = [s.f1, s.f2] from by unfold fieldsL; rw [show fldN s.f0 = 2 by omega]; rfl]; exact congrArg (fun x => Ending.returned (Value.string x)) (by simp [joinN, ByteArray.append_assoc])
  · replace h15 := of_decide_eq_false h15
    refine wp_skip (then_normal ?_)
    refine wp_seq ?_
    refine wp_seq ?_
    refine wp_region_lit ?_
    refine a_val hs rfl rfl rfl (y_faddr (k' := 0) 0 hs (by kernel_rfl) rfl rfl) ?_; clear hs a; intro a hs
    refine a_val hs rfl rfl rfl (y_load hs Tryd.underlying45 rfl rfl (fun w hw => (hw.to 0 rfl).cellV rfl)) ?_; clear hs a; intro a hs
    refine a_eff rfl (e_callB Tryd.func34 rfl rfl hs rfl rfl (ref_fields s.f0 (by omega) _) ?_); clear hs a; intro a w hs
    refine a_val hs rfl rfl rfl (y_cmp hs rfl rfl rfl) ?_; clear hs a; intro a hs
    refine wpList_nil (then_normal ?_)
    refine wp_cond_split (hs.ev rfl) (fun h25 => ?_) (fun h25 => ?_)
    · replace h25 := of_decide_eq_true h25
      refine wp_region_lit ?_
      refine a_val hs rfl rfl rfl (y_move hs rfl) ?_; clear hs a; intro a hs
      refine a_val hs rfl rfl rfl (y_faddr (k' := 3) 3 hs (by kernel_rfl) rfl rfl) ?_; clear hs a; intro a hs
      refine a_val hs rfl rfl rfl (y_load hs Tryd.underlying5 rfl rfl (fun w hw => (hw.to 0 rfl).cellV rfl)) ?_; clear hs a; intro a hs
      refine a_val hs rfl rfl rfl (y_conv hs Tryd.underlying5 Tryd.underlying3 rfl) ?_; clear hs a; intro a hs
      replace hs := hs.say 29 rfl (congrArg (Value.int IntKind.i64) (i64_nat (n := s.f3) (by omega)))
      refine a_eff rfl (e_callB Tryd.func53 rfl rfl hs rfl rfl (itoa_ok (s.f3) (by omega) (by omega) _ (varKeep hs.mem.base hP)) ?_); clear hs a; intro a w hs
      refine a_val hs rfl rfl rfl (y_sadd hs rfl rfl (by simp only [ByteArray.size_append, show (⟨#[32]⟩ : ByteArray).size = 1 from rfl]; omega)) ?_; clear hs a; intro a hs
      refine a_val hs rfl rfl rfl (y_sadd hs rfl rfl (by simp only [ByteArray.size_append, show (⟨#[32]⟩ : ByteArray).size = 1 from rfl]; omega)) ?_; clear hs a; intro a hs
      refine a_val hs rfl rfl rfl (y_assign hs rfl) ?_; clear hs a; intro a hs
      refine wpList_nil (then_normal ?_)
      refine wp_seq ?_
      refine wp_region_lit ?_
      refine a_val hs rfl rfl rfl (y_move hs rfl) ?_; clear hs a; intro a hs
      refine a_val hs rfl rfl rfl (y_assign hs rfl) ?_; clear hs a; intro a hs
      refine wpList_nil (then_normal ?_)
      refine wp_ret ?_
      exact absurd h25 (by omega)
    · replace h25 := of_decide_eq_false h25
      refine wp_skip (then_normal ?_)
      refine wp_seq ?_
      refine wp_region_lit ?_
      refine a_val hs rfl rfl rfl (y_move hs rfl) ?_; clear hs a; intro a hs
      refine a_val hs rfl rfl rfl (y_assign hs rfl) ?_; clear hs a; intro a hs
      refine wpList_nil (then_normal ?_)
      refine wp_ret ?_
      refine fin_ret hs (.tmp (hs.slots _ _ rfl) .nil) ⟨?_, hs.mem.base⟩
      rw [show fieldsL s = [s.f1] from by unfold fieldsL; rw [show fldN s.f0 = 1 by omega]; rfl]; exact congrArg (fun x => Ending.returned (Value.string x)) (by simp [joinN, ByteArray.append_assoc])

set_option maxRecDepth 100000 in
theorem ref_Text (A : Option Addr) (c : Nat) (l : List Stp) (regs outs : Int) (r : Nat) (hr : r < 2 ^ 64) (v0 : World) (hA : Kd.C k47 v0 A l.length l) (hg : ∀ s ∈ l, 0 ≤ s.f0 ∧ 0 ≤ s.f3 ∧ s.f3 ≤ 255) (hP : Pow10 v0) :
    Calls Tryd.prog 24 #[.agg #[.slice A l.length c, .int .i64 regs, .int .i64 outs, .int .u64 (r : Int)]] v0 fun e w' => e = .returned (textA l regs outs r) ∧ Below v0.heap.size v0 w' := by
  refine calls_enter (N := 29) (n := 28) (args := [.agg #[.slice A l.length c, .int .i64 regs, .int .i64 outs, .int .u64 (r : Int)]]) Tryd.func24 rfl rfl rfl (H.init v0) (fun a hs => ?_)
  refine wp_seq ?_
  refine wp_region_lit ?_
  refine a_eff rfl (e_box (cs := #[_, _, _, _]) hs rfl rfl rfl ?_); clear hs a; intro gp a w hs
  refine a_val hs rfl rfl rfl (y_assign hs rfl) ?_; clear hs a; intro a hs
  refine a_val hs rfl rfl rfl (y_assign hs rfl) ?_; clear hs a; intro a hs
  refine wpList_nil (then_normal ?_)
  refine wp_seq ?_
  refine wp_seq ?_
  refine wp_region_lit ?_
  refine a_val hs rfl rfl rfl (y_loadPt 0 rfl hs Tryd.underlying26 rfl (by kernel_rfl) rfl) ?_; clear hs a; intro a hs
  refine a_eff rfl (e_callB Tryd.func12 rfl rfl hs rfl rfl (ref_Can A c l regs outs (r : Int) _ (Kd.C_below hA hs.mem.base) hg) ?_); clear hs a; intro a w hs
  refine a_val hs rfl rfl rfl (y_not hs rfl) ?_; clear hs a; intro a hs
  refine wpList_nil (then_normal ?_)
  refine wp_cond_split (hs.ev rfl) (fun h8 => ?_) (fun h8 => ?_)
  · replace h8 := (not_t h8)
    have hok := h8
    refine wp_seq ?_
    refine wp_region_lit ?_
    refine a_val hs rfl rfl rfl (y_assign hs rfl) ?_; clear hs a; intro a hs
    refine a_val hs rfl rfl rfl (y_assign hs rfl) ?_; clear hs a; intro a hs
    refine wpList_nil (then_normal ?_)
    refine wp_ret (then_ret ?_)
    refine fin_ret hs (.tmp (hs.slots _ _ rfl) (.tmp (hs.slots _ _ rfl) .nil)) (And.intro ?_ hs.mem.base)
    unfold textA; rw [hok]; rfl
  · replace h8 := (not_f h8)
    have hok' := h8
    obtain ⟨hok, hall⟩ := okProg_yes h8
    refine wp_skip (then_normal ?_)
    refine wp_seq ?_
    refine wp_region_lit ?_
    refine a_val hs rfl rfl rfl (y_loadPt 0 rfl hs Tryd.underlying26 rfl (by kernel_rfl) rfl) ?_; clear hs a; intro a hs
    refine a_eff rfl (e_callB Tryd.func49 rfl rfl hs rfl rfl (ref_head A c l regs outs r hr _ (Kd.C_below hA hs.mem.base) hg (varKeep hs.mem.base hP) (by omega)) ?_); clear hs a; intro a w hs
    refine a_val hs rfl rfl rfl (y_sadd hs rfl rfl (by rw [show (⟨#[10]⟩ : ByteArray).size = 1 from rfl]; have h1 := headB_size (r := r) (regs := regs) (outs := outs) (by omega); unfold headB lineB at h1; rw [ByteArray.size_append, show (⟨#[10]⟩ : ByteArray).size = 1 from rfl] at h1; omega)) ?_; clear hs a; intro a hs
    refine a_val hs rfl rfl rfl (y_assign hs rfl) ?_; clear hs a; intro a hs
    refine wpList_nil (then_normal ?_)
    refine wp_seq ?_
    refine wp_seq ?_
    refine wp_region_lit ?_
    refine a_val hs rfl rfl rfl (y_assign hs rfl) ?_; clear hs a; intro a hs
    refine wpList_nil (then_normal ?_)
    refine wp_block ?_
    refine wp_loopN (fun m a w1 => ∃ (i : Nat), (i + m = l.length) ∧ St 29 v0 [(1, .pointer (some ⟨gp, 0, none⟩)), (4, .string ((l.take i).foldl (fun b s => b ++ slineB s) (headB regs outs r))), (5, .int .i64 ((i : Nat) : Int))] [pt gp #[.slice A l.length c, .int .i64 regs, .int .i64 outs, .int .u64 (r : Int)] 26] a w1) (l.length) ⟨0, by omega, ?_⟩ (fun m a w1 hJ => ?_)
    · exact (hs.mem_to hs.mem).cut _ ⟨rfl, rfl, rfl, trivial⟩
    · clear hs
      obtain ⟨i, hi, hs⟩ := hJ
      refine wp_seq ?_
      refine wp_seq ?_
      refine wp_region_lit ?_
      refine a_val hs rfl rfl rfl (y_move hs rfl) ?_; clear hs a; intro a hs
      refine a_val hs rfl rfl rfl (y_faddr (k' := 0) 0 hs (by kernel_rfl) rfl rfl) ?_; clear hs a; intro a hs
      refine a_val hs rfl rfl rfl (y_load hs Tryd.underlying22 rfl rfl (fun w hw => (hw.to 0 rfl).cellV rfl)) ?_; clear hs a; intro a hs
      refine a_val hs rfl rfl rfl (y_lenL hs Tryd.underlying22 rfl) ?_; clear hs a; intro a hs
      refine a_val hs rfl rfl rfl (y_cmp hs rfl rfl rfl) ?_; clear hs a; intro a hs
      refine wpList_nil (then_normal ?_)
      refine wp_cond_split (hs.ev rfl) (fun h16 => ?_) (fun h16 => ?_)
      · replace h16 := of_decide_eq_true h16
        obtain ⟨s, hsi⟩ : ∃ s, l[i]? = some s := ⟨_, List.getElem?_eq_getElem (by omega)⟩
        obtain ⟨g0, o, rfl, hcell⟩ := C_at encS_K encS_len (by decide) hA (by omega)
        have hs0 := hg s (List.mem_of_getElem? hsi)
        have hst := hall s (List.mem_of_getElem? hsi)
        have hst1 := okStep_yes hst
        have hts := text_size (r := r) (regs := regs) (outs := outs) (by omega) (fun s hs => ⟨hall s hs, (hg s hs).2⟩) i (by omega)
        have hls := slineB_size hst (by omega)
        refine wp_skip (then_normal ?_)
        refine wp_seq ?_
        refine wp_block ?_
        refine wp_region_lit ?_
        refine a_val hs rfl rfl rfl (y_move hs rfl) ?_; clear hs a; intro a hs
        refine a_val hs rfl rfl rfl (y_faddr (k' := 0) 0 hs (by kernel_rfl) rfl rfl) ?_; clear hs a; intro a hs
        refine a_val hs rfl rfl rfl (y_load hs Tryd.underlying22 rfl rfl (fun w hw => (hw.to 0 rfl).cellV rfl)) ?_; clear hs a; intro a hs
        refine a_val hs rfl rfl rfl (y_move hs rfl) ?_; clear hs a; intro a hs
        refine a_val hs rfl rfl rfl (y_idxB (size := 4) (off := o + i * 4) hs Tryd.underlying22 (by kernel_rfl) rfl rfl (by omega) (by omega) (by simp)) ?_; clear hs a; intro a hs
        refine a_val hs rfl rfl rfl (y_loadAgg (vs := encS s) hs Tryd.underlying47 rfl (by kernel_rfl) rfl (fun w hw k v hk => hcell w hw.base i s hsi k v hk)) ?_; clear hs a; intro a hs
        refine a_eff rfl (e_callB Tryd.func50 rfl rfl hs rfl rfl (ref_line s hst (by omega) _ (varKeep hs.mem.base hP)) ?_); clear hs a; intro a w hs
        refine a_val hs rfl rfl rfl (y_sadd hs rfl rfl (by rw [show (⟨#[10]⟩ : ByteArray).size = 1 from rfl]; have h1 := hls; unfold slineB lineB at h1; rw [ByteArray.size_append, show (⟨#[10]⟩ : ByteArray).size = 1 from rfl] at h1; omega)) ?_; clear hs a; intro a hs
        refine a_val hs rfl rfl rfl (y_sadd hs rfl rfl (by have h1 := hls; unfold slineB lineB at h1; omega)) ?_; clear hs a; intro a hs
        refine a_val hs rfl rfl rfl (y_assign hs rfl) ?_; clear hs a; intro a hs
        refine wpList_nil (in_normal (then_normal ?_))
        refine wp_region_lit ?_
        refine a_val hs rfl rfl rfl (y_move hs rfl) ?_; clear hs a; intro a hs
        refine a_val hs rfl rfl rfl (y_add hs rfl rfl (by omega)) ?_; clear hs a; intro a hs
        refine a_val hs rfl rfl rfl (y_assign hs rfl) ?_; clear hs a; intro a hs
        refine wpList_nil (then_normal ?_)
        replace hs := hs.say 4 rfl (congrArg Value.string (text_snoc hsi _))
        refine ⟨m - 1, by omega, i + 1, by omega, ?_⟩
        exact (hs.mem_to hs.mem).cut _ ⟨rfl, rfl, rfl, trivial⟩
      · replace h16 := of_decide_eq_false h16
        rw [List.take_of_length_le (by omega)] at hs
        refine wp_exit (then_exit (then_exit (in_here (then_normal ?_))))
        refine wp_seq ?_
        refine wp_region_lit ?_
        refine a_val hs rfl rfl rfl (y_move hs rfl) ?_; clear hs a; intro a hs
        refine a_val hs rfl rfl rfl (y_assign hs rfl) ?_; clear hs a; intro a hs
        refine a_val hs rfl rfl rfl (y_assign hs rfl) ?_; clear hs a; intro a hs
        refine wpList_nil (then_normal ?_)
        refine wp_ret ?_
        refine fin_ret hs (.tmp (hs.slots _ _ rfl) (.tmp (hs.slots _ _ rfl) .nil)) (And.intro ?_ hs.mem.base)
        unfold textA; rw [hok']; rfl
end Go.Proofs.YtpdemfnemkmelaaDoor.E
