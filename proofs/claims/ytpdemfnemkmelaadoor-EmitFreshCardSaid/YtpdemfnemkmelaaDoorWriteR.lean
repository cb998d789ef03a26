/- The reference's Write: a program's bytes. Conditions: the numbers are of their kinds. -/
import Derived.Test.YtpdemfnemkmelaaDoorWrite
import Derived.Test.YtpdemfnemkmelaaDoorNumB
namespace Go.Proofs.YtpdemfnemkmelaaDoor.E
open Go Go.RowKit Go.Proofs.YtpdemfnemkmelaaDoorW.PrintWords Go.Proofs.YtpdemfnemkmelaaDoorW.PrintLast Go.Proofs.YtpdemfnemkmelaaDoorW.PrintMore Go.Proofs.YtpdemfnemkmelaaDoor.PA Go.Proofs.YtpdemfnemkmelaaDoor.Num
set_option linter.unusedVariables false
set_option linter.unusedSimpArgs false
/-- A number's four bytes. -/
def fourL (a : Int) : List Int := [a / 16777216 % 256, a / 65536 % 256, a / 256 % 256, a % 256]
theorem fourL_len (a : Int) : (fourL a).length = 4 := rfl
theorem be8_four (r : Int) : be8 r = fourL (r / 4294967296 % 4294967296) ++ fourL (r % 4294967296) := by
  have e : be8 r = [r / 2 ^ 56 % 256, r / 2 ^ 48 % 256, r / 2 ^ 40 % 256, r / 2 ^ 32 % 256, r / 2 ^ 24 % 256, r / 2 ^ 16 % 256, r / 2 ^ 8 % 256, r / 2 ^ 0 % 256] := rfl
  rw [e]
  simp only [fourL, List.cons_append, List.nil_append, List.cons.injEq, and_true]
  refine ⟨?_, ?_, ?_, ?_, ?_, ?_, ?_, ?_⟩ <;> omega
theorem step_cells {s : Stp} (h : okStep s = true) : ([.int .u8 s.f0, .int .u8 (IntKind.u8.wrap s.f1), .int .u8 (IntKind.u8.wrap s.f2), .int .u8 s.f3] : List Value).take (1 + fldN s.f0) = (stepL s).flatMap encU := by
  have h1 := okStep_yes h
  rw [u8_in (by omega), u8_in (by omega), flatU, stepL, fieldsL, Nat.add_comm 1, List.take_succ_cons, List.map_cons, List.map_take]
  rfl
theorem accLenR (l : List Stp) (regs outs reads : Int) (i : Nat) (h : 0 ≤ regs ∧ regs ≤ 256 ∧ 0 ≤ outs ∧ outs ≤ 64 ∧ l.length ≤ 65536) : (numL regs.toNat ++ numL outs.toNat ++ fourL (reads / 4294967296 % 4294967296) ++ fourL (reads % 4294967296) ++ numL l.length ++ (l.take i).flatMap stepL).length ≤ 300000 := by
  have := accLen l regs outs reads i h
  rw [be8_four] at this
  simp only [List.length_append] at this ⊢
  omega
theorem ref_NumH (n : Nat) (hn : n ≤ 9223372036854775807) (v0 : World) :
    Calls Tryd.prog 44 #[.int .i64 ((n : Nat) : Int)] v0 fun e w' => ∃ A c, e = .returned (.tuple #[.slice A (numL n).length c, .int .i64 0]) ∧ H v0 [row 5 1 (.slice A (numL n).length c) (numL n).length ((numL n).flatMap encU)] w' := by
  refine (recoupref08_Num.calls 9 (n : Int) (numL n) 0 v0 (by rw [rNum_f 9 (by omega) _ (by omega)]; unfold numA; rw [if_neg (by omega)]; rfl)).mono ?_
  rintro e w' ⟨v, rfl, hR, hb⟩
  obtain ⟨A, c, rfl, hm⟩ := (H.init v0).addR encU_M encU_len hb hR
  exact ⟨A, c, rfl, hm⟩
theorem ref_FourH (a : Int) (v0 : World) :
    Calls Tryd.prog 45 #[.int .u32 a] v0 fun e w' => ∃ A c, e = .returned (.slice A (fourL a).length c) ∧ H v0 [row 5 1 (.slice A (fourL a).length c) (fourL a).length ((fourL a).flatMap encU)] w' := by
  refine (recoupref08_Four.calls a (fourL a) v0 rfl).mono ?_
  rintro e w' ⟨v, rfl, hR, hb⟩
  obtain ⟨A, c, rfl, hm⟩ := (H.init v0).addR encU_M encU_len hb hR
  exact ⟨A, c, rfl, hm⟩

set_option maxRecDepth 100000 in
theorem ref_Write (A : Option Addr) (c : Nat) (l : List Stp) (regs outs reads : Int) (v0 : World) (hA : Kd.C k47 v0 A l.length l) (hg : ∀ s ∈ l, 0 ≤ s.f0 ∧ 0 ≤ s.f3 ∧ s.f3 ≤ 255) :
    Calls Tryd.prog 21 #[.agg #[.slice A l.length c, .int .i64 regs, .int .i64 outs, .int .u64 reads]] v0 fun e w' => (okProg l regs outs = false ∧ e = .returned (.tuple #[.slice none 0 0, .int .i64 2]) ∧ Below v0.heap.size v0 w') ∨ (okProg l regs outs = true ∧ ∃ A c, e = .returned (.tuple #[.slice A (writeL l regs outs reads).length c, .int .i64 0]) ∧ H v0 [row 5 1 (.slice A (writeL l regs outs reads).length c) (writeL l regs outs reads).length ((writeL l regs outs reads).flatMap encU)] w') := by
  refine calls_enter (N := 87) (n := 86) (args := [.agg #[.slice A l.length c, .int .i64 regs, .int .i64 outs, .int .u64 reads]]) Tryd.func21 rfl rfl rfl (H.init v0) (fun a hs => ?_)
  refine wp_seq ?_
  refine wp_region_lit ?_
  refine a_eff rfl (e_box (cs := #[_, _, _, _]) hs rfl rfl rfl ?_); clear hs a; intro gp a w hs
  refine a_val hs rfl rfl rfl (y_assign hs rfl) ?_; clear hs a; intro a hs
  refine a_val hs rfl rfl rfl (y_assign hs rfl) ?_; clear hs a; intro a hs
  refine wpList_nil (then_normal ?_)
  refine wp_seq ?_
  refine wp_seq ?_
  refine wp_region_lit ?_
  refine a_val hs rfl rfl rfl (y_loadPt 0 rfl hs Tryd.underlying26 rfl (by kernel_rfl) rfl) ?_; clear hs a; intro a hs
  refine a_eff rfl (e_callB Tryd.func12 rfl rfl hs rfl rfl (ref_Can A c l regs outs reads _ (Kd.C_below hA hs.mem.base) hg) ?_); clear hs a; intro a w hs
  refine a_val hs rfl rfl rfl (y_not hs rfl) ?_; clear hs a; intro a hs
  refine wpList_nil (then_normal ?_)
  refine wp_cond_split (hs.ev rfl) (fun h16 => ?_) (fun h16 => ?_)
  · replace h16 := (not_t h16)
    have hok : okProg l regs outs = false := h16
    refine wp_seq ?_
    refine wp_region_lit ?_
    refine a_val hs rfl rfl rfl (y_assign hs rfl) ?_; clear hs a; intro a hs
    refine a_val hs rfl rfl rfl (y_assign hs rfl) ?_; clear hs a; intro a hs
    refine wpList_nil (then_normal ?_)
    refine wp_ret (then_ret ?_)
    refine fin_ret hs (.tmp (hs.slots _ _ rfl) (.tmp (hs.slots _ _ rfl) .nil)) (.inl ⟨hok, rfl, hs.mem.base⟩)
  · replace h16 := (not_f h16)
    have hok' := h16
    obtain ⟨hok, hall⟩ := okProg_yes h16
    have hn1 := numL_length 8 regs.toNat (by omega)
    have hn2 := numL_length 8 outs.toNat (by omega)
    have hn3 := numL_length 8 l.length (by omega)
    refine wp_skip (then_normal ?_)
    refine wp_seq ?_
    refine wp_region_lit ?_
    refine a_val hs rfl rfl rfl (y_faddr (k' := 1) 1 hs (by kernel_rfl) rfl rfl) ?_; clear hs a; intro a hs
    refine a_val hs rfl rfl rfl (y_load hs Tryd.underlying3 rfl rfl (fun w hw => (hw.to 0 rfl).cellV rfl)) ?_; clear hs a; intro a hs
    replace hs := hs.say 19 rfl (show Value.int .i64 regs = .int .i64 ((regs.toNat : Nat) : Int) by congr 1; omega)
    refine a_eff rfl (e_callX Tryd.func44 rfl rfl hs rfl rfl (ref_NumH regs.toNat (by omega) _) (fun e w1 ⟨A1, c1, he, hm⟩ => ⟨_, he, _, hs.mem.more hm, ?_⟩)); clear hs a; intro a hs
    refine a_val hs rfl rfl rfl (y_move hs rfl) ?_; clear hs a; intro a hs
    refine a_val hs rfl rfl rfl (y_extract hs rfl rfl) ?_; clear hs a; intro a hs
    refine a_val hs rfl rfl rfl (y_extract hs rfl rfl) ?_; clear hs a; intro a hs
    refine a_val hs rfl rfl rfl (y_assign hs rfl) ?_; clear hs a; intro a hs
    refine a_val hs rfl rfl rfl (y_assign hs rfl) ?_; clear hs a; intro a hs
    refine wpList_nil (then_normal ?_)
    refine wp_seq ?_
    refine wp_region_lit ?_
    refine a_val hs rfl rfl rfl (y_faddr (k' := 2) 2 hs (by kernel_rfl) rfl rfl) ?_; clear hs a; intro a hs
    refine a_val hs rfl rfl rfl (y_load hs Tryd.underlying3 rfl rfl (fun w hw => (hw.to 1 rfl).cellV rfl)) ?_; clear hs a; intro a hs
    replace hs := hs.say 25 rfl (show Value.int .i64 outs = .int .i64 ((outs.toNat : Nat) : Int) by congr 1; omega)
    refine a_eff rfl (e_callX Tryd.func44 rfl rfl hs rfl rfl (ref_NumH outs.toNat (by omega) _) (fun e w1 ⟨A2, c2, he, hm⟩ => ⟨_, he, _, hs.mem.more hm, ?_⟩)); clear hs a; intro a hs
    refine a_val hs rfl rfl rfl (y_move hs rfl) ?_; clear hs a; intro a hs
    refine a_val hs rfl rfl rfl (y_extract hs rfl rfl) ?_; clear hs a; intro a hs
    refine a_val hs rfl rfl rfl (y_extract hs rfl rfl) ?_; clear hs a; intro a hs
    refine a_val hs rfl rfl rfl (y_assign hs rfl) ?_; clear hs a; intro a hs
    refine a_val hs rfl rfl rfl (y_assign hs rfl) ?_; clear hs a; intro a hs
    refine wpList_nil (then_normal ?_)
    refine wp_seq ?_
    refine wp_region_lit ?_
    refine a_val hs rfl rfl rfl (y_move hs rfl) ?_; clear hs a; intro a hs
    refine a_val hs rfl rfl rfl (y_move hs rfl) ?_; clear hs a; intro a hs
    refine a_eff rfl (e_appR (z := .int .u8 0) (size := 1) (bytes := 1) encU (numL regs.toNat) (numL outs.toNat) 1 rfl 0 rfl hs rfl Tryd.underlying27 (by kernel_rfl) rfl rfl (fun _ => rfl) rfl rfl (numL_pos _) (oneU _) (by unfold maxLen; omega) (by omega) ?_); clear hs a; intro A3 c3 a w hs
    refine a_val hs rfl rfl rfl (y_assign hs rfl) ?_; clear hs a; intro a hs
    refine wpList_nil (then_normal ?_)
    refine wp_seq ?_
    refine wp_region_lit ?_
    refine a_val hs rfl rfl rfl (y_move hs rfl) ?_; clear hs a; intro a hs
    refine a_val hs rfl rfl rfl (y_faddr (k' := 3) 3 hs (by kernel_rfl) rfl rfl) ?_; clear hs a; intro a hs
    refine a_val hs rfl rfl rfl (y_load hs Tryd.underlying24 rfl rfl (fun w hw => (hw.to 2 rfl).cellV rfl)) ?_; clear hs a; intro a hs
    refine a_val hs rfl rfl rfl (y_shift (q := reads / 4294967296) hs rfl rfl (by rw [show (32 : Int) = ((32 : Nat) : Int) from rfl, shr_div _ _ 32 (by decide)]; rfl)) ?_; clear hs a; intro a hs
    refine a_val hs rfl rfl rfl (y_conv hs Tryd.underlying24 Tryd.underlying90 rfl) ?_; clear hs a; intro a hs
    replace hs := hs.say 36 rfl (congrArg (Value.int IntKind.u32) (IntKind.wrap_u32 _))
    refine a_eff rfl (e_callX Tryd.func45 rfl rfl hs rfl rfl (ref_FourH _ _) (fun e w1 ⟨A4, c4, he, hm⟩ => ⟨_, he, _, hs.mem.more hm, ?_⟩)); clear hs a; intro a hs
    refine a_eff rfl (e_appR (z := .int .u8 0) (size := 1) (bytes := 1) encU ((numL regs.toNat ++ numL outs.toNat)) (fourL (reads / 4294967296 % 4294967296)) 1 rfl 0 rfl hs rfl Tryd.underlying27 (by kernel_rfl) rfl rfl (fun _ => rfl) rfl rfl (by rw [fourL_len]; decide) (oneU _) (by unfold maxLen; simp only [List.length_append, fourL_len]; omega) (by simp only [List.length_append, fourL_len]; omega) ?_); clear hs a; intro A5 c5 a w hs
    refine a_val hs rfl rfl rfl (y_assign hs rfl) ?_; clear hs a; intro a hs
    refine wpList_nil (then_normal ?_)
    refine wp_seq ?_
    refine wp_region_lit ?_
    refine a_val hs rfl rfl rfl (y_move hs rfl) ?_; clear hs a; intro a hs
    refine a_val hs rfl rfl rfl (y_faddr (k' := 3) 3 hs (by kernel_rfl) rfl rfl) ?_; clear hs a; intro a hs
    refine a_val hs rfl rfl rfl (y_load hs Tryd.underlying24 rfl rfl (fun w hw => (hw.to 3 rfl).cellV rfl)) ?_; clear hs a; intro a hs
    refine a_val hs rfl rfl rfl (y_conv hs Tryd.underlying24 Tryd.underlying90 rfl) ?_; clear hs a; intro a hs
    replace hs := hs.say 42 rfl (congrArg (Value.int IntKind.u32) (IntKind.wrap_u32 _))
    refine a_eff rfl (e_callX Tryd.func45 rfl rfl hs rfl rfl (ref_FourH _ _) (fun e w1 ⟨A6, c6, he, hm⟩ => ⟨_, he, _, hs.mem.more hm, ?_⟩)); clear hs a; intro a hs
    refine a_eff rfl (e_appR (z := .int .u8 0) (size := 1) (bytes := 1) encU (((numL regs.toNat ++ numL outs.toNat) ++ fourL (reads / 4294967296 % 4294967296))) (fourL (reads % 4294967296)) 1 rfl 0 rfl hs rfl Tryd.underlying27 (by kernel_rfl) rfl rfl (fun _ => rfl) rfl rfl (by rw [fourL_len]; decide) (oneU _) (by unfold maxLen; simp only [List.length_append, fourL_len]; omega) (by simp only [List.length_append, fourL_len]; omega) ?_); clear hs a; intro A7 c7 a w hs
    refine a_val hs rfl rfl rfl (y_assign hs rfl) ?_; clear hs a; intro a hs
    refine wpList_nil (then_normal ?_)
    refine wp_seq ?_
    refine wp_region_lit ?_
    refine a_val hs rfl rfl rfl (y_faddr (k' := 0) 0 hs (by kernel_rfl) rfl rfl) ?_; clear hs a; intro a hs
    refine a_val hs rfl rfl rfl (y_load hs Tryd.underlying22 rfl rfl (fun w hw => (hw.to 4 rfl).cellV rfl)) ?_; clear hs a; intro a hs
    refine a_val hs rfl rfl rfl (y_lenL hs Tryd.underlying22 rfl) ?_; clear hs a; intro a hs
    refine a_eff rfl (e_callX Tryd.func44 rfl rfl hs rfl rfl (ref_NumH l.length (by omega) _) (fun e w1 ⟨A8, c8, he, hm⟩ => ⟨_, he, _, hs.mem.more hm, ?_⟩)); clear hs a; intro a hs
    refine a_val hs rfl rfl rfl (y_move hs rfl) ?_; clear hs a; intro a hs
    refine a_val hs rfl rfl rfl (y_extract hs rfl rfl) ?_; clear hs a; intro a hs
    refine a_val hs rfl rfl rfl (y_extract hs rfl rfl) ?_; clear hs a; intro a hs
    refine a_val hs rfl rfl rfl (y_assign hs rfl) ?_; clear hs a; intro a hs
    refine a_val hs rfl rfl rfl (y_assign hs rfl) ?_; clear hs a; intro a hs
    refine wpList_nil (then_normal ?_)
    refine wp_seq ?_
    refine wp_region_lit ?_
    refine a_val hs rfl rfl rfl (y_move hs rfl) ?_; clear hs a; intro a hs
    refine a_val hs rfl rfl rfl (y_move hs rfl) ?_; clear hs a; intro a hs
    refine a_eff rfl (e_appR (z := .int .u8 0) (size := 1) (bytes := 1) encU ((((numL regs.toNat ++ numL outs.toNat) ++ fourL (reads / 4294967296 % 4294967296)) ++ fourL (reads % 4294967296))) (numL l.length) 1 rfl 0 rfl hs rfl Tryd.underlying27 (by kernel_rfl) rfl rfl (fun _ => rfl) rfl rfl (numL_pos _) (oneU _) (by unfold maxLen; simp only [List.length_append, fourL_len]; omega) (by simp only [List.length_append, fourL_len]; omega) ?_); clear hs a; intro A9 c9 a w hs
    refine a_val hs rfl rfl rfl (y_assign hs rfl) ?_; clear hs a; intro a hs
    refine wpList_nil (then_normal ?_)
    refine wp_seq ?_
    refine wp_seq ?_
    refine wp_region_lit ?_
    refine a_val hs rfl rfl rfl (y_assign hs rfl) ?_; clear hs a; intro a hs
    refine wpList_nil (then_normal ?_)
    refine wp_block ?_
    refine wp_loopN (fun m a w1 => ∃ (i : Nat) (A9 : Option Addr) (c9 : Nat), (i + m = l.length) ∧ St 87 v0 [(1, .pointer (some ⟨gp, 0, none⟩)), (8, .slice A9 ((((((numL regs.toNat ++ numL outs.toNat) ++ fourL (reads / 4294967296 % 4294967296)) ++ fourL (reads % 4294967296)) ++ numL l.length) ++ (l.take i).flatMap stepL)).length c9), (11, .int .i64 ((i : Nat) : Int))] [row 5 1 (.slice A9 ((((((numL regs.toNat ++ numL outs.toNat) ++ fourL (reads / 4294967296 % 4294967296)) ++ fourL (reads % 4294967296)) ++ numL l.length) ++ (l.take i).flatMap stepL)).length c9) ((((((numL regs.toNat ++ numL outs.toNat) ++ fourL (reads / 4294967296 % 4294967296)) ++ fourL (reads % 4294967296)) ++ numL l.length) ++ (l.take i).flatMap stepL)).length (((((((numL regs.toNat ++ numL outs.toNat) ++ fourL (reads / 4294967296 % 4294967296)) ++ fourL (reads % 4294967296)) ++ numL l.length) ++ (l.take i).flatMap stepL)).flatMap encU), pt gp #[.slice A l.length c, .int .i64 regs, .int .i64 outs, .int .u64 reads] 26] a w1) (l.length) ⟨0, A9, c9, by omega, ?_⟩ (fun m a w1 hJ => ?_)
    · have e0 : ((((numL regs.toNat ++ numL outs.toNat) ++ fourL (reads / 4294967296 % 4294967296)) ++ fourL (reads % 4294967296)) ++ numL l.length) = ((((numL regs.toNat ++ numL outs.toNat) ++ fourL (reads / 4294967296 % 4294967296)) ++ fourL (reads % 4294967296)) ++ numL l.length) ++ (l.take 0).flatMap stepL := by simp
      rw [e0] at hs
      exact (hs.mem_to ((((((hs.mem.to 1 rfl).drop.to 1 rfl).drop.to 1 rfl).drop.to 1 rfl).drop.to 1 rfl).to 1 rfl)).cut _ ⟨rfl, rfl, rfl, trivial⟩
    · clear hs
      obtain ⟨i, A9, c9, hi, hs⟩ := hJ
      refine wp_seq ?_
      refine wp_seq ?_
      refine wp_region_lit ?_
      refine a_val hs rfl rfl rfl (y_move hs rfl) ?_; clear hs a; intro a hs
      refine a_val hs rfl rfl rfl (y_faddr (k' := 0) 0 hs (by kernel_rfl) rfl rfl) ?_; clear hs a; intro a hs
      refine a_val hs rfl rfl rfl (y_load hs Tryd.underlying22 rfl rfl (fun w hw => (hw.to 1 rfl).cellV rfl)) ?_; clear hs a; intro a hs
      refine a_val hs rfl rfl rfl (y_lenL hs Tryd.underlying22 rfl) ?_; clear hs a; intro a hs
      refine a_val hs rfl rfl rfl (y_cmp hs rfl rfl rfl) ?_; clear hs a; intro a hs
      refine wpList_nil (then_normal ?_)
      refine wp_cond_split (hs.ev rfl) (fun h59 => ?_) (fun h59 => ?_)
      · replace h59 := of_decide_eq_true h59
        obtain ⟨s, hsi⟩ : ∃ s, l[i]? = some s := ⟨_, List.getElem?_eq_getElem (by omega)⟩
        obtain ⟨g0, o, rfl, hcell⟩ := C_at encS_K encS_len (by decide) hA (by omega)
        have hs0 := hg s (List.mem_of_getElem? hsi)
        have hlen := accLenR l regs outs reads i (by omega)
        have hst := hall s (List.mem_of_getElem? hsi)
        have hst1 := okStep_yes hst
        have hfl := fldN_le s.f0
        have hsl := stepL_len s
        refine wp_skip (then_normal ?_)
        refine wp_seq ?_
        refine wp_block ?_
        refine wp_seq ?_
        refine wp_region_lit ?_
        refine a_val hs rfl rfl rfl (y_faddr (k' := 0) 0 hs (by kernel_rfl) rfl rfl) ?_; clear hs a; intro a hs
        refine a_val hs rfl rfl rfl (y_load hs Tryd.underlying22 rfl rfl (fun w hw => (hw.to 1 rfl).cellV rfl)) ?_; clear hs a; intro a hs
        refine a_val hs rfl rfl rfl (y_move hs rfl) ?_; clear hs a; intro a hs
        refine a_val hs rfl rfl rfl (y_idxB (size := 4) (off := o + i * 4) hs Tryd.underlying22 (by kernel_rfl) rfl rfl (by omega) (by omega) (by simp)) ?_; clear hs a; intro a hs
        refine a_val hs rfl rfl rfl (y_loadAgg (vs := encS s) hs Tryd.underlying47 rfl (by kernel_rfl) rfl (fun w hw k v hk => hcell w hw.base i s hsi k v hk)) ?_; clear hs a; intro a hs
        refine a_eff rfl (e_alloc (z := .agg #[.int .u8 0, .int .i64 0, .int .i64 0, .int .u8 0]) (cs := #[.int .u8 0, .int .i64 0, .int .i64 0, .int .u8 0]) hs rfl (by kernel_rfl) rfl ?_); clear hs a; intro gs a w hs
        refine a_eff rfl (e_store (cl := [_, _, _, _]) 0 rfl hs rfl rfl (by kernel_rfl) rfl rfl rfl ?_); clear hs a; intro a w hs
        refine wpList_nil (then_normal ?_)
        refine wp_seq ?_
        refine wp_region_lit ?_
        refine a_val hs rfl rfl rfl (y_faddr (k' := 0) 0 hs (by kernel_rfl) rfl rfl) ?_; clear hs a; intro a hs
        refine a_val hs rfl rfl rfl (y_load hs Tryd.underlying45 rfl rfl (fun w hw => (hw.to 0 rfl).cellV rfl)) ?_; clear hs a; intro a hs
        refine a_val hs rfl rfl rfl (y_faddr (k' := 1) 1 hs (by kernel_rfl) rfl rfl) ?_; clear hs a; intro a hs
        refine a_val hs rfl rfl rfl (y_load hs Tryd.underlying3 rfl rfl (fun w hw => (hw.to 0 rfl).cellV rfl)) ?_; clear hs a; intro a hs
        refine a_val hs rfl rfl rfl (y_conv hs Tryd.underlying3 Tryd.underlying5 rfl) ?_; clear hs a; intro a hs
        refine a_val hs rfl rfl rfl (y_faddr (k' := 2) 2 hs (by kernel_rfl) rfl rfl) ?_; clear hs a; intro a hs
        refine a_val hs rfl rfl rfl (y_load hs Tryd.underlying3 rfl rfl (fun w hw => (hw.to 0 rfl).cellV rfl)) ?_; clear hs a; intro a hs
        refine a_val hs rfl rfl rfl (y_conv hs Tryd.underlying3 Tryd.underlying5 rfl) ?_; clear hs a; intro a hs
        refine a_val hs rfl rfl rfl (y_faddr (k' := 3) 3 hs (by kernel_rfl) rfl rfl) ?_; clear hs a; intro a hs
        refine a_val hs rfl rfl rfl (y_load hs Tryd.underlying5 rfl rfl (fun w hw => (hw.to 0 rfl).cellV rfl)) ?_; clear hs a; intro a hs
        refine a_eff rfl (e_bslice (z := .int .u8 0) (size := 1) (zc := #[.int .u8 0, .int .u8 0, .int .u8 0, .int .u8 0]) (cl := [_, _, _, _]) hs rfl Tryd.underlying27 (by kernel_rfl) rfl rfl rfl (by kernel_rfl) (by rfl) rfl ?_); clear hs a; intro gl a w hs
        refine a_val hs rfl rfl rfl (y_assign hs rfl) ?_; clear hs a; intro a hs
        refine wpList_nil (then_normal ?_)
        refine wp_region_lit ?_
        refine a_val hs rfl rfl rfl (y_move hs rfl) ?_; clear hs a; intro a hs
        refine a_val hs rfl rfl rfl (y_move hs rfl) ?_; clear hs a; intro a hs
        refine a_val hs rfl rfl rfl (y_faddr (k' := 0) 0 hs (by kernel_rfl) rfl rfl) ?_; clear hs a; intro a hs
        refine a_val hs rfl rfl rfl (y_load hs Tryd.underlying45 rfl rfl (fun w hw => (hw.to 1 rfl).cellV rfl)) ?_; clear hs a; intro a hs
        refine a_eff rfl (e_callB Tryd.func34 rfl rfl hs rfl rfl (ref_fields s.f0 (by omega) _) ?_); clear hs a; intro a w hs
        refine a_val hs rfl rfl rfl (y_add hs rfl rfl (by omega)) ?_; clear hs a; intro a hs
        refine a_val hs rfl rfl rfl (y_sliceF (size := 1) (h := 1 + fldN s.f0) hs Tryd.underlying27 (by kernel_rfl) rfl rfl (by omega) (by omega)) ?_; clear hs a; intro a hs
        refine a_eff rfl (e_appL (z := .int .u8 0) (size := 1) (bytes := 1) encU ((((((numL regs.toNat ++ numL outs.toNat) ++ fourL (reads / 4294967296 % 4294967296)) ++ fourL (reads % 4294967296)) ++ numL l.length) ++ (l.take i).flatMap stepL)) (stepL s) 2 rfl 0 rfl hs rfl Tryd.underlying27 (by kernel_rfl) rfl rfl (fun _ => rfl) rfl rfl (by rw [stepL, List.length_cons, fieldsL_len]; omega) (by rw [Nat.mul_one]; exact step_cells hst) (oneU _) (by unfold maxLen; omega) (by omega) ?_); clear hs a; intro B1 d1 a w hs
        refine a_val hs rfl rfl rfl (y_assign hs rfl) ?_; clear hs a; intro a hs
        refine wpList_nil (in_normal (then_normal ?_))
        refine wp_region_lit ?_
        refine a_val hs rfl rfl rfl (y_move hs rfl) ?_; clear hs a; intro a hs
        refine a_val hs rfl rfl rfl (y_add hs rfl rfl (by omega)) ?_; clear hs a; intro a hs
        refine a_val hs rfl rfl rfl (y_assign hs rfl) ?_; clear hs a; intro a hs
        refine wpList_nil (then_normal ?_)
        have e1 : (((((numL regs.toNat ++ numL outs.toNat) ++ fourL (reads / 4294967296 % 4294967296)) ++ fourL (reads % 4294967296)) ++ numL l.length) ++ (l.take i).flatMap stepL) ++ stepL s = ((((numL regs.toNat ++ numL outs.toNat) ++ fourL (reads / 4294967296 % 4294967296)) ++ fourL (reads % 4294967296)) ++ numL l.length) ++ (l.take (i + 1)).flatMap stepL := by rw [List.append_assoc, List.take_add_one, hsi, List.flatMap_append]; simp
        rw [e1] at hs
        refine ⟨m - 1, by omega, i + 1, B1, d1, by omega, ?_⟩
        exact (hs.mem_to ((((hs.mem.to 1 rfl).drop.to 1 rfl).drop.to 1 rfl).to 1 rfl)).cut _ ⟨rfl, rfl, rfl, trivial⟩
      · replace h59 := of_decide_eq_false h59
        refine wp_exit (then_exit (then_exit (in_here (then_normal ?_))))
        refine wp_seq ?_
        refine wp_region_lit ?_
        refine a_val hs rfl rfl rfl (y_move hs rfl) ?_; clear hs a; intro a hs
        refine a_val hs rfl rfl rfl (y_assign hs rfl) ?_; clear hs a; intro a hs
        refine a_val hs rfl rfl rfl (y_assign hs rfl) ?_; clear hs a; intro a hs
        refine wpList_nil (then_normal ?_)
        refine wp_ret ?_
        have e2 : (((((numL regs.toNat ++ numL outs.toNat) ++ fourL (reads / 4294967296 % 4294967296)) ++ fourL (reads % 4294967296)) ++ numL l.length) ++ (l.take i).flatMap stepL) = writeL l regs outs reads := by rw [List.take_of_length_le (by omega)]; unfold writeL; rw [be8_four]; simp only [List.append_assoc]
        rw [e2] at hs
        refine fin_ret hs (.tmp (hs.slots _ _ rfl) (.tmp (hs.slots _ _ rfl) .nil)) (.inr ⟨hok', A9, c9, rfl, (hs.mem.to 1 rfl).drop⟩)
end Go.Proofs.YtpdemfnemkmelaaDoor.E
