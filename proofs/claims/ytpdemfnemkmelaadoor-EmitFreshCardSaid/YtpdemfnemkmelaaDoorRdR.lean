/- The reference's Read: the program, its size, or the error. Conditions: the bytes are bytes. -/
import Derived.Test.YtpdemfnemkmelaaDoorRead
import Derived.Test.YtpdemfnemkmelaaDoorEng7
import Derived.Test.YtpdemfnemkmelaaDoorMay
import Derived.Test.YtpdemfnemkmelaaDoorPAM0
namespace Go.Proofs.YtpdemfnemkmelaaDoor.E
open Go Go.RowKit Go.Proofs.YtpdemfnemkmelaaDoorW.PrintWords Go.Proofs.YtpdemfnemkmelaaDoorW.PrintLast Go.Proofs.YtpdemfnemkmelaaDoorW.PrintMore Go.Proofs.YtpdemfnemkmelaaDoor.PA Go.Proofs.YtpdemfnemkmelaaDoor.Num
set_option linter.unusedVariables false
set_option linter.unusedSimpArgs false
def zS : Stp := ⟨0, 0, 0, 0⟩

set_option maxRecDepth 100000 in
theorem ref_Read (A : Option Addr) (c : Nat) (b : List Int) (hc : b.length ≤ c) (hb : byteL b) (hz : b.length ≤ 140737488355328) (v0 : World) (hA : Kd.C (Kd.int .u8) v0 A b.length b) :
    Calls Tryd.prog 23 #[.slice A b.length c] v0 fun e w' => ∃ A' c', e = .returned (.tuple #[.agg #[.slice A' (readR b).1.length c', .int .i64 (readR b).2.1, .int .i64 (readR b).2.2.1, .int .u64 (readR b).2.2.2.1], .int .i64 (readR b).2.2.2.2.1, .int .i64 (readR b).2.2.2.2.2]) ∧ H v0 [row 47 4 (.slice A' ((readR b).1).length c') ((readR b).1).length (((readR b).1).flatMap encS)] w' := by
  refine calls_enter (N := 143) (n := 142) (args := [.slice A b.length c]) Tryd.func23 rfl rfl rfl (H.init v0) (fun a hs => ?_)
  obtain ⟨R, hRd⟩ : ∃ R, R = readR b := ⟨_, rfl⟩
  have hR0 : R = numR b 0 256 (readK1 b) := hRd
  refine wp_seq ?_
  refine wp_region_lit ?_
  refine a_eff rfl (e_alloc (z := .agg #[.slice none 0 0, .int .i64 0, .int .i64 0, .int .u64 0]) (cs := #[.slice none 0 0, .int .i64 0, .int .i64 0, .int .u64 0]) hs rfl (by kernel_rfl) rfl ?_); clear hs a; intro pp a w hs
  refine a_val hs rfl rfl rfl (y_assign hs rfl) ?_; clear hs a; intro a hs
  refine a_val hs rfl rfl rfl (y_assign hs rfl) ?_; clear hs a; intro a hs
  refine wpList_nil (then_normal ?_)
  refine wp_seq ?_
  refine wp_region_lit ?_
  refine a_eff rfl (e_alloc (z := .agg #[.slice none 0 0, .int .i64 0, .int .i64 0, .int .u64 0]) (cs := #[.slice none 0 0, .int .i64 0, .int .i64 0, .int .u64 0]) hs rfl (by kernel_rfl) rfl ?_); clear hs a; intro pq a w hs
  refine wpList_nil (then_normal ?_)
  refine wp_seq ?_
  refine wp_region_lit ?_
  refine a_val hs rfl rfl rfl (y_assign hs rfl) ?_; clear hs a; intro a hs
  refine wpList_nil (then_normal ?_)
  refine wp_seq ?_
  refine wp_seq ?_
  refine wp_region_lit ?_
  refine a_val hs rfl rfl rfl (y_assign hs rfl) ?_; clear hs a; intro a hs
  refine wpList_nil (then_normal ?_)
  refine wp_block ?_
  replace hs := hs.mem_to (hs.mem.nilRow 47 4)
  refine wp_loopN (fun m a w1 => ∃ (i p : Nat) (rg ot rd : Int) (l : List Stp) (A2 : Option Addr) (c2 : Nat), (i + m = 3) ∧ (p ≤ b.length) ∧ ((i = 0 ∧ R = numR b p 256 (readK1 b) ∧ rg = 0 ∧ ot = 0 ∧ rd = 0 ∧ l = [] ∧ A2 = none ∧ c2 = 0) ∨ (i = 1 ∧ R = readK1 b rg p ∧ ot = 0 ∧ rd = 0 ∧ l = [] ∧ A2 = none ∧ c2 = 0) ∨ (i = 2 ∧ R = readK2 b rg ot p ∧ rd = 0 ∧ l = [] ∧ A2 = none ∧ c2 = 0) ∨ (i = 3 ∧ R = stepsR b rg ot rd l.length p [] ∧ l.length ≤ 65536 ∧ ∃ gm, A2 = some ⟨gm, 0, none⟩)) ∧ St 143 v0 [(0, .slice A b.length c), (2, .pointer (some ⟨pp, 0, none⟩)), (5, .pointer (some ⟨pq, 0, none⟩)), (6, .int .i64 ((p : Nat) : Int)), (7, .int .i64 ((i : Nat) : Int))] [pt pq #[.slice A2 (l).length c2, .int .i64 (rg), .int .i64 (ot), .int .u64 (rd)] 26, row 47 4 (.slice A2 (l).length c2) (l).length ((l).flatMap encS), pt pp #[.slice none 0 0, .int .i64 0, .int .i64 0, .int .u64 0] 26] a w1) (3) ⟨0, 0, 0, 0, 0, [], none, 0, rfl, Nat.zero_le _, .inl ⟨rfl, hR0, rfl, rfl, rfl, rfl, rfl, rfl⟩, ?_⟩ (fun m a w1 hJ => ?_)
  · exact (hs.mem_to (((hs.mem.to 2 rfl).to 1 rfl).to 2 rfl)).cut _ ⟨rfl, rfl, rfl, rfl, rfl, trivial⟩
  · clear hs
    obtain ⟨i, p, rg, ot, rd, l, A2, c2, hi, hp, hI, hs⟩ := hJ
    refine wp_seq ?_
    refine wp_seq ?_
    refine wp_region_lit ?_
    refine a_val hs rfl rfl rfl (y_move hs rfl) ?_; clear hs a; intro a hs
    refine a_val hs rfl rfl rfl (y_cmp hs rfl rfl rfl) ?_; clear hs a; intro a hs
    refine wpList_nil (then_normal ?_)
    refine wp_cond_split (hs.ev rfl) (fun h16 => ?_) (fun h16 => ?_)
    · replace h16 := of_decide_eq_true h16
      refine wp_skip (then_normal ?_)
      refine wp_seq ?_
      refine wp_block ?_
      refine wp_seq ?_
      refine wp_seq ?_
      rcases hI with ⟨rfl, hR, rfl, rfl, rfl, rfl, rfl, rfl⟩ | ⟨rfl, hR, rfl, rfl, rfl, rfl, rfl⟩ | ⟨rfl, hR, rfl, rfl, rfl, rfl⟩ | ⟨rfl, _⟩
      · have hK := hR
        refine wp_region_lit ?_
        refine a_val hs rfl rfl rfl (y_move hs rfl) ?_; clear hs a; intro a hs
        refine a_val hs rfl rfl rfl (y_cmp (b := false) hs rfl rfl (congrArg some (beq_eq_false_iff_ne.2 (by omega)))) ?_; clear hs a; intro a hs
        refine wpList_nil (then_normal ?_)
        refine wp_cond_false (hs.ev rfl) ?_
        refine wp_skip (then_normal ?_)
        refine wp_seq ?_
        refine wp_region_lit ?_
        refine a_val hs rfl rfl rfl (y_move hs rfl) ?_; clear hs a; intro a hs
        refine a_val hs rfl rfl rfl (y_move hs rfl) ?_; clear hs a; intro a hs
        refine a_val hs rfl rfl rfl (y_sliceT (size := 1) (h := p) hs Tryd.underlying27 (by kernel_rfl) rfl rfl rfl (by omega) hc) ?_; clear hs a; intro a hs
        replace hs := hs.say 48 rfl (show Value.slice (if c = p then A else A.map (·.add (p * 1))) (b.length - p) (c - p) = .slice (if c = p then A else A.map (·.add (p * (Kd.int .u8).sz))) (b.drop p).length (c - p) by rw [List.length_drop]; rfl)
        refine a_eff rfl (e_callB Tryd.func48 rfl rfl hs rfl rfl ((recoupref08_ReadNum.calls 19 _ _ (b.drop p) _ _ _ _ (Kd.C_drop (Kd.C_below hA hs.mem.base) hp hc) (by rw [List.length_drop]; omega) (rReadNum_f 19 (by omega) _ (byteL_drop hb p) (by rw [List.length_drop]; omega))).mono (by rintro e w1 ⟨rfl, hd⟩; exact ⟨rfl, drawnB hd⟩)) ?_); clear hs a; intro a w hs
        refine a_val hs rfl rfl rfl (y_move hs rfl) ?_; clear hs a; intro a hs
        refine a_val hs rfl rfl rfl (y_extract hs rfl rfl) ?_; clear hs a; intro a hs
        refine a_val hs rfl rfl rfl (y_extract hs rfl rfl) ?_; clear hs a; intro a hs
        refine a_val hs rfl rfl rfl (y_extract hs rfl rfl) ?_; clear hs a; intro a hs
        refine a_val hs rfl rfl rfl (y_assign hs rfl) ?_; clear hs a; intro a hs
        refine a_val hs rfl rfl rfl (y_assign hs rfl) ?_; clear hs a; intro a hs
        refine a_val hs rfl rfl rfl (y_assign hs rfl) ?_; clear hs a; intro a hs
        refine wpList_nil (then_normal ?_)
        refine wp_seq ?_
        refine wp_seq ?_
        refine wp_region_lit ?_
        refine a_val hs rfl rfl rfl (y_move hs rfl) ?_; clear hs a; intro a hs
        refine a_val hs rfl rfl rfl (y_cmp hs rfl rfl rfl) ?_; clear hs a; intro a hs
        refine wpList_nil (then_normal ?_)
        refine wp_cond_split (hs.ev rfl) (fun h54 => ?_) (fun h54 => ?_)
        · replace h54 := bne_iff_ne.1 h54
          replace h54 : (readA (b.drop p)).2.2 ≠ 0 := h54
          refine wp_seq ?_
          refine wp_region_lit ?_
          refine a_val hs rfl rfl rfl (y_struct (zc := #[.slice none 0 0, .int .i64 0, .int .i64 0, .int .u64 0]) (pl := [(0, 1), (1, 1), (2, 1), (3, 1)]) (cl := [.slice none 0 0, .int .i64 0, .int .i64 0, .int .u64 0]) hs (by kernel_rfl) rfl (by rfl) rfl) ?_; clear hs a; intro a hs
          refine a_val hs rfl rfl rfl (y_move hs rfl) ?_; clear hs a; intro a hs
          refine a_eff rfl (e_store (cl := [_, _, _, _]) 2 rfl hs rfl rfl (by kernel_rfl) rfl rfl rfl ?_); clear hs a; intro a w hs
          refine a_val hs rfl rfl rfl (y_assign hs rfl) ?_; clear hs a; intro a hs
          refine a_val hs rfl rfl rfl (y_assign hs rfl) ?_; clear hs a; intro a hs
          refine wpList_nil (then_normal ?_)
          refine wp_ret (then_ret (in_ret (then_ret (then_ret (in_ret (then_ret ?_))))))
          have hRR : R = badR ((readA (b.drop p)).2.2) := (hK.trans (by unfold numR; rw [if_neg h54]))
          refine fin_ret hs (.cell (hs.slots _ _ rfl) (hs.mem.to 0 rfl).cells Tryd.underlying26 rfl (by kernel_rfl) (.tmp (hs.slots _ _ rfl) (.tmp (hs.slots _ _ rfl) .nil))) ?_
          rw [← hRd, hRR]
          exact ⟨none, 0, rfl, (((hs.mem.to 0 rfl).drop.to 0 rfl).drop.to 0 rfl).drop.nilRow 47 4⟩
        · replace h54 := bne_eq_false_iff_eq.1 h54
          replace h54 : (readA (b.drop p)).2.2 = 0 := h54
          obtain ⟨nm, hn1, hsz, hfit, _, hn9⟩ := readA_ok hb p h54
          obtain ⟨sz, hsz2⟩ : ∃ s, s = (numL nm).length := ⟨_, rfl⟩
          rw [← hsz2] at hsz hfit
          refine wp_skip (then_normal ?_)
          refine wp_seq ?_
          refine wp_seq ?_
          refine wp_region_lit ?_
          refine a_val hs rfl rfl rfl (y_move hs rfl) ?_; clear hs a; intro a hs
          refine a_val hs rfl rfl rfl (y_arr (zc := #[.int .i64 0, .int .i64 0, .int .i64 0]) (size := 1) (cl := [_, _, _]) hs (by kernel_rfl) rfl (by rfl) rfl) ?_; clear hs a; intro a hs
          refine a_val hs rfl rfl rfl (y_move hs rfl) ?_; clear hs a; intro a hs
          refine a_val hs rfl rfl rfl (y_idxArr (v := .int .i64 256) hs Tryd.underlying97 Tryd.underlying3 rfl (by kernel_rfl) rfl rfl (by omega) (by omega) rfl) ?_; clear hs a; intro a hs
          refine a_val hs rfl rfl rfl (y_cmp hs rfl rfl rfl) ?_; clear hs a; intro a hs
          refine wpList_nil (then_normal ?_)
          refine wp_cond_split (hs.ev rfl) (fun h61 => ?_) (fun h61 => ?_)
          · replace h61 := of_decide_eq_true h61
            replace h61 : (readA (b.drop p)).1 > 256 := h61
            refine wp_seq ?_
            refine wp_region_lit ?_
            refine a_val hs rfl rfl rfl (y_struct (zc := #[.slice none 0 0, .int .i64 0, .int .i64 0, .int .u64 0]) (pl := [(0, 1), (1, 1), (2, 1), (3, 1)]) (cl := [.slice none 0 0, .int .i64 0, .int .i64 0, .int .u64 0]) hs (by kernel_rfl) rfl (by rfl) rfl) ?_; clear hs a; intro a hs
            refine a_eff rfl (e_store (cl := [_, _, _, _]) 2 rfl hs rfl rfl (by kernel_rfl) rfl rfl rfl ?_); clear hs a; intro a w hs
            refine a_val hs rfl rfl rfl (y_assign hs rfl) ?_; clear hs a; intro a hs
            refine a_val hs rfl rfl rfl (y_assign hs rfl) ?_; clear hs a; intro a hs
            refine wpList_nil (then_normal ?_)
            refine wp_ret (then_ret (in_ret (then_ret (then_ret (in_ret (then_ret ?_))))))
            have hRR : R = badR (8) := (hK.trans (by unfold numR; rw [if_pos h54, if_pos h61]))
            refine fin_ret hs (.cell (hs.slots _ _ rfl) (hs.mem.to 0 rfl).cells Tryd.underlying26 rfl (by kernel_rfl) (.tmp (hs.slots _ _ rfl) (.tmp (hs.slots _ _ rfl) .nil))) ?_
            rw [← hRd, hRR]
            exact ⟨none, 0, rfl, (((hs.mem.to 0 rfl).drop.to 0 rfl).drop.to 0 rfl).drop.nilRow 47 4⟩
          · replace h61 := of_decide_eq_false h61
            replace h61 : ¬ (readA (b.drop p)).1 > 256 := h61
            have hR2 : R = (readK1 b) (readA (b.drop p)).1 (p + sz) := hK.trans (by unfold numR; rw [if_pos h54, if_neg h61, hsz]; rfl)
            refine wp_skip (then_normal ?_)
            refine wp_seq ?_
            refine wp_region_lit ?_
            refine a_val hs rfl rfl rfl (y_move hs rfl) ?_; clear hs a; intro a hs
            refine a_val hs rfl rfl rfl (y_move hs rfl) ?_; clear hs a; intro a hs
            refine a_val hs rfl rfl rfl (y_add hs rfl rfl (by rw [show (readL 9 0 (List.drop p b) 0).2.1 = (sz : Int) from hsz]; omega)) ?_; clear hs a; intro a hs
            refine a_val hs rfl rfl rfl (y_assign hs rfl) ?_; clear hs a; intro a hs
            refine wpList_nil (then_normal ?_)
            refine wp_seq ?_
            replace hs := hs.say 6 rfl (show Value.int .i64 (((p : Nat) : Int) + (readL 9 0 (List.drop p b) 0).2.1) = .int .i64 ((p + sz : Nat) : Int) by rw [show (readL 9 0 (List.drop p b) 0).2.1 = (sz : Int) from hsz]; congr 1)
            refine wp_region_lit ?_
            refine a_val hs rfl rfl rfl (y_move hs rfl) ?_; clear hs a; intro a hs
            refine wpList_nil (then_normal ?_)
            refine wp_block ?_
            refine wp_seq ?_
            refine wp_region_lit ?_
            refine a_val hs rfl rfl rfl (y_cmp (b := true) hs rfl rfl (congrArg some (beq_iff_eq.2 (by omega)))) ?_; clear hs a; intro a hs
            refine a_val hs rfl rfl rfl (y_assign hs rfl) ?_; clear hs a; intro a hs
            refine wpList_nil (then_normal ?_)
            refine wp_cond_true (hs.ev rfl) ?_
            refine wp_region_lit ?_
            refine a_val hs rfl rfl rfl (y_move hs rfl) ?_; clear hs a; intro a hs
            refine a_val hs rfl rfl rfl (y_faddr (k' := 1) 1 hs (by kernel_rfl) rfl rfl) ?_; clear hs a; intro a hs
            refine a_eff rfl (e_store (cl := [_, _, _, _]) 0 rfl hs rfl rfl (by kernel_rfl) rfl rfl rfl ?_); clear hs a; intro a w hs
            refine wpList_nil (in_normal (in_normal (then_normal ?_)))
            refine wp_region_lit ?_
            refine a_val hs rfl rfl rfl (y_move hs rfl) ?_; clear hs a; intro a hs
            refine a_val hs rfl rfl rfl (y_add hs rfl rfl (by omega)) ?_; clear hs a; intro a hs
            refine a_val hs rfl rfl rfl (y_assign hs rfl) ?_; clear hs a; intro a hs
            refine wpList_nil (then_normal ?_)
            refine ⟨m - 1, by omega, 1, p + sz, (readA (b.drop p)).1, 0, 0, [], none, 0, by omega, by omega, .inr (.inl ⟨rfl, hR2, rfl, rfl, rfl, rfl, rfl⟩), ?_⟩
            exact (hs.mem_to (((hs.mem.to 2 rfl).to 2 rfl).to 2 rfl)).cut _ ⟨rfl, rfl, rfl, rfl, rfl, trivial⟩
      · have hK : R = numR b p 64 (readK2 b rg) := hR
        refine wp_region_lit ?_
        refine a_val hs rfl rfl rfl (y_move hs rfl) ?_; clear hs a; intro a hs
        refine a_val hs rfl rfl rfl (y_cmp (b := false) hs rfl rfl (congrArg some (beq_eq_false_iff_ne.2 (by omega)))) ?_; clear hs a; intro a hs
        refine wpList_nil (then_normal ?_)
        refine wp_cond_false (hs.ev rfl) ?_
        refine wp_skip (then_normal ?_)
        refine wp_seq ?_
        refine wp_region_lit ?_
        refine a_val hs rfl rfl rfl (y_move hs rfl) ?_; clear hs a; intro a hs
        refine a_val hs rfl rfl rfl (y_move hs rfl) ?_; clear hs a; intro a hs
        refine a_val hs rfl rfl rfl (y_sliceT (size := 1) (h := p) hs Tryd.underlying27 (by kernel_rfl) rfl rfl rfl (by omega) hc) ?_; clear hs a; intro a hs
        replace hs := hs.say 48 rfl (show Value.slice (if c = p then A else A.map (·.add (p * 1))) (b.length - p) (c - p) = .slice (if c = p then A else A.map (·.add (p * (Kd.int .u8).sz))) (b.drop p).length (c - p) by rw [List.length_drop]; rfl)
        refine a_eff rfl (e_callB Tryd.func48 rfl rfl hs rfl rfl ((recoupref08_ReadNum.calls 19 _ _ (b.drop p) _ _ _ _ (Kd.C_drop (Kd.C_below hA hs.mem.base) hp hc) (by rw [List.length_drop]; omega) (rReadNum_f 19 (by omega) _ (byteL_drop hb p) (by rw [List.length_drop]; omega))).mono (by rintro e w1 ⟨rfl, hd⟩; exact ⟨rfl, drawnB hd⟩)) ?_); clear hs a; intro a w hs
        refine a_val hs rfl rfl rfl (y_move hs rfl) ?_; clear hs a; intro a hs
        refine a_val hs rfl rfl rfl (y_extract hs rfl rfl) ?_; clear hs a; intro a hs
        refine a_val hs rfl rfl rfl (y_extract hs rfl rfl) ?_; clear hs a; intro a hs
        refine a_val hs rfl rfl rfl (y_extract hs rfl rfl) ?_; clear hs a; intro a hs
        refine a_val hs rfl rfl rfl (y_assign hs rfl) ?_; clear hs a; intro a hs
        refine a_val hs rfl rfl rfl (y_assign hs rfl) ?_; clear hs a; intro a hs
        refine a_val hs rfl rfl rfl (y_assign hs rfl) ?_; clear hs a; intro a hs
        refine wpList_nil (then_normal ?_)
        refine wp_seq ?_
        refine wp_seq ?_
        refine wp_region_lit ?_
        refine a_val hs rfl rfl rfl (y_move hs rfl) ?_; clear hs a; intro a hs
        refine a_val hs rfl rfl rfl (y_cmp hs rfl rfl rfl) ?_; clear hs a; intro a hs
        refine wpList_nil (then_normal ?_)
        refine wp_cond_split (hs.ev rfl) (fun h54 => ?_) (fun h54 => ?_)
        · replace h54 := bne_iff_ne.1 h54
          replace h54 : (readA (b.drop p)).2.2 ≠ 0 := h54
          refine wp_seq ?_
          refine wp_region_lit ?_
          refine a_val hs rfl rfl rfl (y_struct (zc := #[.slice none 0 0, .int .i64 0, .int .i64 0, .int .u64 0]) (pl := [(0, 1), (1, 1), (2, 1), (3, 1)]) (cl := [.slice none 0 0, .int .i64 0, .int .i64 0, .int .u64 0]) hs (by kernel_rfl) rfl (by rfl) rfl) ?_; clear hs a; intro a hs
          refine a_val hs rfl rfl rfl (y_move hs rfl) ?_; clear hs a; intro a hs
          refine a_eff rfl (e_store (cl := [_, _, _, _]) 2 rfl hs rfl rfl (by kernel_rfl) rfl rfl rfl ?_); clear hs a; intro a w hs
          refine a_val hs rfl rfl rfl (y_assign hs rfl) ?_; clear hs a; intro a hs
          refine a_val hs rfl rfl rfl (y_assign hs rfl) ?_; clear hs a; intro a hs
          refine wpList_nil (then_normal ?_)
          refine wp_ret (then_ret (in_ret (then_ret (then_ret (in_ret (then_ret ?_))))))
          have hRR : R = badR ((readA (b.drop p)).2.2) := (hK.trans (by unfold numR; rw [if_neg h54]))
          refine fin_ret hs (.cell (hs.slots _ _ rfl) (hs.mem.to 0 rfl).cells Tryd.underlying26 rfl (by kernel_rfl) (.tmp (hs.slots _ _ rfl) (.tmp (hs.slots _ _ rfl) .nil))) ?_
          rw [← hRd, hRR]
          exact ⟨none, 0, rfl, (((hs.mem.to 0 rfl).drop.to 0 rfl).drop.to 0 rfl).drop.nilRow 47 4⟩
        · replace h54 := bne_eq_false_iff_eq.1 h54
          replace h54 : (readA (b.drop p)).2.2 = 0 := h54
          obtain ⟨nm, hn1, hsz, hfit, _, hn9⟩ := readA_ok hb p h54
          obtain ⟨sz, hsz2⟩ : ∃ s, s = (numL nm).length := ⟨_, rfl⟩
          rw [← hsz2] at hsz hfit
          refine wp_skip (then_normal ?_)
          refine wp_seq ?_
          refine wp_seq ?_
          refine wp_region_lit ?_
          refine a_val hs rfl rfl rfl (y_move hs rfl) ?_; clear hs a; intro a hs
          refine a_val hs rfl rfl rfl (y_arr (zc := #[.int .i64 0, .int .i64 0, .int .i64 0]) (size := 1) (cl := [_, _, _]) hs (by kernel_rfl) rfl (by rfl) rfl) ?_; clear hs a; intro a hs
          refine a_val hs rfl rfl rfl (y_move hs rfl) ?_; clear hs a; intro a hs
          refine a_val hs rfl rfl rfl (y_idxArr (v := .int .i64 64) hs Tryd.underlying97 Tryd.underlying3 rfl (by kernel_rfl) rfl rfl (by omega) (by omega) rfl) ?_; clear hs a; intro a hs
          refine a_val hs rfl rfl rfl (y_cmp hs rfl rfl rfl) ?_; clear hs a; intro a hs
          refine wpList_nil (then_normal ?_)
          refine wp_cond_split (hs.ev rfl) (fun h61 => ?_) (fun h61 => ?_)
          · replace h61 := of_decide_eq_true h61
            replace h61 : (readA (b.drop p)).1 > 64 := h61
            refine wp_seq ?_
            refine wp_region_lit ?_
            refine a_val hs rfl rfl rfl (y_struct (zc := #[.slice none 0 0, .int .i64 0, .int .i64 0, .int .u64 0]) (pl := [(0, 1), (1, 1), (2, 1), (3, 1)]) (cl := [.slice none 0 0, .int .i64 0, .int .i64 0, .int .u64 0]) hs (by kernel_rfl) rfl (by rfl) rfl) ?_; clear hs a; intro a hs
            refine a_eff rfl (e_store (cl := [_, _, _, _]) 2 rfl hs rfl rfl (by kernel_rfl) rfl rfl rfl ?_); clear hs a; intro a w hs
            refine a_val hs rfl rfl rfl (y_assign hs rfl) ?_; clear hs a; intro a hs
            refine a_val hs rfl rfl rfl (y_assign hs rfl) ?_; clear hs a; intro a hs
            refine wpList_nil (then_normal ?_)
            refine wp_ret (then_ret (in_ret (then_ret (then_ret (in_ret (then_ret ?_))))))
            have hRR : R = badR (8) := (hK.trans (by unfold numR; rw [if_pos h54, if_pos h61]))
            refine fin_ret hs (.cell (hs.slots _ _ rfl) (hs.mem.to 0 rfl).cells Tryd.underlying26 rfl (by kernel_rfl) (.tmp (hs.slots _ _ rfl) (.tmp (hs.slots _ _ rfl) .nil))) ?_
            rw [← hRd, hRR]
            exact ⟨none, 0, rfl, (((hs.mem.to 0 rfl).drop.to 0 rfl).drop.to 0 rfl).drop.nilRow 47 4⟩
          · replace h61 := of_decide_eq_false h61
            replace h61 : ¬ (readA (b.drop p)).1 > 64 := h61
            have hR2 : R = (readK2 b rg) (readA (b.drop p)).1 (p + sz) := hK.trans (by unfold numR; rw [if_pos h54, if_neg h61, hsz]; rfl)
            refine wp_skip (then_normal ?_)
            refine wp_seq ?_
            refine wp_region_lit ?_
            refine a_val hs rfl rfl rfl (y_move hs rfl) ?_; clear hs a; intro a hs
            refine a_val hs rfl rfl rfl (y_move hs rfl) ?_; clear hs a; intro a hs
            refine a_val hs rfl rfl rfl (y_add hs rfl rfl (by rw [show (readL 9 0 (List.drop p b) 0).2.1 = (sz : Int) from hsz]; omega)) ?_; clear hs a; intro a hs
            refine a_val hs rfl rfl rfl (y_assign hs rfl) ?_; clear hs a; intro a hs
            refine wpList_nil (then_normal ?_)
            refine wp_seq ?_
            replace hs := hs.say 6 rfl (show Value.int .i64 (((p : Nat) : Int) + (readL 9 0 (List.drop p b) 0).2.1) = .int .i64 ((p + sz : Nat) : Int) by rw [show (readL 9 0 (List.drop p b) 0).2.1 = (sz : Int) from hsz]; congr 1)
            refine wp_region_lit ?_
            refine a_val hs rfl rfl rfl (y_move hs rfl) ?_; clear hs a; intro a hs
            refine wpList_nil (then_normal ?_)
            refine wp_block ?_
            refine wp_seq ?_
            refine wp_region_lit ?_
            refine a_val hs rfl rfl rfl (y_cmp (b := false) hs rfl rfl (congrArg some (beq_eq_false_iff_ne.2 (by omega)))) ?_; clear hs a; intro a hs
            refine a_val hs rfl rfl rfl (y_assign hs rfl) ?_; clear hs a; intro a hs
            refine wpList_nil (then_normal ?_)
            refine wp_cond_false (hs.ev rfl) ?_
            refine wp_seq ?_
            refine wp_region_lit ?_
            refine a_val hs rfl rfl rfl (y_cmp (b := true) hs rfl rfl (congrArg some (beq_iff_eq.2 (by omega)))) ?_; clear hs a; intro a hs
            refine a_val hs rfl rfl rfl (y_assign hs rfl) ?_; clear hs a; intro a hs
            refine wpList_nil (then_normal ?_)
            refine wp_cond_true (hs.ev rfl) ?_
            refine wp_region_lit ?_
            refine a_val hs rfl rfl rfl (y_move hs rfl) ?_; clear hs a; intro a hs
            refine a_val hs rfl rfl rfl (y_faddr (k' := 2) 2 hs (by kernel_rfl) rfl rfl) ?_; clear hs a; intro a hs
            refine a_eff rfl (e_store (cl := [_, _, _, _]) 0 rfl hs rfl rfl (by kernel_rfl) rfl rfl rfl ?_); clear hs a; intro a w hs
            refine wpList_nil (in_normal (in_normal (then_normal ?_)))
            refine wp_region_lit ?_
            refine a_val hs rfl rfl rfl (y_move hs rfl) ?_; clear hs a; intro a hs
            refine a_val hs rfl rfl rfl (y_add hs rfl rfl (by omega)) ?_; clear hs a; intro a hs
            refine a_val hs rfl rfl rfl (y_assign hs rfl) ?_; clear hs a; intro a hs
            refine wpList_nil (then_normal ?_)
            refine ⟨m - 1, by omega, 2, p + sz, rg, (readA (b.drop p)).1, 0, [], none, 0, by omega, by omega, .inr (.inr (.inl ⟨rfl, hR2, rfl, rfl, rfl, rfl⟩)), ?_⟩
            exact (hs.mem_to (((hs.mem.to 2 rfl).to 2 rfl).to 2 rfl)).cut _ ⟨rfl, rfl, rfl, rfl, rfl, trivial⟩
      · have hK : R = bytesR b (readK3 b rg ot) 8 p 0 := hR
        refine wp_region_lit ?_
        refine a_val hs rfl rfl rfl (y_move hs rfl) ?_; clear hs a; intro a hs
        refine a_val hs rfl rfl rfl (y_cmp (b := true) hs rfl rfl (congrArg some (beq_iff_eq.2 (by omega)))) ?_; clear hs a; intro a hs
        refine wpList_nil (then_normal ?_)
        refine wp_cond_true (hs.ev rfl) ?_
        refine wp_seq ?_
        refine wp_seq ?_
        refine wp_region_lit ?_
        refine a_val hs rfl rfl rfl (y_move hs rfl) ?_; clear hs a; intro a hs
        refine a_val hs rfl rfl rfl (y_lenL hs Tryd.underlying27 rfl) ?_; clear hs a; intro a hs
        refine a_val hs rfl rfl rfl (y_move hs rfl) ?_; clear hs a; intro a hs
        refine a_val hs rfl rfl rfl (y_sub hs rfl rfl (by omega)) ?_; clear hs a; intro a hs
        refine a_val hs rfl rfl rfl (y_cmp hs rfl rfl rfl) ?_; clear hs a; intro a hs
        refine wpList_nil (then_normal ?_)
        refine wp_cond_split (hs.ev rfl) (fun h25 => ?_) (fun h25 => ?_)
        · replace h25 := of_decide_eq_true h25
          refine wp_seq ?_
          refine wp_region_lit ?_
          refine a_val hs rfl rfl rfl (y_struct (zc := #[.slice none 0 0, .int .i64 0, .int .i64 0, .int .u64 0]) (pl := [(0, 1), (1, 1), (2, 1), (3, 1)]) (cl := [.slice none 0 0, .int .i64 0, .int .i64 0, .int .u64 0]) hs (by kernel_rfl) rfl (by rfl) rfl) ?_; clear hs a; intro a hs
          refine a_eff rfl (e_store (cl := [_, _, _, _]) 2 rfl hs rfl rfl (by kernel_rfl) rfl rfl rfl ?_); clear hs a; intro a w hs
          refine a_val hs rfl rfl rfl (y_assign hs rfl) ?_; clear hs a; intro a hs
          refine a_val hs rfl rfl rfl (y_assign hs rfl) ?_; clear hs a; intro a hs
          refine wpList_nil (then_normal ?_)
          refine wp_ret (then_ret (then_ret (in_ret (then_ret (then_ret (in_ret (then_ret ?_)))))))
          have hRR : R = badR (7) := (hK.trans (bytesR_short b _ 8 p 0 hp (by omega)))
          refine fin_ret hs (.cell (hs.slots _ _ rfl) (hs.mem.to 0 rfl).cells Tryd.underlying26 rfl (by kernel_rfl) (.tmp (hs.slots _ _ rfl) (.tmp (hs.slots _ _ rfl) .nil))) ?_
          rw [← hRd, hRR]
          exact ⟨none, 0, rfl, (((hs.mem.to 0 rfl).drop.to 0 rfl).drop.to 0 rfl).drop.nilRow 47 4⟩
        · replace h25 := of_decide_eq_false h25
          refine wp_skip (then_normal ?_)
          refine wp_seq ?_
          refine wp_seq ?_
          refine wp_region_lit ?_
          refine a_val hs rfl rfl rfl (y_assign hs rfl) ?_; clear hs a; intro a hs
          refine wpList_nil (then_normal ?_)
          refine wp_block ?_
          refine wp_loopN (fun mk a w1 => ∃ (k : Nat) (v : Int), (k + mk = 8) ∧ (R = bytesR b (readK3 b rg ot) mk (p + k) v ∧ 0 ≤ v ∧ v < 256 ^ k) ∧ St 143 v0 [(0, .slice A b.length c), (2, .pointer (some ⟨pp, 0, none⟩)), (5, .pointer (some ⟨pq, 0, none⟩)), (6, .int .i64 ((p : Nat) : Int)), (7, .int .i64 ((2 : Nat) : Int)), (8, .int .i64 ((k : Nat) : Int))] [pt pq #[.slice none (([] : List Stp)).length 0, .int .i64 (rg), .int .i64 (ot), .int .u64 (v)] 26, row 47 4 (.slice none (([] : List Stp)).length 0) (([] : List Stp)).length ((([] : List Stp)).flatMap encS), pt pp #[.slice none 0 0, .int .i64 0, .int .i64 0, .int .u64 0] 26] a w1) (8) ⟨0, 0, rfl, ⟨hK, by decide, by decide⟩, ?_⟩ (fun mk a w1 hJ => ?_)
          · exact (hs.mem_to (((hs.mem.to 2 rfl).to 2 rfl).to 2 rfl)).cut _ ⟨rfl, rfl, rfl, rfl, rfl, rfl, trivial⟩
          · clear hs hK
            obtain ⟨k, v, hk, hK, hs⟩ := hJ
            refine wp_seq ?_
            refine wp_seq ?_
            refine wp_region_lit ?_
            refine a_val hs rfl rfl rfl (y_move hs rfl) ?_; clear hs a; intro a hs
            refine a_val hs rfl rfl rfl (y_cmp hs rfl rfl rfl) ?_; clear hs a; intro a hs
            refine wpList_nil (then_normal ?_)
            refine wp_cond_split (hs.ev rfl) (fun h28 => ?_) (fun h28 => ?_)
            · replace h28 := of_decide_eq_true h28
              obtain ⟨mk, rfl⟩ : ∃ k', mk = k' + 1 := ⟨mk - 1, by omega⟩
              obtain ⟨x, hx⟩ : ∃ x, b[p + k]? = some x := ⟨_, List.getElem?_eq_getElem (by omega)⟩
              have hxb := hb x (List.mem_of_getElem? hx)
              obtain ⟨g0, o, rfl, hcell⟩ := C_at encU_K encU_len (by decide) hA (by omega)
              have hK2 : R = bytesR b (readK3 b rg ot) mk (p + (k + 1)) (v * 256 + x) := by have h1 := hK.1; rw [bytesR_next _ _ _ hx] at h1; exact h1
              refine wp_skip (then_normal ?_)
              refine wp_seq ?_
              refine wp_block ?_
              refine b_enter [1, 2] (by kernel_rfl) hs #[false, false, false, false, false, false, false, false, false, false, false, false, false] (by rfl) 13 (by rfl) ?_; clear hs; intro w hs
              refine b_take 0 rfl #[true, false, false, false, false, false, false, false, false, false, false, false, false] rfl (by kernel_rfl) hs ((((hs.mem.to 2 rfl).to 2 rfl).first 2)) rfl rfl rfl (fun _ _ _ h => h) (y_faddr (k' := 3) 3 hs (by kernel_rfl) rfl rfl) ?_; clear hs a; intro a hs
              refine b_take 3 rfl #[true, false, false, true, false, false, false, false, false, false, false, false, false] rfl (by kernel_rfl) hs ((((hs.mem.to 2 rfl).to 2 rfl).first 2)) rfl rfl rfl (fun _ _ _ h => h) (y_move hs rfl) ?_; clear hs a; intro a hs
              refine b_take 4 rfl #[true, false, false, true, true, false, false, false, false, false, false, false, false] rfl (by kernel_rfl) hs ((((hs.mem.to 2 rfl).to 2 rfl).first 2)) rfl rfl rfl (fun _ _ _ h => h) (y_move hs rfl) ?_; clear hs a; intro a hs
              refine b_take 5 rfl #[true, false, false, true, true, true, false, false, false, false, false, false, false] rfl (by kernel_rfl) hs ((((hs.mem.to 2 rfl).to 2 rfl).first 2)) rfl rfl rfl (fun _ _ _ h => h) (y_move hs rfl) ?_; clear hs a; intro a hs
              refine b_take 6 rfl #[true, false, false, true, true, true, true, false, false, false, false, false, false] rfl (by kernel_rfl) hs ((((hs.mem.to 2 rfl).to 2 rfl).first 2)) rfl rfl rfl (fun _ _ _ h => h) (y_add hs rfl rfl (by omega)) ?_; clear hs a; intro a hs
              refine b_take 7 rfl #[true, false, false, true, true, true, true, true, false, false, false, false, false] rfl (by kernel_rfl) hs ((((hs.mem.to 2 rfl).to 2 rfl).first 2)) rfl rfl rfl (fun _ _ _ h => h) (y_idxB (size := 1) (off := o + (p + k) * 1) hs Tryd.underlying27 (by kernel_rfl) rfl rfl (by omega) (by omega) (by omega)) ?_; clear hs a; intro a hs
              refine b_take 8 rfl #[true, false, false, true, true, true, true, true, true, false, false, false, false] rfl (by kernel_rfl) hs ((((hs.mem.to 2 rfl).to 2 rfl).first 2)) rfl rfl rfl (fun _ _ _ h => h) (y_load hs Tryd.underlying5 rfl rfl (fun w hw => hcell w hw.base (p + k) x hx 0 _ rfl)) ?_; clear hs a; intro a hs
              refine b_take 9 rfl #[true, false, false, true, true, true, true, true, true, true, false, false, false] rfl (by kernel_rfl) hs ((((hs.mem.to 2 rfl).to 2 rfl).first 2)) rfl rfl rfl (fun _ _ _ h => h) (y_conv hs Tryd.underlying5 Tryd.underlying24 rfl) ?_; clear hs a; intro a hs
              refine b_eff 1 (by kernel_rfl) rfl #[true, true, false, true, true, true, true, true, true, true, false, false, false] rfl hs rfl (e_yield hs rfl rfl (y_load hs Tryd.underlying24 rfl rfl (fun w hw => (hw.to 0 rfl).cellV rfl)) ?_); clear hs a; intro a hs
              refine ⟨(((hs.mem.to 2 rfl).to 2 rfl).first 2), ?_⟩
              refine b_take 2 rfl #[true, true, true, true, true, true, true, true, true, true, false, false, false] rfl (by kernel_rfl) hs ((((hs.mem.to 2 rfl).to 2 rfl).first 2)) rfl rfl rfl (fun _ _ _ h => h) (y_shift (q := IntKind.u64.wrap (v * 2 ^ 8)) hs rfl rfl (by rw [show (8 : Int) = ((8 : Nat) : Int) from rfl, shl_mul _ _ 8 (by decide)])) ?_; clear hs a; intro a hs
              refine b_take 10 rfl #[true, true, true, true, true, true, true, true, true, true, true, false, false] rfl (by kernel_rfl) hs ((((hs.mem.to 2 rfl).to 2 rfl).first 2)) rfl rfl rfl (fun _ _ _ h => h) (y_bin (q := v * 256 + x) hs rfl rfl (by rw [bin_or, or_byte hK.2.1 (lt_pow hK.2.2 (by omega)) (by omega) (by omega)])) ?_; clear hs a; intro a hs
              refine b_take 11 rfl #[true, true, true, true, true, true, true, true, true, true, true, true, false] rfl (by kernel_rfl) hs ((((hs.mem.to 2 rfl).to 2 rfl).first 2)) rfl rfl rfl (fun _ _ _ h => h) (y_faddr (k' := 3) 3 hs (by kernel_rfl) rfl rfl) ?_; clear hs a; intro a hs
              refine b_eff 12 (by kernel_rfl) rfl #[true, true, true, true, true, true, true, true, true, true, true, true, true] rfl hs rfl (e_store (cl := [_, _, _, _]) 0 rfl hs rfl rfl (by kernel_rfl) rfl rfl rfl ?_); clear hs a; intro a w hs
              refine ⟨(((hs.mem.to 2 rfl).to 2 rfl).first 2), ?_⟩
              refine b_done (by kernel_rfl) (in_normal (then_normal ?_))
              refine wp_region_lit ?_
              refine a_val hs rfl rfl rfl (y_move hs rfl) ?_; clear hs a; intro a hs
              refine a_val hs rfl rfl rfl (y_add hs rfl rfl (by omega)) ?_; clear hs a; intro a hs
              refine a_val hs rfl rfl rfl (y_assign hs rfl) ?_; clear hs a; intro a hs
              refine wpList_nil (then_normal ?_)
              refine ⟨mk, by omega, k + 1, v * 256 + x, by omega, ⟨hK2, by omega, pow_next hK.2.2 (by omega)⟩, ?_⟩
              exact (hs.mem_to (((hs.mem.to 2 rfl).to 2 rfl).to 2 rfl)).cut _ ⟨rfl, rfl, rfl, rfl, rfl, rfl, trivial⟩
            · replace h28 := of_decide_eq_false h28
              obtain rfl : mk = 0 := by omega
              obtain rfl : k = 8 := by omega
              have hK3 : R = numR b (p + 8) 65536 (readK4 b rg ot v) := hK.1
              clear hK
              have hK := hK3
              have hp8 : p + 8 ≤ b.length := by omega
              refine wp_exit (then_exit (then_exit (in_here (then_normal ?_))))
              refine wp_region_lit ?_
              refine a_val hs rfl rfl rfl (y_move hs rfl) ?_; clear hs a; intro a hs
              refine a_val hs rfl rfl rfl (y_add hs rfl rfl (by omega)) ?_; clear hs a; intro a hs
              refine a_val hs rfl rfl rfl (y_assign hs rfl) ?_; clear hs a; intro a hs
              refine wpList_nil (then_normal ?_)
              refine wp_seq ?_
              refine wp_region_lit ?_
              refine a_val hs rfl rfl rfl (y_move hs rfl) ?_; clear hs a; intro a hs
              refine a_val hs rfl rfl rfl (y_move hs rfl) ?_; clear hs a; intro a hs
              refine a_val hs rfl rfl rfl (y_sliceT (size := 1) (h := (p + 8)) hs Tryd.underlying27 (by kernel_rfl) rfl rfl rfl (by omega) hc) ?_; clear hs a; intro a hs
              replace hs := hs.say 48 rfl (show Value.slice (if c = (p + 8) then A else A.map (·.add ((p + 8) * 1))) (b.length - (p + 8)) (c - (p + 8)) = .slice (if c = (p + 8) then A else A.map (·.add ((p + 8) * (Kd.int .u8).sz))) (b.drop (p + 8)).length (c - (p + 8)) by rw [List.length_drop]; rfl)
              refine a_eff rfl (e_callB Tryd.func48 rfl rfl hs rfl rfl ((recoupref08_ReadNum.calls 19 _ _ (b.drop (p + 8)) _ _ _ _ (Kd.C_drop (Kd.C_below hA hs.mem.base) hp8 hc) (by rw [List.length_drop]; omega) (rReadNum_f 19 (by omega) _ (byteL_drop hb (p + 8)) (by rw [List.length_drop]; omega))).mono (by rintro e w1 ⟨rfl, hd⟩; exact ⟨rfl, drawnB hd⟩)) ?_); clear hs a; intro a w hs
              refine a_val hs rfl rfl rfl (y_move hs rfl) ?_; clear hs a; intro a hs
              refine a_val hs rfl rfl rfl (y_extract hs rfl rfl) ?_; clear hs a; intro a hs
              refine a_val hs rfl rfl rfl (y_extract hs rfl rfl) ?_; clear hs a; intro a hs
              refine a_val hs rfl rfl rfl (y_extract hs rfl rfl) ?_; clear hs a; intro a hs
              refine a_val hs rfl rfl rfl (y_assign hs rfl) ?_; clear hs a; intro a hs
              refine a_val hs rfl rfl rfl (y_assign hs rfl) ?_; clear hs a; intro a hs
              refine a_val hs rfl rfl rfl (y_assign hs rfl) ?_; clear hs a; intro a hs
              refine wpList_nil (then_normal ?_)
              refine wp_seq ?_
              refine wp_seq ?_
              refine wp_region_lit ?_
              refine a_val hs rfl rfl rfl (y_move hs rfl) ?_; clear hs a; intro a hs
              refine a_val hs rfl rfl rfl (y_cmp hs rfl rfl rfl) ?_; clear hs a; intro a hs
              refine wpList_nil (then_normal ?_)
              refine wp_cond_split (hs.ev rfl) (fun h54 => ?_) (fun h54 => ?_)
              · replace h54 := bne_iff_ne.1 h54
                replace h54 : (readA (b.drop (p + 8))).2.2 ≠ 0 := h54
                refine wp_seq ?_
                refine wp_region_lit ?_
                refine a_val hs rfl rfl rfl (y_struct (zc := #[.slice none 0 0, .int .i64 0, .int .i64 0, .int .u64 0]) (pl := [(0, 1), (1, 1), (2, 1), (3, 1)]) (cl := [.slice none 0 0, .int .i64 0, .int .i64 0, .int .u64 0]) hs (by kernel_rfl) rfl (by rfl) rfl) ?_; clear hs a; intro a hs
                refine a_val hs rfl rfl rfl (y_move hs rfl) ?_; clear hs a; intro a hs
                refine a_eff rfl (e_store (cl := [_, _, _, _]) 2 rfl hs rfl rfl (by kernel_rfl) rfl rfl rfl ?_); clear hs a; intro a w hs
                refine a_val hs rfl rfl rfl (y_assign hs rfl) ?_; clear hs a; intro a hs
                refine a_val hs rfl rfl rfl (y_assign hs rfl) ?_; clear hs a; intro a hs
                refine wpList_nil (then_normal ?_)
                refine wp_ret (then_ret (in_ret (then_ret (then_ret (in_ret (then_ret ?_))))))
                have hRR : R = badR ((readA (b.drop (p + 8))).2.2) := (hK.trans (by unfold numR; rw [if_neg h54]))
                refine fin_ret hs (.cell (hs.slots _ _ rfl) (hs.mem.to 0 rfl).cells Tryd.underlying26 rfl (by kernel_rfl) (.tmp (hs.slots _ _ rfl) (.tmp (hs.slots _ _ rfl) .nil))) ?_
                rw [← hRd, hRR]
                exact ⟨none, 0, rfl, (((hs.mem.to 0 rfl).drop.to 0 rfl).drop.to 0 rfl).drop.nilRow 47 4⟩
              · replace h54 := bne_eq_false_iff_eq.1 h54
                replace h54 : (readA (b.drop (p + 8))).2.2 = 0 := h54
                obtain ⟨nm, hn1, hsz, hfit, _, hn9⟩ := readA_ok hb (p + 8) h54
                obtain ⟨sz, hsz2⟩ : ∃ s, s = (numL nm).length := ⟨_, rfl⟩
                rw [← hsz2] at hsz hfit
                refine wp_skip (then_normal ?_)
                refine wp_seq ?_
                refine wp_seq ?_
                refine wp_region_lit ?_
                refine a_val hs rfl rfl rfl (y_move hs rfl) ?_; clear hs a; intro a hs
                refine a_val hs rfl rfl rfl (y_arr (zc := #[.int .i64 0, .int .i64 0, .int .i64 0]) (size := 1) (cl := [_, _, _]) hs (by kernel_rfl) rfl (by rfl) rfl) ?_; clear hs a; intro a hs
                refine a_val hs rfl rfl rfl (y_move hs rfl) ?_; clear hs a; intro a hs
                refine a_val hs rfl rfl rfl (y_idxArr (v := .int .i64 65536) hs Tryd.underlying97 Tryd.underlying3 rfl (by kernel_rfl) rfl rfl (by omega) (by omega) rfl) ?_; clear hs a; intro a hs
                refine a_val hs rfl rfl rfl (y_cmp hs rfl rfl rfl) ?_; clear hs a; intro a hs
                refine wpList_nil (then_normal ?_)
                refine wp_cond_split (hs.ev rfl) (fun h61 => ?_) (fun h61 => ?_)
                · replace h61 := of_decide_eq_true h61
                  replace h61 : (readA (b.drop (p + 8))).1 > 65536 := h61
                  refine wp_seq ?_
                  refine wp_region_lit ?_
                  refine a_val hs rfl rfl rfl (y_struct (zc := #[.slice none 0 0, .int .i64 0, .int .i64 0, .int .u64 0]) (pl := [(0, 1), (1, 1), (2, 1), (3, 1)]) (cl := [.slice none 0 0, .int .i64 0, .int .i64 0, .int .u64 0]) hs (by kernel_rfl) rfl (by rfl) rfl) ?_; clear hs a; intro a hs
                  refine a_eff rfl (e_store (cl := [_, _, _, _]) 2 rfl hs rfl rfl (by kernel_rfl) rfl rfl rfl ?_); clear hs a; intro a w hs
                  refine a_val hs rfl rfl rfl (y_assign hs rfl) ?_; clear hs a; intro a hs
                  refine a_val hs rfl rfl rfl (y_assign hs rfl) ?_; clear hs a; intro a hs
                  refine wpList_nil (then_normal ?_)
                  refine wp_ret (then_ret (in_ret (then_ret (then_ret (in_ret (then_ret ?_))))))
                  have hRR : R = badR (8) := (hK.trans (by unfold numR; rw [if_pos h54, if_pos h61]))
                  refine fin_ret hs (.cell (hs.slots _ _ rfl) (hs.mem.to 0 rfl).cells Tryd.underlying26 rfl (by kernel_rfl) (.tmp (hs.slots _ _ rfl) (.tmp (hs.slots _ _ rfl) .nil))) ?_
                  rw [← hRd, hRR]
                  exact ⟨none, 0, rfl, (((hs.mem.to 0 rfl).drop.to 0 rfl).drop.to 0 rfl).drop.nilRow 47 4⟩
                · replace h61 := of_decide_eq_false h61
                  replace h61 : ¬ (readA (b.drop (p + 8))).1 > 65536 := h61
                  have hR2 : R = (readK4 b rg ot v) (readA (b.drop (p + 8))).1 ((p + 8) + sz) := hK.trans (by unfold numR; rw [if_pos h54, if_neg h61, hsz]; rfl)
                  refine wp_skip (then_normal ?_)
                  refine wp_seq ?_
                  refine wp_region_lit ?_
                  refine a_val hs rfl rfl rfl (y_move hs rfl) ?_; clear hs a; intro a hs
                  refine a_val hs rfl rfl rfl (y_move hs rfl) ?_; clear hs a; intro a hs
                  refine a_val hs rfl rfl rfl (y_add hs rfl rfl (by rw [show (readL 9 0 (List.drop (p + 8) b) 0).2.1 = (sz : Int) from hsz]; omega)) ?_; clear hs a; intro a hs
                  refine a_val hs rfl rfl rfl (y_assign hs rfl) ?_; clear hs a; intro a hs
                  refine wpList_nil (then_normal ?_)
                  refine wp_seq ?_
                  replace hs := hs.say 6 rfl (show Value.int .i64 (((p : Nat) : Int) + 8 + (readL 9 0 (List.drop (p + 8) b) 0).2.1) = .int .i64 (((p + 8) + sz : Nat) : Int) by rw [show (readL 9 0 (List.drop (p + 8) b) 0).2.1 = (sz : Int) from hsz]; congr 1)
                  refine wp_region_lit ?_
                  refine a_val hs rfl rfl rfl (y_move hs rfl) ?_; clear hs a; intro a hs
                  refine wpList_nil (then_normal ?_)
                  refine wp_block ?_
                  refine wp_seq ?_
                  refine wp_region_lit ?_
                  refine a_val hs rfl rfl rfl (y_cmp (b := false) hs rfl rfl (congrArg some (beq_eq_false_iff_ne.2 (by omega)))) ?_; clear hs a; intro a hs
                  refine a_val hs rfl rfl rfl (y_assign hs rfl) ?_; clear hs a; intro a hs
                  refine wpList_nil (then_normal ?_)
                  refine wp_cond_false (hs.ev rfl) ?_
                  refine wp_seq ?_
                  refine wp_region_lit ?_
                  refine a_val hs rfl rfl rfl (y_cmp (b := false) hs rfl rfl (congrArg some (beq_eq_false_iff_ne.2 (by omega)))) ?_; clear hs a; intro a hs
                  refine a_val hs rfl rfl rfl (y_assign hs rfl) ?_; clear hs a; intro a hs
                  refine wpList_nil (then_normal ?_)
                  refine wp_cond_false (hs.ev rfl) ?_
                  refine wp_seq ?_
                  refine wp_region_lit ?_
                  refine a_val hs rfl rfl rfl (y_cmp (b := true) hs rfl rfl (congrArg some (beq_iff_eq.2 (by omega)))) ?_; clear hs a; intro a hs
                  refine a_val hs rfl rfl rfl (y_assign hs rfl) ?_; clear hs a; intro a hs
                  refine wpList_nil (then_normal ?_)
                  refine wp_cond_true (hs.ev rfl) ?_
                  refine wp_region_lit ?_
                  refine a_val hs rfl rfl rfl (y_move hs rfl) ?_; clear hs a; intro a hs
                  replace hs := hs.mem_to (hs.mem.to 1 rfl).drop
                  replace hs := hs.say 77 rfl (show Value.int .i64 (readA (b.drop (p + 8))).1 = .int .i64 ((((readA (b.drop (p + 8))).1).toNat : Nat) : Int) by congr 1; omega)
                  refine a_eff rfl (e_makeL (z := .agg #[.int .u8 0, .int .i64 0, .int .i64 0, .int .u8 0]) (size := 4) (bytes := 32) (n := ((readA (b.drop (p + 8))).1).toNat) encS zS hs rfl Tryd.underlying22 (by kernel_rfl) rfl rfl rfl rfl (by omega) (by omega) (by unfold maxLen; omega) ?_); clear hs a; intro gm a w hs
                  refine a_val hs rfl rfl rfl (y_faddr (k' := 0) 0 hs (by kernel_rfl) rfl rfl) ?_; clear hs a; intro a hs
                  refine a_eff rfl (e_store (cl := [_, _, _, _]) 1 rfl hs rfl rfl (by kernel_rfl) rfl rfl rfl ?_); clear hs a; intro a w hs
                  refine wpList_nil (in_normal (in_normal (then_normal ?_)))
                  refine wp_region_lit ?_
                  refine a_val hs rfl rfl rfl (y_move hs rfl) ?_; clear hs a; intro a hs
                  refine a_val hs rfl rfl rfl (y_add hs rfl rfl (by omega)) ?_; clear hs a; intro a hs
                  refine a_val hs rfl rfl rfl (y_assign hs rfl) ?_; clear hs a; intro a hs
                  refine wpList_nil (then_normal ?_)
                  refine ⟨m - 1, by omega, 3, p + 8 + sz, rg, ot, v, List.replicate ((readA (b.drop (p + 8))).1).toNat zS, some ⟨gm, 0, none⟩, ((readA (b.drop (p + 8))).1).toNat, by omega, by omega, .inr (.inr (.inr ⟨rfl, by rw [List.length_replicate]; exact hR2, by rw [List.length_replicate]; omega, _, rfl⟩)), ?_⟩
                  exact (hs.mem_to (((hs.mem.to 2 rfl).to 2 rfl).to 2 rfl)).cut _ ⟨rfl, rfl, rfl, rfl, rfl, trivial⟩
      · exact absurd h16 (by omega)
    · replace h16 := of_decide_eq_false h16
      refine wp_exit (then_exit (then_exit (in_here (then_normal ?_))))
      refine wp_seq ?_
      refine wp_seq ?_
      refine wp_region_lit ?_
      refine a_val hs rfl rfl rfl (y_assign hs rfl) ?_; clear hs a; intro a hs
      refine wpList_nil (then_normal ?_)
      refine wp_block ?_
      rcases hI with ⟨rfl, _⟩ | ⟨rfl, _⟩ | ⟨rfl, _⟩ | ⟨rfl, hR, hl6, gm, rfl⟩
      · exact absurd h16 (by omega)
      · exact absurd h16 (by omega)
      · exact absurd h16 (by omega)
      obtain ⟨nL, hnL⟩ : ∃ n, n = l.length := ⟨_, rfl⟩
      rw [← hnL] at hs hR
      refine wp_loopN (fun ms a w1 => ∃ (i p : Nat) (l : List Stp), (i + ms = nL) ∧ (l.length = nL) ∧ (p ≤ b.length) ∧ (R = stepsR b rg ot rd ms p (l.take i)) ∧ St 143 v0 [(0, .slice A b.length c), (2, .pointer (some ⟨pp, 0, none⟩)), (5, .pointer (some ⟨pq, 0, none⟩)), (6, .int .i64 ((p : Nat) : Int)), (12, .int .i64 ((i : Nat) : Int))] [pt pq #[.slice (some ⟨gm, 0, none⟩) nL c2, .int .i64 (rg), .int .i64 (ot), .int .u64 (rd)] 26, row 47 4 (.slice (some ⟨gm, 0, none⟩) nL c2) nL ((l).flatMap encS), pt pp #[.slice none 0 0, .int .i64 0, .int .i64 0, .int .u64 0] 26] a w1) (nL) ⟨0, p, l, by omega, hnL.symm, hp, by rw [List.take_zero]; exact hR, ?_⟩ (fun ms a w1 hJ => ?_)
      · exact (hs.mem_to (((hs.mem.to 2 rfl).to 2 rfl).to 2 rfl)).cut _ ⟨rfl, rfl, rfl, rfl, rfl, trivial⟩
      · clear hs hR hp
        obtain ⟨i, p, l, hi, hl, hp, hR, hs⟩ := hJ
        refine wp_seq ?_
        refine wp_seq ?_
        refine wp_region_lit ?_
        refine a_val hs rfl rfl rfl (y_move hs rfl) ?_; clear hs a; intro a hs
        refine a_val hs rfl rfl rfl (y_faddr (k' := 0) 0 hs (by kernel_rfl) rfl rfl) ?_; clear hs a; intro a hs
        refine a_val hs rfl rfl rfl (y_load hs Tryd.underlying22 rfl rfl (fun w hw => (hw.to 0 rfl).cellV rfl)) ?_; clear hs a; intro a hs
        refine a_val hs rfl rfl rfl (y_lenL hs Tryd.underlying22 rfl) ?_; clear hs a; intro a hs
        refine a_val hs rfl rfl rfl (y_cmp hs rfl rfl rfl) ?_; clear hs a; intro a hs
        refine wpList_nil (then_normal ?_)
        refine wp_cond_split (hs.ev rfl) (fun h84 => ?_) (fun h84 => ?_)
        · replace h84 := of_decide_eq_true h84
          subst hl
          obtain ⟨ms, rfl⟩ : ∃ k', ms = k' + 1 := ⟨ms - 1, by omega⟩
          refine wp_skip (then_normal ?_)
          refine wp_seq ?_
          refine wp_block ?_
          refine wp_seq ?_
          refine wp_seq ?_
          refine wp_region_lit ?_
          refine a_val hs rfl rfl rfl (y_move hs rfl) ?_; clear hs a; intro a hs
          refine a_val hs rfl rfl rfl (y_move hs rfl) ?_; clear hs a; intro a hs
          refine a_val hs rfl rfl rfl (y_lenL hs Tryd.underlying27 rfl) ?_; clear hs a; intro a hs
          refine a_val hs rfl rfl rfl (y_cmp hs rfl rfl rfl) ?_; clear hs a; intro a hs
          refine wpList_nil (then_normal ?_)
          refine wp_cond_split (hs.ev rfl) (fun h90 => ?_) (fun h90 => ?_)
          · replace h90 := of_decide_eq_true h90
            refine wp_seq ?_
            refine wp_region_lit ?_
            refine a_val hs rfl rfl rfl (y_struct (zc := #[.slice none 0 0, .int .i64 0, .int .i64 0, .int .u64 0]) (pl := [(0, 1), (1, 1), (2, 1), (3, 1)]) (cl := [.slice none 0 0, .int .i64 0, .int .i64 0, .int .u64 0]) hs (by kernel_rfl) rfl (by rfl) rfl) ?_; clear hs a; intro a hs
            refine a_eff rfl (e_store (cl := [_, _, _, _]) 2 rfl hs rfl rfl (by kernel_rfl) rfl rfl rfl ?_); clear hs a; intro a w hs
            refine a_val hs rfl rfl rfl (y_assign hs rfl) ?_; clear hs a; intro a hs
            refine a_val hs rfl rfl rfl (y_assign hs rfl) ?_; clear hs a; intro a hs
            refine wpList_nil (then_normal ?_)
            refine wp_ret (then_ret (in_ret (then_ret (then_ret (in_ret (then_ret ?_))))))
            have hRR : R = badR (7) := (hR.trans (by rw [stepsR, List.drop_eq_nil_of_le (by omega)]))
            refine fin_ret hs (.cell (hs.slots _ _ rfl) (hs.mem.to 0 rfl).cells Tryd.underlying26 rfl (by kernel_rfl) (.tmp (hs.slots _ _ rfl) (.tmp (hs.slots _ _ rfl) .nil))) ?_
            rw [← hRd, hRR]
            exact ⟨none, 0, rfl, (((hs.mem.to 0 rfl).drop.to 0 rfl).drop.to 0 rfl).drop.nilRow 47 4⟩
          · replace h90 := of_decide_eq_false h90
            obtain ⟨x, hx⟩ : ∃ x, b[p]? = some x := ⟨_, List.getElem?_eq_getElem (by omega)⟩
            have hxb := hb x (List.mem_of_getElem? hx)
            obtain ⟨g0, o, rfl, hcell⟩ := C_at encU_K encU_len (by decide) hA (by omega)
            have hR1 : R = stepK b rg ot rd ms p (l.take i) x := by rw [stepsR_next, getElem_drop hx] at hR; exact hR
            refine wp_skip (then_normal ?_)
            refine wp_seq ?_
            refine wp_region_lit ?_
            refine a_val hs rfl rfl rfl (y_move hs rfl) ?_; clear hs a; intro a hs
            refine a_val hs rfl rfl rfl (y_move hs rfl) ?_; clear hs a; intro a hs
            refine a_val hs rfl rfl rfl (y_idxB (size := 1) (off := o + p * 1) hs Tryd.underlying27 (by kernel_rfl) rfl rfl (by omega) (by omega) (by simp)) ?_; clear hs a; intro a hs
            refine a_val hs rfl rfl rfl (y_load hs Tryd.underlying5 rfl rfl (fun w hw => hcell w hw.base p x hx 0 _ rfl)) ?_; clear hs a; intro a hs
            refine a_val hs rfl rfl rfl (y_assign hs rfl) ?_; clear hs a; intro a hs
            refine wpList_nil (then_normal ?_)
            refine wp_seq ?_
            refine wp_seq ?_
            refine wp_region_lit ?_
            refine a_val hs rfl rfl rfl (y_move hs rfl) ?_; clear hs a; intro a hs
            refine a_val hs rfl rfl rfl (y_cmp hs rfl rfl rfl) ?_; clear hs a; intro a hs
            refine a_val hs rfl rfl rfl (y_move hs rfl) ?_; clear hs a; intro a hs
            rcases hs.know (d := 98) rfl with ⟨h98, hs1⟩ | ⟨h98, hs1⟩ <;> replace hs := hs1 <;> clear hs1
            · replace h98 := of_decide_eq_true h98
              refine a_skip hs rfl rfl rfl ?_; clear hs a; intro a hs
              refine a_skip hs rfl rfl rfl ?_; clear hs a; intro a hs
              refine a_val hs rfl rfl rfl (y_pickT hs rfl rfl rfl) ?_; clear hs a; intro a hs
              refine wpList_nil (then_normal ?_)
              refine wp_cond_true (hs.ev rfl) ?_
              refine wp_seq ?_
              refine wp_region_lit ?_
              refine a_val hs rfl rfl rfl (y_struct (zc := #[.slice none 0 0, .int .i64 0, .int .i64 0, .int .u64 0]) (pl := [(0, 1), (1, 1), (2, 1), (3, 1)]) (cl := [.slice none 0 0, .int .i64 0, .int .i64 0, .int .u64 0]) hs (by kernel_rfl) rfl (by rfl) rfl) ?_; clear hs a; intro a hs
              refine a_eff rfl (e_store (cl := [_, _, _, _]) 2 rfl hs rfl rfl (by kernel_rfl) rfl rfl rfl ?_); clear hs a; intro a w hs
              refine a_val hs rfl rfl rfl (y_assign hs rfl) ?_; clear hs a; intro a hs
              refine a_val hs rfl rfl rfl (y_assign hs rfl) ?_; clear hs a; intro a hs
              refine wpList_nil (then_normal ?_)
              refine wp_ret (then_ret (in_ret (then_ret (then_ret (in_ret (then_ret ?_))))))
              have hRR : R = badR (8) := (hR1.trans (by unfold stepK; rw [if_pos (by omega)]))
              refine fin_ret hs (.cell (hs.slots _ _ rfl) (hs.mem.to 0 rfl).cells Tryd.underlying26 rfl (by kernel_rfl) (.tmp (hs.slots _ _ rfl) (.tmp (hs.slots _ _ rfl) .nil))) ?_
              rw [← hRd, hRR]
              exact ⟨none, 0, rfl, (((hs.mem.to 0 rfl).drop.to 0 rfl).drop.to 0 rfl).drop.nilRow 47 4⟩
            · replace h98 := of_decide_eq_false h98
              refine a_valG hs rfl rfl rfl (y_move hs rfl) ?_; clear hs a; intro a hs
              refine a_valG hs rfl rfl rfl (y_cmp hs rfl rfl rfl) ?_; clear hs a; intro a hs
              refine a_val hs rfl rfl rfl (y_pickF hs rfl rfl rfl) ?_; clear hs a; intro a hs
              refine wpList_nil (then_normal ?_)
              refine wp_cond_split (hs.ev rfl) (fun h101 => ?_) (fun h101 => ?_)
              · replace h101 := of_decide_eq_true h101
                refine wp_seq ?_
                refine wp_region_lit ?_
                refine a_val hs rfl rfl rfl (y_struct (zc := #[.slice none 0 0, .int .i64 0, .int .i64 0, .int .u64 0]) (pl := [(0, 1), (1, 1), (2, 1), (3, 1)]) (cl := [.slice none 0 0, .int .i64 0, .int .i64 0, .int .u64 0]) hs (by kernel_rfl) rfl (by rfl) rfl) ?_; clear hs a; intro a hs
                refine a_eff rfl (e_store (cl := [_, _, _, _]) 2 rfl hs rfl rfl (by kernel_rfl) rfl rfl rfl ?_); clear hs a; intro a w hs
                refine a_val hs rfl rfl rfl (y_assign hs rfl) ?_; clear hs a; intro a hs
                refine a_val hs rfl rfl rfl (y_assign hs rfl) ?_; clear hs a; intro a hs
                refine wpList_nil (then_normal ?_)
                refine wp_ret (then_ret (in_ret (then_ret (then_ret (in_ret (then_ret ?_))))))
                have hRR : R = badR (8) := (hR1.trans (by unfold stepK; rw [if_pos (by omega)]))
                refine fin_ret hs (.cell (hs.slots _ _ rfl) (hs.mem.to 0 rfl).cells Tryd.underlying26 rfl (by kernel_rfl) (.tmp (hs.slots _ _ rfl) (.tmp (hs.slots _ _ rfl) .nil))) ?_
                rw [← hRd, hRR]
                exact ⟨none, 0, rfl, (((hs.mem.to 0 rfl).drop.to 0 rfl).drop.to 0 rfl).drop.nilRow 47 4⟩
              · replace h101 := of_decide_eq_false h101
                have hfl := fldN_le x
                refine wp_skip (then_normal ?_)
                refine wp_seq ?_
                refine wp_seq ?_
                refine wp_region_lit ?_
                refine a_val hs rfl rfl rfl (y_move hs rfl) ?_; clear hs a; intro a hs
                refine a_val hs rfl rfl rfl (y_lenL hs Tryd.underlying27 rfl) ?_; clear hs a; intro a hs
                refine a_val hs rfl rfl rfl (y_move hs rfl) ?_; clear hs a; intro a hs
                refine a_val hs rfl rfl rfl (y_sub hs rfl rfl (by omega)) ?_; clear hs a; intro a hs
                refine a_val hs rfl rfl rfl (y_move hs rfl) ?_; clear hs a; intro a hs
                refine a_eff rfl (e_callB Tryd.func34 rfl rfl hs rfl rfl (ref_fields x (by omega) _) ?_); clear hs a; intro a w hs
                refine a_val hs rfl rfl rfl (y_add hs rfl rfl (by omega)) ?_; clear hs a; intro a hs
                refine a_val hs rfl rfl rfl (y_cmp hs rfl rfl rfl) ?_; clear hs a; intro a hs
                refine wpList_nil (then_normal ?_)
                refine wp_cond_split (hs.ev rfl) (fun h110 => ?_) (fun h110 => ?_)
                · replace h110 := of_decide_eq_true h110
                  refine wp_seq ?_
                  refine wp_region_lit ?_
                  refine a_val hs rfl rfl rfl (y_struct (zc := #[.slice none 0 0, .int .i64 0, .int .i64 0, .int .u64 0]) (pl := [(0, 1), (1, 1), (2, 1), (3, 1)]) (cl := [.slice none 0 0, .int .i64 0, .int .i64 0, .int .u64 0]) hs (by kernel_rfl) rfl (by rfl) rfl) ?_; clear hs a; intro a hs
                  refine a_eff rfl (e_store (cl := [_, _, _, _]) 2 rfl hs rfl rfl (by kernel_rfl) rfl rfl rfl ?_); clear hs a; intro a w hs
                  refine a_val hs rfl rfl rfl (y_assign hs rfl) ?_; clear hs a; intro a hs
                  refine a_val hs rfl rfl rfl (y_assign hs rfl) ?_; clear hs a; intro a hs
                  refine wpList_nil (then_normal ?_)
                  refine wp_ret (then_ret (in_ret (then_ret (then_ret (in_ret (then_ret ?_))))))
                  have hRR : R = badR (7) := (hR1.trans (by unfold stepK; rw [if_neg (by omega), if_pos (by rw [List.length_drop]; omega)]))
                  refine fin_ret hs (.cell (hs.slots _ _ rfl) (hs.mem.to 0 rfl).cells Tryd.underlying26 rfl (by kernel_rfl) (.tmp (hs.slots _ _ rfl) (.tmp (hs.slots _ _ rfl) .nil))) ?_
                  rw [← hRd, hRR]
                  exact ⟨none, 0, rfl, (((hs.mem.to 0 rfl).drop.to 0 rfl).drop.to 0 rfl).drop.nilRow 47 4⟩
                · replace h110 := of_decide_eq_false h110
                  have hR3 : R = stepsR b rg ot rd ms (p + 1 + fldN x) (l.take i ++ [mkS x (b.drop (p + 1))]) := hR1.trans (by unfold stepK; rw [if_neg (by omega), if_neg (by rw [List.length_drop]; omega)])
                  obtain ⟨tl, htl⟩ : ∃ t, t = (b.drop (p + 1)).take (fldN x) := ⟨_, rfl⟩
                  have htn : tl.length = fldN x := by rw [htl, List.length_take, List.length_drop]; omega
                  have hmid : (b.take (p + 1 + fldN x)).drop p = x :: tl := by rw [htl, List.drop_take, show p + 1 + fldN x - p = fldN x + 1 by omega, getElem_drop hx, List.take_succ_cons]
                  have htb : byteL tl := fun y hy => hb y (by rw [htl] at hy; exact List.mem_of_mem_drop (List.mem_of_mem_take hy))
                  have ht0 := getD_byte htb 0
                  have ht1 := getD_byte htb 1
                  have ht2 := getD_byte htb 2
                  refine wp_skip (then_normal ?_)
                  refine wp_seq ?_
                  refine wp_region_lit ?_
                  refine a_eff rfl (e_alloc (z := .agg #[.int .u8 0, .int .u8 0, .int .u8 0, .int .u8 0]) (cs := #[.int .u8 0, .int .u8 0, .int .u8 0, .int .u8 0]) hs rfl (by kernel_rfl) rfl ?_); clear hs a; intro gv a w hs
                  refine wpList_nil (then_normal ?_)
                  refine wp_seq ?_
                  refine b_enter [1, 2, 3] (by kernel_rfl) hs #[false, false, false, false, false, false, false, false, false, false] (by rfl) 10 (by rfl) ?_; clear hs; intro w hs
                  refine b_take 0 rfl #[true, false, false, false, false, false, false, false, false, false] rfl (by kernel_rfl) hs (((((hs.mem.to 3 rfl).to 3 rfl).to 3 rfl).first 3)) rfl rfl rfl (fun _ _ _ h => h) (y_sliceA (size := 1) hs Tryd.underlying98 (by kernel_rfl) rfl) ?_; clear hs a; intro a hs
                  refine b_take 1 rfl #[true, true, false, false, false, false, false, false, false, false] rfl (by kernel_rfl) hs (((((hs.mem.to 3 rfl).to 3 rfl).to 3 rfl).first 3)) rfl rfl rfl (fun _ _ _ h => h) (y_move hs rfl) ?_; clear hs a; intro a hs
                  refine b_take 2 rfl #[true, true, true, false, false, false, false, false, false, false] rfl (by kernel_rfl) hs (((((hs.mem.to 3 rfl).to 3 rfl).to 3 rfl).first 3)) rfl rfl rfl (fun _ _ _ h => h) (y_move hs rfl) ?_; clear hs a; intro a hs
                  refine b_take 3 rfl #[true, true, true, true, false, false, false, false, false, false] rfl (by kernel_rfl) hs (((((hs.mem.to 3 rfl).to 3 rfl).to 3 rfl).first 3)) rfl rfl rfl (fun _ _ _ h => h) (y_move hs rfl) ?_; clear hs a; intro a hs
                  refine b_take 4 rfl #[true, true, true, true, true, false, false, false, false, false] rfl (by kernel_rfl) hs (((((hs.mem.to 3 rfl).to 3 rfl).to 3 rfl).first 3)) rfl rfl rfl (fun _ _ _ h => h) (y_add hs rfl rfl (by omega)) ?_; clear hs a; intro a hs
                  refine b_take 5 rfl #[true, true, true, true, true, true, false, false, false, false] rfl (by kernel_rfl) hs (((((hs.mem.to 3 rfl).to 3 rfl).to 3 rfl).first 3)) rfl rfl rfl (fun _ _ _ h => h) (y_move hs rfl) ?_; clear hs a; intro a hs
                  refine b_eff 6 (by kernel_rfl) rfl #[true, true, true, true, true, true, true, false, false, false] rfl hs rfl (e_callB Tryd.func34 rfl rfl hs rfl rfl (ref_fields x (by omega) _) ?_); clear hs a; intro a w hs
                  refine ⟨((((hs.mem.to 3 rfl).to 3 rfl).to 3 rfl).first 3), ?_⟩
                  refine b_take 7 rfl #[true, true, true, true, true, true, true, true, false, false] rfl (by kernel_rfl) hs (((((hs.mem.to 3 rfl).to 3 rfl).to 3 rfl).first 3)) rfl rfl rfl (fun _ _ _ h => h) (y_add hs rfl rfl (by omega)) ?_; clear hs a; intro a hs
                  refine b_take 8 rfl #[true, true, true, true, true, true, true, true, true, false] rfl (by kernel_rfl) hs (((((hs.mem.to 3 rfl).to 3 rfl).to 3 rfl).first 3)) rfl rfl rfl (fun _ _ _ h => h) (y_sliceM (size := 1) (lo := p) (hi := p + 1 + fldN x) hs Tryd.underlying27 (by kernel_rfl) rfl rfl rfl rfl (by omega) (by omega) (by omega)) ?_; clear hs a; intro a hs
                  try replace hs := hs.say 120 rfl (show Value.slice (if c = p then some ⟨g0, o, none⟩ else (some (⟨g0, o, none⟩ : Addr)).map (·.add (p * 1))) (p + 1 + fldN x - p) (c - p) = .slice (if c = p then some ⟨g0, o, none⟩ else (some (⟨g0, o, none⟩ : Addr)).map (·.add (p * (Kd.int .u8).sz))) (x :: tl).length (c - p) by rw [List.length_cons, htn, show p + 1 + fldN x - p = fldN x + 1 by omega]; rfl)
                  have hC2 := Kd.C_mid (lo := p) (hi := p + 1 + fldN x) (c := c) (Kd.C_below hA hs.mem.base) (by omega) (by omega) hc
                  rw [hmid] at hC2
                  refine b_eff 9 (by kernel_rfl) rfl #[true, true, true, true, true, true, true, true, true, true] rfl hs rfl (e_copyB (l2 := x :: tl) (cl := [.int .u8 x, .int .u8 ((tl[0]?).getD 0), .int .u8 ((tl[1]?).getD 0), .int .u8 ((tl[2]?).getD 0)]) 0 rfl hs rfl Tryd.underlying27 (by kernel_rfl) rfl rfl hC2 (by simp) (by rw [List.length_cons]; omega) (by simp only [List.size_toArray, List.length_cons, List.length_nil]; omega) (copied x tl (by omega)) ?_); clear hs a; intro a w hs
                  refine ⟨((((hs.mem.to 3 rfl).to 3 rfl).to 3 rfl).first 3), ?_⟩
                  refine b_done (by kernel_rfl) (then_normal ?_)
                  refine wp_seq ?_
                  refine wp_region_lit ?_
                  refine a_val hs rfl rfl rfl (y_faddr (k' := 0) 0 hs (by kernel_rfl) rfl rfl) ?_; clear hs a; intro a hs
                  refine a_val hs rfl rfl rfl (y_load hs Tryd.underlying22 rfl rfl (fun w hw => (hw.to 1 rfl).cellV rfl)) ?_; clear hs a; intro a hs
                  refine a_val hs rfl rfl rfl (y_move hs rfl) ?_; clear hs a; intro a hs
                  refine a_val hs rfl rfl rfl (y_move hs rfl) ?_; clear hs a; intro a hs
                  refine a_val hs rfl rfl rfl (y_idxP (size := 1) (off := 1) hs Tryd.underlying98 (by kernel_rfl) rfl rfl (by decide) (by decide) rfl) ?_; clear hs a; intro a hs
                  refine a_val hs rfl rfl rfl (y_load hs Tryd.underlying5 rfl rfl (fun w hw => (hw.to 0 rfl).cellV rfl)) ?_; clear hs a; intro a hs
                  refine a_val hs rfl rfl rfl (y_conv hs Tryd.underlying5 Tryd.underlying3 rfl) ?_; clear hs a; intro a hs
                  refine a_val hs rfl rfl rfl (y_idxP (size := 1) (off := 2) hs Tryd.underlying98 (by kernel_rfl) rfl rfl (by decide) (by decide) rfl) ?_; clear hs a; intro a hs
                  refine a_val hs rfl rfl rfl (y_load hs Tryd.underlying5 rfl rfl (fun w hw => (hw.to 0 rfl).cellV rfl)) ?_; clear hs a; intro a hs
                  refine a_val hs rfl rfl rfl (y_conv hs Tryd.underlying5 Tryd.underlying3 rfl) ?_; clear hs a; intro a hs
                  refine a_val hs rfl rfl rfl (y_idxP (size := 1) (off := 3) hs Tryd.underlying98 (by kernel_rfl) rfl rfl (by decide) (by decide) rfl) ?_; clear hs a; intro a hs
                  refine a_val hs rfl rfl rfl (y_load hs Tryd.underlying5 rfl rfl (fun w hw => (hw.to 0 rfl).cellV rfl)) ?_; clear hs a; intro a hs
                  replace hs := hs.say 128 rfl (congrArg (Value.int IntKind.i64) (i64_nat (n := (tl[0]?).getD 0) (by omega)))
                  replace hs := hs.say 131 rfl (congrArg (Value.int IntKind.i64) (i64_nat (n := (tl[1]?).getD 0) (by omega)))
                  refine a_val hs rfl rfl rfl (y_struct (zc := #[.int .u8 0, .int .i64 0, .int .i64 0, .int .u8 0]) (pl := [(0, 1), (1, 1), (2, 1), (3, 1)]) (cl := [_, _, _, _]) hs (by kernel_rfl) rfl (by rfl) rfl) ?_; clear hs a; intro a hs
                  refine a_val hs rfl rfl rfl (y_idxA (size := 4) (off := i * 4) hs Tryd.underlying22 (by kernel_rfl) rfl rfl (by omega) (by omega) (by simp)) ?_; clear hs a; intro a hs
                  refine a_eff rfl (e_storeL encS l (mkS x (b.drop (p + 1))) 2 rfl hs rfl rfl (by kernel_rfl) (fun _ => rfl) (show ([.int .u8 x, .int .i64 ((tl[0]?).getD 0), .int .i64 ((tl[1]?).getD 0), .int .u8 ((tl[2]?).getD 0)] : List Value) = encS (mkS x (b.drop (p + 1))) by rw [htl]; rfl) rfl rfl (by omega) ?_); clear hs a; intro a w hs
                  refine wpList_nil (then_normal ?_)
                  refine wp_region_lit ?_
                  refine a_val hs rfl rfl rfl (y_move hs rfl) ?_; clear hs a; intro a hs
                  refine a_val hs rfl rfl rfl (y_move hs rfl) ?_; clear hs a; intro a hs
                  refine a_eff rfl (e_callB Tryd.func34 rfl rfl hs rfl rfl (ref_fields x (by omega) _) ?_); clear hs a; intro a w hs
                  refine a_val hs rfl rfl rfl (y_add hs rfl rfl (by omega)) ?_; clear hs a; intro a hs
                  refine a_val hs rfl rfl rfl (y_add hs rfl rfl (by omega)) ?_; clear hs a; intro a hs
                  refine a_val hs rfl rfl rfl (y_assign hs rfl) ?_; clear hs a; intro a hs
                  refine wpList_nil (in_normal (then_normal ?_))
                  refine wp_region_lit ?_
                  refine a_val hs rfl rfl rfl (y_move hs rfl) ?_; clear hs a; intro a hs
                  refine a_val hs rfl rfl rfl (y_add hs rfl rfl (by omega)) ?_; clear hs a; intro a hs
                  refine a_val hs rfl rfl rfl (y_assign hs rfl) ?_; clear hs a; intro a hs
                  refine wpList_nil (then_normal ?_)
                  rw [List.length_set] at hs
                  replace hs := hs.say 6 rfl (show Value.int .i64 ((p : Int) + (1 + ((fldN x : Nat) : Int))) = .int .i64 ((p + 1 + fldN x : Nat) : Int) by congr 1; omega)
                  refine ⟨ms, by omega, i + 1, p + 1 + fldN x, l.set i (mkS x (b.drop (p + 1))), by omega, by rw [List.length_set], by omega, by rw [set_take _ _ _ (by omega)]; exact hR3, ?_⟩
                  exact (hs.mem_to ((((hs.mem.to 1 rfl).drop.to 2 rfl).to 1 rfl).to 2 rfl)).cut _ ⟨rfl, rfl, rfl, rfl, rfl, trivial⟩
        · replace h84 := of_decide_eq_false h84
          subst hl
          refine wp_exit (then_exit (then_exit (in_here (then_normal ?_))))
          refine wp_seq ?_
          refine wp_region_lit ?_
          refine a_val hs rfl rfl rfl (y_loadPt 0 rfl hs Tryd.underlying26 rfl (by kernel_rfl) rfl) ?_; clear hs a; intro a hs
          refine a_val hs rfl rfl rfl (y_move hs rfl) ?_; clear hs a; intro a hs
          refine a_eff rfl (e_store (cl := [_, _, _, _]) 2 rfl hs rfl rfl (by kernel_rfl) rfl rfl rfl ?_); clear hs a; intro a w hs
          refine a_val hs rfl rfl rfl (y_assign hs rfl) ?_; clear hs a; intro a hs
          refine a_val hs rfl rfl rfl (y_assign hs rfl) ?_; clear hs a; intro a hs
          refine wpList_nil (then_normal ?_)
          refine wp_ret ?_
          obtain rfl : ms = 0 := by omega
          have hRR := hR
          rw [stepsR, List.take_of_length_le (by omega)] at hRR
          refine fin_ret hs (.cell (hs.slots _ _ rfl) (hs.mem.to 0 rfl).cells Tryd.underlying26 rfl (by kernel_rfl) (.tmp (hs.slots _ _ rfl) (.tmp (hs.slots _ _ rfl) .nil))) ?_
          rw [← hRd, hRR]
          exact ⟨some ⟨gm, 0, none⟩, c2, rfl, ((hs.mem.to 0 rfl).drop.to 0 rfl).drop⟩
end Go.Proofs.YtpdemfnemkmelaaDoor.E
