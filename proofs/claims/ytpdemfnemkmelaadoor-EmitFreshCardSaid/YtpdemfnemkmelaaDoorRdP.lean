/- emit.Read: the program, its size, or the error. Conditions: the bytes are bytes. -/
import Derived.Test.YtpdemfnemkmelaaDoorRd
import Derived.Test.YtpdemfnemkmelaaDoorMay
namespace Go.Proofs.YtpdemfnemkmelaaDoor.E
open Go Go.RowKit Go.Proofs.YtpdemfnemkmelaaDoorW.PrintWords Go.Proofs.YtpdemfnemkmelaaDoorW.PrintLast Go.Proofs.YtpdemfnemkmelaaDoorW.PrintMore Go.Proofs.YtpdemfnemkmelaaDoor.PA Go.Proofs.YtpdemfnemkmelaaDoor.Num
set_option linter.unusedVariables false
set_option linter.unusedSimpArgs false
set_option maxRecDepth 100000 in
theorem emit_Read (A : Option Addr) (c : Nat) (b : List Int) (hc : b.length ≤ c) (hb : byteL b) (hz : b.length ≤ 140737488355328) (v0 : World) (hA : Kd.C (Kd.int .u8) v0 A b.length b) :
    Calls Tryd.prog 14 #[.slice A b.length c] v0 fun e w' => ∃ A' c', e = .returned (.tuple #[.agg #[.slice A' (readR b).1.length c', .int .i64 (readR b).2.1, .int .i64 (readR b).2.2.1, .int .u64 (readR b).2.2.2.1], .int .i64 (readR b).2.2.2.2.1, .int .i64 (readR b).2.2.2.2.2]) ∧ H v0 [row 47 4 (.slice A' ((readR b).1).length c') ((readR b).1).length (((readR b).1).flatMap encS)] w' := by
  refine calls_enter (N := 100) (n := 99) (args := [.slice A b.length c]) Tryd.func14 rfl rfl rfl (H.init v0) (fun a hs => ?_)
  obtain ⟨R, hRd⟩ : ∃ R, R = readR b := ⟨_, rfl⟩
  have hR0 : R = numR b 0 256 (readK1 b) := hRd
  refine wp_seq ?_
  refine wp_region_lit ?_
  refine a_eff rfl (e_alloc (z := .agg #[.slice none 0 0, .int .i64 0, .int .i64 0, .int .u64 0]) (cs := #[.slice none 0 0, .int .i64 0, .int .i64 0, .int .u64 0]) hs rfl (by kernel_rfl) rfl ?_); clear hs a; intro pp a w hs
  refine a_val hs rfl rfl rfl (y_assign hs rfl) ?_; clear hs a; intro a hs
  refine a_val hs rfl rfl rfl (y_assign hs rfl) ?_; clear hs a; intro a hs
  refine wpList_nil (then_normal ?_)
  refine wp_seq ?_
  refine wp_region_lit ?_
  refine a_val hs rfl rfl rfl (y_move hs rfl) ?_; clear hs a; intro a hs
  refine a_val hs rfl rfl rfl (y_struct (zc := #[.slice none 0 0, .int .i64 0, .int .i64 0]) (pl := [(0, 1), (1, 1), (2, 1)]) (cl := [_, .int .i64 0, .int .i64 0]) hs (by kernel_rfl) rfl (by rfl) rfl) ?_; clear hs a; intro a hs
  refine a_eff rfl (e_box (cs := #[_, _, _]) hs rfl rfl rfl ?_); clear hs a; intro gr a w hs
  refine a_val hs rfl rfl rfl (y_assign hs rfl) ?_; clear hs a; intro a hs
  refine wpList_nil (then_normal ?_)
  refine wp_seq ?_
  refine wp_region_lit ?_
  refine a_val hs rfl rfl rfl (y_move hs rfl) ?_; clear hs a; intro a hs
  refine a_eff rfl (e_callX Tryd.func36 rfl rfl hs rfl rfl (reader_taker gr _) (fun e w1 ⟨gq, he, hm⟩ => ⟨_, he, _, hs.mem.more hm, ?_⟩)); clear hs a; intro a hs
  refine a_val hs rfl rfl rfl (y_assign hs rfl) ?_; clear hs a; intro a hs
  refine wpList_nil (then_normal ?_)
  refine wp_seq ?_
  refine wp_region_lit ?_
  refine a_val hs rfl rfl rfl (y_move hs rfl) ?_; clear hs a; intro a hs
  refine a_eff rfl (e_callX Tryd.func37 rfl rfl hs rfl rfl (reader_num gr A c b hc hb 0 0 256 (Nat.zero_le _) hz _ v0 _ hA (hs.mem.to 1 rfl)) (fun e w1 ⟨he, hm⟩ => ⟨_, he, _, hm, ?_⟩)); clear hs a; intro a hs
  obtain ⟨n1, q1, e1, hF, hq1, hn1a, hn1b, hEe1, hKe1⟩ := numF_tell hb 256 0 0 (readK1 b) R (Nat.zero_le _) (fun h => absurd rfl h) (fun _ => hR0) (by decide)
  rw [hF] at hs
  clear hF
  refine a_val hs rfl rfl rfl (y_faddr (k' := 1) 1 hs (by kernel_rfl) rfl rfl) ?_; clear hs a; intro a hs
  refine a_eff rfl (e_store (cl := [_, _, _, _]) 2 rfl hs rfl rfl (by kernel_rfl) rfl rfl rfl ?_); clear hs a; intro a w hs
  refine wpList_nil (then_normal ?_)
  refine wp_seq ?_
  refine wp_region_lit ?_
  refine a_val hs rfl rfl rfl (y_move hs rfl) ?_; clear hs a; intro a hs
  refine a_eff rfl (e_callX Tryd.func37 rfl rfl hs rfl rfl (reader_num gr A c b hc hb q1 e1 64 hq1 hz _ v0 _ hA (hs.mem.to 1 rfl)) (fun e w1 ⟨he, hm⟩ => ⟨_, he, _, hm, ?_⟩)); clear hs a; intro a hs
  obtain ⟨n2, q2, e2, hF, hq2, hn2a, hn2b, hEe2, hKe2⟩ := numF_tell hb 64 q1 e1 (readK2 b n1) R hq1 hEe1 (fun h => (hKe1 h).1) (by decide)
  rw [hF] at hs
  clear hF
  refine a_val hs rfl rfl rfl (y_faddr (k' := 2) 2 hs (by kernel_rfl) rfl rfl) ?_; clear hs a; intro a hs
  refine a_eff rfl (e_store (cl := [_, _, _, _]) 1 rfl hs rfl rfl (by kernel_rfl) rfl rfl rfl ?_); clear hs a; intro a w hs
  refine wpList_nil (then_normal ?_)
  refine wp_seq ?_
  refine wp_seq ?_
  refine wp_region_lit ?_
  refine a_val hs rfl rfl rfl (y_move hs rfl) ?_; clear hs a; intro a hs
  refine wpList_nil (then_normal ?_)
  refine wp_block ?_
  refine wp_loopN (fun m a w1 => ∃ (i q : Nat) (e0 v : Int), (i + m = 8) ∧ (q ≤ b.length) ∧ (e0 ≠ 0 → R = badR e0) ∧ (e0 = 0 → R = bytesR b (readK3 b n1 n2) m q v ∧ 0 ≤ v ∧ v < 256 ^ i) ∧ St 100 v0 [(2, .pointer (some ⟨pp, 0, none⟩)), (5, .pointer (some ⟨gr, 0, none⟩)), (6, .func (.func 55) #[] #[.pointer (some ⟨gq, 0, none⟩)]), (21, .int .i64 ((i : Nat) : Int))] [pt pp #[.slice none 0 0, .int .i64 (n1), .int .i64 (n2), .int .u64 (v)] 26, pt gr #[.slice A b.length c, .int .i64 ((q : Int)), .int .i64 (e0)] 76, pt gq #[.pointer (some ⟨gr, 0, none⟩)] 74] a w1) (8) ⟨0, q2, e2, 0, rfl, hq2, hEe2, fun h => ⟨(hKe2 h).1, by decide, by decide⟩, ?_⟩ (fun m a w1 hJ => ?_)
  · exact (hs.mem_to (((hs.mem.to 2 rfl).to 2 rfl).to 2 rfl)).cut _ ⟨rfl, rfl, rfl, rfl, trivial⟩
  · clear hs
    obtain ⟨i, q, e0, v, hi, hq, hE, hK, hs⟩ := hJ
    refine wp_seq ?_
    refine wp_region_lit ?_
    refine a_val hs rfl rfl rfl (y_cmp hs rfl rfl rfl) ?_; clear hs a; intro a hs
    refine wpList_nil (then_normal ?_)
    refine wp_seq ?_
    refine wp_cond_split (hs.ev rfl) (fun h22 => ?_) (fun h22 => ?_)
    · replace h22 := of_decide_eq_true h22
      obtain ⟨m, rfl⟩ : ∃ m', m = m' + 1 := ⟨m - 1, by omega⟩
      refine wp_skip (then_normal ?_)
      refine wp_seq ?_
      refine wp_block ?_
      refine b_enter [2] (by kernel_rfl) hs #[false, false, false, false, false, false, false, false, false] (by rfl) 9 (by rfl) ?_; clear hs; intro w hs
      refine b_take 0 rfl #[true, false, false, false, false, false, false, false, false] rfl (by kernel_rfl) hs (((hs.mem.to 2 rfl).first 1)) rfl rfl rfl (fun _ _ _ h => h) (y_faddr (k' := 3) 3 hs (by kernel_rfl) rfl rfl) ?_; clear hs a; intro a hs
      refine b_take 3 rfl #[true, false, false, true, false, false, false, false, false] rfl (by kernel_rfl) hs (((hs.mem.to 2 rfl).first 1)) rfl rfl rfl (fun _ _ _ h => h) (y_move hs rfl) ?_; clear hs a; intro a hs
      refine b_eff2 1 4 (by kernel_rfl) rfl rfl #[true, true, false, true, false, false, false, false, false] #[true, false, false, true, true, false, false, false, false] rfl rfl hs rfl rfl (e_yield hs rfl rfl (y_load hs Tryd.underlying24 rfl rfl (fun w hw => (hw.to 0 rfl).cellV rfl)) ?_) (e_callF Tryd.func55 rfl rfl hs rfl rfl rfl (reader_next gq gr A c b hc hb q e0 hq hz _ v0 _ hA ((hs.mem.to 1 rfl).to 2 rfl)) (fun e w1 ⟨he, hm⟩ => ⟨_, he, _, hm, ?_⟩))
      · clear hs a; intro a hs
        refine ⟨((hs.mem.to 2 rfl).first 1), ?_⟩
        refine b_take 2 rfl #[true, true, true, true, false, false, false, false, false] rfl (by kernel_rfl) hs (((hs.mem.to 2 rfl).first 1)) rfl rfl rfl (fun _ _ _ h => h) (y_shift (q := IntKind.u64.wrap (v * 2 ^ 8)) hs rfl rfl (by rw [show (8 : Int) = ((8 : Nat) : Int) from rfl, shl_mul _ _ 8 (by decide)])) ?_; clear hs a; intro a hs
        refine b_eff 4 (by kernel_rfl) rfl #[true, true, true, true, true, false, false, false, false] rfl hs rfl (e_callF Tryd.func55 rfl rfl hs rfl rfl rfl (reader_next gq gr A c b hc hb q e0 hq hz _ v0 _ hA ((hs.mem.to 1 rfl).to 2 rfl)) (fun e w1 ⟨he, hm⟩ => ⟨_, he, _, hm, ?_⟩)); clear hs a; intro a hs
        obtain ⟨c1, q', e', hF, hq', hc0, hc1, hE', hK'⟩ := nextF_tell hb q e0 (fun c => bytesR b (readK3 b n1 n2) m (q + 1) (v * 256 + c)) R hq hE (fun h => by have h1 := (hK h).1; rw [bytesR] at h1; exact h1)
        rw [hF] at hs
        clear hF
        refine ⟨(hs.mem.first 1), ?_⟩
        refine b_take 5 rfl #[true, true, true, true, true, true, false, false, false] rfl (by kernel_rfl) hs ((hs.mem.first 1)) rfl rfl rfl (fun _ _ _ h => h) (y_conv hs Tryd.underlying5 Tryd.underlying24 rfl) ?_; clear hs a; intro a hs
        refine b_take 6 rfl #[true, true, true, true, true, true, true, false, false] rfl (by kernel_rfl) hs ((hs.mem.first 1)) rfl rfl rfl (fun _ _ _ h => h) (y_bin hs rfl rfl (bin_or _ _ _)) ?_; clear hs a; intro a hs
        refine b_take 7 rfl #[true, true, true, true, true, true, true, true, false] rfl (by kernel_rfl) hs ((hs.mem.first 1)) rfl rfl rfl (fun _ _ _ h => h) (y_faddr (k' := 3) 3 hs (by kernel_rfl) rfl rfl) ?_; clear hs a; intro a hs
        refine b_eff 8 (by kernel_rfl) rfl #[true, true, true, true, true, true, true, true, true] rfl hs rfl (e_store (cl := [_, _, _, _]) 2 rfl hs rfl rfl (by kernel_rfl) rfl rfl rfl ?_); clear hs a; intro a w hs
        refine ⟨((hs.mem.to 1 rfl).first 1), ?_⟩
        refine b_done (by kernel_rfl) (in_normal (then_normal ?_))
        refine wp_region_lit ?_
        refine a_val hs rfl rfl rfl (y_add hs rfl rfl (by omega)) ?_; clear hs a; intro a hs
        refine a_val hs rfl rfl rfl (y_move hs rfl) ?_; clear hs a; intro a hs
        refine wpList_nil (then_normal ?_)
        have hK2 : e' = 0 → R = bytesR b (readK3 b n1 n2) m q' (Go.bits .or .u64 (IntKind.u64.wrap (v * 2 ^ 8)) (IntKind.u64.wrap c1)) ∧ 0 ≤ Go.bits .or .u64 (IntKind.u64.wrap (v * 2 ^ 8)) (IntKind.u64.wrap c1) ∧ Go.bits .or .u64 (IntKind.u64.wrap (v * 2 ^ 8)) (IntKind.u64.wrap c1) < 256 ^ (i + 1) := fun h => by
          obtain ⟨h1, rfl, h3, h4⟩ := hK' h
          obtain ⟨_, hv0, hv1⟩ := hK h3
          rw [or_byte hv0 (lt_pow hv1 (by omega)) hc0 hc1]
          exact ⟨h1, by omega, pow_next hv1 hc1⟩
        refine ⟨m, by omega, i + 1, q', e', _, by omega, hq', hE', hK2, ?_⟩
        exact (hs.mem_to (((hs.mem.to 1 rfl).to 2 rfl).to 2 rfl)).cut _ ⟨rfl, rfl, rfl, rfl, trivial⟩
      · clear hs a; intro a hs
        obtain ⟨c1, q', e', hF, hq', hc0, hc1, hE', hK'⟩ := nextF_tell hb q e0 (fun c => bytesR b (readK3 b n1 n2) m (q + 1) (v * 256 + c)) R hq hE (fun h => by have h1 := (hK h).1; rw [bytesR] at h1; exact h1)
        rw [hF] at hs
        clear hF
        refine ⟨(hs.mem.first 1), ?_⟩
        refine b_take 5 rfl #[true, false, false, true, true, true, false, false, false] rfl (by kernel_rfl) hs ((hs.mem.first 1)) rfl rfl rfl (fun _ _ _ h => h) (y_conv hs Tryd.underlying5 Tryd.underlying24 rfl) ?_; clear hs a; intro a hs
        refine b_eff 1 (by kernel_rfl) rfl #[true, true, false, true, true, true, false, false, false] rfl hs rfl (e_yield hs rfl rfl (y_load hs Tryd.underlying24 rfl rfl (fun w hw => (hw.to 2 rfl).cellV rfl)) ?_); clear hs a; intro a hs
        refine ⟨(hs.mem.first 1), ?_⟩
        refine b_take 2 rfl #[true, true, true, true, true, true, false, false, false] rfl (by kernel_rfl) hs ((hs.mem.first 1)) rfl rfl rfl (fun _ _ _ h => h) (y_shift (q := IntKind.u64.wrap (v * 2 ^ 8)) hs rfl rfl (by rw [show (8 : Int) = ((8 : Nat) : Int) from rfl, shl_mul _ _ 8 (by decide)])) ?_; clear hs a; intro a hs
        refine b_take 6 rfl #[true, true, true, true, true, true, true, false, false] rfl (by kernel_rfl) hs ((hs.mem.first 1)) rfl rfl rfl (fun _ _ _ h => h) (y_bin hs rfl rfl (bin_or _ _ _)) ?_; clear hs a; intro a hs
        refine b_take 7 rfl #[true, true, true, true, true, true, true, true, false] rfl (by kernel_rfl) hs ((hs.mem.first 1)) rfl rfl rfl (fun _ _ _ h => h) (y_faddr (k' := 3) 3 hs (by kernel_rfl) rfl rfl) ?_; clear hs a; intro a hs
        refine b_eff 8 (by kernel_rfl) rfl #[true, true, true, true, true, true, true, true, true] rfl hs rfl (e_store (cl := [_, _, _, _]) 2 rfl hs rfl rfl (by kernel_rfl) rfl rfl rfl ?_); clear hs a; intro a w hs
        refine ⟨((hs.mem.to 1 rfl).first 1), ?_⟩
        refine b_done (by kernel_rfl) (in_normal (then_normal ?_))
        refine wp_region_lit ?_
        refine a_val hs rfl rfl rfl (y_add hs rfl rfl (by omega)) ?_; clear hs a; intro a hs
        refine a_val hs rfl rfl rfl (y_move hs rfl) ?_; clear hs a; intro a hs
        refine wpList_nil (then_normal ?_)
        have hK2 : e' = 0 → R = bytesR b (readK3 b n1 n2) m q' (Go.bits .or .u64 (IntKind.u64.wrap (v * 2 ^ 8)) (IntKind.u64.wrap c1)) ∧ 0 ≤ Go.bits .or .u64 (IntKind.u64.wrap (v * 2 ^ 8)) (IntKind.u64.wrap c1) ∧ Go.bits .or .u64 (IntKind.u64.wrap (v * 2 ^ 8)) (IntKind.u64.wrap c1) < 256 ^ (i + 1) := fun h => by
          obtain ⟨h1, rfl, h3, h4⟩ := hK' h
          obtain ⟨_, hv0, hv1⟩ := hK h3
          rw [or_byte hv0 (lt_pow hv1 (by omega)) hc0 hc1]
          exact ⟨h1, by omega, pow_next hv1 hc1⟩
        refine ⟨m, by omega, i + 1, q', e', _, by omega, hq', hE', hK2, ?_⟩
        exact (hs.mem_to (((hs.mem.to 1 rfl).to 2 rfl).to 2 rfl)).cut _ ⟨rfl, rfl, rfl, rfl, trivial⟩
    · replace h22 := of_decide_eq_false h22
      obtain rfl : m = 0 := by omega
      refine wp_exit (then_exit (then_exit (in_here (then_normal ?_))))
      refine wp_seq ?_
      refine wp_seq ?_
      refine wp_region_lit ?_
      refine a_val hs rfl rfl rfl (y_move hs rfl) ?_; clear hs a; intro a hs
      refine a_eff rfl (e_callX Tryd.func37 rfl rfl hs rfl rfl (reader_num gr A c b hc hb q e0 65536 hq hz _ v0 _ hA (hs.mem.to 1 rfl)) (fun e w1 ⟨he, hm⟩ => ⟨_, he, _, hm, ?_⟩)); clear hs a; intro a hs
      obtain ⟨n3, q3, e3, hF, hq3, hn3a, hn3b, hEe3, hKe3⟩ := numF_tell hb 65536 q e0 (readK4 b n1 n2 v) R hq hE (fun h => (hK h).1) (by decide)
      rw [hF] at hs
      clear hF
      refine a_val hs rfl rfl rfl (y_assign hs rfl) ?_; clear hs a; intro a hs
      refine wpList_nil (then_normal ?_)
      refine wp_block ?_
      replace hs := hs.mem_to (hs.mem.nilRow 47 4)
      replace hs := hs.say 7 rfl (show Value.int .i64 n3 = .int .i64 ((n3.toNat : Nat) : Int) by congr 1; omega)
      refine wp_loopN (fun mn a w1 => ∃ (n q : Nat) (e0 : Int) (acc : List Stp) (A2 : Option Addr) (c2 : Nat), (mn = n) ∧ (q ≤ b.length) ∧ (acc.length + n ≤ 65536) ∧ (e0 ≠ 0 → R = badR e0) ∧ (e0 = 0 → R = stepsR b n1 n2 v n q acc) ∧ St 100 v0 [(2, .pointer (some ⟨pp, 0, none⟩)), (5, .pointer (some ⟨gr, 0, none⟩)), (6, .func (.func 55) #[] #[.pointer (some ⟨gq, 0, none⟩)]), (7, .int .i64 ((n : Nat) : Int))] [pt pp #[.slice A2 (acc).length c2, .int .i64 (n1), .int .i64 (n2), .int .u64 (v)] 26, row 47 4 (.slice A2 (acc).length c2) (acc).length ((acc).flatMap encS), pt gr #[.slice A b.length c, .int .i64 ((q : Int)), .int .i64 (e0)] 76, pt gq #[.pointer (some ⟨gr, 0, none⟩)] 74] a w1) (n3.toNat) ⟨n3.toNat, q3, e3, [], none, 0, rfl, hq3, by simp only [List.length_nil]; omega, hEe3, fun h => (hKe3 h).1, ?_⟩ (fun mn a w1 hJ => ?_)
      · exact (hs.mem_to ((((hs.mem.to 3 rfl).to 2 rfl).to 2 rfl).to 3 rfl)).cut _ ⟨rfl, rfl, rfl, rfl, trivial⟩
      · clear hs hE hK hq hi
        obtain ⟨n, q, e0, acc, A2, c2, hn, hq, hl, hE, hK, hs⟩ := hJ
        refine wp_seq ?_
        refine wp_seq ?_
        refine wp_region_lit ?_
        refine a_val hs rfl rfl rfl (y_move hs rfl) ?_; clear hs a; intro a hs
        refine a_val hs rfl rfl rfl (y_cmp hs rfl rfl rfl) ?_; clear hs a; intro a hs
        refine a_val hs rfl rfl rfl (y_move hs rfl) ?_; clear hs a; intro a hs
        rcases hs.know (d := 36) rfl with ⟨h36, hs1⟩ | ⟨h36, hs1⟩ <;> replace hs := hs1 <;> clear hs1
        · replace h36 := of_decide_eq_true h36
          refine a_valG hs rfl rfl rfl (y_move hs rfl) ?_; clear hs a; intro a hs
          refine a_valG hs rfl rfl rfl (y_nilchk hs rfl) ?_; clear hs a; intro a hs
          refine a_valG hs rfl rfl rfl (y_faddr (k' := 2) 2 hs (by kernel_rfl) rfl rfl) ?_; clear hs a; intro a hs
          refine a_valG hs rfl rfl rfl (y_load hs Tryd.underlying28 rfl rfl (fun w hw => (hw.to 2 rfl).cellV rfl)) ?_; clear hs a; intro a hs
          refine a_valG hs rfl rfl rfl (y_cmp hs rfl rfl rfl) ?_; clear hs a; intro a hs
          refine a_val hs rfl rfl rfl (y_pickT hs rfl rfl rfl) ?_; clear hs a; intro a hs
          refine wpList_nil (then_normal ?_)
          refine wp_cond_split (hs.ev rfl) (fun h42 => ?_) (fun h42 => ?_)
          · replace h42 := eq_of_beq h42
            subst h42
            obtain ⟨n, rfl⟩ : ∃ n', n = n' + 1 := ⟨n - 1, by omega⟩
            refine wp_skip (then_normal ?_)
            refine wp_seq ?_
            refine wp_block ?_
            refine wp_seq ?_
            refine wp_region_lit ?_
            refine a_val hs rfl rfl rfl (y_move hs rfl) ?_; clear hs a; intro a hs
            refine a_eff rfl (e_callF Tryd.func55 rfl rfl hs rfl rfl rfl (reader_next gq gr A c b hc hb q 0 hq hz _ v0 _ hA ((hs.mem.to 2 rfl).to 3 rfl)) (fun e w1 ⟨he, hm⟩ => ⟨_, he, _, hm, ?_⟩)); clear hs a; intro a hs
            obtain ⟨c1, q', e', hF, hq', hc0, hc1, hE', hK'⟩ := nextF_tell hb q 0 (stepK b n1 n2 v n q acc) R hq (fun h => absurd rfl h) (fun _ => by have h1 := hK rfl; rw [stepsR_next] at h1; exact h1)
            rw [hF] at hs
            clear hF
            refine a_val hs rfl rfl rfl (y_assign hs rfl) ?_; clear hs a; intro a hs
            refine wpList_nil (then_normal ?_)
            refine wp_seq ?_
            refine wp_seq ?_
            refine wp_region_lit ?_
            refine a_val hs rfl rfl rfl (y_move hs rfl) ?_; clear hs a; intro a hs
            refine a_val hs rfl rfl rfl (y_nilchk hs rfl) ?_; clear hs a; intro a hs
            refine a_val hs rfl rfl rfl (y_faddr (k' := 2) 2 hs (by kernel_rfl) rfl rfl) ?_; clear hs a; intro a hs
            refine a_val hs rfl rfl rfl (y_load hs Tryd.underlying28 rfl rfl (fun w hw => (hw.to 1 rfl).cellV rfl)) ?_; clear hs a; intro a hs
            refine a_val hs rfl rfl rfl (y_cmp hs rfl rfl rfl) ?_; clear hs a; intro a hs
            refine a_val hs rfl rfl rfl (y_move hs rfl) ?_; clear hs a; intro a hs
            rcases hs.know (d := 52) rfl with ⟨h52, hs1⟩ | ⟨h52, hs1⟩ <;> replace hs := hs1 <;> clear hs1
            · replace h52 := eq_of_beq h52
              subst h52
              obtain ⟨hR1, hq1', _, hbq⟩ := hK' rfl
              refine a_valG hs rfl rfl rfl (y_move hs rfl) ?_; clear hs a; intro a hs
              refine a_effG hs rfl (e_callB Tryd.func38 rfl rfl hs rfl rfl ((emit_known.calls c1 (decide (1 ≤ c1 ∧ c1 ≤ 4)) _ (known_ok _)).mono (by rintro e w1 ⟨rfl, hd⟩; exact ⟨rfl, drawnB hd⟩)) ?_); clear hs a; intro a w hs
              refine a_valG hs rfl rfl rfl (y_not hs rfl) ?_; clear hs a; intro a hs
              refine a_val hs rfl rfl rfl (y_pickT hs rfl rfl rfl) ?_; clear hs a; intro a hs
              refine wpList_nil (then_normal ?_)
              refine wp_cond_split (hs.ev rfl) (fun h56 => ?_) (fun h56 => ?_)
              · replace h56 := of_decide_eq_false (not_t h56)
                refine wp_region_lit ?_
                refine a_val hs rfl rfl rfl (y_move hs rfl) ?_; clear hs a; intro a hs
                refine a_val hs rfl rfl rfl (y_nilchk hs rfl) ?_; clear hs a; intro a hs
                refine a_val hs rfl rfl rfl (y_faddr (k' := 2) 2 hs (by kernel_rfl) rfl rfl) ?_; clear hs a; intro a hs
                refine a_eff rfl (e_store (cl := [_, _, _]) 1 rfl hs rfl rfl (by kernel_rfl) rfl rfl rfl ?_); clear hs a; intro a w hs
                refine wpList_nil (then_normal ?_)
                refine wp_seq ?_
                refine wp_seq ?_
                refine wp_region_lit ?_
                refine a_val hs rfl rfl rfl (y_move hs rfl) ?_; clear hs a; intro a hs
                refine a_val hs rfl rfl rfl (y_nilchk hs rfl) ?_; clear hs a; intro a hs
                refine a_val hs rfl rfl rfl (y_faddr (k' := 2) 2 hs (by kernel_rfl) rfl rfl) ?_; clear hs a; intro a hs
                refine a_val hs rfl rfl rfl (y_load hs Tryd.underlying28 rfl rfl (fun w hw => (hw.to 0 rfl).cellV rfl)) ?_; clear hs a; intro a hs
                refine a_val hs rfl rfl rfl (y_cmp (b := true) hs rfl rfl (congrArg some (bne_iff_ne.2 (by decide)))) ?_; clear hs a; intro a hs
                refine wpList_nil (then_normal ?_)
                refine wp_cond_true (hs.ev rfl) ?_
                refine wp_exit (then_exit (in_other rfl (then_exit (then_exit (in_here (then_normal ?_))))))
                refine wp_seq ?_
                refine wp_seq ?_
                refine wp_region_lit ?_
                refine a_val hs rfl rfl rfl (y_move hs rfl) ?_; clear hs a; intro a hs
                refine a_val hs rfl rfl rfl (y_nilchk hs rfl) ?_; clear hs a; intro a hs
                refine a_val hs rfl rfl rfl (y_faddr (k' := 2) 2 hs (by kernel_rfl) rfl rfl) ?_; clear hs a; intro a hs
                refine a_val hs rfl rfl rfl (y_load hs Tryd.underlying28 rfl rfl (fun w hw => (hw.to 0 rfl).cellV rfl)) ?_; clear hs a; intro a hs
                refine a_val hs rfl rfl rfl (y_cmp (b := true) hs rfl rfl (congrArg some (bne_iff_ne.2 (by decide)))) ?_; clear hs a; intro a hs
                refine wpList_nil (then_normal ?_)
                refine wp_cond_true (hs.ev rfl) ?_
                refine wp_seq ?_
                refine b_enter [0, 3] (by kernel_rfl) hs #[false, false, false, false, false, false, false, false] (by rfl) 8 (by rfl) ?_; clear hs; intro w hs
                refine b_take 0 rfl #[true, false, false, false, false, false, false, false] rfl (by kernel_rfl) hs ((((hs.mem.to 3 rfl).to 1 rfl).first 2)) rfl rfl rfl (fun _ _ _ h => h) (y_struct (zc := #[.slice none 0 0, .int .i64 0, .int .i64 0, .int .u64 0]) (pl := [(0, 1), (1, 1), (2, 1), (3, 1)]) (cl := [.slice none 0 0, .int .i64 0, .int .i64 0, .int .u64 0]) hs (by kernel_rfl) rfl (by rfl) rfl) ?_; clear hs a; intro a hs
                refine b_take 1 rfl #[true, true, false, false, false, false, false, false] rfl (by kernel_rfl) hs ((((hs.mem.to 3 rfl).to 1 rfl).first 2)) rfl rfl rfl (fun _ _ _ h => h) (y_move hs rfl) ?_; clear hs a; intro a hs
                refine b_take 2 rfl #[true, true, true, false, false, false, false, false] rfl (by kernel_rfl) hs ((((hs.mem.to 3 rfl).to 1 rfl).first 2)) rfl rfl rfl (fun _ _ _ h => h) (y_nilchk hs rfl) ?_; clear hs a; intro a hs
                refine b_take 3 rfl #[true, true, true, true, false, false, false, false] rfl (by kernel_rfl) hs ((((hs.mem.to 3 rfl).to 1 rfl).first 2)) rfl rfl rfl (fun _ _ _ h => h) (y_faddr (k' := 2) 2 hs (by kernel_rfl) rfl rfl) ?_; clear hs a; intro a hs
                refine b_take 4 rfl #[true, true, true, true, true, false, false, false] rfl (by kernel_rfl) hs ((((hs.mem.to 3 rfl).to 1 rfl).first 2)) rfl rfl rfl (fun _ _ _ h => h) (y_load hs Tryd.underlying28 rfl rfl (fun w hw => (hw.to 0 rfl).cellV rfl)) ?_; clear hs a; intro a hs
                refine b_eff 5 (by kernel_rfl) rfl #[true, true, true, true, true, true, false, false] rfl hs rfl (e_store (cl := [_, _, _, _]) 2 rfl hs rfl rfl (by kernel_rfl) rfl rfl rfl ?_); clear hs a; intro a w hs
                refine ⟨(((hs.mem.to 3 rfl).to 2 rfl).first 2), ?_⟩
                refine b_take 6 rfl #[true, true, true, true, true, true, true, false] rfl (by kernel_rfl) hs ((((hs.mem.to 3 rfl).to 2 rfl).first 2)) rfl rfl rfl (fun _ _ _ h => h) (y_assign hs rfl) ?_; clear hs a; intro a hs
                refine b_take 7 rfl #[true, true, true, true, true, true, true, true] rfl (by kernel_rfl) hs ((((hs.mem.to 3 rfl).to 2 rfl).first 2)) rfl rfl rfl (fun _ _ _ h => h) (y_assign hs rfl) ?_; clear hs a; intro a hs
                refine b_done (by kernel_rfl) (then_normal ?_)
                refine wp_ret (then_ret ?_)
                have hRR := (hR1.trans (by unfold stepK; rw [if_pos (by omega)]))
                refine fin_ret hs (.cell (hs.slots _ _ rfl) (hs.mem.to 0 rfl).cells Tryd.underlying26 rfl (by kernel_rfl) (.tmp (hs.slots _ _ rfl) (.tmp (hs.slots _ _ rfl) .nil))) ?_
                rw [← hRd, hRR]
                exact ⟨none, 0, rfl, ((((hs.mem.to 0 rfl).drop.to 0 rfl).drop.to 0 rfl).drop.to 0 rfl).drop.nilRow 47 4⟩
              · replace h56 := of_decide_eq_true (not_f h56)
                refine wp_skip (then_normal ?_)
                refine wp_seq ?_
                refine wp_seq ?_
                refine wp_region_lit ?_
                refine a_val hs rfl rfl rfl (y_move hs rfl) ?_; clear hs a; intro a hs
                refine a_val hs rfl rfl rfl (y_nilchk hs rfl) ?_; clear hs a; intro a hs
                refine a_val hs rfl rfl rfl (y_faddr (k' := 2) 2 hs (by kernel_rfl) rfl rfl) ?_; clear hs a; intro a hs
                refine a_val hs rfl rfl rfl (y_load hs Tryd.underlying28 rfl rfl (fun w hw => (hw.to 1 rfl).cellV rfl)) ?_; clear hs a; intro a hs
                refine a_val hs rfl rfl rfl (y_cmp (b := false) hs rfl rfl (congrArg some (bne_eq_false_iff_eq.2 (rfl)))) ?_; clear hs a; intro a hs
                refine wpList_nil (then_normal ?_)
                refine wp_cond_false (hs.ev rfl) ?_
                refine wp_skip (then_normal ?_)
                refine wp_seq ?_
                refine wp_region_lit ?_
                refine a_val hs rfl rfl rfl (y_assign hs rfl) ?_; clear hs a; intro a hs
                refine wpList_nil (then_normal ?_)
                refine wp_seq ?_
                refine wp_seq ?_
                refine wp_region_lit ?_
                refine a_val hs rfl rfl rfl (y_move hs rfl) ?_; clear hs a; intro a hs
                refine a_eff rfl (e_callB Tryd.func39 rfl rfl hs rfl rfl (emit_fields c1 (by omega) _) ?_); clear hs a; intro a w hs
                refine a_val hs rfl rfl rfl (y_lenS hs Tryd.underlying9 rfl) ?_; clear hs a; intro a hs
                refine a_val hs rfl rfl rfl (y_move hs rfl) ?_; clear hs a; intro a hs
                refine wpList_nil (then_normal ?_)
                refine wp_block ?_
                have hfl := fldN_le c1
                have hfp := fldN_pos (k := c1) (by omega)
                have hfs := fldS_size (k := c1) (by omega)
                rw [hfs] at hs
                replace hs := hs.mem_to (hs.mem.nilRow 3 1)
                refine wp_loopN (fun mj a w1 => ∃ (j q4 : Nat) (e4 : Int) (lst : List Int) (A3 : Option Addr) (c3 : Nat), (j + mj = fldN c1) ∧ (q4 ≤ b.length) ∧ (lst.length = j ∧ byteL lst) ∧ (e4 ≠ 0 → R = badR e4) ∧ (e4 = 0 → q4 = q' + j ∧ (b.drop q').take j = lst) ∧ St 100 v0 [(2, .pointer (some ⟨pp, 0, none⟩)), (5, .pointer (some ⟨gr, 0, none⟩)), (6, .func (.func 55) #[] #[.pointer (some ⟨gq, 0, none⟩)]), (7, .int .i64 ((n + 1 : Nat) : Int)), (8, .int .u8 c1), (9, .slice A3 (lst).length c3), (67, .int .i64 ((fldN c1 : Nat) : Int)), (68, .int .i64 ((j : Nat) : Int))] [row 3 1 (.slice A3 (lst).length c3) (lst).length ((lst).flatMap encI), pt pp #[.slice A2 (acc).length c2, .int .i64 (n1), .int .i64 (n2), .int .u64 (v)] 26, row 47 4 (.slice A2 (acc).length c2) (acc).length ((acc).flatMap encS), pt gr #[.slice A b.length c, .int .i64 ((q4 : Int)), .int .i64 (e4)] 76, pt gq #[.pointer (some ⟨gr, 0, none⟩)] 74] a w1) (fldN c1) ⟨0, q', 0, [], none, 0, by omega, hq', ⟨rfl, fun x hx => by cases hx⟩, fun h => absurd rfl h, fun _ => ⟨rfl, rfl⟩, ?_⟩ (fun mj a w1 hJ => ?_)
                · exact (hs.mem_to (((((hs.mem.to 1 rfl).to 2 rfl).to 4 rfl).to 4 rfl).to 4 rfl)).cut _ ⟨rfl, rfl, rfl, rfl, rfl, rfl, rfl, rfl, trivial⟩
                · clear hs 
                  obtain ⟨j, q4, e4, lst, A3, c3, hj, hq4, hlst, hE4, hK3, hs⟩ := hJ
                  refine wp_seq ?_
                  refine wp_region_lit ?_
                  refine a_val hs rfl rfl rfl (y_cmp hs rfl rfl rfl) ?_; clear hs a; intro a hs
                  refine wpList_nil (then_normal ?_)
                  refine wp_seq ?_
                  refine wp_cond_split (hs.ev rfl) (fun h69 => ?_) (fun h69 => ?_)
                  · replace h69 := of_decide_eq_true h69
                    refine wp_skip (then_normal ?_)
                    refine wp_seq ?_
                    refine wp_block ?_
                    refine wp_region_lit ?_
                    refine a_val hs rfl rfl rfl (y_move hs rfl) ?_; clear hs a; intro a hs
                    refine a_val hs rfl rfl rfl (y_move hs rfl) ?_; clear hs a; intro a hs
                    refine a_eff rfl (e_callF Tryd.func55 rfl rfl hs rfl rfl rfl (reader_next gq gr A c b hc hb q4 e4 hq4 hz _ v0 _ hA ((hs.mem.to 3 rfl).to 4 rfl)) (fun e w1 ⟨he, hm⟩ => ⟨_, he, _, hm, ?_⟩)); clear hs a; intro a hs
                    obtain ⟨x, q5, e5, hF, hq5, hx0, hx1, hN1, hN2⟩ := nextF_two hb q4 e4 hq4
                    rw [hF] at hs
                    clear hF
                    have hE5 : e5 ≠ 0 → R = badR e5 := fun h => by
                      by_cases h0 : e4 = 0
                      · rcases hN2 h0 with ⟨_, _, h3⟩ | ⟨h1, h3⟩
                        · exact absurd h3 h
                        · rw [h3, hR1]; unfold stepK
                          obtain ⟨h4, _⟩ := hK3 h0
                          rw [if_neg (by omega), if_pos (by rw [List.length_drop]; omega)]
                      · rw [hN1 h0]; exact hE4 h0
                    have hK5 : e5 = 0 → q5 = q' + (j + 1) ∧ (b.drop q').take (j + 1) = lst ++ [x] := fun h => by
                      by_cases h0 : e4 = 0
                      · obtain ⟨h4, h5⟩ := hK3 h0
                        rcases hN2 h0 with ⟨h1, h2, _⟩ | ⟨h1, h3⟩
                        · exact ⟨by omega, by rw [← h5, take_next (by rw [← h4]; exact h1)]⟩
                        · omega
                      · exact absurd ((hN1 h0).symm.trans h) h0
                    refine a_val hs rfl rfl rfl (y_conv hs Tryd.underlying5 Tryd.underlying3 rfl) ?_; clear hs a; intro a hs
                    replace hs := hs.say 73 rfl (congrArg (Value.int IntKind.i64) (i64_nat (n := x) (by omega)))
                    refine a_eff rfl (e_bslice (z := .int .i64 0) (size := 1) (zc := #[.int .i64 0]) (cl := [_]) hs rfl Tryd.underlying59 (by kernel_rfl) rfl rfl rfl (by kernel_rfl) (by rfl) rfl ?_); clear hs a; intro gl a w hs
                    refine a_eff rfl (e_appL (z := .int .i64 0) (size := 1) (bytes := 8) encI lst [x] 3 rfl 0 rfl hs rfl Tryd.underlying59 (by kernel_rfl) rfl rfl (fun _ => rfl) rfl rfl rfl rfl (oneI _) (by unfold maxLen; simp only [List.length_cons, List.length_nil]; omega) (by simp only [List.length_cons, List.length_nil]; omega) ?_); clear hs a; intro A4 c4 a w hs
                    refine a_val hs rfl rfl rfl (y_assign hs rfl) ?_; clear hs a; intro a hs
                    refine wpList_nil (in_normal (then_normal ?_))
                    refine wp_region_lit ?_
                    refine a_val hs rfl rfl rfl (y_add hs rfl rfl (by omega)) ?_; clear hs a; intro a hs
                    refine a_val hs rfl rfl rfl (y_move hs rfl) ?_; clear hs a; intro a hs
                    refine wpList_nil (then_normal ?_)
                    refine ⟨mj - 1, by omega, j + 1, q5, e5, lst ++ [x], A4, c4, by omega, hq5, ⟨by rw [List.length_append, List.length_singleton]; omega, fun y hy => (List.mem_append.1 hy).elim (fun h => hlst.2 y h) (fun h => by simp only [List.mem_singleton] at h; omega)⟩, hE5, hK5, ?_⟩
                    exact (hs.mem_to ((((((hs.mem.to 1 rfl).drop.to 1 rfl).to 2 rfl).to 4 rfl).to 4 rfl).to 4 rfl)).cut _ ⟨rfl, rfl, rfl, rfl, rfl, rfl, rfl, rfl, trivial⟩
                  · replace h69 := of_decide_eq_false h69
                    obtain rfl : mj = 0 := by omega
                    obtain rfl : j = fldN c1 := by omega
                    refine wp_exit (then_exit (then_exit (in_here (then_normal ?_))))
                    refine b_enter [3, 4] (by kernel_rfl) hs #[false, false, false, false, false, false, false, false, false] (by rfl) 9 (by rfl) ?_; clear hs; intro w hs
                    refine b_take 0 rfl #[true, false, false, false, false, false, false, false, false] rfl (by kernel_rfl) hs ((((hs.mem.to 4 rfl).to 4 rfl).first 2)) rfl rfl rfl (fun _ _ _ h => h) (y_faddr (k' := 0) 0 hs (by kernel_rfl) rfl rfl) ?_; clear hs a; intro a hs
                    refine b_take 2 rfl #[true, false, true, false, false, false, false, false, false] rfl (by kernel_rfl) hs ((((hs.mem.to 4 rfl).to 4 rfl).first 2)) rfl rfl rfl (fun _ _ _ h => h) (y_move hs rfl) ?_; clear hs a; intro a hs
                    refine b_take 3 rfl #[true, false, true, true, false, false, false, false, false] rfl (by kernel_rfl) hs ((((hs.mem.to 4 rfl).to 4 rfl).first 2)) rfl rfl rfl (fun _ _ _ h => h) (y_move hs rfl) ?_; clear hs a; intro a hs
                    refine b_eff2 1 4 (by kernel_rfl) rfl rfl #[true, true, true, true, false, false, false, false, false] #[true, false, true, true, true, false, false, false, false] rfl rfl hs rfl rfl (e_yield hs rfl rfl (y_load hs Tryd.underlying22 rfl rfl (fun w hw => (hw.to 1 rfl).cellV rfl)) ?_) (e_callB Tryd.func40 rfl rfl hs rfl rfl (emit_of.calls 5 c1 A3 c3 lst c1 _ _ _ _ ((hs.mem.to 0 rfl).rowC (d := Kd.int .i64) (fun _ _ => rfl) encI_len rfl rfl (by omega)).1 ((hs.mem.to 0 rfl).rowC (d := Kd.int .i64) (fun _ _ => rfl) encI_len rfl rfl (by omega)).2 (of_ok c1 lst (by omega) hlst.2)) ?_)
                    · clear hs a; intro a hs
                      refine ⟨(((hs.mem.to 4 rfl).to 4 rfl).first 2), ?_⟩
                      refine b_eff 4 (by kernel_rfl) rfl #[true, true, true, true, true, false, false, false, false] rfl hs rfl (e_callB Tryd.func40 rfl rfl hs rfl rfl (emit_of.calls 5 c1 A3 c3 lst c1 _ _ _ _ ((hs.mem.to 0 rfl).rowC (d := Kd.int .i64) (fun _ _ => rfl) encI_len rfl rfl (by omega)).1 ((hs.mem.to 0 rfl).rowC (d := Kd.int .i64) (fun _ _ => rfl) encI_len rfl rfl (by omega)).2 (of_ok c1 lst (by omega) hlst.2)) ?_); clear hs a; intro a w hs
                      refine ⟨(((hs.mem.to 4 rfl).to 4 rfl).first 2), ?_⟩
                      refine b_eff 5 (by kernel_rfl) rfl #[true, true, true, true, true, true, false, false, false] rfl hs rfl (e_bslice (z := .agg #[.int .u8 0, .int .i64 0, .int .i64 0, .int .u8 0]) (size := 4) (zc := #[.int .u8 0, .int .i64 0, .int .i64 0, .int .u8 0]) (cl := [_, _, _, _]) hs rfl Tryd.underlying22 (by kernel_rfl) rfl rfl rfl (by kernel_rfl) (by rfl) rfl ?_); clear hs a; intro gs a w hs
                      refine ⟨(((hs.mem.to 5 rfl).to 5 rfl).first 2), ?_⟩
                      refine b_eff 6 (by kernel_rfl) rfl #[true, true, true, true, true, true, true, false, false] rfl hs rfl (e_appL (z := .agg #[.int .u8 0, .int .i64 0, .int .i64 0, .int .u8 0]) (size := 4) (bytes := 32) encS acc [⟨c1, (lst[0]?).getD 0, (lst[1]?).getD 0, (lst[2]?).getD 0⟩] 3 rfl 0 rfl hs rfl Tryd.underlying22 (by kernel_rfl) rfl rfl (fun _ => rfl) rfl rfl rfl rfl (fun u hu => List.all_eq_true.1 (oneS _) u (by simpa using hu)) (by unfold maxLen; simp only [List.length_cons, List.length_nil]; omega) (by simp only [List.length_cons, List.length_nil]; omega) ?_); clear hs a; intro A5 c5 a w hs
                      refine ⟨(((hs.mem.to 5 rfl).to 5 rfl).first 2), ?_⟩
                      refine b_take 7 rfl #[true, true, true, true, true, true, true, true, false] rfl (by kernel_rfl) hs ((((hs.mem.to 5 rfl).to 5 rfl).first 2)) rfl rfl rfl (fun _ _ _ h => h) (y_faddr (k' := 0) 0 hs (by kernel_rfl) rfl rfl) ?_; clear hs a; intro a hs
                      refine b_eff 8 (by kernel_rfl) rfl #[true, true, true, true, true, true, true, true, true] rfl hs rfl (e_store (cl := [_, _, _, _]) 3 rfl hs rfl rfl (by kernel_rfl) rfl rfl rfl ?_); clear hs a; intro a w hs
                      refine ⟨(((hs.mem.to 5 rfl).to 5 rfl).first 2), ?_⟩
                      refine b_done (by kernel_rfl) (in_normal (then_normal ?_))
                      refine wp_region_lit ?_
                      refine a_val hs rfl rfl rfl (y_move hs rfl) ?_; clear hs a; intro a hs
                      refine a_val hs rfl rfl rfl (y_sub hs rfl rfl (by omega)) ?_; clear hs a; intro a hs
                      refine a_val hs rfl rfl rfl (y_assign hs rfl) ?_; clear hs a; intro a hs
                      refine wpList_nil (then_normal ?_)
                      have e0 : ((n + 1 : Nat) : Int) - 1 = ((n : Nat) : Int) := by omega
                      rw [e0] at hs
                      have hK4 : e4 = 0 → R = stepsR b n1 n2 v n q4 (acc ++ [⟨c1, (lst[0]?).getD 0, (lst[1]?).getD 0, (lst[2]?).getD 0⟩]) := fun h => by
                        obtain ⟨h1, h2⟩ := hK3 h
                        have h5 : fldN c1 ≤ (b.drop q').length := by rw [List.length_drop]; omega
                        rw [hR1]; unfold stepK; rw [if_neg (by omega), if_neg (by rw [← hq1']; omega), h1, ← hq1']
                        have e6 : mkS c1 (b.drop q') = ⟨c1, (lst[0]?).getD 0, (lst[1]?).getD 0, (lst[2]?).getD 0⟩ := by unfold mkS; rw [h2]
                        rw [e6]
                      refine ⟨mn - 1, by omega, n, q4, e4, acc ++ [⟨c1, (lst[0]?).getD 0, (lst[1]?).getD 0, (lst[2]?).getD 0⟩], A5, c5, by omega, hq4, by rw [List.length_append, List.length_singleton]; omega, hE4, hK4, ?_⟩
                      exact (hs.mem_to ((((((hs.mem.to 2 rfl).drop.to 2 rfl).drop.to 3 rfl).to 3 rfl).to 3 rfl).to 3 rfl)).cut _ ⟨rfl, rfl, rfl, rfl, trivial⟩
                    · clear hs a; intro a w hs
                      refine ⟨(((hs.mem.to 4 rfl).to 4 rfl).first 2), ?_⟩
                      refine b_eff2 1 5 (by kernel_rfl) rfl rfl #[true, true, true, true, true, false, false, false, false] #[true, false, true, true, true, true, false, false, false] rfl rfl hs rfl rfl (e_yield hs rfl rfl (y_load hs Tryd.underlying22 rfl rfl (fun w hw => (hw.to 1 rfl).cellV rfl)) ?_) (e_bslice (z := .agg #[.int .u8 0, .int .i64 0, .int .i64 0, .int .u8 0]) (size := 4) (zc := #[.int .u8 0, .int .i64 0, .int .i64 0, .int .u8 0]) (cl := [_, _, _, _]) hs rfl Tryd.underlying22 (by kernel_rfl) rfl rfl rfl (by kernel_rfl) (by rfl) rfl ?_)
                      · clear hs a; intro a hs
                        refine ⟨(((hs.mem.to 4 rfl).to 4 rfl).first 2), ?_⟩
                        refine b_eff 5 (by kernel_rfl) rfl #[true, true, true, true, true, true, false, false, false] rfl hs rfl (e_bslice (z := .agg #[.int .u8 0, .int .i64 0, .int .i64 0, .int .u8 0]) (size := 4) (zc := #[.int .u8 0, .int .i64 0, .int .i64 0, .int .u8 0]) (cl := [_, _, _, _]) hs rfl Tryd.underlying22 (by kernel_rfl) rfl rfl rfl (by kernel_rfl) (by rfl) rfl ?_); clear hs a; intro gs a w hs
                        refine ⟨(((hs.mem.to 5 rfl).to 5 rfl).first 2), ?_⟩
                        refine b_eff 6 (by kernel_rfl) rfl #[true, true, true, true, true, true, true, false, false] rfl hs rfl (e_appL (z := .agg #[.int .u8 0, .int .i64 0, .int .i64 0, .int .u8 0]) (size := 4) (bytes := 32) encS acc [⟨c1, (lst[0]?).getD 0, (lst[1]?).getD 0, (lst[2]?).getD 0⟩] 3 rfl 0 rfl hs rfl Tryd.underlying22 (by kernel_rfl) rfl rfl (fun _ => rfl) rfl rfl rfl rfl (fun u hu => List.all_eq_true.1 (oneS _) u (by simpa using hu)) (by unfold maxLen; simp only [List.length_cons, List.length_nil]; omega) (by simp only [List.length_cons, List.length_nil]; omega) ?_); clear hs a; intro A5 c5 a w hs
                        refine ⟨(((hs.mem.to 5 rfl).to 5 rfl).first 2), ?_⟩
                        refine b_take 7 rfl #[true, true, true, true, true, true, true, true, false] rfl (by kernel_rfl) hs ((((hs.mem.to 5 rfl).to 5 rfl).first 2)) rfl rfl rfl (fun _ _ _ h => h) (y_faddr (k' := 0) 0 hs (by kernel_rfl) rfl rfl) ?_; clear hs a; intro a hs
                        refine b_eff 8 (by kernel_rfl) rfl #[true, true, true, true, true, true, true, true, true] rfl hs rfl (e_store (cl := [_, _, _, _]) 3 rfl hs rfl rfl (by kernel_rfl) rfl rfl rfl ?_); clear hs a; intro a w hs
                        refine ⟨(((hs.mem.to 5 rfl).to 5 rfl).first 2), ?_⟩
                        refine b_done (by kernel_rfl) (in_normal (then_normal ?_))
                        refine wp_region_lit ?_
                        refine a_val hs rfl rfl rfl (y_move hs rfl) ?_; clear hs a; intro a hs
                        refine a_val hs rfl rfl rfl (y_sub hs rfl rfl (by omega)) ?_; clear hs a; intro a hs
                        refine a_val hs rfl rfl rfl (y_assign hs rfl) ?_; clear hs a; intro a hs
                        refine wpList_nil (then_normal ?_)
                        have e0 : ((n + 1 : Nat) : Int) - 1 = ((n : Nat) : Int) := by omega
                        rw [e0] at hs
                        have hK4 : e4 = 0 → R = stepsR b n1 n2 v n q4 (acc ++ [⟨c1, (lst[0]?).getD 0, (lst[1]?).getD 0, (lst[2]?).getD 0⟩]) := fun h => by
                          obtain ⟨h1, h2⟩ := hK3 h
                          have h5 : fldN c1 ≤ (b.drop q').length := by rw [List.length_drop]; omega
                          rw [hR1]; unfold stepK; rw [if_neg (by omega), if_neg (by rw [← hq1']; omega), h1, ← hq1']
                          have e6 : mkS c1 (b.drop q') = ⟨c1, (lst[0]?).getD 0, (lst[1]?).getD 0, (lst[2]?).getD 0⟩ := by unfold mkS; rw [h2]
                          rw [e6]
                        refine ⟨mn - 1, by omega, n, q4, e4, acc ++ [⟨c1, (lst[0]?).getD 0, (lst[1]?).getD 0, (lst[2]?).getD 0⟩], A5, c5, by omega, hq4, by rw [List.length_append, List.length_singleton]; omega, hE4, hK4, ?_⟩
                        exact (hs.mem_to ((((((hs.mem.to 2 rfl).drop.to 2 rfl).drop.to 3 rfl).to 3 rfl).to 3 rfl).to 3 rfl)).cut _ ⟨rfl, rfl, rfl, rfl, trivial⟩
                      · clear hs a; intro gs a w hs
                        refine ⟨(((hs.mem.to 5 rfl).to 5 rfl).first 2), ?_⟩
                        refine b_eff 1 (by kernel_rfl) rfl #[true, true, true, true, true, true, false, false, false] rfl hs rfl (e_yield hs rfl rfl (y_load hs Tryd.underlying22 rfl rfl (fun w hw => (hw.to 2 rfl).cellV rfl)) ?_); clear hs a; intro a hs
                        refine ⟨(((hs.mem.to 5 rfl).to 5 rfl).first 2), ?_⟩
                        refine b_eff 6 (by kernel_rfl) rfl #[true, true, true, true, true, true, true, false, false] rfl hs rfl (e_appL (z := .agg #[.int .u8 0, .int .i64 0, .int .i64 0, .int .u8 0]) (size := 4) (bytes := 32) encS acc [⟨c1, (lst[0]?).getD 0, (lst[1]?).getD 0, (lst[2]?).getD 0⟩] 3 rfl 0 rfl hs rfl Tryd.underlying22 (by kernel_rfl) rfl rfl (fun _ => rfl) rfl rfl rfl rfl (fun u hu => List.all_eq_true.1 (oneS _) u (by simpa using hu)) (by unfold maxLen; simp only [List.length_cons, List.length_nil]; omega) (by simp only [List.length_cons, List.length_nil]; omega) ?_); clear hs a; intro A5 c5 a w hs
                        refine ⟨(((hs.mem.to 5 rfl).to 5 rfl).first 2), ?_⟩
                        refine b_take 7 rfl #[true, true, true, true, true, true, true, true, false] rfl (by kernel_rfl) hs ((((hs.mem.to 5 rfl).to 5 rfl).first 2)) rfl rfl rfl (fun _ _ _ h => h) (y_faddr (k' := 0) 0 hs (by kernel_rfl) rfl rfl) ?_; clear hs a; intro a hs
                        refine b_eff 8 (by kernel_rfl) rfl #[true, true, true, true, true, true, true, true, true] rfl hs rfl (e_store (cl := [_, _, _, _]) 3 rfl hs rfl rfl (by kernel_rfl) rfl rfl rfl ?_); clear hs a; intro a w hs
                        refine ⟨(((hs.mem.to 5 rfl).to 5 rfl).first 2), ?_⟩
                        refine b_done (by kernel_rfl) (in_normal (then_normal ?_))
                        refine wp_region_lit ?_
                        refine a_val hs rfl rfl rfl (y_move hs rfl) ?_; clear hs a; intro a hs
                        refine a_val hs rfl rfl rfl (y_sub hs rfl rfl (by omega)) ?_; clear hs a; intro a hs
                        refine a_val hs rfl rfl rfl (y_assign hs rfl) ?_; clear hs a; intro a hs
                        refine wpList_nil (then_normal ?_)
                        have e0 : ((n + 1 : Nat) : Int) - 1 = ((n : Nat) : Int) := by omega
                        rw [e0] at hs
                        have hK4 : e4 = 0 → R = stepsR b n1 n2 v n q4 (acc ++ [⟨c1, (lst[0]?).getD 0, (lst[1]?).getD 0, (lst[2]?).getD 0⟩]) := fun h => by
                          obtain ⟨h1, h2⟩ := hK3 h
                          have h5 : fldN c1 ≤ (b.drop q').length := by rw [List.length_drop]; omega
                          rw [hR1]; unfold stepK; rw [if_neg (by omega), if_neg (by rw [← hq1']; omega), h1, ← hq1']
                          have e6 : mkS c1 (b.drop q') = ⟨c1, (lst[0]?).getD 0, (lst[1]?).getD 0, (lst[2]?).getD 0⟩ := by unfold mkS; rw [h2]
                          rw [e6]
                        refine ⟨mn - 1, by omega, n, q4, e4, acc ++ [⟨c1, (lst[0]?).getD 0, (lst[1]?).getD 0, (lst[2]?).getD 0⟩], A5, c5, by omega, hq4, by rw [List.length_append, List.length_singleton]; omega, hE4, hK4, ?_⟩
                        exact (hs.mem_to ((((((hs.mem.to 2 rfl).drop.to 2 rfl).drop.to 3 rfl).to 3 rfl).to 3 rfl).to 3 rfl)).cut _ ⟨rfl, rfl, rfl, rfl, trivial⟩
            · replace h52 := ne_of_beq_false h52
              refine a_skip hs rfl rfl rfl ?_; clear hs a; intro a hs
              refine a_skip hs rfl rfl rfl ?_; clear hs a; intro a hs
              refine a_skip hs rfl rfl rfl ?_; clear hs a; intro a hs
              refine a_val hs rfl rfl rfl (y_pickF hs rfl rfl rfl) ?_; clear hs a; intro a hs
              refine wpList_nil (then_normal ?_)
              refine wp_cond_false (hs.ev rfl) ?_
              refine wp_skip (then_normal ?_)
              refine wp_seq ?_
              refine wp_seq ?_
              refine wp_region_lit ?_
              refine a_val hs rfl rfl rfl (y_move hs rfl) ?_; clear hs a; intro a hs
              refine a_val hs rfl rfl rfl (y_nilchk hs rfl) ?_; clear hs a; intro a hs
              refine a_val hs rfl rfl rfl (y_faddr (k' := 2) 2 hs (by kernel_rfl) rfl rfl) ?_; clear hs a; intro a hs
              refine a_val hs rfl rfl rfl (y_load hs Tryd.underlying28 rfl rfl (fun w hw => (hw.to 1 rfl).cellV rfl)) ?_; clear hs a; intro a hs
              refine a_val hs rfl rfl rfl (y_cmp (b := true) hs rfl rfl (congrArg some (bne_iff_ne.2 (h52)))) ?_; clear hs a; intro a hs
              refine wpList_nil (then_normal ?_)
              refine wp_cond_true (hs.ev rfl) ?_
              refine wp_exit (then_exit (in_other rfl (then_exit (then_exit (in_here (then_normal ?_))))))
              refine wp_seq ?_
              refine wp_seq ?_
              refine wp_region_lit ?_
              refine a_val hs rfl rfl rfl (y_move hs rfl) ?_; clear hs a; intro a hs
              refine a_val hs rfl rfl rfl (y_nilchk hs rfl) ?_; clear hs a; intro a hs
              refine a_val hs rfl rfl rfl (y_faddr (k' := 2) 2 hs (by kernel_rfl) rfl rfl) ?_; clear hs a; intro a hs
              refine a_val hs rfl rfl rfl (y_load hs Tryd.underlying28 rfl rfl (fun w hw => (hw.to 1 rfl).cellV rfl)) ?_; clear hs a; intro a hs
              refine a_val hs rfl rfl rfl (y_cmp (b := true) hs rfl rfl (congrArg some (bne_iff_ne.2 (h52)))) ?_; clear hs a; intro a hs
              refine wpList_nil (then_normal ?_)
              refine wp_cond_true (hs.ev rfl) ?_
              refine wp_seq ?_
              refine b_enter [1, 3] (by kernel_rfl) hs #[false, false, false, false, false, false, false, false] (by rfl) 8 (by rfl) ?_; clear hs; intro w hs
              refine b_take 0 rfl #[true, false, false, false, false, false, false, false] rfl (by kernel_rfl) hs ((((hs.mem.to 3 rfl).to 2 rfl).first 2)) rfl rfl rfl (fun _ _ _ h => h) (y_struct (zc := #[.slice none 0 0, .int .i64 0, .int .i64 0, .int .u64 0]) (pl := [(0, 1), (1, 1), (2, 1), (3, 1)]) (cl := [.slice none 0 0, .int .i64 0, .int .i64 0, .int .u64 0]) hs (by kernel_rfl) rfl (by rfl) rfl) ?_; clear hs a; intro a hs
              refine b_take 1 rfl #[true, true, false, false, false, false, false, false] rfl (by kernel_rfl) hs ((((hs.mem.to 3 rfl).to 2 rfl).first 2)) rfl rfl rfl (fun _ _ _ h => h) (y_move hs rfl) ?_; clear hs a; intro a hs
              refine b_take 2 rfl #[true, true, true, false, false, false, false, false] rfl (by kernel_rfl) hs ((((hs.mem.to 3 rfl).to 2 rfl).first 2)) rfl rfl rfl (fun _ _ _ h => h) (y_nilchk hs rfl) ?_; clear hs a; intro a hs
              refine b_take 3 rfl #[true, true, true, true, false, false, false, false] rfl (by kernel_rfl) hs ((((hs.mem.to 3 rfl).to 2 rfl).first 2)) rfl rfl rfl (fun _ _ _ h => h) (y_faddr (k' := 2) 2 hs (by kernel_rfl) rfl rfl) ?_; clear hs a; intro a hs
              refine b_take 4 rfl #[true, true, true, true, true, false, false, false] rfl (by kernel_rfl) hs ((((hs.mem.to 3 rfl).to 2 rfl).first 2)) rfl rfl rfl (fun _ _ _ h => h) (y_load hs Tryd.underlying28 rfl rfl (fun w hw => (hw.to 0 rfl).cellV rfl)) ?_; clear hs a; intro a hs
              refine b_eff 5 (by kernel_rfl) rfl #[true, true, true, true, true, true, false, false] rfl hs rfl (e_store (cl := [_, _, _, _]) 2 rfl hs rfl rfl (by kernel_rfl) rfl rfl rfl ?_); clear hs a; intro a w hs
              refine ⟨(((hs.mem.to 3 rfl).to 3 rfl).first 2), ?_⟩
              refine b_take 6 rfl #[true, true, true, true, true, true, true, false] rfl (by kernel_rfl) hs ((((hs.mem.to 3 rfl).to 3 rfl).first 2)) rfl rfl rfl (fun _ _ _ h => h) (y_assign hs rfl) ?_; clear hs a; intro a hs
              refine b_take 7 rfl #[true, true, true, true, true, true, true, true] rfl (by kernel_rfl) hs ((((hs.mem.to 3 rfl).to 3 rfl).first 2)) rfl rfl rfl (fun _ _ _ h => h) (y_assign hs rfl) ?_; clear hs a; intro a hs
              refine b_done (by kernel_rfl) (then_normal ?_)
              refine wp_ret (then_ret ?_)
              have hRR := (hE' h52)
              refine fin_ret hs (.cell (hs.slots _ _ rfl) (hs.mem.to 0 rfl).cells Tryd.underlying26 rfl (by kernel_rfl) (.tmp (hs.slots _ _ rfl) (.tmp (hs.slots _ _ rfl) .nil))) ?_
              rw [← hRd, hRR]
              exact ⟨none, 0, rfl, ((((hs.mem.to 0 rfl).drop.to 0 rfl).drop.to 0 rfl).drop.to 0 rfl).drop.nilRow 47 4⟩
          · replace h42 := ne_of_beq_false h42
            refine wp_exit (then_exit (then_exit (in_here (then_normal ?_))))
            refine wp_seq ?_
            refine wp_seq ?_
            refine wp_region_lit ?_
            refine a_val hs rfl rfl rfl (y_move hs rfl) ?_; clear hs a; intro a hs
            refine a_val hs rfl rfl rfl (y_nilchk hs rfl) ?_; clear hs a; intro a hs
            refine a_val hs rfl rfl rfl (y_faddr (k' := 2) 2 hs (by kernel_rfl) rfl rfl) ?_; clear hs a; intro a hs
            refine a_val hs rfl rfl rfl (y_load hs Tryd.underlying28 rfl rfl (fun w hw => (hw.to 2 rfl).cellV rfl)) ?_; clear hs a; intro a hs
            refine a_val hs rfl rfl rfl (y_cmp (b := true) hs rfl rfl (congrArg some (bne_iff_ne.2 (h42)))) ?_; clear hs a; intro a hs
            refine wpList_nil (then_normal ?_)
            refine wp_cond_true (hs.ev rfl) ?_
            refine wp_seq ?_
            refine b_enter [1, 2] (by kernel_rfl) hs #[false, false, false, false, false, false, false, false] (by rfl) 8 (by rfl) ?_; clear hs; intro w hs
            refine b_take 0 rfl #[true, false, false, false, false, false, false, false] rfl (by kernel_rfl) hs ((((hs.mem.to 2 rfl).to 2 rfl).first 2)) rfl rfl rfl (fun _ _ _ h => h) (y_struct (zc := #[.slice none 0 0, .int .i64 0, .int .i64 0, .int .u64 0]) (pl := [(0, 1), (1, 1), (2, 1), (3, 1)]) (cl := [.slice none 0 0, .int .i64 0, .int .i64 0, .int .u64 0]) hs (by kernel_rfl) rfl (by rfl) rfl) ?_; clear hs a; intro a hs
            refine b_take 1 rfl #[true, true, false, false, false, false, false, false] rfl (by kernel_rfl) hs ((((hs.mem.to 2 rfl).to 2 rfl).first 2)) rfl rfl rfl (fun _ _ _ h => h) (y_move hs rfl) ?_; clear hs a; intro a hs
            refine b_take 2 rfl #[true, true, true, false, false, false, false, false] rfl (by kernel_rfl) hs ((((hs.mem.to 2 rfl).to 2 rfl).first 2)) rfl rfl rfl (fun _ _ _ h => h) (y_nilchk hs rfl) ?_; clear hs a; intro a hs
            refine b_take 3 rfl #[true, true, true, true, false, false, false, false] rfl (by kernel_rfl) hs ((((hs.mem.to 2 rfl).to 2 rfl).first 2)) rfl rfl rfl (fun _ _ _ h => h) (y_faddr (k' := 2) 2 hs (by kernel_rfl) rfl rfl) ?_; clear hs a; intro a hs
            refine b_take 4 rfl #[true, true, true, true, true, false, false, false] rfl (by kernel_rfl) hs ((((hs.mem.to 2 rfl).to 2 rfl).first 2)) rfl rfl rfl (fun _ _ _ h => h) (y_load hs Tryd.underlying28 rfl rfl (fun w hw => (hw.to 1 rfl).cellV rfl)) ?_; clear hs a; intro a hs
            refine b_eff 5 (by kernel_rfl) rfl #[true, true, true, true, true, true, false, false] rfl hs rfl (e_store (cl := [_, _, _, _]) 0 rfl hs rfl rfl (by kernel_rfl) rfl rfl rfl ?_); clear hs a; intro a w hs
            refine ⟨(((hs.mem.to 2 rfl).to 2 rfl).first 2), ?_⟩
            refine b_take 6 rfl #[true, true, true, true, true, true, true, false] rfl (by kernel_rfl) hs ((((hs.mem.to 2 rfl).to 2 rfl).first 2)) rfl rfl rfl (fun _ _ _ h => h) (y_assign hs rfl) ?_; clear hs a; intro a hs
            refine b_take 7 rfl #[true, true, true, true, true, true, true, true] rfl (by kernel_rfl) hs ((((hs.mem.to 2 rfl).to 2 rfl).first 2)) rfl rfl rfl (fun _ _ _ h => h) (y_assign hs rfl) ?_; clear hs a; intro a hs
            refine b_done (by kernel_rfl) (then_normal ?_)
            refine wp_ret (then_ret ?_)
            have hRR := (hE h42)
            refine fin_ret hs (.cell (hs.slots _ _ rfl) (hs.mem.to 0 rfl).cells Tryd.underlying26 rfl (by kernel_rfl) (.tmp (hs.slots _ _ rfl) (.tmp (hs.slots _ _ rfl) .nil))) ?_
            rw [← hRd, hRR]
            exact ⟨none, 0, rfl, ((((hs.mem.to 0 rfl).drop.to 0 rfl).drop.to 0 rfl).drop.to 0 rfl).drop.nilRow 47 4⟩
        · replace h36 := of_decide_eq_false h36
          refine a_skip hs rfl rfl rfl ?_; clear hs a; intro a hs
          refine a_skip hs rfl rfl rfl ?_; clear hs a; intro a hs
          refine a_skip hs rfl rfl rfl ?_; clear hs a; intro a hs
          refine a_skip hs rfl rfl rfl ?_; clear hs a; intro a hs
          refine a_skip hs rfl rfl rfl ?_; clear hs a; intro a hs
          refine a_val hs rfl rfl rfl (y_pickF hs rfl rfl rfl) ?_; clear hs a; intro a hs
          refine wpList_nil (then_normal ?_)
          refine wp_cond_false (hs.ev rfl) ?_
          refine wp_exit (then_exit (then_exit (in_here (then_normal ?_))))
          refine wp_seq ?_
          refine wp_seq ?_
          refine wp_region_lit ?_
          refine a_val hs rfl rfl rfl (y_move hs rfl) ?_; clear hs a; intro a hs
          refine a_val hs rfl rfl rfl (y_nilchk hs rfl) ?_; clear hs a; intro a hs
          refine a_val hs rfl rfl rfl (y_faddr (k' := 2) 2 hs (by kernel_rfl) rfl rfl) ?_; clear hs a; intro a hs
          refine a_val hs rfl rfl rfl (y_load hs Tryd.underlying28 rfl rfl (fun w hw => (hw.to 2 rfl).cellV rfl)) ?_; clear hs a; intro a hs
          refine a_val hs rfl rfl rfl (y_cmp hs rfl rfl rfl) ?_; clear hs a; intro a hs
          refine wpList_nil (then_normal ?_)
          refine wp_cond_split (hs.ev rfl) (fun h89 => ?_) (fun h89 => ?_)
          · replace h89 := bne_iff_ne.1 h89
            refine wp_seq ?_
            refine b_enter [1, 2] (by kernel_rfl) hs #[false, false, false, false, false, false, false, false] (by rfl) 8 (by rfl) ?_; clear hs; intro w hs
            refine b_take 0 rfl #[true, false, false, false, false, false, false, false] rfl (by kernel_rfl) hs ((((hs.mem.to 2 rfl).to 2 rfl).first 2)) rfl rfl rfl (fun _ _ _ h => h) (y_struct (zc := #[.slice none 0 0, .int .i64 0, .int .i64 0, .int .u64 0]) (pl := [(0, 1), (1, 1), (2, 1), (3, 1)]) (cl := [.slice none 0 0, .int .i64 0, .int .i64 0, .int .u64 0]) hs (by kernel_rfl) rfl (by rfl) rfl) ?_; clear hs a; intro a hs
            refine b_take 1 rfl #[true, true, false, false, false, false, false, false] rfl (by kernel_rfl) hs ((((hs.mem.to 2 rfl).to 2 rfl).first 2)) rfl rfl rfl (fun _ _ _ h => h) (y_move hs rfl) ?_; clear hs a; intro a hs
            refine b_take 2 rfl #[true, true, true, false, false, false, false, false] rfl (by kernel_rfl) hs ((((hs.mem.to 2 rfl).to 2 rfl).first 2)) rfl rfl rfl (fun _ _ _ h => h) (y_nilchk hs rfl) ?_; clear hs a; intro a hs
            refine b_take 3 rfl #[true, true, true, true, false, false, false, false] rfl (by kernel_rfl) hs ((((hs.mem.to 2 rfl).to 2 rfl).first 2)) rfl rfl rfl (fun _ _ _ h => h) (y_faddr (k' := 2) 2 hs (by kernel_rfl) rfl rfl) ?_; clear hs a; intro a hs
            refine b_take 4 rfl #[true, true, true, true, true, false, false, false] rfl (by kernel_rfl) hs ((((hs.mem.to 2 rfl).to 2 rfl).first 2)) rfl rfl rfl (fun _ _ _ h => h) (y_load hs Tryd.underlying28 rfl rfl (fun w hw => (hw.to 1 rfl).cellV rfl)) ?_; clear hs a; intro a hs
            refine b_eff 5 (by kernel_rfl) rfl #[true, true, true, true, true, true, false, false] rfl hs rfl (e_store (cl := [_, _, _, _]) 0 rfl hs rfl rfl (by kernel_rfl) rfl rfl rfl ?_); clear hs a; intro a w hs
            refine ⟨(((hs.mem.to 2 rfl).to 2 rfl).first 2), ?_⟩
            refine b_take 6 rfl #[true, true, true, true, true, true, true, false] rfl (by kernel_rfl) hs ((((hs.mem.to 2 rfl).to 2 rfl).first 2)) rfl rfl rfl (fun _ _ _ h => h) (y_assign hs rfl) ?_; clear hs a; intro a hs
            refine b_take 7 rfl #[true, true, true, true, true, true, true, true] rfl (by kernel_rfl) hs ((((hs.mem.to 2 rfl).to 2 rfl).first 2)) rfl rfl rfl (fun _ _ _ h => h) (y_assign hs rfl) ?_; clear hs a; intro a hs
            refine b_done (by kernel_rfl) (then_normal ?_)
            refine wp_ret (then_ret ?_)
            have hRR := (hE h89)
            refine fin_ret hs (.cell (hs.slots _ _ rfl) (hs.mem.to 0 rfl).cells Tryd.underlying26 rfl (by kernel_rfl) (.tmp (hs.slots _ _ rfl) (.tmp (hs.slots _ _ rfl) .nil))) ?_
            rw [← hRd, hRR]
            exact ⟨none, 0, rfl, ((((hs.mem.to 0 rfl).drop.to 0 rfl).drop.to 0 rfl).drop.to 0 rfl).drop.nilRow 47 4⟩
          · replace h89 := bne_eq_false_iff_eq.1 h89
            refine wp_skip (then_normal ?_)
            refine wp_seq ?_
            refine b_enter [1, 2] (by kernel_rfl) hs #[false, false, false, false, false, false, false, false] (by rfl) 8 (by rfl) ?_; clear hs; intro w hs
            refine b_take 1 rfl #[false, true, false, false, false, false, false, false] rfl (by kernel_rfl) hs ((((hs.mem.to 2 rfl).to 2 rfl).first 2)) rfl rfl rfl (fun _ _ _ h => h) (y_move hs rfl) ?_; clear hs a; intro a hs
            refine b_take 2 rfl #[false, true, true, false, false, false, false, false] rfl (by kernel_rfl) hs ((((hs.mem.to 2 rfl).to 2 rfl).first 2)) rfl rfl rfl (fun _ _ _ h => h) (y_nilchk hs rfl) ?_; clear hs a; intro a hs
            refine b_take 3 rfl #[false, true, true, true, false, false, false, false] rfl (by kernel_rfl) hs ((((hs.mem.to 2 rfl).to 2 rfl).first 2)) rfl rfl rfl (fun _ _ _ h => h) (y_faddr (k' := 1) 1 hs (by kernel_rfl) rfl rfl) ?_; clear hs a; intro a hs
            refine b_take 4 rfl #[false, true, true, true, true, false, false, false] rfl (by kernel_rfl) hs ((((hs.mem.to 2 rfl).to 2 rfl).first 2)) rfl rfl rfl (fun _ _ _ h => h) (y_load hs Tryd.underlying3 rfl rfl (fun w hw => (hw.to 1 rfl).cellV rfl)) ?_; clear hs a; intro a hs
            refine b_eff 0 (by kernel_rfl) rfl #[true, true, true, true, true, false, false, false] rfl hs rfl (e_yield hs rfl rfl (y_loadPt 0 rfl hs Tryd.underlying26 rfl (by kernel_rfl) rfl) ?_); clear hs a; intro a hs
            refine ⟨(((hs.mem.to 2 rfl).to 2 rfl).first 2), ?_⟩
            refine b_eff 5 (by kernel_rfl) rfl #[true, true, true, true, true, true, false, false] rfl hs rfl (e_store (cl := [_, _, _, _]) 0 rfl hs rfl rfl (by kernel_rfl) rfl rfl rfl ?_); clear hs a; intro a w hs
            refine ⟨(((hs.mem.to 2 rfl).to 2 rfl).first 2), ?_⟩
            refine b_take 6 rfl #[true, true, true, true, true, true, true, false] rfl (by kernel_rfl) hs ((((hs.mem.to 2 rfl).to 2 rfl).first 2)) rfl rfl rfl (fun _ _ _ h => h) (y_assign hs rfl) ?_; clear hs a; intro a hs
            refine b_take 7 rfl #[true, true, true, true, true, true, true, true] rfl (by kernel_rfl) hs ((((hs.mem.to 2 rfl).to 2 rfl).first 2)) rfl rfl rfl (fun _ _ _ h => h) (y_assign hs rfl) ?_; clear hs a; intro a hs
            refine b_done (by kernel_rfl) (then_normal ?_)
            refine wp_ret ?_
            have hRR := hK (by omega)
            obtain rfl : n = 0 := by omega
            rw [stepsR] at hRR
            refine fin_ret hs (.cell (hs.slots _ _ rfl) (hs.mem.to 0 rfl).cells Tryd.underlying26 rfl (by kernel_rfl) (.tmp (hs.slots _ _ rfl) (.tmp (hs.slots _ _ rfl) .nil))) ?_
            rw [← hRd, hRR]
            exact ⟨A2, c2, rfl, (((hs.mem.to 0 rfl).drop.to 1 rfl).drop.to 1 rfl).drop⟩
end Go.Proofs.YtpdemfnemkmelaaDoor.E
