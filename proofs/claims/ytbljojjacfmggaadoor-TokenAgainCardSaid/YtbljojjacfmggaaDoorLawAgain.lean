/- recouplaw09.TokenAgain answers true. Conditions: strconv's table and sentinels stand in their variables. -/
import Derived.Test.YtbljojjacfmggaaDoorJoin
import Derived.Test.YtbljojjacfmggaaDoorAnch
import Derived.Test.YtbljojjacfmggaaDoorPureAgain
import Derived.Test.YtbljojjacfmggaaDoorPA1011
namespace Go.Proofs.YtbljojjacfmggaaDoor.E
open Go Go.RowKit Go.Proofs.YtbljojjacfmggaaDoorW.PrintWords Go.Proofs.YtbljojjacfmggaaDoorW.PrintLast Go.Proofs.YtbljojjacfmggaaDoorW.PrintMore Go.Proofs.YtbljojjacfmggaaDoor.PA
theorem tok_size {t : S34} (h : mayB t = true) : t.f1.size ≤ 9223372036854775807 := by
  have h16 := form_16 h
  by_cases h3 : t.f0 = 3
  · unfold mayB at h
    rw [if_neg (by omega), if_neg (by omega), if_pos h3] at h
    simp only [Bool.and_eq_true, decide_eq_true_eq] at h
    omega
  · unfold formT at h16
    rw [if_neg h3] at h16
    omega
theorem row_at {L : List S34} {i : Nat} {t : S34} {v : Value} (j : Nat) (ht : L[i]? = some t) (hv : nthV (tokC t) j = some v) : nthV (L.flatMap tokC) (i * 5 + j) = some v := by
  rw [nthV_eq] at hv ⊢
  have hj : j < 5 := (List.getElem?_eq_some_iff.1 hv).1
  rw [flat_at (sz := 5) (fun _ => rfl) L i j t ht hj]
  exact hv
set_option maxRecDepth 100000 in
theorem law_TokenAgain (s : ByteArray) (v0 : World) (hE : ErrVars v0) (hP : Pow10 v0) :
    Calls Tryd.prog 3 #[.string s] v0 fun e w' => e = .returned (.bool true) ∧ Below v0.heap.size v0 w' := by
  refine calls_enter (N := 106) (n := 105) (args := [.string s]) Tryd.func3 rfl rfl rfl (H.init v0) (fun a hs => ?_)
  obtain ⟨k, L, f1, f2, f3, hC, hlen, hcase⟩ := again_cut s
  repeat with_reducible refine wp_seq ?_
  refine wp_region_lit ?_
  refine a_val hs rfl rfl rfl (y_assign hs rfl) ?_; clear hs a; intro a hs
  refine wpList_nil ?_
  repeat first | with_reducible refine in_normal ?_ | with_reducible refine then_normal ?_ | with_reducible refine then_ret ?_ | with_reducible refine in_ret ?_ | with_reducible refine then_exit ?_ | with_reducible refine in_here ?_ | with_reducible refine in_other rfl ?_ | with_reducible refine then_goto ?_ | with_reducible refine in_goto ?_ | with_reducible refine jump_normal ?_ | with_reducible refine jump_ret ?_ | with_reducible refine jump_goto ?_
  repeat with_reducible refine wp_seq ?_
  refine wp_region_lit ?_
  refine a_val hs rfl rfl rfl (y_move hs rfl) ?_; clear hs a; intro a hs
  refine a_eff rfl (e_callX Tryd.func8 rfl rfl hs rfl rfl (token_Cut s k L f1 f2 f3 hC _ v0 _ hE hs.mem) (fun e w1 ⟨A1, c1, he, hm⟩ => ⟨_, he, _, hm, ?_⟩)); clear hs a; intro a hs
  refine a_val hs rfl rfl rfl (y_move hs rfl) ?_; clear hs a; intro a hs
  refine a_val hs rfl rfl rfl (y_extract hs rfl rfl) ?_; clear hs a; intro a hs
  refine a_val hs rfl rfl rfl (y_extract hs rfl rfl) ?_; clear hs a; intro a hs
  refine a_eff rfl (e_alloc (z := .agg #[.int .i64 0, .int .i64 0, .int .i64 0]) (cs := #[.int .i64 0, .int .i64 0, .int .i64 0]) hs rfl (by kernel_rfl) rfl ?_); clear hs a; intro gf a w hs
  refine a_val hs rfl rfl rfl (y_assign hs rfl) ?_; clear hs a; intro a hs
  refine a_eff rfl (e_store (cl := [_, _, _]) 0 rfl hs rfl rfl (by kernel_rfl) rfl rfl rfl ?_); clear hs a; intro a w hs
  refine wpList_nil ?_
  repeat first | with_reducible refine in_normal ?_ | with_reducible refine then_normal ?_ | with_reducible refine then_ret ?_ | with_reducible refine in_ret ?_ | with_reducible refine then_exit ?_ | with_reducible refine in_here ?_ | with_reducible refine in_other rfl ?_ | with_reducible refine then_goto ?_ | with_reducible refine in_goto ?_ | with_reducible refine jump_normal ?_ | with_reducible refine jump_ret ?_ | with_reducible refine jump_goto ?_
  rcases hcase with ⟨rfl, rfl, rfl, hall, hseq⟩ | ⟨h1, rfl, h2, h3⟩
  · repeat with_reducible refine wp_seq ?_
    refine wp_region_lit ?_
    refine a_val hs rfl rfl rfl (y_faddr (k' := 0) 0 hs (by kernel_rfl) rfl rfl) ?_; clear hs a; intro a hs
    refine a_val hs rfl rfl rfl (y_load hs Tryd.underlying23 rfl rfl (fun w hw => (hw.to 0 rfl).cellV rfl)) ?_; clear hs a; intro a hs
    refine a_val hs rfl rfl rfl (y_cmp (b := false) hs rfl rfl (congrArg some (by rw [show (0 : Int) = 0 from rfl]; rfl))) ?_; clear hs a; intro a hs
    refine wpList_nil ?_
    repeat first | with_reducible refine in_normal ?_ | with_reducible refine then_normal ?_ | with_reducible refine then_ret ?_ | with_reducible refine in_ret ?_ | with_reducible refine then_exit ?_ | with_reducible refine in_here ?_ | with_reducible refine in_other rfl ?_ | with_reducible refine then_goto ?_ | with_reducible refine in_goto ?_ | with_reducible refine jump_normal ?_ | with_reducible refine jump_ret ?_ | with_reducible refine jump_goto ?_
    repeat with_reducible refine wp_seq ?_
    refine wp_cond_false (hs.ev rfl) ?_
    repeat with_reducible refine wp_seq ?_
    refine wp_skip ?_
    repeat first | with_reducible refine in_normal ?_ | with_reducible refine then_normal ?_ | with_reducible refine then_ret ?_ | with_reducible refine in_ret ?_ | with_reducible refine then_exit ?_ | with_reducible refine in_here ?_ | with_reducible refine in_other rfl ?_
    repeat with_reducible refine wp_seq ?_
    refine wp_region_lit ?_
    refine a_val hs rfl rfl rfl (y_move hs rfl) ?_; clear hs a; intro a hs
    refine a_eff rfl (e_callB Tryd.func10 rfl rfl hs rfl rfl (token_Join A1 c1 L _ (C_row k34 tokC (fun w x => k34_mk w x) (fun _ => rfl) (hs.mem.to 1 rfl) rfl rfl (by omega)).1 (by omega) (fun t ht => tok_size (hall t ht)) (var_keep hs.mem.base hP)) ?_); clear hs a; intro a w1 hs
    refine a_val hs rfl rfl rfl (y_move hs rfl) ?_; clear hs a; intro a hs
    refine a_val hs rfl rfl rfl (y_extract hs rfl rfl) ?_; clear hs a; intro a hs
    refine a_val hs rfl rfl rfl (y_extract hs rfl rfl) ?_; clear hs a; intro a hs
    refine a_val hs rfl rfl rfl (y_assign hs rfl) ?_; clear hs a; intro a hs
    refine a_val hs rfl rfl rfl (y_assign hs rfl) ?_; clear hs a; intro a hs
    refine wpList_nil ?_
    repeat first | with_reducible refine in_normal ?_ | with_reducible refine then_normal ?_ | with_reducible refine then_ret ?_ | with_reducible refine in_ret ?_ | with_reducible refine then_exit ?_ | with_reducible refine in_here ?_ | with_reducible refine in_other rfl ?_ | with_reducible refine then_goto ?_ | with_reducible refine in_goto ?_ | with_reducible refine jump_normal ?_ | with_reducible refine jump_ret ?_ | with_reducible refine jump_goto ?_
    by_cases hj : (joinF L).2 = 0
    · obtain ⟨k2, L2, hC2, hsame, hlen2⟩ := back_cut L hj
      have hLl := same_len hsame
      repeat with_reducible refine wp_seq ?_
      refine wp_region_lit ?_
      refine a_val hs rfl rfl rfl (y_move hs rfl) ?_; clear hs a; intro a hs
      refine a_eff rfl (e_callX Tryd.func8 rfl rfl hs rfl rfl (token_Cut _ k2 L2 _ _ _ hC2 _ v0 _ hE hs.mem) (fun e w1 ⟨A2, c2, he, hm⟩ => ⟨_, he, _, hm, ?_⟩)); clear hs a; intro a hs
      refine a_val hs rfl rfl rfl (y_move hs rfl) ?_; clear hs a; intro a hs
      refine a_val hs rfl rfl rfl (y_extract hs rfl rfl) ?_; clear hs a; intro a hs
      refine a_val hs rfl rfl rfl (y_extract hs rfl rfl) ?_; clear hs a; intro a hs
      refine a_eff rfl (e_alloc (z := .agg #[.int .i64 0, .int .i64 0, .int .i64 0]) (cs := #[.int .i64 0, .int .i64 0, .int .i64 0]) hs rfl (by kernel_rfl) rfl ?_); clear hs a; intro gg a w hs
      refine a_val hs rfl rfl rfl (y_assign hs rfl) ?_; clear hs a; intro a hs
      refine a_eff rfl (e_store (cl := [_, _, _]) 0 rfl hs rfl rfl (by kernel_rfl) rfl rfl rfl ?_); clear hs a; intro a w hs
      refine wpList_nil ?_
      repeat first | with_reducible refine in_normal ?_ | with_reducible refine then_normal ?_ | with_reducible refine then_ret ?_ | with_reducible refine in_ret ?_ | with_reducible refine then_exit ?_ | with_reducible refine in_here ?_ | with_reducible refine in_other rfl ?_ | with_reducible refine then_goto ?_ | with_reducible refine in_goto ?_ | with_reducible refine jump_normal ?_ | with_reducible refine jump_ret ?_ | with_reducible refine jump_goto ?_
      repeat with_reducible refine wp_seq ?_
      refine wp_region_lit ?_
      refine a_val hs rfl rfl rfl (y_move hs rfl) ?_; clear hs a; intro a hs
      refine a_val hs rfl rfl rfl (y_cmp (b := false) hs rfl rfl (congrArg some (by rw [hj]; rfl))) ?_; clear hs a; intro a hs
      refine a_val hs rfl rfl rfl (y_move hs rfl) ?_; clear hs a; intro a hs
      refine a_valG hs rfl rfl rfl (y_loadPt 0 rfl hs Tryd.underlying25 rfl (by kernel_rfl) rfl) ?_; clear hs a; intro a hs
      refine a_valG hs rfl rfl rfl (y_struct (zc := #[.int .i64 0, .int .i64 0, .int .i64 0]) (pl := [(0, 1), (1, 1), (2, 1)]) (cl := [.int .i64 0, .int .i64 0, .int .i64 0]) hs (by kernel_rfl) rfl (by rfl) rfl) ?_; clear hs a; intro a hs
      refine a_valG hs rfl rfl rfl (y_neAgg (b := true) hs rfl rfl (by kernel_rfl) (by simp [eqVals, valEq])) ?_; clear hs a; intro a hs
      refine a_val hs rfl rfl rfl (y_pickF hs rfl rfl rfl) ?_; clear hs a; intro a hs
      refine a_val hs rfl rfl rfl (y_move hs rfl) ?_; clear hs a; intro a hs
      refine a_valG hs rfl rfl rfl (y_move hs rfl) ?_; clear hs a; intro a hs
      refine a_valG hs rfl rfl rfl (y_move hs rfl) ?_; clear hs a; intro a hs
      refine a_effG hs rfl (e_callB Tryd.func11 rfl rfl hs rfl rfl ((recoupref09_Like.calls _ A1 c1 L A2 c2 L2 false true _ (C_row k34 tokC (fun w x => k34_mk w x) (fun _ => rfl) (hs.mem.to 3 rfl) rfl rfl (by omega)).1 (C_row k34 tokC (fun w x => k34_mk w x) (fun _ => rfl) (hs.mem.to 3 rfl) rfl rfl (by omega)).2 (C_row k34 tokC (fun w x => k34_mk w x) (fun _ => rfl) (hs.mem.to 1 rfl) rfl rfl (by omega)).1 (C_row k34 tokC (fun w x => k34_mk w x) (fun _ => rfl) (hs.mem.to 1 rfl) rfl rfl (by omega)).2 (like_back L L2 hlen2 hsame)).mono (by rintro e w1 ⟨rfl, hd⟩; exact ⟨rfl, drawn_below hd⟩)) ?_); clear hs a; intro a w1 hs
      refine a_valG hs rfl rfl rfl (y_not hs rfl) ?_; clear hs a; intro a hs
      refine a_val hs rfl rfl rfl (y_pickF hs rfl rfl rfl) ?_; clear hs a; intro a hs
      refine wpList_nil ?_
      repeat first | with_reducible refine in_normal ?_ | with_reducible refine then_normal ?_ | with_reducible refine then_ret ?_ | with_reducible refine in_ret ?_ | with_reducible refine then_exit ?_ | with_reducible refine in_here ?_ | with_reducible refine in_other rfl ?_ | with_reducible refine then_goto ?_ | with_reducible refine in_goto ?_ | with_reducible refine jump_normal ?_ | with_reducible refine jump_ret ?_ | with_reducible refine jump_goto ?_
      repeat with_reducible refine wp_seq ?_
      refine wp_cond_false (hs.ev rfl) ?_
      repeat with_reducible refine wp_seq ?_
      refine wp_skip ?_
      repeat first | with_reducible refine in_normal ?_ | with_reducible refine then_normal ?_ | with_reducible refine then_ret ?_ | with_reducible refine in_ret ?_ | with_reducible refine then_exit ?_ | with_reducible refine in_here ?_ | with_reducible refine in_other rfl ?_
      repeat with_reducible refine wp_seq ?_
      refine wp_region_lit ?_
      refine a_val hs rfl rfl rfl (y_assign hs rfl) ?_; clear hs a; intro a hs
      refine a_val hs rfl rfl rfl (y_assign hs rfl) ?_; clear hs a; intro a hs
      refine wpList_nil ?_
      repeat first | with_reducible refine in_normal ?_ | with_reducible refine then_normal ?_ | with_reducible refine then_ret ?_ | with_reducible refine in_ret ?_ | with_reducible refine then_exit ?_ | with_reducible refine in_here ?_ | with_reducible refine in_other rfl ?_ | with_reducible refine then_goto ?_ | with_reducible refine in_goto ?_ | with_reducible refine jump_normal ?_ | with_reducible refine jump_ret ?_ | with_reducible refine jump_goto ?_
      repeat with_reducible refine wp_seq ?_
      refine wp_region_lit ?_
      refine a_val hs rfl rfl rfl (y_assign hs rfl) ?_; clear hs a; intro a hs
      refine wpList_nil ?_
      repeat first | with_reducible refine in_normal ?_ | with_reducible refine then_normal ?_ | with_reducible refine then_ret ?_ | with_reducible refine in_ret ?_ | with_reducible refine then_exit ?_ | with_reducible refine in_here ?_ | with_reducible refine in_other rfl ?_ | with_reducible refine then_goto ?_ | with_reducible refine in_goto ?_ | with_reducible refine jump_normal ?_ | with_reducible refine jump_ret ?_ | with_reducible refine jump_goto ?_
      repeat with_reducible refine wp_seq ?_
      refine wp_block ?_
      refine wp_loopN (fun m a w1 => ∃ (i : Nat) (x y : Int), i + m = L.length ∧ okSeq (L.drop i) x y ∧ St 106 v0 [(3, .slice A1 L.length c1), (9, .int .i64 x), (10, .int .i64 y), (11, .int .i64 ((i : Nat) : Int))] [row 34 5 (.slice A1 L.length c1) L.length (L.flatMap tokC)] a w1) L.length ⟨0, 0, 0, by omega, hseq, (hs.mem_to (((hs.mem.to 0 rfl).drop.to 0 rfl).drop.to 0 rfl).drop).cut _ ⟨rfl, rfl, rfl, rfl, trivial⟩⟩ (fun m a w1 hJ => ?_)
      clear hs
      obtain ⟨i, x, y, hi, hsq, hs⟩ := hJ
      by_cases hlt : i < L.length
      · repeat with_reducible refine wp_seq ?_
        refine wp_region_lit ?_
        refine a_val hs rfl rfl rfl (y_move hs rfl) ?_; clear hs a; intro a hs
        refine a_val hs rfl rfl rfl (y_move hs rfl) ?_; clear hs a; intro a hs
        refine a_val hs rfl rfl rfl (y_lenL hs Tryd.underlying22 rfl) ?_; clear hs a; intro a hs
        refine a_val hs rfl rfl rfl (y_cmp (b := true) hs rfl rfl (congrArg some (decide_eq_true (by omega)))) ?_; clear hs a; intro a hs
        refine wpList_nil ?_
        repeat first | with_reducible refine in_normal ?_ | with_reducible refine then_normal ?_ | with_reducible refine then_ret ?_ | with_reducible refine in_ret ?_ | with_reducible refine then_exit ?_ | with_reducible refine in_here ?_ | with_reducible refine in_other rfl ?_ | with_reducible refine then_goto ?_ | with_reducible refine in_goto ?_ | with_reducible refine jump_normal ?_ | with_reducible refine jump_ret ?_ | with_reducible refine jump_goto ?_
        repeat with_reducible refine wp_seq ?_
        refine wp_cond_true (hs.ev rfl) ?_
        repeat with_reducible refine wp_seq ?_
        refine wp_skip ?_
        repeat first | with_reducible refine in_normal ?_ | with_reducible refine then_normal ?_ | with_reducible refine then_ret ?_ | with_reducible refine in_ret ?_ | with_reducible refine then_exit ?_ | with_reducible refine in_here ?_ | with_reducible refine in_other rfl ?_
        obtain ⟨t, ht⟩ : ∃ t, L[i]? = some t := ⟨_, List.getElem?_eq_getElem hlt⟩
        have hdrop : L.drop i = t :: L.drop (i + 1) := by
          have h2 := List.drop_eq_getElem_cons hlt
          rw [List.getElem?_eq_getElem hlt] at ht
          injection ht with ht
          rw [h2, ht]
        rw [hdrop] at hsq
        obtain ⟨hx, hsq2⟩ := hsq
        obtain ⟨g1, rfl⟩ := hs.mem.rowAddr (by omega)
        repeat with_reducible refine wp_seq ?_
        refine wp_block ?_
        unfold lexlt at hx
        by_cases hc : x < t.f3
        · repeat with_reducible refine wp_seq ?_
          refine wp_region_lit ?_
          refine a_val hs rfl rfl rfl (y_move hs rfl) ?_; clear hs a; intro a hs
          refine a_val hs rfl rfl rfl (y_move hs rfl) ?_; clear hs a; intro a hs
          refine a_val hs rfl rfl rfl (y_idxA (size := 5) (off := i * 5) hs Tryd.underlying22 (by kernel_rfl) rfl rfl (by omega) (by omega) (by simp)) ?_; clear hs a; intro a hs
          refine a_val hs rfl rfl rfl (y_faddr (k' := i * 5 + 3) 3 hs (by kernel_rfl) rfl rfl) ?_; clear hs a; intro a hs
          refine a_val hs rfl rfl rfl (y_load hs Tryd.underlying3 rfl rfl (fun w hw => (hw.to 0 rfl).rowCell (row_at 3 ht rfl))) ?_; clear hs a; intro a hs
          refine a_val hs rfl rfl rfl (y_move hs rfl) ?_; clear hs a; intro a hs
          refine a_val hs rfl rfl rfl (y_cmp (b := false) hs rfl rfl (congrArg some (decide_eq_false (by omega)))) ?_; clear hs a; intro a hs
          refine a_val hs rfl rfl rfl (y_move hs rfl) ?_; clear hs a; intro a hs
          refine a_valG hs rfl rfl rfl (y_move hs rfl) ?_; clear hs a; intro a hs
          refine a_valG hs rfl rfl rfl (y_move hs rfl) ?_; clear hs a; intro a hs
          refine a_valG hs rfl rfl rfl (y_idxA (size := 5) (off := i * 5) hs Tryd.underlying22 (by kernel_rfl) rfl rfl (by omega) (by omega) (by simp)) ?_; clear hs a; intro a hs
          refine a_valG hs rfl rfl rfl (y_faddr (k' := i * 5 + 3) 3 hs (by kernel_rfl) rfl rfl) ?_; clear hs a; intro a hs
          refine a_valG hs rfl rfl rfl (y_load hs Tryd.underlying3 rfl rfl (fun w hw => (hw.to 0 rfl).rowCell (row_at 3 ht rfl))) ?_; clear hs a; intro a hs
          refine a_valG hs rfl rfl rfl (y_move hs rfl) ?_; clear hs a; intro a hs
          refine a_valG hs rfl rfl rfl (y_cmp (b := false) hs rfl rfl (congrArg some (beq_eq_false_iff_ne.2 (by omega)))) ?_; clear hs a; intro a hs
          refine a_valG hs rfl rfl rfl (y_move hs rfl) ?_; clear hs a; intro a hs
          refine a_skip hs rfl rfl rfl ?_; clear hs a; intro a hs
          refine a_skip hs rfl rfl rfl ?_; clear hs a; intro a hs
          refine a_skip hs rfl rfl rfl ?_; clear hs a; intro a hs
          refine a_skip hs rfl rfl rfl ?_; clear hs a; intro a hs
          refine a_skip hs rfl rfl rfl ?_; clear hs a; intro a hs
          refine a_skip hs rfl rfl rfl ?_; clear hs a; intro a hs
          refine a_skip hs rfl rfl rfl ?_; clear hs a; intro a hs
          refine a_valG hs rfl rfl rfl (y_pickF hs rfl rfl rfl) ?_; clear hs a; intro a hs
          refine a_val hs rfl rfl rfl (y_pickF hs rfl rfl rfl) ?_; clear hs a; intro a hs
          refine wpList_nil ?_
          repeat first | with_reducible refine in_normal ?_ | with_reducible refine then_normal ?_ | with_reducible refine then_ret ?_ | with_reducible refine in_ret ?_ | with_reducible refine then_exit ?_ | with_reducible refine in_here ?_ | with_reducible refine in_other rfl ?_ | with_reducible refine then_goto ?_ | with_reducible refine in_goto ?_ | with_reducible refine jump_normal ?_ | with_reducible refine jump_ret ?_ | with_reducible refine jump_goto ?_
          repeat with_reducible refine wp_seq ?_
          refine wp_cond_false (hs.ev rfl) ?_
          repeat with_reducible refine wp_seq ?_
          refine wp_skip ?_
          repeat first | with_reducible refine in_normal ?_ | with_reducible refine then_normal ?_ | with_reducible refine then_ret ?_ | with_reducible refine in_ret ?_ | with_reducible refine then_exit ?_ | with_reducible refine in_here ?_ | with_reducible refine in_other rfl ?_
          repeat with_reducible refine wp_seq ?_
          refine b_enter [0] (by kernel_rfl) hs #[false, false, false, false, false, false, false, false, false, false, false, false] (by rfl) 12 (by rfl) ?_; clear hs; intro w hs
          refine b_take 0 rfl #[true, false, false, false, false, false, false, false, false, false, false, false] rfl (by kernel_rfl) hs ((hs.mem.first 1)) rfl rfl rfl (fun _ _ _ h => h) (y_move hs rfl) ?_; clear hs a; intro a hs
          refine b_take 1 rfl #[true, true, false, false, false, false, false, false, false, false, false, false] rfl (by kernel_rfl) hs ((hs.mem.first 1)) rfl rfl rfl (fun _ _ _ h => h) (y_move hs rfl) ?_; clear hs a; intro a hs
          refine b_take 2 rfl #[true, true, true, false, false, false, false, false, false, false, false, false] rfl (by kernel_rfl) hs ((hs.mem.first 1)) rfl rfl rfl (fun _ _ _ h => h) (y_idxA (size := 5) (off := i * 5) hs Tryd.underlying22 (by kernel_rfl) rfl rfl (by omega) (by omega) (by simp)) ?_; clear hs a; intro a hs
          refine b_take 3 rfl #[true, true, true, true, false, false, false, false, false, false, false, false] rfl (by kernel_rfl) hs ((hs.mem.first 1)) rfl rfl rfl (fun _ _ _ h => h) (y_faddr (k' := i * 5 + 3) 3 hs (by kernel_rfl) rfl rfl) ?_; clear hs a; intro a hs
          refine b_take 4 rfl #[true, true, true, true, true, false, false, false, false, false, false, false] rfl (by kernel_rfl) hs ((hs.mem.first 1)) rfl rfl rfl (fun _ _ _ h => h) (y_load hs Tryd.underlying3 rfl rfl (fun w hw => (hw.to 0 rfl).rowCell (row_at 3 ht rfl))) ?_; clear hs a; intro a hs
          refine b_take 5 rfl #[true, true, true, true, true, true, false, false, false, false, false, false] rfl (by kernel_rfl) hs ((hs.mem.first 1)) rfl rfl rfl (fun _ _ _ h => h) (y_move hs rfl) ?_; clear hs a; intro a hs
          refine b_take 6 rfl #[true, true, true, true, true, true, true, false, false, false, false, false] rfl (by kernel_rfl) hs ((hs.mem.first 1)) rfl rfl rfl (fun _ _ _ h => h) (y_move hs rfl) ?_; clear hs a; intro a hs
          refine b_take 7 rfl #[true, true, true, true, true, true, true, true, false, false, false, false] rfl (by kernel_rfl) hs ((hs.mem.first 1)) rfl rfl rfl (fun _ _ _ h => h) (y_idxA (size := 5) (off := i * 5) hs Tryd.underlying22 (by kernel_rfl) rfl rfl (by omega) (by omega) (by simp)) ?_; clear hs a; intro a hs
          refine b_take 8 rfl #[true, true, true, true, true, true, true, true, true, false, false, false] rfl (by kernel_rfl) hs ((hs.mem.first 1)) rfl rfl rfl (fun _ _ _ h => h) (y_faddr (k' := i * 5 + 4) 4 hs (by kernel_rfl) rfl rfl) ?_; clear hs a; intro a hs
          refine b_take 9 rfl #[true, true, true, true, true, true, true, true, true, true, false, false] rfl (by kernel_rfl) hs ((hs.mem.first 1)) rfl rfl rfl (fun _ _ _ h => h) (y_load hs Tryd.underlying3 rfl rfl (fun w hw => (hw.to 0 rfl).rowCell (row_at 4 ht rfl))) ?_; clear hs a; intro a hs
          refine b_take 10 rfl #[true, true, true, true, true, true, true, true, true, true, true, false] rfl (by kernel_rfl) hs ((hs.mem.first 1)) rfl rfl rfl (fun _ _ _ h => h) (y_assign hs rfl) ?_; clear hs a; intro a hs
          refine b_take 11 rfl #[true, true, true, true, true, true, true, true, true, true, true, true] rfl (by kernel_rfl) hs ((hs.mem.first 1)) rfl rfl rfl (fun _ _ _ h => h) (y_assign hs rfl) ?_; clear hs a; intro a hs
          refine b_done (by kernel_rfl) ?_
          repeat first | with_reducible refine in_normal ?_ | with_reducible refine then_normal ?_ | with_reducible refine then_ret ?_ | with_reducible refine in_ret ?_ | with_reducible refine then_exit ?_ | with_reducible refine in_here ?_ | with_reducible refine in_other rfl ?_ | with_reducible refine then_goto ?_ | with_reducible refine in_goto ?_ | with_reducible refine jump_normal ?_ | with_reducible refine jump_ret ?_ | with_reducible refine jump_goto ?_
          repeat with_reducible refine wp_seq ?_
          refine wp_region_lit ?_
          refine a_val hs rfl rfl rfl (y_move hs rfl) ?_; clear hs a; intro a hs
          refine a_val hs rfl rfl rfl (y_add hs rfl rfl (by omega)) ?_; clear hs a; intro a hs
          refine a_val hs rfl rfl rfl (y_assign hs rfl) ?_; clear hs a; intro a hs
          refine wpList_nil ?_
          repeat first | with_reducible refine in_normal ?_ | with_reducible refine then_normal ?_ | with_reducible refine then_ret ?_ | with_reducible refine in_ret ?_ | with_reducible refine then_exit ?_ | with_reducible refine in_here ?_ | with_reducible refine in_other rfl ?_ | with_reducible refine then_goto ?_ | with_reducible refine in_goto ?_ | with_reducible refine jump_normal ?_ | with_reducible refine jump_ret ?_ | with_reducible refine jump_goto ?_
          refine ⟨m - 1, by omega, i + 1, t.f3, t.f4, by omega, hsq2, ?_⟩
          exact hs.cut _ ⟨rfl, rfl, rfl, rfl, trivial⟩
        · repeat with_reducible refine wp_seq ?_
          refine wp_region_lit ?_
          refine a_val hs rfl rfl rfl (y_move hs rfl) ?_; clear hs a; intro a hs
          refine a_val hs rfl rfl rfl (y_move hs rfl) ?_; clear hs a; intro a hs
          refine a_val hs rfl rfl rfl (y_idxA (size := 5) (off := i * 5) hs Tryd.underlying22 (by kernel_rfl) rfl rfl (by omega) (by omega) (by simp)) ?_; clear hs a; intro a hs
          refine a_val hs rfl rfl rfl (y_faddr (k' := i * 5 + 3) 3 hs (by kernel_rfl) rfl rfl) ?_; clear hs a; intro a hs
          refine a_val hs rfl rfl rfl (y_load hs Tryd.underlying3 rfl rfl (fun w hw => (hw.to 0 rfl).rowCell (row_at 3 ht rfl))) ?_; clear hs a; intro a hs
          refine a_val hs rfl rfl rfl (y_move hs rfl) ?_; clear hs a; intro a hs
          refine a_val hs rfl rfl rfl (y_cmp (b := false) hs rfl rfl (congrArg some (decide_eq_false (by omega)))) ?_; clear hs a; intro a hs
          refine a_val hs rfl rfl rfl (y_move hs rfl) ?_; clear hs a; intro a hs
          refine a_valG hs rfl rfl rfl (y_move hs rfl) ?_; clear hs a; intro a hs
          refine a_valG hs rfl rfl rfl (y_move hs rfl) ?_; clear hs a; intro a hs
          refine a_valG hs rfl rfl rfl (y_idxA (size := 5) (off := i * 5) hs Tryd.underlying22 (by kernel_rfl) rfl rfl (by omega) (by omega) (by simp)) ?_; clear hs a; intro a hs
          refine a_valG hs rfl rfl rfl (y_faddr (k' := i * 5 + 3) 3 hs (by kernel_rfl) rfl rfl) ?_; clear hs a; intro a hs
          refine a_valG hs rfl rfl rfl (y_load hs Tryd.underlying3 rfl rfl (fun w hw => (hw.to 0 rfl).rowCell (row_at 3 ht rfl))) ?_; clear hs a; intro a hs
          refine a_valG hs rfl rfl rfl (y_move hs rfl) ?_; clear hs a; intro a hs
          refine a_valG hs rfl rfl rfl (y_cmp (b := true) hs rfl rfl (congrArg some (beq_iff_eq.2 (by omega)))) ?_; clear hs a; intro a hs
          refine a_valG hs rfl rfl rfl (y_move hs rfl) ?_; clear hs a; intro a hs
          refine a_valG hs rfl rfl rfl (y_move hs rfl) ?_; clear hs a; intro a hs
          refine a_valG hs rfl rfl rfl (y_move hs rfl) ?_; clear hs a; intro a hs
          refine a_valG hs rfl rfl rfl (y_idxA (size := 5) (off := i * 5) hs Tryd.underlying22 (by kernel_rfl) rfl rfl (by omega) (by omega) (by simp)) ?_; clear hs a; intro a hs
          refine a_valG hs rfl rfl rfl (y_faddr (k' := i * 5 + 4) 4 hs (by kernel_rfl) rfl rfl) ?_; clear hs a; intro a hs
          refine a_valG hs rfl rfl rfl (y_load hs Tryd.underlying3 rfl rfl (fun w hw => (hw.to 0 rfl).rowCell (row_at 4 ht rfl))) ?_; clear hs a; intro a hs
          refine a_valG hs rfl rfl rfl (y_move hs rfl) ?_; clear hs a; intro a hs
          refine a_valG hs rfl rfl rfl (y_cmp (b := false) hs rfl rfl (congrArg some (decide_eq_false (by omega)))) ?_; clear hs a; intro a hs
          refine a_valG hs rfl rfl rfl (y_pickT hs rfl rfl rfl) ?_; clear hs a; intro a hs
          refine a_val hs rfl rfl rfl (y_pickF hs rfl rfl rfl) ?_; clear hs a; intro a hs
          refine wpList_nil ?_
          repeat first | with_reducible refine in_normal ?_ | with_reducible refine then_normal ?_ | with_reducible refine then_ret ?_ | with_reducible refine in_ret ?_ | with_reducible refine then_exit ?_ | with_reducible refine in_here ?_ | with_reducible refine in_other rfl ?_ | with_reducible refine then_goto ?_ | with_reducible refine in_goto ?_ | with_reducible refine jump_normal ?_ | with_reducible refine jump_ret ?_ | with_reducible refine jump_goto ?_
          repeat with_reducible refine wp_seq ?_
          refine wp_cond_false (hs.ev rfl) ?_
          repeat with_reducible refine wp_seq ?_
          refine wp_skip ?_
          repeat first | with_reducible refine in_normal ?_ | with_reducible refine then_normal ?_ | with_reducible refine then_ret ?_ | with_reducible refine in_ret ?_ | with_reducible refine then_exit ?_ | with_reducible refine in_here ?_ | with_reducible refine in_other rfl ?_
          repeat with_reducible refine wp_seq ?_
          refine b_enter [0] (by kernel_rfl) hs #[false, false, false, false, false, false, false, false, false, false, false, false] (by rfl) 12 (by rfl) ?_; clear hs; intro w hs
          refine b_take 0 rfl #[true, false, false, false, false, false, false, false, false, false, false, false] rfl (by kernel_rfl) hs ((hs.mem.first 1)) rfl rfl rfl (fun _ _ _ h => h) (y_move hs rfl) ?_; clear hs a; intro a hs
          refine b_take 1 rfl #[true, true, false, false, false, false, false, false, false, false, false, false] rfl (by kernel_rfl) hs ((hs.mem.first 1)) rfl rfl rfl (fun _ _ _ h => h) (y_move hs rfl) ?_; clear hs a; intro a hs
          refine b_take 2 rfl #[true, true, true, false, false, false, false, false, false, false, false, false] rfl (by kernel_rfl) hs ((hs.mem.first 1)) rfl rfl rfl (fun _ _ _ h => h) (y_idxA (size := 5) (off := i * 5) hs Tryd.underlying22 (by kernel_rfl) rfl rfl (by omega) (by omega) (by simp)) ?_; clear hs a; intro a hs
          refine b_take 3 rfl #[true, true, true, true, false, false, false, false, false, false, false, false] rfl (by kernel_rfl) hs ((hs.mem.first 1)) rfl rfl rfl (fun _ _ _ h => h) (y_faddr (k' := i * 5 + 3) 3 hs (by kernel_rfl) rfl rfl) ?_; clear hs a; intro a hs
          refine b_take 4 rfl #[true, true, true, true, true, false, false, false, false, false, false, false] rfl (by kernel_rfl) hs ((hs.mem.first 1)) rfl rfl rfl (fun _ _ _ h => h) (y_load hs Tryd.underlying3 rfl rfl (fun w hw => (hw.to 0 rfl).rowCell (row_at 3 ht rfl))) ?_; clear hs a; intro a hs
          refine b_take 5 rfl #[true, true, true, true, true, true, false, false, false, false, false, false] rfl (by kernel_rfl) hs ((hs.mem.first 1)) rfl rfl rfl (fun _ _ _ h => h) (y_move hs rfl) ?_; clear hs a; intro a hs
          refine b_take 6 rfl #[true, true, true, true, true, true, true, false, false, false, false, false] rfl (by kernel_rfl) hs ((hs.mem.first 1)) rfl rfl rfl (fun _ _ _ h => h) (y_move hs rfl) ?_; clear hs a; intro a hs
          refine b_take 7 rfl #[true, true, true, true, true, true, true, true, false, false, false, false] rfl (by kernel_rfl) hs ((hs.mem.first 1)) rfl rfl rfl (fun _ _ _ h => h) (y_idxA (size := 5) (off := i * 5) hs Tryd.underlying22 (by kernel_rfl) rfl rfl (by omega) (by omega) (by simp)) ?_; clear hs a; intro a hs
          refine b_take 8 rfl #[true, true, true, true, true, true, true, true, true, false, false, false] rfl (by kernel_rfl) hs ((hs.mem.first 1)) rfl rfl rfl (fun _ _ _ h => h) (y_faddr (k' := i * 5 + 4) 4 hs (by kernel_rfl) rfl rfl) ?_; clear hs a; intro a hs
          refine b_take 9 rfl #[true, true, true, true, true, true, true, true, true, true, false, false] rfl (by kernel_rfl) hs ((hs.mem.first 1)) rfl rfl rfl (fun _ _ _ h => h) (y_load hs Tryd.underlying3 rfl rfl (fun w hw => (hw.to 0 rfl).rowCell (row_at 4 ht rfl))) ?_; clear hs a; intro a hs
          refine b_take 10 rfl #[true, true, true, true, true, true, true, true, true, true, true, false] rfl (by kernel_rfl) hs ((hs.mem.first 1)) rfl rfl rfl (fun _ _ _ h => h) (y_assign hs rfl) ?_; clear hs a; intro a hs
          refine b_take 11 rfl #[true, true, true, true, true, true, true, true, true, true, true, true] rfl (by kernel_rfl) hs ((hs.mem.first 1)) rfl rfl rfl (fun _ _ _ h => h) (y_assign hs rfl) ?_; clear hs a; intro a hs
          refine b_done (by kernel_rfl) ?_
          repeat first | with_reducible refine in_normal ?_ | with_reducible refine then_normal ?_ | with_reducible refine then_ret ?_ | with_reducible refine in_ret ?_ | with_reducible refine then_exit ?_ | with_reducible refine in_here ?_ | with_reducible refine in_other rfl ?_ | with_reducible refine then_goto ?_ | with_reducible refine in_goto ?_ | with_reducible refine jump_normal ?_ | with_reducible refine jump_ret ?_ | with_reducible refine jump_goto ?_
          repeat with_reducible refine wp_seq ?_
          refine wp_region_lit ?_
          refine a_val hs rfl rfl rfl (y_move hs rfl) ?_; clear hs a; intro a hs
          refine a_val hs rfl rfl rfl (y_add hs rfl rfl (by omega)) ?_; clear hs a; intro a hs
          refine a_val hs rfl rfl rfl (y_assign hs rfl) ?_; clear hs a; intro a hs
          refine wpList_nil ?_
          repeat first | with_reducible refine in_normal ?_ | with_reducible refine then_normal ?_ | with_reducible refine then_ret ?_ | with_reducible refine in_ret ?_ | with_reducible refine then_exit ?_ | with_reducible refine in_here ?_ | with_reducible refine in_other rfl ?_ | with_reducible refine then_goto ?_ | with_reducible refine in_goto ?_ | with_reducible refine jump_normal ?_ | with_reducible refine jump_ret ?_ | with_reducible refine jump_goto ?_
          refine ⟨m - 1, by omega, i + 1, t.f3, t.f4, by omega, hsq2, ?_⟩
          exact hs.cut _ ⟨rfl, rfl, rfl, rfl, trivial⟩
      · repeat with_reducible refine wp_seq ?_
        refine wp_region_lit ?_
        refine a_val hs rfl rfl rfl (y_move hs rfl) ?_; clear hs a; intro a hs
        refine a_val hs rfl rfl rfl (y_move hs rfl) ?_; clear hs a; intro a hs
        refine a_val hs rfl rfl rfl (y_lenL hs Tryd.underlying22 rfl) ?_; clear hs a; intro a hs
        refine a_val hs rfl rfl rfl (y_cmp (b := false) hs rfl rfl (congrArg some (decide_eq_false (by omega)))) ?_; clear hs a; intro a hs
        refine wpList_nil ?_
        repeat first | with_reducible refine in_normal ?_ | with_reducible refine then_normal ?_ | with_reducible refine then_ret ?_ | with_reducible refine in_ret ?_ | with_reducible refine then_exit ?_ | with_reducible refine in_here ?_ | with_reducible refine in_other rfl ?_ | with_reducible refine then_goto ?_ | with_reducible refine in_goto ?_ | with_reducible refine jump_normal ?_ | with_reducible refine jump_ret ?_ | with_reducible refine jump_goto ?_
        repeat with_reducible refine wp_seq ?_
        refine wp_cond_false (hs.ev rfl) ?_
        repeat with_reducible refine wp_seq ?_
        refine wp_exit ?_
        repeat first | with_reducible refine in_normal ?_ | with_reducible refine then_normal ?_ | with_reducible refine then_ret ?_ | with_reducible refine in_ret ?_ | with_reducible refine then_exit ?_ | with_reducible refine in_here ?_ | with_reducible refine in_other rfl ?_ | with_reducible refine then_goto ?_ | with_reducible refine in_goto ?_ | with_reducible refine jump_normal ?_ | with_reducible refine jump_ret ?_ | with_reducible refine jump_goto ?_
        repeat with_reducible refine wp_seq ?_
        refine wp_region_lit ?_
        refine a_eff rfl (e_callB Tryd.func9 rfl rfl hs rfl rfl (law_anchored _ _ (hE.keep hs.mem) (H.init _)) ?_); clear hs a; intro a w1 hs
        refine a_val hs rfl rfl rfl (y_assign hs rfl) ?_; clear hs a; intro a hs
        refine wpList_nil ?_
        repeat first | with_reducible refine in_normal ?_ | with_reducible refine then_normal ?_ | with_reducible refine then_ret ?_ | with_reducible refine in_ret ?_ | with_reducible refine then_exit ?_ | with_reducible refine in_here ?_ | with_reducible refine in_other rfl ?_ | with_reducible refine then_goto ?_ | with_reducible refine in_goto ?_ | with_reducible refine jump_normal ?_ | with_reducible refine jump_ret ?_ | with_reducible refine jump_goto ?_
        repeat with_reducible refine wp_seq ?_
        refine wp_ret ?_
        repeat first | with_reducible refine in_normal ?_ | with_reducible refine then_normal ?_ | with_reducible refine then_ret ?_ | with_reducible refine in_ret ?_ | with_reducible refine then_exit ?_ | with_reducible refine in_here ?_ | with_reducible refine in_other rfl ?_ | with_reducible refine then_goto ?_ | with_reducible refine in_goto ?_ | with_reducible refine jump_normal ?_ | with_reducible refine jump_ret ?_ | with_reducible refine jump_goto ?_
        refine fin_ret (vs := [.bool true]) hs (.tmp (hs.slots _ _ rfl) .nil) ⟨rfl, hs.mem.base⟩
    · have hF := join_limit L hall hj
      rw [hF] at hs
      repeat with_reducible refine wp_seq ?_
      refine wp_region_lit ?_
      refine a_val hs rfl rfl rfl (y_move hs rfl) ?_; clear hs a; intro a hs
      refine a_eff rfl (e_callX Tryd.func8 rfl rfl hs rfl rfl (token_Cut ⟨#[]⟩ 1 [] 0 0 0 cut_empty _ v0 _ hE hs.mem) (fun e w1 ⟨A2, c2, he, hm⟩ => ⟨_, he, _, hm, ?_⟩)); clear hs a; intro a hs
      refine a_val hs rfl rfl rfl (y_move hs rfl) ?_; clear hs a; intro a hs
      refine a_val hs rfl rfl rfl (y_extract hs rfl rfl) ?_; clear hs a; intro a hs
      refine a_val hs rfl rfl rfl (y_extract hs rfl rfl) ?_; clear hs a; intro a hs
      refine a_eff rfl (e_alloc (z := .agg #[.int .i64 0, .int .i64 0, .int .i64 0]) (cs := #[.int .i64 0, .int .i64 0, .int .i64 0]) hs rfl (by kernel_rfl) rfl ?_); clear hs a; intro gg a w hs
      refine a_val hs rfl rfl rfl (y_assign hs rfl) ?_; clear hs a; intro a hs
      refine a_eff rfl (e_store (cl := [_, _, _]) 0 rfl hs rfl rfl (by kernel_rfl) rfl rfl rfl ?_); clear hs a; intro a w hs
      refine wpList_nil ?_
      repeat first | with_reducible refine in_normal ?_ | with_reducible refine then_normal ?_ | with_reducible refine then_ret ?_ | with_reducible refine in_ret ?_ | with_reducible refine then_exit ?_ | with_reducible refine in_here ?_ | with_reducible refine in_other rfl ?_ | with_reducible refine then_goto ?_ | with_reducible refine in_goto ?_ | with_reducible refine jump_normal ?_ | with_reducible refine jump_ret ?_ | with_reducible refine jump_goto ?_
      repeat with_reducible refine wp_seq ?_
      refine wp_region_lit ?_
      refine a_val hs rfl rfl rfl (y_move hs rfl) ?_; clear hs a; intro a hs
      refine a_val hs rfl rfl rfl (y_cmp (b := true) hs rfl rfl (congrArg some (bne_iff_ne.2 (by decide)))) ?_; clear hs a; intro a hs
      refine a_val hs rfl rfl rfl (y_move hs rfl) ?_; clear hs a; intro a hs
      refine a_skip hs rfl rfl rfl ?_; clear hs a; intro a hs
      refine a_skip hs rfl rfl rfl ?_; clear hs a; intro a hs
      refine a_skip hs rfl rfl rfl ?_; clear hs a; intro a hs
      refine a_val hs rfl rfl rfl (y_pickT hs rfl rfl rfl) ?_; clear hs a; intro a hs
      refine a_val hs rfl rfl rfl (y_move hs rfl) ?_; clear hs a; intro a hs
      refine a_skip hs rfl rfl rfl ?_; clear hs a; intro a hs
      refine a_skip hs rfl rfl rfl ?_; clear hs a; intro a hs
      refine a_skip hs rfl rfl rfl ?_; clear hs a; intro a hs
      refine a_skip hs rfl rfl rfl ?_; clear hs a; intro a hs
      refine a_val hs rfl rfl rfl (y_pickT hs rfl rfl rfl) ?_; clear hs a; intro a hs
      refine wpList_nil ?_
      repeat first | with_reducible refine in_normal ?_ | with_reducible refine then_normal ?_ | with_reducible refine then_ret ?_ | with_reducible refine in_ret ?_ | with_reducible refine then_exit ?_ | with_reducible refine in_here ?_ | with_reducible refine in_other rfl ?_ | with_reducible refine then_goto ?_ | with_reducible refine in_goto ?_ | with_reducible refine jump_normal ?_ | with_reducible refine jump_ret ?_ | with_reducible refine jump_goto ?_
      repeat with_reducible refine wp_seq ?_
      refine wp_cond_true (hs.ev rfl) ?_
      repeat with_reducible refine wp_seq ?_
      refine wp_region_lit ?_
      refine a_val hs rfl rfl rfl (y_move hs rfl) ?_; clear hs a; intro a hs
      refine a_val hs rfl rfl rfl (y_cmp (b := true) hs rfl rfl (congrArg some (beq_iff_eq.2 (rfl)))) ?_; clear hs a; intro a hs
      refine a_val hs rfl rfl rfl (y_move hs rfl) ?_; clear hs a; intro a hs
      refine a_effG hs rfl (e_callB Tryd.func9 rfl rfl hs rfl rfl (law_anchored _ _ (hE.keep hs.mem) (H.init _)) ?_); clear hs a; intro a w1 hs
      refine a_val hs rfl rfl rfl (y_pickT hs rfl rfl rfl) ?_; clear hs a; intro a hs
      refine a_val hs rfl rfl rfl (y_assign hs rfl) ?_; clear hs a; intro a hs
      refine wpList_nil ?_
      repeat first | with_reducible refine in_normal ?_ | with_reducible refine then_normal ?_ | with_reducible refine then_ret ?_ | with_reducible refine in_ret ?_ | with_reducible refine then_exit ?_ | with_reducible refine in_here ?_ | with_reducible refine in_other rfl ?_ | with_reducible refine then_goto ?_ | with_reducible refine in_goto ?_ | with_reducible refine jump_normal ?_ | with_reducible refine jump_ret ?_ | with_reducible refine jump_goto ?_
      repeat with_reducible refine wp_seq ?_
      refine wp_ret ?_
      repeat first | with_reducible refine in_normal ?_ | with_reducible refine then_normal ?_ | with_reducible refine then_ret ?_ | with_reducible refine in_ret ?_ | with_reducible refine then_exit ?_ | with_reducible refine in_here ?_ | with_reducible refine in_other rfl ?_ | with_reducible refine then_goto ?_ | with_reducible refine in_goto ?_ | with_reducible refine jump_normal ?_ | with_reducible refine jump_ret ?_ | with_reducible refine jump_goto ?_
      refine fin_ret (vs := [.bool true]) hs (.tmp (hs.slots _ _ rfl) .nil) ⟨rfl, hs.mem.base⟩
  · repeat with_reducible refine wp_seq ?_
    refine wp_region_lit ?_
    refine a_val hs rfl rfl rfl (y_faddr (k' := 0) 0 hs (by kernel_rfl) rfl rfl) ?_; clear hs a; intro a hs
    refine a_val hs rfl rfl rfl (y_load hs Tryd.underlying23 rfl rfl (fun w hw => (hw.to 0 rfl).cellV rfl)) ?_; clear hs a; intro a hs
    refine a_val hs rfl rfl rfl (y_cmp (b := true) hs rfl rfl (congrArg some (bne_iff_ne.2 (h1)))) ?_; clear hs a; intro a hs
    refine wpList_nil ?_
    repeat first | with_reducible refine in_normal ?_ | with_reducible refine then_normal ?_ | with_reducible refine then_ret ?_ | with_reducible refine in_ret ?_ | with_reducible refine then_exit ?_ | with_reducible refine in_here ?_ | with_reducible refine in_other rfl ?_ | with_reducible refine then_goto ?_ | with_reducible refine in_goto ?_ | with_reducible refine jump_normal ?_ | with_reducible refine jump_ret ?_ | with_reducible refine jump_goto ?_
    repeat with_reducible refine wp_seq ?_
    refine wp_cond_true (hs.ev rfl) ?_
    repeat with_reducible refine wp_seq ?_
    refine wp_region_lit ?_
    refine a_eff rfl (e_callB Tryd.func9 rfl rfl hs rfl rfl (law_anchored _ _ (hE.keep hs.mem) (H.init _)) ?_); clear hs a; intro a w1 hs
    refine a_val hs rfl rfl rfl (y_move hs rfl) ?_; clear hs a; intro a hs
    refine a_valG hs rfl rfl rfl (y_move hs rfl) ?_; clear hs a; intro a hs
    refine a_valG hs rfl rfl rfl (y_lenL hs Tryd.underlying22 rfl) ?_; clear hs a; intro a hs
    refine a_valG hs rfl rfl rfl (y_cmp (b := true) hs rfl rfl (congrArg some (beq_iff_eq.2 (rfl)))) ?_; clear hs a; intro a hs
    refine a_val hs rfl rfl rfl (y_pickT hs rfl rfl rfl) ?_; clear hs a; intro a hs
    refine a_val hs rfl rfl rfl (y_move hs rfl) ?_; clear hs a; intro a hs
    refine a_valG hs rfl rfl rfl (y_faddr (k' := 1) 1 hs (by kernel_rfl) rfl rfl) ?_; clear hs a; intro a hs
    refine a_valG hs rfl rfl rfl (y_load hs Tryd.underlying3 rfl rfl (fun w hw => (hw.to 0 rfl).cellV rfl)) ?_; clear hs a; intro a hs
    refine a_valG hs rfl rfl rfl (y_cmp (b := true) hs rfl rfl (congrArg some (decide_eq_true (by omega)))) ?_; clear hs a; intro a hs
    refine a_val hs rfl rfl rfl (y_pickT hs rfl rfl rfl) ?_; clear hs a; intro a hs
    refine a_val hs rfl rfl rfl (y_move hs rfl) ?_; clear hs a; intro a hs
    refine a_valG hs rfl rfl rfl (y_faddr (k' := 2) 2 hs (by kernel_rfl) rfl rfl) ?_; clear hs a; intro a hs
    refine a_valG hs rfl rfl rfl (y_load hs Tryd.underlying3 rfl rfl (fun w hw => (hw.to 0 rfl).cellV rfl)) ?_; clear hs a; intro a hs
    refine a_valG hs rfl rfl rfl (y_cmp (b := true) hs rfl rfl (congrArg some (decide_eq_true (by omega)))) ?_; clear hs a; intro a hs
    refine a_val hs rfl rfl rfl (y_pickT hs rfl rfl rfl) ?_; clear hs a; intro a hs
    refine a_val hs rfl rfl rfl (y_assign hs rfl) ?_; clear hs a; intro a hs
    refine wpList_nil ?_
    repeat first | with_reducible refine in_normal ?_ | with_reducible refine then_normal ?_ | with_reducible refine then_ret ?_ | with_reducible refine in_ret ?_ | with_reducible refine then_exit ?_ | with_reducible refine in_here ?_ | with_reducible refine in_other rfl ?_ | with_reducible refine then_goto ?_ | with_reducible refine in_goto ?_ | with_reducible refine jump_normal ?_ | with_reducible refine jump_ret ?_ | with_reducible refine jump_goto ?_
    repeat with_reducible refine wp_seq ?_
    refine wp_ret ?_
    repeat first | with_reducible refine in_normal ?_ | with_reducible refine then_normal ?_ | with_reducible refine then_ret ?_ | with_reducible refine in_ret ?_ | with_reducible refine then_exit ?_ | with_reducible refine in_here ?_ | with_reducible refine in_other rfl ?_ | with_reducible refine then_goto ?_ | with_reducible refine in_goto ?_ | with_reducible refine jump_normal ?_ | with_reducible refine jump_ret ?_ | with_reducible refine jump_goto ?_
    refine fin_ret (vs := [.bool true]) hs (.tmp (hs.slots _ _ rfl) .nil) ⟨rfl, hs.mem.base⟩
end Go.Proofs.YtbljojjacfmggaaDoor.E
