/- The writer: say, operator, expr. No conditions. -/
import Derived.Test.YtibaidddhmdafaaDoorTMay
namespace Go.Proofs.YtibaidddhmdafaaDoor.E
open Go Go.RowKit Go.Proofs.YtibaidddhmdafaaDoorW.PrintWords Go.Proofs.YtibaidddhmdafaaDoorW.PrintLast Go.Proofs.YtibaidddhmdafaaDoorW.PrintMore Go.Proofs.YtibaidddhmdafaaDoor.PA
set_option linter.unusedVariables false
set_option linter.unusedSimpArgs false
set_option maxRecDepth 100000 in
theorem w_say (g ga : Nat) (l : List ByteArray) (toks : List XT) (A1 : Option Addr) (c1 c : Nat) (ta : TypeId) (bs : List Res) (w0 w : World) (hz : ∀ s ∈ l, s.size ≤ 9223372036854775807) (ht : toks.length + l.length ≤ 1000000) (h : H w0 (pt g #[.slice A1 (toks).length c1] 90 :: row 94 5 (.slice A1 (toks).length c1) (toks).length ((toks).flatMap tokC) :: pt ga (l.map Value.string).toArray ta :: bs) w) :
    Calls Tryd.prog 65 #[.pointer (some ⟨g, 0, none⟩), .slice (some ⟨ga, 0, none⟩) l.length c] w fun e w' => ∃ A2 c2, e = .returned (.tuple #[]) ∧ H w0 (pt g #[.slice A2 (toks ++ l.map sayT).length c2] 90 :: row 94 5 (.slice A2 (toks ++ l.map sayT).length c2) (toks ++ l.map sayT).length ((toks ++ l.map sayT).flatMap tokC) :: pt ga (l.map Value.string).toArray ta :: bs) w' := by
  refine calls_enter (N := 34) (n := 32) (args := [.pointer (some ⟨g, 0, none⟩), .slice (some ⟨ga, 0, none⟩) l.length c]) Tryd.func65 rfl rfl rfl (h) (fun a hs => ?_)
  refine wp_seq ?_
  refine wp_region_lit ?_
  refine a_val hs rfl rfl rfl (y_move hs rfl) ?_; clear hs a; intro a hs
  refine a_val hs rfl rfl rfl (y_lenL hs Tryd.underlying116 rfl) ?_; clear hs a; intro a hs
  refine a_val hs rfl rfl rfl (y_move hs rfl) ?_; clear hs a; intro a hs
  refine wpList_nil (then_normal ?_)
  refine wp_block ?_
  refine wp_loopN (fun m a w1 => ∃ (i : Nat) (A2 : Option Addr) (c2 : Nat), (i + m = l.length) ∧ St 34 w0 [(0, .pointer (some ⟨g, 0, none⟩)), (7, .slice (some ⟨ga, 0, none⟩) l.length c), (8, .int .i64 (l.length : Int)), (9, .int .i64 ((i : Nat) : Int))] (pt g #[.slice A2 (toks ++ (l.take i).map sayT).length c2] 90 :: row 94 5 (.slice A2 (toks ++ (l.take i).map sayT).length c2) (toks ++ (l.take i).map sayT).length ((toks ++ (l.take i).map sayT).flatMap tokC) :: pt ga (l.map Value.string).toArray ta :: bs) a w1) (l.length) ⟨0, A1, c1, by omega, ?_⟩ (fun m a w1 hJ => ?_)
  · rw [show toks = toks ++ (l.take 0).map sayT by simp] at hs
    exact (hs.mem_to (((hs.mem.to 2 rfl).to 2 rfl).to 2 rfl)).cut _ ⟨rfl, rfl, rfl, rfl, trivial⟩
  · clear hs
    obtain ⟨i, A2, c2, hi, hs⟩ := hJ
    refine wp_seq ?_
    refine wp_region_lit ?_
    refine a_val hs rfl rfl rfl (y_cmp hs rfl rfl rfl) ?_; clear hs a; intro a hs
    refine wpList_nil (then_normal ?_)
    refine wp_seq ?_
    refine wp_cond_split (hs.ev rfl) (fun h10 => ?_) (fun h10 => ?_)
    · replace h10 := of_decide_eq_true h10
      obtain ⟨s, hsi⟩ : ∃ s, l[i]? = some s := ⟨_, List.getElem?_eq_getElem (by omega)⟩
      have hsz := hz s (List.mem_of_getElem? hsi)
      have hla : (toks ++ (l.take i).map sayT).length ≤ 1000000 := by rw [List.length_append, List.length_map, List.length_take]; omega
      refine wp_skip (then_normal ?_)
      refine wp_seq ?_
      refine wp_block ?_
      refine wp_seq ?_
      refine wp_region_lit ?_
      refine a_val hs rfl rfl rfl (y_idxB (size := 1) (off := 0 + i * 1) hs Tryd.underlying116 (by kernel_rfl) rfl rfl (by omega) (by omega) (by simp)) ?_; clear hs a; intro a hs
      refine a_val hs rfl rfl rfl (y_load (v := .string s) hs Tryd.underlying9 rfl rfl (fun w hw => ((hw.to 2 rfl).cell).trans (by simp [hsi]))) ?_; clear hs a; intro a hs
      refine a_val hs rfl rfl rfl (y_assign hs rfl) ?_; clear hs a; intro a hs
      refine wpList_nil (then_normal ?_)
      refine wp_seq ?_
      refine wp_region_lit ?_
      refine a_val hs rfl rfl rfl (y_move hs rfl) ?_; clear hs a; intro a hs
      refine a_val hs rfl rfl rfl (y_struct (zc := #[.int .u8 0, .string ⟨#[]⟩, .int .i64 0, .int .i64 0, .int .i64 0]) (pl := [(0, 1), (1, 1), (2, 1), (3, 1), (4, 1)]) (cl := [_, _, .int .i64 0, .int .i64 0, .int .i64 0]) hs (by kernel_rfl) rfl (by rfl) rfl) ?_; clear hs a; intro a hs
      refine a_eff rfl (e_alloc (z := .agg #[.int .u8 0, .string ⟨#[]⟩, .int .i64 0, .int .i64 0, .int .i64 0]) (cs := #[.int .u8 0, .string ⟨#[]⟩, .int .i64 0, .int .i64 0, .int .i64 0]) hs rfl (by kernel_rfl) rfl ?_); clear hs a; intro gt a w hs
      refine a_eff rfl (e_store (cl := [_, _, _, _, _]) 0 rfl hs rfl rfl (by kernel_rfl) rfl rfl rfl ?_); clear hs a; intro a w hs
      refine wpList_nil (then_normal ?_)
      refine wp_seq ?_
      refine wp_seq ?_
      refine wp_region_lit ?_
      refine a_val hs rfl rfl rfl (y_loadPt 0 rfl hs Tryd.underlying94 rfl (by kernel_rfl) rfl) ?_; clear hs a; intro a hs
      refine a_eff rfl (e_callB Tryd.func90 rfl rfl hs rfl rfl (token_May.calls (s.size + 3) 2 s 0 0 0 (mayB (tk 2 s)) _ (may_prog (tk 2 s) hsz)) ?_); clear hs a; intro a w hs
      refine a_val hs rfl rfl rfl (y_not hs rfl) ?_; clear hs a; intro a hs
      refine wpList_nil (then_normal ?_)
      refine wp_cond_split (hs.ev rfl) (fun h17 => ?_) (fun h17 => ?_)
      · replace h17 := (not_t h17)
        refine wp_region_lit ?_
        refine a_val hs rfl rfl rfl (y_faddr (k' := 0) 0 hs (by kernel_rfl) rfl rfl) ?_; clear hs a; intro a hs
        refine a_eff rfl (e_store (cl := [_, _, _, _, _]) 0 rfl hs rfl rfl (by kernel_rfl) rfl rfl rfl ?_); clear hs a; intro a w hs
        refine wpList_nil (then_normal ?_)
        refine wp_seq ?_
        refine wp_seq ?_
        refine wp_region_lit ?_
        refine a_val hs rfl rfl rfl (y_loadPt 0 rfl hs Tryd.underlying94 rfl (by kernel_rfl) rfl) ?_; clear hs a; intro a hs
        refine a_eff rfl (e_callB Tryd.func90 rfl rfl hs rfl rfl (token_May.calls (s.size + 3) 1 s 0 0 0 (mayB (tk 1 s)) _ (may_prog (tk 1 s) hsz)) ?_); clear hs a; intro a w hs
        refine a_val hs rfl rfl rfl (y_not hs rfl) ?_; clear hs a; intro a hs
        refine wpList_nil (then_normal ?_)
        refine wp_cond_split (hs.ev rfl) (fun h21 => ?_) (fun h21 => ?_)
        · replace h21 := (not_t h21)
          have hT : sayT s = tk 4 s := by unfold sayT; rw [if_neg (by rw [h17]; exact Bool.false_ne_true), if_neg (by rw [h21]; exact Bool.false_ne_true)]
          refine wp_region_lit ?_
          refine a_val hs rfl rfl rfl (y_faddr (k' := 0) 0 hs (by kernel_rfl) rfl rfl) ?_; clear hs a; intro a hs
          refine a_eff rfl (e_store (cl := [_, _, _, _, _]) 0 rfl hs rfl rfl (by kernel_rfl) rfl rfl rfl ?_); clear hs a; intro a w hs
          refine wpList_nil (then_normal ?_)
          refine b_enter [0, 3] (by kernel_rfl) hs #[false, false, false, false, false, false, false, false, false, false, false] (by rfl) 11 (by rfl) ?_; clear hs; intro w hs
          refine b_take 0 rfl #[true, false, false, false, false, false, false, false, false, false, false] rfl (by kernel_rfl) hs ((((hs.mem.to 3 rfl).to 1 rfl).first 2)) rfl rfl rfl (fun _ _ _ h => h) (y_move hs rfl) ?_; clear hs a; intro a hs
          refine b_take 1 rfl #[true, true, false, false, false, false, false, false, false, false, false] rfl (by kernel_rfl) hs ((((hs.mem.to 3 rfl).to 1 rfl).first 2)) rfl rfl rfl (fun _ _ _ h => h) (y_move hs rfl) ?_; clear hs a; intro a hs
          refine b_take 2 rfl #[true, true, true, false, false, false, false, false, false, false, false] rfl (by kernel_rfl) hs ((((hs.mem.to 3 rfl).to 1 rfl).first 2)) rfl rfl rfl (fun _ _ _ h => h) (y_nilchk hs rfl) ?_; clear hs a; intro a hs
          refine b_take 3 rfl #[true, true, true, true, false, false, false, false, false, false, false] rfl (by kernel_rfl) hs ((((hs.mem.to 3 rfl).to 1 rfl).first 2)) rfl rfl rfl (fun _ _ _ h => h) (y_faddr (k' := 0) 0 hs (by kernel_rfl) rfl rfl) ?_; clear hs a; intro a hs
          refine b_take 5 rfl #[true, true, true, true, false, true, false, false, false, false, false] rfl (by kernel_rfl) hs ((((hs.mem.to 3 rfl).to 1 rfl).first 2)) rfl rfl rfl (fun _ _ _ h => h) (y_loadPt 0 rfl hs Tryd.underlying94 rfl (by kernel_rfl) rfl) ?_; clear hs a; intro a hs
          refine b_eff2 4 6 (by kernel_rfl) rfl rfl #[true, true, true, true, true, true, false, false, false, false, false] #[true, true, true, true, false, true, true, false, false, false, false] rfl rfl hs rfl rfl (e_yield hs rfl rfl (y_load hs Tryd.underlying88 rfl rfl (fun w hw => (hw.to 1 rfl).cellV rfl)) ?_) (e_bslice (z := .agg #[.int .u8 0, .string ⟨#[]⟩, .int .i64 0, .int .i64 0, .int .i64 0]) (size := 5) (zc := #[.int .u8 0, .string ⟨#[]⟩, .int .i64 0, .int .i64 0, .int .i64 0]) (cl := [_, _, _, _, _]) hs rfl Tryd.underlying88 (by kernel_rfl) rfl rfl rfl (by kernel_rfl) (by rfl) rfl ?_)
          · clear hs a; intro a hs
            refine ⟨(((hs.mem.to 3 rfl).to 1 rfl).first 2), ?_⟩
            refine b_eff 6 (by kernel_rfl) rfl #[true, true, true, true, true, true, true, false, false, false, false] rfl hs rfl (e_bslice (z := .agg #[.int .u8 0, .string ⟨#[]⟩, .int .i64 0, .int .i64 0, .int .i64 0]) (size := 5) (zc := #[.int .u8 0, .string ⟨#[]⟩, .int .i64 0, .int .i64 0, .int .i64 0]) (cl := [_, _, _, _, _]) hs rfl Tryd.underlying88 (by kernel_rfl) rfl rfl rfl (by kernel_rfl) (by rfl) rfl ?_); clear hs a; intro gk a w hs
            refine ⟨(((hs.mem.to 4 rfl).to 2 rfl).first 2), ?_⟩
            refine b_eff 7 (by kernel_rfl) rfl #[true, true, true, true, true, true, true, true, false, false, false] rfl hs rfl (e_appL (z := .agg #[.int .u8 0, .string ⟨#[]⟩, .int .i64 0, .int .i64 0, .int .i64 0]) (size := 5) (bytes := 48) tokC (toks ++ (l.take i).map sayT) ([tk 4 s]) 3 rfl 0 rfl hs rfl Tryd.underlying88 (by kernel_rfl) rfl rfl tokC_len rfl rfl rfl rfl (oneT _) (by unfold maxLen; simp only [List.length_cons, List.length_nil]; omega) (by simp only [List.length_cons, List.length_nil]; omega) ?_); clear hs a; intro A3 c3 a w hs
            refine ⟨(((hs.mem.to 4 rfl).to 3 rfl).first 2), ?_⟩
            refine b_take 8 rfl #[true, true, true, true, true, true, true, true, true, false, false] rfl (by kernel_rfl) hs ((((hs.mem.to 4 rfl).to 3 rfl).first 2)) rfl rfl rfl (fun _ _ _ h => h) (y_nilchk hs rfl) ?_; clear hs a; intro a hs
            refine b_take 9 rfl #[true, true, true, true, true, true, true, true, true, true, false] rfl (by kernel_rfl) hs ((((hs.mem.to 4 rfl).to 3 rfl).first 2)) rfl rfl rfl (fun _ _ _ h => h) (y_faddr (k' := 0) 0 hs (by kernel_rfl) rfl rfl) ?_; clear hs a; intro a hs
            refine b_eff 10 (by kernel_rfl) rfl #[true, true, true, true, true, true, true, true, true, true, true] rfl hs rfl (e_store (cl := [_]) 3 rfl hs rfl rfl (by kernel_rfl) rfl rfl rfl ?_); clear hs a; intro a w hs
            refine ⟨(((hs.mem.to 4 rfl).to 4 rfl).first 2), ?_⟩
            refine b_done (by kernel_rfl) (in_normal (then_normal ?_))
            refine wp_region_lit ?_
            refine a_val hs rfl rfl rfl (y_add hs rfl rfl (by omega)) ?_; clear hs a; intro a hs
            refine a_val hs rfl rfl rfl (y_move hs rfl) ?_; clear hs a; intro a hs
            refine wpList_nil (then_normal ?_)
            have hacc : (toks ++ (l.take i).map sayT) ++ [tk 4 s] = toks ++ (l.take (i + 1)).map sayT := by rw [List.take_add_one, hsi, List.map_append, List.append_assoc, ← hT]; rfl
            rw [hacc] at hs
            refine ⟨m - 1, by omega, i + 1, A3, c3, by omega, ?_⟩
            exact (hs.mem_to (((((hs.mem.to 2 rfl).drop.to 2 rfl).drop.to 2 rfl).to 2 rfl).to 2 rfl)).cut _ ⟨rfl, rfl, rfl, rfl, trivial⟩
          · clear hs a; intro gk a w hs
            refine ⟨(((hs.mem.to 4 rfl).to 2 rfl).first 2), ?_⟩
            refine b_eff 4 (by kernel_rfl) rfl #[true, true, true, true, true, true, true, false, false, false, false] rfl hs rfl (e_yield hs rfl rfl (y_load hs Tryd.underlying88 rfl rfl (fun w hw => (hw.to 2 rfl).cellV rfl)) ?_); clear hs a; intro a hs
            refine ⟨(((hs.mem.to 4 rfl).to 2 rfl).first 2), ?_⟩
            refine b_eff 7 (by kernel_rfl) rfl #[true, true, true, true, true, true, true, true, false, false, false] rfl hs rfl (e_appL (z := .agg #[.int .u8 0, .string ⟨#[]⟩, .int .i64 0, .int .i64 0, .int .i64 0]) (size := 5) (bytes := 48) tokC (toks ++ (l.take i).map sayT) ([tk 4 s]) 3 rfl 0 rfl hs rfl Tryd.underlying88 (by kernel_rfl) rfl rfl tokC_len rfl rfl rfl rfl (oneT _) (by unfold maxLen; simp only [List.length_cons, List.length_nil]; omega) (by simp only [List.length_cons, List.length_nil]; omega) ?_); clear hs a; intro A3 c3 a w hs
            refine ⟨(((hs.mem.to 4 rfl).to 3 rfl).first 2), ?_⟩
            refine b_take 8 rfl #[true, true, true, true, true, true, true, true, true, false, false] rfl (by kernel_rfl) hs ((((hs.mem.to 4 rfl).to 3 rfl).first 2)) rfl rfl rfl (fun _ _ _ h => h) (y_nilchk hs rfl) ?_; clear hs a; intro a hs
            refine b_take 9 rfl #[true, true, true, true, true, true, true, true, true, true, false] rfl (by kernel_rfl) hs ((((hs.mem.to 4 rfl).to 3 rfl).first 2)) rfl rfl rfl (fun _ _ _ h => h) (y_faddr (k' := 0) 0 hs (by kernel_rfl) rfl rfl) ?_; clear hs a; intro a hs
            refine b_eff 10 (by kernel_rfl) rfl #[true, true, true, true, true, true, true, true, true, true, true] rfl hs rfl (e_store (cl := [_]) 3 rfl hs rfl rfl (by kernel_rfl) rfl rfl rfl ?_); clear hs a; intro a w hs
            refine ⟨(((hs.mem.to 4 rfl).to 4 rfl).first 2), ?_⟩
            refine b_done (by kernel_rfl) (in_normal (then_normal ?_))
            refine wp_region_lit ?_
            refine a_val hs rfl rfl rfl (y_add hs rfl rfl (by omega)) ?_; clear hs a; intro a hs
            refine a_val hs rfl rfl rfl (y_move hs rfl) ?_; clear hs a; intro a hs
            refine wpList_nil (then_normal ?_)
            have hacc : (toks ++ (l.take i).map sayT) ++ [tk 4 s] = toks ++ (l.take (i + 1)).map sayT := by rw [List.take_add_one, hsi, List.map_append, List.append_assoc, ← hT]; rfl
            rw [hacc] at hs
            refine ⟨m - 1, by omega, i + 1, A3, c3, by omega, ?_⟩
            exact (hs.mem_to (((((hs.mem.to 2 rfl).drop.to 2 rfl).drop.to 2 rfl).to 2 rfl).to 2 rfl)).cut _ ⟨rfl, rfl, rfl, rfl, trivial⟩
        · replace h21 := (not_f h21)
          have hT : sayT s = tk 1 s := by unfold sayT; rw [if_neg (by rw [h17]; exact Bool.false_ne_true), if_pos h21]
          refine wp_skip (then_normal ?_)
          refine b_enter [0, 3] (by kernel_rfl) hs #[false, false, false, false, false, false, false, false, false, false, false] (by rfl) 11 (by rfl) ?_; clear hs; intro w hs
          refine b_take 0 rfl #[true, false, false, false, false, false, false, false, false, false, false] rfl (by kernel_rfl) hs ((((hs.mem.to 3 rfl).to 1 rfl).first 2)) rfl rfl rfl (fun _ _ _ h => h) (y_move hs rfl) ?_; clear hs a; intro a hs
          refine b_take 1 rfl #[true, true, false, false, false, false, false, false, false, false, false] rfl (by kernel_rfl) hs ((((hs.mem.to 3 rfl).to 1 rfl).first 2)) rfl rfl rfl (fun _ _ _ h => h) (y_move hs rfl) ?_; clear hs a; intro a hs
          refine b_take 2 rfl #[true, true, true, false, false, false, false, false, false, false, false] rfl (by kernel_rfl) hs ((((hs.mem.to 3 rfl).to 1 rfl).first 2)) rfl rfl rfl (fun _ _ _ h => h) (y_nilchk hs rfl) ?_; clear hs a; intro a hs
          refine b_take 3 rfl #[true, true, true, true, false, false, false, false, false, false, false] rfl (by kernel_rfl) hs ((((hs.mem.to 3 rfl).to 1 rfl).first 2)) rfl rfl rfl (fun _ _ _ h => h) (y_faddr (k' := 0) 0 hs (by kernel_rfl) rfl rfl) ?_; clear hs a; intro a hs
          refine b_take 5 rfl #[true, true, true, true, false, true, false, false, false, false, false] rfl (by kernel_rfl) hs ((((hs.mem.to 3 rfl).to 1 rfl).first 2)) rfl rfl rfl (fun _ _ _ h => h) (y_loadPt 0 rfl hs Tryd.underlying94 rfl (by kernel_rfl) rfl) ?_; clear hs a; intro a hs
          refine b_eff2 4 6 (by kernel_rfl) rfl rfl #[true, true, true, true, true, true, false, false, false, false, false] #[true, true, true, true, false, true, true, false, false, false, false] rfl rfl hs rfl rfl (e_yield hs rfl rfl (y_load hs Tryd.underlying88 rfl rfl (fun w hw => (hw.to 1 rfl).cellV rfl)) ?_) (e_bslice (z := .agg #[.int .u8 0, .string ⟨#[]⟩, .int .i64 0, .int .i64 0, .int .i64 0]) (size := 5) (zc := #[.int .u8 0, .string ⟨#[]⟩, .int .i64 0, .int .i64 0, .int .i64 0]) (cl := [_, _, _, _, _]) hs rfl Tryd.underlying88 (by kernel_rfl) rfl rfl rfl (by kernel_rfl) (by rfl) rfl ?_)
          · clear hs a; intro a hs
            refine ⟨(((hs.mem.to 3 rfl).to 1 rfl).first 2), ?_⟩
            refine b_eff 6 (by kernel_rfl) rfl #[true, true, true, true, true, true, true, false, false, false, false] rfl hs rfl (e_bslice (z := .agg #[.int .u8 0, .string ⟨#[]⟩, .int .i64 0, .int .i64 0, .int .i64 0]) (size := 5) (zc := #[.int .u8 0, .string ⟨#[]⟩, .int .i64 0, .int .i64 0, .int .i64 0]) (cl := [_, _, _, _, _]) hs rfl Tryd.underlying88 (by kernel_rfl) rfl rfl rfl (by kernel_rfl) (by rfl) rfl ?_); clear hs a; intro gk a w hs
            refine ⟨(((hs.mem.to 4 rfl).to 2 rfl).first 2), ?_⟩
            refine b_eff 7 (by kernel_rfl) rfl #[true, true, true, true, true, true, true, true, false, false, false] rfl hs rfl (e_appL (z := .agg #[.int .u8 0, .string ⟨#[]⟩, .int .i64 0, .int .i64 0, .int .i64 0]) (size := 5) (bytes := 48) tokC (toks ++ (l.take i).map sayT) ([tk 1 s]) 3 rfl 0 rfl hs rfl Tryd.underlying88 (by kernel_rfl) rfl rfl tokC_len rfl rfl rfl rfl (oneT _) (by unfold maxLen; simp only [List.length_cons, List.length_nil]; omega) (by simp only [List.length_cons, List.length_nil]; omega) ?_); clear hs a; intro A3 c3 a w hs
            refine ⟨(((hs.mem.to 4 rfl).to 3 rfl).first 2), ?_⟩
            refine b_take 8 rfl #[true, true, true, true, true, true, true, true, true, false, false] rfl (by kernel_rfl) hs ((((hs.mem.to 4 rfl).to 3 rfl).first 2)) rfl rfl rfl (fun _ _ _ h => h) (y_nilchk hs rfl) ?_; clear hs a; intro a hs
            refine b_take 9 rfl #[true, true, true, true, true, true, true, true, true, true, false] rfl (by kernel_rfl) hs ((((hs.mem.to 4 rfl).to 3 rfl).first 2)) rfl rfl rfl (fun _ _ _ h => h) (y_faddr (k' := 0) 0 hs (by kernel_rfl) rfl rfl) ?_; clear hs a; intro a hs
            refine b_eff 10 (by kernel_rfl) rfl #[true, true, true, true, true, true, true, true, true, true, true] rfl hs rfl (e_store (cl := [_]) 3 rfl hs rfl rfl (by kernel_rfl) rfl rfl rfl ?_); clear hs a; intro a w hs
            refine ⟨(((hs.mem.to 4 rfl).to 4 rfl).first 2), ?_⟩
            refine b_done (by kernel_rfl) (in_normal (then_normal ?_))
            refine wp_region_lit ?_
            refine a_val hs rfl rfl rfl (y_add hs rfl rfl (by omega)) ?_; clear hs a; intro a hs
            refine a_val hs rfl rfl rfl (y_move hs rfl) ?_; clear hs a; intro a hs
            refine wpList_nil (then_normal ?_)
            have hacc : (toks ++ (l.take i).map sayT) ++ [tk 1 s] = toks ++ (l.take (i + 1)).map sayT := by rw [List.take_add_one, hsi, List.map_append, List.append_assoc, ← hT]; rfl
            rw [hacc] at hs
            refine ⟨m - 1, by omega, i + 1, A3, c3, by omega, ?_⟩
            exact (hs.mem_to (((((hs.mem.to 2 rfl).drop.to 2 rfl).drop.to 2 rfl).to 2 rfl).to 2 rfl)).cut _ ⟨rfl, rfl, rfl, rfl, trivial⟩
          · clear hs a; intro gk a w hs
            refine ⟨(((hs.mem.to 4 rfl).to 2 rfl).first 2), ?_⟩
            refine b_eff 4 (by kernel_rfl) rfl #[true, true, true, true, true, true, true, false, false, false, false] rfl hs rfl (e_yield hs rfl rfl (y_load hs Tryd.underlying88 rfl rfl (fun w hw => (hw.to 2 rfl).cellV rfl)) ?_); clear hs a; intro a hs
            refine ⟨(((hs.mem.to 4 rfl).to 2 rfl).first 2), ?_⟩
            refine b_eff 7 (by kernel_rfl) rfl #[true, true, true, true, true, true, true, true, false, false, false] rfl hs rfl (e_appL (z := .agg #[.int .u8 0, .string ⟨#[]⟩, .int .i64 0, .int .i64 0, .int .i64 0]) (size := 5) (bytes := 48) tokC (toks ++ (l.take i).map sayT) ([tk 1 s]) 3 rfl 0 rfl hs rfl Tryd.underlying88 (by kernel_rfl) rfl rfl tokC_len rfl rfl rfl rfl (oneT _) (by unfold maxLen; simp only [List.length_cons, List.length_nil]; omega) (by simp only [List.length_cons, List.length_nil]; omega) ?_); clear hs a; intro A3 c3 a w hs
            refine ⟨(((hs.mem.to 4 rfl).to 3 rfl).first 2), ?_⟩
            refine b_take 8 rfl #[true, true, true, true, true, true, true, true, true, false, false] rfl (by kernel_rfl) hs ((((hs.mem.to 4 rfl).to 3 rfl).first 2)) rfl rfl rfl (fun _ _ _ h => h) (y_nilchk hs rfl) ?_; clear hs a; intro a hs
            refine b_take 9 rfl #[true, true, true, true, true, true, true, true, true, true, false] rfl (by kernel_rfl) hs ((((hs.mem.to 4 rfl).to 3 rfl).first 2)) rfl rfl rfl (fun _ _ _ h => h) (y_faddr (k' := 0) 0 hs (by kernel_rfl) rfl rfl) ?_; clear hs a; intro a hs
            refine b_eff 10 (by kernel_rfl) rfl #[true, true, true, true, true, true, true, true, true, true, true] rfl hs rfl (e_store (cl := [_]) 3 rfl hs rfl rfl (by kernel_rfl) rfl rfl rfl ?_); clear hs a; intro a w hs
            refine ⟨(((hs.mem.to 4 rfl).to 4 rfl).first 2), ?_⟩
            refine b_done (by kernel_rfl) (in_normal (then_normal ?_))
            refine wp_region_lit ?_
            refine a_val hs rfl rfl rfl (y_add hs rfl rfl (by omega)) ?_; clear hs a; intro a hs
            refine a_val hs rfl rfl rfl (y_move hs rfl) ?_; clear hs a; intro a hs
            refine wpList_nil (then_normal ?_)
            have hacc : (toks ++ (l.take i).map sayT) ++ [tk 1 s] = toks ++ (l.take (i + 1)).map sayT := by rw [List.take_add_one, hsi, List.map_append, List.append_assoc, ← hT]; rfl
            rw [hacc] at hs
            refine ⟨m - 1, by omega, i + 1, A3, c3, by omega, ?_⟩
            exact (hs.mem_to (((((hs.mem.to 2 rfl).drop.to 2 rfl).drop.to 2 rfl).to 2 rfl).to 2 rfl)).cut _ ⟨rfl, rfl, rfl, rfl, trivial⟩
      · replace h17 := (not_f h17)
        have hT : sayT s = tk 2 s := by unfold sayT; rw [if_pos h17]
        refine wp_skip (then_normal ?_)
        refine wp_seq ?_
        refine wp_seq ?_
        refine wp_region_lit ?_
        refine a_val hs rfl rfl rfl (y_loadPt 0 rfl hs Tryd.underlying94 rfl (by kernel_rfl) rfl) ?_; clear hs a; intro a hs
        refine a_eff rfl (e_callB Tryd.func90 rfl rfl hs rfl rfl (token_May.calls (s.size + 3) 2 s 0 0 0 true _ ((may_prog (tk 2 s) hsz).trans (congrArg some h17))) ?_); clear hs a; intro a w hs
        refine a_val hs rfl rfl rfl (y_not hs rfl) ?_; clear hs a; intro a hs
        refine wpList_nil (then_normal ?_)
        refine wp_cond_false (hs.ev rfl) ?_
        refine wp_skip (then_normal ?_)
        refine b_enter [0, 3] (by kernel_rfl) hs #[false, false, false, false, false, false, false, false, false, false, false] (by rfl) 11 (by rfl) ?_; clear hs; intro w hs
        refine b_take 0 rfl #[true, false, false, false, false, false, false, false, false, false, false] rfl (by kernel_rfl) hs ((((hs.mem.to 3 rfl).to 1 rfl).first 2)) rfl rfl rfl (fun _ _ _ h => h) (y_move hs rfl) ?_; clear hs a; intro a hs
        refine b_take 1 rfl #[true, true, false, false, false, false, false, false, false, false, false] rfl (by kernel_rfl) hs ((((hs.mem.to 3 rfl).to 1 rfl).first 2)) rfl rfl rfl (fun _ _ _ h => h) (y_move hs rfl) ?_; clear hs a; intro a hs
        refine b_take 2 rfl #[true, true, true, false, false, false, false, false, false, false, false] rfl (by kernel_rfl) hs ((((hs.mem.to 3 rfl).to 1 rfl).first 2)) rfl rfl rfl (fun _ _ _ h => h) (y_nilchk hs rfl) ?_; clear hs a; intro a hs
        refine b_take 3 rfl #[true, true, true, true, false, false, false, false, false, false, false] rfl (by kernel_rfl) hs ((((hs.mem.to 3 rfl).to 1 rfl).first 2)) rfl rfl rfl (fun _ _ _ h => h) (y_faddr (k' := 0) 0 hs (by kernel_rfl) rfl rfl) ?_; clear hs a; intro a hs
        refine b_take 5 rfl #[true, true, true, true, false, true, false, false, false, false, false] rfl (by kernel_rfl) hs ((((hs.mem.to 3 rfl).to 1 rfl).first 2)) rfl rfl rfl (fun _ _ _ h => h) (y_loadPt 0 rfl hs Tryd.underlying94 rfl (by kernel_rfl) rfl) ?_; clear hs a; intro a hs
        refine b_eff2 4 6 (by kernel_rfl) rfl rfl #[true, true, true, true, true, true, false, false, false, false, false] #[true, true, true, true, false, true, true, false, false, false, false] rfl rfl hs rfl rfl (e_yield hs rfl rfl (y_load hs Tryd.underlying88 rfl rfl (fun w hw => (hw.to 1 rfl).cellV rfl)) ?_) (e_bslice (z := .agg #[.int .u8 0, .string ⟨#[]⟩, .int .i64 0, .int .i64 0, .int .i64 0]) (size := 5) (zc := #[.int .u8 0, .string ⟨#[]⟩, .int .i64 0, .int .i64 0, .int .i64 0]) (cl := [_, _, _, _, _]) hs rfl Tryd.underlying88 (by kernel_rfl) rfl rfl rfl (by kernel_rfl) (by rfl) rfl ?_)
        · clear hs a; intro a hs
          refine ⟨(((hs.mem.to 3 rfl).to 1 rfl).first 2), ?_⟩
          refine b_eff 6 (by kernel_rfl) rfl #[true, true, true, true, true, true, true, false, false, false, false] rfl hs rfl (e_bslice (z := .agg #[.int .u8 0, .string ⟨#[]⟩, .int .i64 0, .int .i64 0, .int .i64 0]) (size := 5) (zc := #[.int .u8 0, .string ⟨#[]⟩, .int .i64 0, .int .i64 0, .int .i64 0]) (cl := [_, _, _, _, _]) hs rfl Tryd.underlying88 (by kernel_rfl) rfl rfl rfl (by kernel_rfl) (by rfl) rfl ?_); clear hs a; intro gk a w hs
          refine ⟨(((hs.mem.to 4 rfl).to 2 rfl).first 2), ?_⟩
          refine b_eff 7 (by kernel_rfl) rfl #[true, true, true, true, true, true, true, true, false, false, false] rfl hs rfl (e_appL (z := .agg #[.int .u8 0, .string ⟨#[]⟩, .int .i64 0, .int .i64 0, .int .i64 0]) (size := 5) (bytes := 48) tokC (toks ++ (l.take i).map sayT) ([tk 2 s]) 3 rfl 0 rfl hs rfl Tryd.underlying88 (by kernel_rfl) rfl rfl tokC_len rfl rfl rfl rfl (oneT _) (by unfold maxLen; simp only [List.length_cons, List.length_nil]; omega) (by simp only [List.length_cons, List.length_nil]; omega) ?_); clear hs a; intro A3 c3 a w hs
          refine ⟨(((hs.mem.to 4 rfl).to 3 rfl).first 2), ?_⟩
          refine b_take 8 rfl #[true, true, true, true, true, true, true, true, true, false, false] rfl (by kernel_rfl) hs ((((hs.mem.to 4 rfl).to 3 rfl).first 2)) rfl rfl rfl (fun _ _ _ h => h) (y_nilchk hs rfl) ?_; clear hs a; intro a hs
          refine b_take 9 rfl #[true, true, true, true, true, true, true, true, true, true, false] rfl (by kernel_rfl) hs ((((hs.mem.to 4 rfl).to 3 rfl).first 2)) rfl rfl rfl (fun _ _ _ h => h) (y_faddr (k' := 0) 0 hs (by kernel_rfl) rfl rfl) ?_; clear hs a; intro a hs
          refine b_eff 10 (by kernel_rfl) rfl #[true, true, true, true, true, true, true, true, true, true, true] rfl hs rfl (e_store (cl := [_]) 3 rfl hs rfl rfl (by kernel_rfl) rfl rfl rfl ?_); clear hs a; intro a w hs
          refine ⟨(((hs.mem.to 4 rfl).to 4 rfl).first 2), ?_⟩
          refine b_done (by kernel_rfl) (in_normal (then_normal ?_))
          refine wp_region_lit ?_
          refine a_val hs rfl rfl rfl (y_add hs rfl rfl (by omega)) ?_; clear hs a; intro a hs
          refine a_val hs rfl rfl rfl (y_move hs rfl) ?_; clear hs a; intro a hs
          refine wpList_nil (then_normal ?_)
          have hacc : (toks ++ (l.take i).map sayT) ++ [tk 2 s] = toks ++ (l.take (i + 1)).map sayT := by rw [List.take_add_one, hsi, List.map_append, List.append_assoc, ← hT]; rfl
          rw [hacc] at hs
          refine ⟨m - 1, by omega, i + 1, A3, c3, by omega, ?_⟩
          exact (hs.mem_to (((((hs.mem.to 2 rfl).drop.to 2 rfl).drop.to 2 rfl).to 2 rfl).to 2 rfl)).cut _ ⟨rfl, rfl, rfl, rfl, trivial⟩
        · clear hs a; intro gk a w hs
          refine ⟨(((hs.mem.to 4 rfl).to 2 rfl).first 2), ?_⟩
          refine b_eff 4 (by kernel_rfl) rfl #[true, true, true, true, true, true, true, false, false, false, false] rfl hs rfl (e_yield hs rfl rfl (y_load hs Tryd.underlying88 rfl rfl (fun w hw => (hw.to 2 rfl).cellV rfl)) ?_); clear hs a; intro a hs
          refine ⟨(((hs.mem.to 4 rfl).to 2 rfl).first 2), ?_⟩
          refine b_eff 7 (by kernel_rfl) rfl #[true, true, true, true, true, true, true, true, false, false, false] rfl hs rfl (e_appL (z := .agg #[.int .u8 0, .string ⟨#[]⟩, .int .i64 0, .int .i64 0, .int .i64 0]) (size := 5) (bytes := 48) tokC (toks ++ (l.take i).map sayT) ([tk 2 s]) 3 rfl 0 rfl hs rfl Tryd.underlying88 (by kernel_rfl) rfl rfl tokC_len rfl rfl rfl rfl (oneT _) (by unfold maxLen; simp only [List.length_cons, List.length_nil]; omega) (by simp only [List.length_cons, List.length_nil]; omega) ?_); clear hs a; intro A3 c3 a w hs
          refine ⟨(((hs.mem.to 4 rfl).to 3 rfl).first 2), ?_⟩
          refine b_take 8 rfl #[true, true, true, true, true, true, true, true, true, false, false] rfl (by kernel_rfl) hs ((((hs.mem.to 4 rfl).to 3 rfl).first 2)) rfl rfl rfl (fun _ _ _ h => h) (y_nilchk hs rfl) ?_; clear hs a; intro a hs
          refine b_take 9 rfl #[true, true, true, true, true, true, true, true, true, true, false] rfl (by kernel_rfl) hs ((((hs.mem.to 4 rfl).to 3 rfl).first 2)) rfl rfl rfl (fun _ _ _ h => h) (y_faddr (k' := 0) 0 hs (by kernel_rfl) rfl rfl) ?_; clear hs a; intro a hs
          refine b_eff 10 (by kernel_rfl) rfl #[true, true, true, true, true, true, true, true, true, true, true] rfl hs rfl (e_store (cl := [_]) 3 rfl hs rfl rfl (by kernel_rfl) rfl rfl rfl ?_); clear hs a; intro a w hs
          refine ⟨(((hs.mem.to 4 rfl).to 4 rfl).first 2), ?_⟩
          refine b_done (by kernel_rfl) (in_normal (then_normal ?_))
          refine wp_region_lit ?_
          refine a_val hs rfl rfl rfl (y_add hs rfl rfl (by omega)) ?_; clear hs a; intro a hs
          refine a_val hs rfl rfl rfl (y_move hs rfl) ?_; clear hs a; intro a hs
          refine wpList_nil (then_normal ?_)
          have hacc : (toks ++ (l.take i).map sayT) ++ [tk 2 s] = toks ++ (l.take (i + 1)).map sayT := by rw [List.take_add_one, hsi, List.map_append, List.append_assoc, ← hT]; rfl
          rw [hacc] at hs
          refine ⟨m - 1, by omega, i + 1, A3, c3, by omega, ?_⟩
          exact (hs.mem_to (((((hs.mem.to 2 rfl).drop.to 2 rfl).drop.to 2 rfl).to 2 rfl).to 2 rfl)).cut _ ⟨rfl, rfl, rfl, rfl, trivial⟩
    · replace h10 := of_decide_eq_false h10
      rw [List.take_of_length_le (by omega)] at hs
      refine wp_exit (then_exit (then_exit (in_here ?_)))
      refine fin_end hs .nil ⟨A2, c2, rfl, (((hs.mem.to 2 rfl).to 2 rfl).to 2 rfl)⟩

set_option maxRecDepth 100000 in
theorem tree_operator (k : Int) (hk : 4 ≤ k ∧ k ≤ 8) (v0 : World) :
    Calls Tryd.prog 66 #[.int .u8 k] v0 fun e w' => e = .returned (.string (opS k)) ∧ Below v0.heap.size v0 w' := by
  refine calls_enter (N := 6) (n := 5) (args := [.int .u8 k]) Tryd.func66 rfl rfl rfl (H.init v0) (fun a hs => ?_)
  refine wp_seq ?_
  refine wp_region_lit ?_
  refine a_val hs rfl rfl rfl (y_assign hs rfl) ?_; clear hs a; intro a hs
  refine wpList_nil (then_normal ?_)
  refine wp_seq ?_
  refine wp_region_lit ?_
  refine a_val hs rfl rfl rfl (y_arr (zc := #[.string ⟨#[]⟩, .string ⟨#[]⟩, .string ⟨#[]⟩, .string ⟨#[]⟩, .string ⟨#[]⟩, .string ⟨#[]⟩, .string ⟨#[]⟩, .string ⟨#[]⟩, .string ⟨#[]⟩]) (size := 1) (cl := [.string ⟨#[]⟩, .string ⟨#[]⟩, .string ⟨#[]⟩, .string ⟨#[]⟩, _, _, _, _, _]) hs (by kernel_rfl) rfl (by rfl) rfl) ?_; clear hs a; intro a hs
  refine a_val hs rfl rfl rfl (y_move hs rfl) ?_; clear hs a; intro a hs
  refine a_val hs rfl rfl rfl (y_idxArr (v := .string (opS k)) hs Tryd.underlying113 Tryd.underlying9 rfl (by kernel_rfl) rfl rfl (by omega) (by omega) (by rcases (show k = 4 ∨ k = 5 ∨ k = 6 ∨ k = 7 ∨ k = 8 by omega) with rfl | rfl | rfl | rfl | rfl <;> rfl)) ?_; clear hs a; intro a hs
  refine a_val hs rfl rfl rfl (y_assign hs rfl) ?_; clear hs a; intro a hs
  refine wpList_nil (then_normal ?_)
  refine wp_ret ?_
  refine fin_ret hs (.tmp (hs.slots _ _ rfl) .nil) ⟨?_, hs.mem.base⟩
  rfl

/-- What the writer does with an expression of a shape that may be. -/
def WrOk (n : Nat) : Prop := ∀ (x : XE) (A : Option Addr) (C g : Nat) (toks : List XT) (A1 : Option Addr) (c1 : Nat) (bs : List Res) (w0 w : World), Kd.C k25 w0 A x.f3.length x.f3 → shapeX n x → toks.length + 3 * 2 ^ n ≤ 1000000 → H w0 (pt g #[.slice A1 (toks).length c1] 90 :: row 94 5 (.slice A1 (toks).length c1) (toks).length ((toks).flatMap tokC) :: bs) w →
    Calls Tryd.prog 32 #[.pointer (some ⟨g, 0, none⟩), .agg #[.int .u8 x.f0, .int .i64 x.f1, .string x.f2, .slice A x.f3.length C, .int .i64 x.f4, .int .i64 x.f5]] w fun e w' => ∃ A2 c2, e = .returned (.tuple #[]) ∧ H w0 (pt g #[.slice A2 (toks ++ toksX n x).length c2] 90 :: row 94 5 (.slice A2 (toks ++ toksX n x).length c2) (toks ++ toksX n x).length ((toks ++ toksX n x).flatMap tokC) :: bs) w'

set_option maxRecDepth 100000 in
theorem w_expr_step (n : Nat) (hn : n ≤ 16) (ih : ∀ q, q + 1 = n → WrOk q) (x : XE) (A : Option Addr) (C g : Nat) (toks : List XT) (A1 : Option Addr) (c1 : Nat) (bs : List Res) (w0 w : World) (hA : Kd.C k25 w0 A x.f3.length x.f3) (hS : shapeX n x) (hl : toks.length + 3 * 2 ^ n ≤ 1000000) (h : H w0 (pt g #[.slice A1 (toks).length c1] 90 :: row 94 5 (.slice A1 (toks).length c1) (toks).length ((toks).flatMap tokC) :: bs) w) :
    Calls Tryd.prog 32 #[.pointer (some ⟨g, 0, none⟩), .agg #[.int .u8 x.f0, .int .i64 x.f1, .string x.f2, .slice A x.f3.length C, .int .i64 x.f4, .int .i64 x.f5]] w fun e w' => ∃ A2 c2, e = .returned (.tuple #[]) ∧ H w0 (pt g #[.slice A2 (toks ++ toksX n x).length c2] 90 :: row 94 5 (.slice A2 (toks ++ toksX n x).length c2) (toks ++ toksX n x).length ((toks ++ toksX n x).flatMap tokC) :: bs) w' := by
  refine calls_enter (N := 62) (n := 60) (args := [.pointer (some ⟨g, 0, none⟩), .agg #[.int .u8 x.f0, .int .i64 x.f1, .string x.f2, .slice A x.f3.length C, .int .i64 x.f4, .int .i64 x.f5]]) Tryd.func32 rfl rfl rfl (h) (fun a hs => ?_)
  obtain ⟨q, rfl⟩ : ∃ q, n = q + 1 := by cases n with | zero => exact hS.elim | succ q => exact ⟨q, rfl⟩
  obtain ⟨hp, hq⟩ := hS
  have hk := parts_kind hp
  have h2p : 2 ^ (q + 1) = 2 * 2 ^ q := by rw [Nat.pow_succ]; omega
  have h2q : 0 < 2 ^ q := Nat.pow_pos (by decide)
  refine wp_seq ?_
  refine wp_region_lit ?_
  refine a_eff rfl (e_box (cs := #[_, _, _, _, _, _]) hs rfl rfl rfl ?_); clear hs a; intro gx a w hs
  refine wpList_nil (then_normal ?_)
  refine wp_seq ?_
  refine wp_region_lit ?_
  refine a_val hs rfl rfl rfl (y_faddr (k' := 0) 0 hs (by kernel_rfl) rfl rfl) ?_; clear hs a; intro a hs
  refine a_val hs rfl rfl rfl (y_load hs Tryd.underlying22 rfl rfl (fun w hw => (hw.to 0 rfl).cellV rfl)) ?_; clear hs a; intro a hs
  refine wpList_nil (then_normal ?_)
  refine wp_block ?_
  refine wp_seq ?_
  refine wp_region_lit ?_
  refine a_val hs rfl rfl rfl (y_cmp hs rfl rfl rfl) ?_; clear hs a; intro a hs
  refine a_val hs rfl rfl rfl (y_assign hs rfl) ?_; clear hs a; intro a hs
  refine wpList_nil (then_normal ?_)
  refine wp_cond_split (hs.ev rfl) (fun h30 => ?_) (fun h30 => ?_)
  · replace h30 := eq_of_beq h30
    replace hk : x.f0 = 1 ∧ x.f3.length = 0 := by omega
    refine b_enter [0] (by kernel_rfl) hs #[false, false, false, false, false, false, false, false, false, false, false, false, false] (by rfl) 13 (by rfl) ?_; clear hs; intro w hs
    refine b_take 0 rfl #[true, false, false, false, false, false, false, false, false, false, false, false, false] rfl (by kernel_rfl) hs ((hs.mem.first 1)) rfl rfl rfl (fun _ _ _ h => h) (y_move hs rfl) ?_; clear hs a; intro a hs
    refine b_take 1 rfl #[true, true, false, false, false, false, false, false, false, false, false, false, false] rfl (by kernel_rfl) hs ((hs.mem.first 1)) rfl rfl rfl (fun _ _ _ h => h) (y_move hs rfl) ?_; clear hs a; intro a hs
    refine b_take 2 rfl #[true, true, true, false, false, false, false, false, false, false, false, false, false] rfl (by kernel_rfl) hs ((hs.mem.first 1)) rfl rfl rfl (fun _ _ _ h => h) (y_nilchk hs rfl) ?_; clear hs a; intro a hs
    refine b_take 3 rfl #[true, true, true, true, false, false, false, false, false, false, false, false, false] rfl (by kernel_rfl) hs ((hs.mem.first 1)) rfl rfl rfl (fun _ _ _ h => h) (y_faddr (k' := 0) 0 hs (by kernel_rfl) rfl rfl) ?_; clear hs a; intro a hs
    refine b_take 5 rfl #[true, true, true, true, false, true, false, false, false, false, false, false, false] rfl (by kernel_rfl) hs ((hs.mem.first 1)) rfl rfl rfl (fun _ _ _ h => h) (y_faddr (k' := 1) 1 hs (by kernel_rfl) rfl rfl) ?_; clear hs a; intro a hs
    refine b_take 6 rfl #[true, true, true, true, false, true, true, false, false, false, false, false, false] rfl (by kernel_rfl) hs ((hs.mem.first 1)) rfl rfl rfl (fun _ _ _ h => h) (y_load hs Tryd.underlying3 rfl rfl (fun w hw => (hw.to 0 rfl).cellV rfl)) ?_; clear hs a; intro a hs
    refine b_take 7 rfl #[true, true, true, true, false, true, true, true, false, false, false, false, false] rfl (by kernel_rfl) hs ((hs.mem.first 1)) rfl rfl rfl (fun _ _ _ h => h) (y_struct (zc := #[.int .u8 0, .string ⟨#[]⟩, .int .i64 0, .int .i64 0, .int .i64 0]) (pl := [(0, 1), (1, 1), (2, 1), (3, 1), (4, 1)]) (cl := [_, .string ⟨#[]⟩, _, .int .i64 0, .int .i64 0]) hs (by kernel_rfl) rfl (by rfl) rfl) ?_; clear hs a; intro a hs
    refine b_eff2 4 8 (by kernel_rfl) rfl rfl #[true, true, true, true, true, true, true, true, false, false, false, false, false] #[true, true, true, true, false, true, true, true, true, false, false, false, false] rfl rfl hs rfl rfl (e_yield hs rfl rfl (y_load hs Tryd.underlying88 rfl rfl (fun w hw => (hw.to 1 rfl).cellV rfl)) ?_) (e_bslice (z := .agg #[.int .u8 0, .string ⟨#[]⟩, .int .i64 0, .int .i64 0, .int .i64 0]) (size := 5) (zc := #[.int .u8 0, .string ⟨#[]⟩, .int .i64 0, .int .i64 0, .int .i64 0]) (cl := [_, _, _, _, _]) hs rfl Tryd.underlying88 (by kernel_rfl) rfl rfl rfl (by kernel_rfl) (by rfl) rfl ?_)
    · clear hs a; intro a hs
      refine ⟨(hs.mem.first 1), ?_⟩
      refine b_eff 8 (by kernel_rfl) rfl #[true, true, true, true, true, true, true, true, true, false, false, false, false] rfl hs rfl (e_bslice (z := .agg #[.int .u8 0, .string ⟨#[]⟩, .int .i64 0, .int .i64 0, .int .i64 0]) (size := 5) (zc := #[.int .u8 0, .string ⟨#[]⟩, .int .i64 0, .int .i64 0, .int .i64 0]) (cl := [_, _, _, _, _]) hs rfl Tryd.underlying88 (by kernel_rfl) rfl rfl rfl (by kernel_rfl) (by rfl) rfl ?_); clear hs a; intro gk a w hs
      refine ⟨((hs.mem.to 1 rfl).first 1), ?_⟩
      refine b_eff 9 (by kernel_rfl) rfl #[true, true, true, true, true, true, true, true, true, true, false, false, false] rfl hs rfl (e_appL (z := .agg #[.int .u8 0, .string ⟨#[]⟩, .int .i64 0, .int .i64 0, .int .i64 0]) (size := 5) (bytes := 48) tokC (toks) ([⟨3, ⟨#[]⟩, x.f1, 0, 0⟩]) 3 rfl 0 rfl hs rfl Tryd.underlying88 (by kernel_rfl) rfl rfl tokC_len rfl rfl rfl rfl (oneT _) (by unfold maxLen; simp only [List.length_cons, List.length_nil]; omega) (by simp only [List.length_cons, List.length_nil]; omega) ?_); clear hs a; intro A2 c2 a w hs
      refine ⟨((hs.mem.to 2 rfl).first 1), ?_⟩
      refine b_take 10 rfl #[true, true, true, true, true, true, true, true, true, true, true, false, false] rfl (by kernel_rfl) hs (((hs.mem.to 2 rfl).first 1)) rfl rfl rfl (fun _ _ _ h => h) (y_nilchk hs rfl) ?_; clear hs a; intro a hs
      refine b_take 11 rfl #[true, true, true, true, true, true, true, true, true, true, true, true, false] rfl (by kernel_rfl) hs (((hs.mem.to 2 rfl).first 1)) rfl rfl rfl (fun _ _ _ h => h) (y_faddr (k' := 0) 0 hs (by kernel_rfl) rfl rfl) ?_; clear hs a; intro a hs
      refine b_eff 12 (by kernel_rfl) rfl #[true, true, true, true, true, true, true, true, true, true, true, true, true] rfl hs rfl (e_store (cl := [_]) 3 rfl hs rfl rfl (by kernel_rfl) rfl rfl rfl ?_); clear hs a; intro a w hs
      refine ⟨((hs.mem.to 3 rfl).first 1), ?_⟩
      refine b_done (by kernel_rfl) (in_normal ?_)
      have hX : toks ++ toksX (q + 1) x = (toks ++ [⟨3, ⟨#[]⟩, x.f1, 0, 0⟩]) := by rw [toksX, if_pos (by omega)]
      refine fin_end hs .nil ⟨A2, c2, rfl, ?_⟩
      rw [hX]; exact ((((hs.mem.to 2 rfl).drop.to 2 rfl).drop.to 1 rfl).to 1 rfl)
    · clear hs a; intro gk a w hs
      refine ⟨((hs.mem.to 1 rfl).first 1), ?_⟩
      refine b_eff 4 (by kernel_rfl) rfl #[true, true, true, true, true, true, true, true, true, false, false, false, false] rfl hs rfl (e_yield hs rfl rfl (y_load hs Tryd.underlying88 rfl rfl (fun w hw => (hw.to 2 rfl).cellV rfl)) ?_); clear hs a; intro a hs
      refine ⟨((hs.mem.to 1 rfl).first 1), ?_⟩
      refine b_eff 9 (by kernel_rfl) rfl #[true, true, true, true, true, true, true, true, true, true, false, false, false] rfl hs rfl (e_appL (z := .agg #[.int .u8 0, .string ⟨#[]⟩, .int .i64 0, .int .i64 0, .int .i64 0]) (size := 5) (bytes := 48) tokC (toks) ([⟨3, ⟨#[]⟩, x.f1, 0, 0⟩]) 3 rfl 0 rfl hs rfl Tryd.underlying88 (by kernel_rfl) rfl rfl tokC_len rfl rfl rfl rfl (oneT _) (by unfold maxLen; simp only [List.length_cons, List.length_nil]; omega) (by simp only [List.length_cons, List.length_nil]; omega) ?_); clear hs a; intro A2 c2 a w hs
      refine ⟨((hs.mem.to 2 rfl).first 1), ?_⟩
      refine b_take 10 rfl #[true, true, true, true, true, true, true, true, true, true, true, false, false] rfl (by kernel_rfl) hs (((hs.mem.to 2 rfl).first 1)) rfl rfl rfl (fun _ _ _ h => h) (y_nilchk hs rfl) ?_; clear hs a; intro a hs
      refine b_take 11 rfl #[true, true, true, true, true, true, true, true, true, true, true, true, false] rfl (by kernel_rfl) hs (((hs.mem.to 2 rfl).first 1)) rfl rfl rfl (fun _ _ _ h => h) (y_faddr (k' := 0) 0 hs (by kernel_rfl) rfl rfl) ?_; clear hs a; intro a hs
      refine b_eff 12 (by kernel_rfl) rfl #[true, true, true, true, true, true, true, true, true, true, true, true, true] rfl hs rfl (e_store (cl := [_]) 3 rfl hs rfl rfl (by kernel_rfl) rfl rfl rfl ?_); clear hs a; intro a w hs
      refine ⟨((hs.mem.to 3 rfl).first 1), ?_⟩
      refine b_done (by kernel_rfl) (in_normal ?_)
      have hX : toks ++ toksX (q + 1) x = (toks ++ [⟨3, ⟨#[]⟩, x.f1, 0, 0⟩]) := by rw [toksX, if_pos (by omega)]
      refine fin_end hs .nil ⟨A2, c2, rfl, ?_⟩
      rw [hX]; exact ((((hs.mem.to 2 rfl).drop.to 2 rfl).drop.to 1 rfl).to 1 rfl)
  · replace h30 := ne_of_beq_false h30
    refine wp_seq ?_
    refine wp_region_lit ?_
    refine a_val hs rfl rfl rfl (y_cmp hs rfl rfl rfl) ?_; clear hs a; intro a hs
    refine a_val hs rfl rfl rfl (y_assign hs rfl) ?_; clear hs a; intro a hs
    refine wpList_nil (then_normal ?_)
    refine wp_cond_split (hs.ev rfl) (fun h44 => ?_) (fun h44 => ?_)
    · replace h44 := eq_of_beq h44
      replace hk : x.f0 = 2 ∧ x.f3.length = 0 ∧ nameOk x.f2 = true := by rcases hk with h | h | h | h <;> first | exact h | omega
      refine wp_region_lit ?_
      refine a_val hs rfl rfl rfl (y_move hs rfl) ?_; clear hs a; intro a hs
      refine a_val hs rfl rfl rfl (y_faddr (k' := 2) 2 hs (by kernel_rfl) rfl rfl) ?_; clear hs a; intro a hs
      refine a_val hs rfl rfl rfl (y_load hs Tryd.underlying9 rfl rfl (fun w hw => (hw.to 0 rfl).cellV rfl)) ?_; clear hs a; intro a hs
      refine a_eff rfl (e_bslice (z := .string ⟨#[]⟩) (size := 1) (zc := #[.string ⟨#[]⟩]) (cl := [_]) hs rfl Tryd.underlying116 (by kernel_rfl) rfl rfl rfl (by kernel_rfl) (by rfl) rfl ?_); clear hs a; intro g1 a w hs
      refine a_eff rfl (e_callX Tryd.func65 rfl rfl hs rfl rfl (w_say g g1 [x.f2] (toks) _ _ 1 _ _ w0 _ (fun t ht => by rw [List.mem_singleton] at ht; subst ht; have := nameOk_size hk.2.2; omega) (by simp only [List.length_cons, List.length_append, List.length_nil]; omega) ((hs.mem.to 3 rfl).to 3 rfl)) (fun e w1 ⟨A2, c2, he, hm⟩ => ⟨_, he, _, hm, ?_⟩)); clear hs a; intro a hs
      refine wpList_nil (in_normal ?_)
      have hX : toks ++ toksX (q + 1) x = (toks ++ [sayT (x.f2)]) := by rw [toksX, if_neg (by omega), if_pos (by omega)]
      refine fin_end hs .nil ⟨A2, c2, rfl, ?_⟩
      rw [hX]; exact ((((hs.mem.to 2 rfl).drop.to 2 rfl).drop.to 1 rfl).to 1 rfl)
    · replace h44 := ne_of_beq_false h44
      refine wp_seq ?_
      refine wp_region_lit ?_
      refine a_val hs rfl rfl rfl (y_cmp hs rfl rfl rfl) ?_; clear hs a; intro a hs
      refine a_val hs rfl rfl rfl (y_assign hs rfl) ?_; clear hs a; intro a hs
      refine wpList_nil (then_normal ?_)
      refine wp_cond_split (hs.ev rfl) (fun h51 => ?_) (fun h51 => ?_)
      · replace h51 := eq_of_beq h51
        replace hk : x.f0 = 3 ∧ x.f3.length = 1 := by omega
        obtain ⟨g0, o, rfl, hcell⟩ := C_atG (show 0 < 6 by decide) hA (by omega)
        obtain ⟨cs0, hK0, hc0⟩ := hcell 0 (part x 0) (part_mem (by omega)).1
        obtain ⟨D0, d0, rfl, hlc0, hC0⟩ := k25_open hK0
        have htl0 := toks_len q (part x 0)
        refine wp_seq ?_
        refine wp_region_lit ?_
        refine a_val hs rfl rfl rfl (y_move hs rfl) ?_; clear hs a; intro a hs
        refine a_eff rfl (e_bslice (z := .string ⟨#[]⟩) (size := 1) (zc := #[.string ⟨#[]⟩]) (cl := [_]) hs rfl Tryd.underlying116 (by kernel_rfl) rfl rfl rfl (by kernel_rfl) (by rfl) rfl ?_); clear hs a; intro g1 a w hs
        refine a_eff rfl (e_callX Tryd.func65 rfl rfl hs rfl rfl (w_say g g1 [⟨#[45]⟩] (toks) _ _ 1 _ _ w0 _ (fun t ht => by rw [List.mem_singleton] at ht; subst ht; decide) (by simp only [List.length_cons, List.length_append, List.length_nil]; omega) ((hs.mem.to 3 rfl).to 3 rfl)) (fun e w1 ⟨A2, c2, he, hm⟩ => ⟨_, he, _, hm, ?_⟩)); clear hs a; intro a hs
        refine wpList_nil (then_normal ?_)
        refine wp_region_lit ?_
        refine a_val hs rfl rfl rfl (y_move hs rfl) ?_; clear hs a; intro a hs
        refine a_val hs rfl rfl rfl (y_faddr (k' := 3) 3 hs (by kernel_rfl) rfl rfl) ?_; clear hs a; intro a hs
        refine a_val hs rfl rfl rfl (y_load hs Tryd.underlying23 rfl rfl (fun w hw => (hw.to 3 rfl).cellV rfl)) ?_; clear hs a; intro a hs
        refine a_val hs rfl rfl rfl (y_idxB (size := 6) (off := o + 0 * 6) hs Tryd.underlying23 (by kernel_rfl) rfl rfl (by omega) (by omega) (by simp)) ?_; clear hs a; intro a hs
        refine a_val hs rfl rfl rfl (y_loadAgg (vs := [.int .u8 (part x 0).f0, .int .i64 (part x 0).f1, .string (part x 0).f2, .slice D0 (part x 0).f3.length d0, .int .i64 (part x 0).f4, .int .i64 (part x 0).f5]) hs Tryd.underlying25 rfl (by kernel_rfl) rfl (fun w hw k v hk => hc0 w hw.base k v hk)) ?_; clear hs a; intro a hs
        refine a_eff rfl (e_callX Tryd.func32 rfl rfl hs rfl rfl (ih q rfl (part x 0) D0 d0 g ((toks ++ [sayT (⟨#[45]⟩)])) _ _ _ w0 _ hC0 (hq _ (part_mem (by omega)).2) (by simp only [List.length_cons, List.length_append, List.length_nil]; omega) ((hs.mem.to 1 rfl).to 1 rfl)) (fun e w1 ⟨A3, c3, he, hm⟩ => ⟨_, he, _, hm, ?_⟩)); clear hs a; intro a hs
        refine wpList_nil (in_normal ?_)
        have hX : toks ++ toksX (q + 1) x = ((toks ++ [sayT (⟨#[45]⟩)]) ++ toksX q (part x 0)) := by rw [toksX, if_neg (by omega), if_neg (by omega), if_pos (by omega)]; simp only [List.append_assoc, List.cons_append, List.nil_append]
        refine fin_end hs .nil ⟨A3, c3, rfl, ?_⟩
        rw [hX]; exact ((((hs.mem.to 2 rfl).drop.to 2 rfl).drop.to 1 rfl).to 1 rfl)
      · replace h51 := ne_of_beq_false h51
        replace hk : 4 ≤ x.f0 ∧ x.f0 ≤ 8 ∧ x.f3.length = 2 := by omega
        obtain ⟨g0, o, rfl, hcell⟩ := C_atG (show 0 < 6 by decide) hA (by omega)
        obtain ⟨cs0, hK0, hc0⟩ := hcell 0 (part x 0) (part_mem (by omega)).1
        obtain ⟨D0, d0, rfl, hlc0, hC0⟩ := k25_open hK0
        have htl0 := toks_len q (part x 0)
        obtain ⟨cs1, hK1, hc1⟩ := hcell 1 (part x 1) (part_mem (by omega)).1
        obtain ⟨D1, d1, rfl, hlc1, hC1⟩ := k25_open hK1
        have htl1 := toks_len q (part x 1)
        refine wp_seq ?_
        refine wp_region_lit ?_
        refine a_val hs rfl rfl rfl (y_move hs rfl) ?_; clear hs a; intro a hs
        refine a_eff rfl (e_bslice (z := .string ⟨#[]⟩) (size := 1) (zc := #[.string ⟨#[]⟩]) (cl := [_]) hs rfl Tryd.underlying116 (by kernel_rfl) rfl rfl rfl (by kernel_rfl) (by rfl) rfl ?_); clear hs a; intro g1 a w hs
        refine a_eff rfl (e_callX Tryd.func65 rfl rfl hs rfl rfl (w_say g g1 [⟨#[40]⟩] (toks) _ _ 1 _ _ w0 _ (fun t ht => by rw [List.mem_singleton] at ht; subst ht; decide) (by simp only [List.length_cons, List.length_append, List.length_nil]; omega) ((hs.mem.to 3 rfl).to 3 rfl)) (fun e w1 ⟨A2, c2, he, hm⟩ => ⟨_, he, _, hm, ?_⟩)); clear hs a; intro a hs
        refine wpList_nil (then_normal ?_)
        refine wp_seq ?_
        refine wp_region_lit ?_
        refine a_val hs rfl rfl rfl (y_move hs rfl) ?_; clear hs a; intro a hs
        refine a_val hs rfl rfl rfl (y_faddr (k' := 3) 3 hs (by kernel_rfl) rfl rfl) ?_; clear hs a; intro a hs
        refine a_val hs rfl rfl rfl (y_load hs Tryd.underlying23 rfl rfl (fun w hw => (hw.to 3 rfl).cellV rfl)) ?_; clear hs a; intro a hs
        refine a_val hs rfl rfl rfl (y_idxB (size := 6) (off := o + 0 * 6) hs Tryd.underlying23 (by kernel_rfl) rfl rfl (by omega) (by omega) (by simp)) ?_; clear hs a; intro a hs
        refine a_val hs rfl rfl rfl (y_loadAgg (vs := [.int .u8 (part x 0).f0, .int .i64 (part x 0).f1, .string (part x 0).f2, .slice D0 (part x 0).f3.length d0, .int .i64 (part x 0).f4, .int .i64 (part x 0).f5]) hs Tryd.underlying25 rfl (by kernel_rfl) rfl (fun w hw k v hk => hc0 w hw.base k v hk)) ?_; clear hs a; intro a hs
        refine a_eff rfl (e_callX Tryd.func32 rfl rfl hs rfl rfl (ih q rfl (part x 0) D0 d0 g ((toks ++ [sayT (⟨#[40]⟩)])) _ _ _ w0 _ hC0 (hq _ (part_mem (by omega)).2) (by simp only [List.length_cons, List.length_append, List.length_nil]; omega) ((hs.mem.to 1 rfl).to 1 rfl)) (fun e w1 ⟨A3, c3, he, hm⟩ => ⟨_, he, _, hm, ?_⟩)); clear hs a; intro a hs
        refine wpList_nil (then_normal ?_)
        refine wp_seq ?_
        refine wp_region_lit ?_
        refine a_val hs rfl rfl rfl (y_move hs rfl) ?_; clear hs a; intro a hs
        refine a_val hs rfl rfl rfl (y_faddr (k' := 0) 0 hs (by kernel_rfl) rfl rfl) ?_; clear hs a; intro a hs
        refine a_val hs rfl rfl rfl (y_load hs Tryd.underlying22 rfl rfl (fun w hw => (hw.to 3 rfl).cellV rfl)) ?_; clear hs a; intro a hs
        refine a_eff rfl (e_callB Tryd.func66 rfl rfl hs rfl rfl (tree_operator x.f0 (by omega) _) ?_); clear hs a; intro a w hs
        refine a_eff rfl (e_bslice (z := .string ⟨#[]⟩) (size := 1) (zc := #[.string ⟨#[]⟩]) (cl := [_]) hs rfl Tryd.underlying116 (by kernel_rfl) rfl rfl rfl (by kernel_rfl) (by rfl) rfl ?_); clear hs a; intro g2 a w hs
        refine a_eff rfl (e_callX Tryd.func65 rfl rfl hs rfl rfl (w_say g g2 [opS x.f0] (((toks ++ [sayT (⟨#[40]⟩)]) ++ toksX q (part x 0))) _ _ 1 _ _ w0 _ (fun t ht => by rw [List.mem_singleton] at ht; subst ht; rw [opS_size]; decide) (by simp only [List.length_cons, List.length_append, List.length_nil]; omega) ((hs.mem.to 2 rfl).to 2 rfl)) (fun e w1 ⟨A4, c4, he, hm⟩ => ⟨_, he, _, hm, ?_⟩)); clear hs a; intro a hs
        refine wpList_nil (then_normal ?_)
        refine wp_seq ?_
        refine wp_region_lit ?_
        refine a_val hs rfl rfl rfl (y_move hs rfl) ?_; clear hs a; intro a hs
        refine a_val hs rfl rfl rfl (y_faddr (k' := 3) 3 hs (by kernel_rfl) rfl rfl) ?_; clear hs a; intro a hs
        refine a_val hs rfl rfl rfl (y_load hs Tryd.underlying23 rfl rfl (fun w hw => (hw.to 4 rfl).cellV rfl)) ?_; clear hs a; intro a hs
        refine a_val hs rfl rfl rfl (y_idxB (size := 6) (off := o + 1 * 6) hs Tryd.underlying23 (by kernel_rfl) rfl rfl (by omega) (by omega) (by simp)) ?_; clear hs a; intro a hs
        refine a_val hs rfl rfl rfl (y_loadAgg (vs := [.int .u8 (part x 1).f0, .int .i64 (part x 1).f1, .string (part x 1).f2, .slice D1 (part x 1).f3.length d1, .int .i64 (part x 1).f4, .int .i64 (part x 1).f5]) hs Tryd.underlying25 rfl (by kernel_rfl) rfl (fun w hw k v hk => hc1 w hw.base k v hk)) ?_; clear hs a; intro a hs
        refine a_eff rfl (e_callX Tryd.func32 rfl rfl hs rfl rfl (ih q rfl (part x 1) D1 d1 g ((((toks ++ [sayT (⟨#[40]⟩)]) ++ toksX q (part x 0)) ++ [sayT (opS x.f0)])) _ _ _ w0 _ hC1 (hq _ (part_mem (by omega)).2) (by simp only [List.length_cons, List.length_append, List.length_nil]; omega) ((hs.mem.to 1 rfl).to 1 rfl)) (fun e w1 ⟨A5, c5, he, hm⟩ => ⟨_, he, _, hm, ?_⟩)); clear hs a; intro a hs
        refine wpList_nil (then_normal ?_)
        refine wp_region_lit ?_
        refine a_val hs rfl rfl rfl (y_move hs rfl) ?_; clear hs a; intro a hs
        refine a_eff rfl (e_bslice (z := .string ⟨#[]⟩) (size := 1) (zc := #[.string ⟨#[]⟩]) (cl := [_]) hs rfl Tryd.underlying116 (by kernel_rfl) rfl rfl rfl (by kernel_rfl) (by rfl) rfl ?_); clear hs a; intro g3 a w hs
        refine a_eff rfl (e_callX Tryd.func65 rfl rfl hs rfl rfl (w_say g g3 [⟨#[41]⟩] (((((toks ++ [sayT (⟨#[40]⟩)]) ++ toksX q (part x 0)) ++ [sayT (opS x.f0)]) ++ toksX q (part x 1))) _ _ 1 _ _ w0 _ (fun t ht => by rw [List.mem_singleton] at ht; subst ht; decide) (by simp only [List.length_cons, List.length_append, List.length_nil]; omega) ((hs.mem.to 2 rfl).to 2 rfl)) (fun e w1 ⟨A6, c6, he, hm⟩ => ⟨_, he, _, hm, ?_⟩)); clear hs a; intro a hs
        refine wpList_nil (in_normal ?_)
        have hX : toks ++ toksX (q + 1) x = (((((toks ++ [sayT (⟨#[40]⟩)]) ++ toksX q (part x 0)) ++ [sayT (opS x.f0)]) ++ toksX q (part x 1)) ++ [sayT (⟨#[41]⟩)]) := by rw [toksX, if_neg (by omega), if_neg (by omega), if_neg (by omega)]; simp only [List.append_assoc, List.cons_append, List.nil_append]
        refine fin_end hs .nil ⟨A6, c6, rfl, ?_⟩
        rw [hX]; exact ((((((hs.mem.to 2 rfl).drop.to 2 rfl).drop.to 2 rfl).drop.to 2 rfl).drop.to 1 rfl).to 1 rfl)

theorem w_expr : ∀ n : Nat, n ≤ 16 → WrOk n := fun n => by
  induction n using Nat.strongRecOn with
  | _ n ih => exact fun hn x A C g toks A1 c1 bs w0 w hA hS hl h => w_expr_step n hn (fun q hq => ih q (by omega) (by omega)) x A C g toks A1 c1 bs w0 w hA hS hl h
end Go.Proofs.YtibaidddhmdafaaDoor.E
