/- EmitFresh: what is handed in stays, what is answered is new memory. Conditions: strconv's and math/bits' tables stand in their variables. -/
import Derived.Test.YtpdemfnemkmelaaDoorRdP
import Derived.Test.YtpdemfnemkmelaaDoorRdR
import Derived.Test.YtpdemfnemkmelaaDoorPSame
import Derived.Test.YtpdemfnemkmelaaDoorLawW
import Derived.Test.YtpdemfnemkmelaaDoorPAM0
namespace Go.Proofs.YtpdemfnemkmelaaDoor.E
open Go Go.RowKit Go.Proofs.YtpdemfnemkmelaaDoorW.PrintWords Go.Proofs.YtpdemfnemkmelaaDoorW.PrintLast Go.Proofs.YtpdemfnemkmelaaDoorW.PrintMore Go.Proofs.YtpdemfnemkmelaaDoor.PA Go.Proofs.YtpdemfnemkmelaaDoor.Num
set_option linter.unusedVariables false
set_option linter.unusedSimpArgs false
theorem encS_K' (w : World) (x : Stp) : k47.K w x (encS x) := k47_mk w x
theorem stepsR_len (b : List Int) (rg ot rd : Int) : ∀ (n p : Nat) (acc : List Stp), (stepsR b rg ot rd n p acc).1.length ≤ acc.length + n := by
  intro n
  induction n with
  | zero => intro p acc; simp [stepsR]
  | succ n ih =>
    intro p acc
    rw [stepsR]
    cases b.drop p with
    | nil => simp [badR]
    | cons k t =>
      simp only
      split
      · simp [badR]
      · split
        · simp [badR]
        · have := ih (p + 1 + fldN k) (acc ++ [mkS k t])
          rw [List.length_append, List.length_singleton] at this
          omega
theorem numR_len (b : List Int) (p : Nat) (most : Int) (K : Int → Nat → RRes) (h : ∀ n q, n ≤ most → (K n q).1.length ≤ 65536) : (numR b p most K).1.length ≤ 65536 := by
  unfold numR
  split
  · split
    · simp [badR]
    · exact h _ _ (by omega)
  · simp [badR]
theorem bytesR_len (b : List Int) (K : Int → Nat → RRes) (h : ∀ n q, (K n q).1.length ≤ 65536) : ∀ (n p : Nat) (v : Int), (bytesR b K n p v).1.length ≤ 65536 := by
  intro n
  induction n with
  | zero => intro p v; exact h v p
  | succ n ih =>
    intro p v
    rw [bytesR]
    cases b.drop p with
    | nil => simp [badR]
    | cons k t => exact ih _ _
theorem readR_len (b : List Int) (hz : b.length ≤ 140737488355328) : (readR b).1.length ≤ 65536 := by
  refine numR_len b 0 256 _ (fun rg p1 _ => numR_len b p1 64 _ (fun ot p2 _ => bytesR_len b _ (fun rd p3 => numR_len b p3 65536 _ (fun n p4 hn => ?_)) 8 p2 0))
  have := stepsR_len b rg ot rd n.toNat p4 []
  simp only [List.length_nil] at this
  unfold readK4
  omega

set_option maxRecDepth 100000 in
theorem law_EmitReads (A : Option Addr) (c : Nat) (b : List Int) (hc : b.length ≤ c) (hb : byteL b) (hz : b.length ≤ 140737488355328) (v0 : World) (hA : Kd.C (Kd.int .u8) v0 A b.length b) (hP : Pow10 v0) (hD : DB v0) :
    Calls Tryd.prog 7 #[.slice A b.length c] v0 fun e w' => e = .returned (.bool true) ∧ Below v0.heap.size v0 w' := by
  refine calls_enter (N := 37) (n := 36) (args := [.slice A b.length c]) Tryd.func7 rfl rfl rfl (H.init v0) (fun a hs => ?_)
  refine wp_seq ?_
  refine wp_region_lit ?_
  refine a_val hs rfl rfl rfl (y_assign hs rfl) ?_; clear hs a; intro a hs
  refine wpList_nil (then_normal ?_)
  refine wp_seq ?_
  refine wp_region_lit ?_
  refine a_val hs rfl rfl rfl (y_move hs rfl) ?_; clear hs a; intro a hs
  refine a_eff rfl (e_callX Tryd.func14 rfl rfl hs rfl rfl (emit_Read A c b hc hb hz _ (Kd.C_below hA hs.mem.base)) (fun e w1 ⟨A1, c1, he, hm⟩ => ⟨_, he, _, hs.mem.more hm, ?_⟩)); clear hs a; intro a hs
  refine a_val hs rfl rfl rfl (y_move hs rfl) ?_; clear hs a; intro a hs
  refine a_val hs rfl rfl rfl (y_extract hs rfl rfl) ?_; clear hs a; intro a hs
  refine a_val hs rfl rfl rfl (y_extract hs rfl rfl) ?_; clear hs a; intro a hs
  refine a_val hs rfl rfl rfl (y_extract hs rfl rfl) ?_; clear hs a; intro a hs
  refine a_eff rfl (e_alloc (z := .agg #[.slice none 0 0, .int .i64 0, .int .i64 0, .int .u64 0]) (cs := #[.slice none 0 0, .int .i64 0, .int .i64 0, .int .u64 0]) hs rfl (by kernel_rfl) rfl ?_); clear hs a; intro p1 a w hs
  refine a_eff rfl (e_store (cl := [_, _, _, _]) 0 rfl hs rfl rfl (by kernel_rfl) rfl rfl rfl ?_); clear hs a; intro a w hs
  refine a_val hs rfl rfl rfl (y_assign hs rfl) ?_; clear hs a; intro a hs
  refine a_val hs rfl rfl rfl (y_assign hs rfl) ?_; clear hs a; intro a hs
  refine wpList_nil (then_normal ?_)
  refine wp_seq ?_
  refine wp_region_lit ?_
  refine a_val hs rfl rfl rfl (y_move hs rfl) ?_; clear hs a; intro a hs
  refine a_eff rfl (e_callX Tryd.func23 rfl rfl hs rfl rfl (ref_Read A c b hc hb hz _ (Kd.C_below hA hs.mem.base)) (fun e w1 ⟨A2, c2, he, hm⟩ => ⟨_, he, _, hs.mem.more hm, ?_⟩)); clear hs a; intro a hs
  refine a_val hs rfl rfl rfl (y_move hs rfl) ?_; clear hs a; intro a hs
  refine a_val hs rfl rfl rfl (y_extract hs rfl rfl) ?_; clear hs a; intro a hs
  refine a_val hs rfl rfl rfl (y_extract hs rfl rfl) ?_; clear hs a; intro a hs
  refine a_val hs rfl rfl rfl (y_extract hs rfl rfl) ?_; clear hs a; intro a hs
  refine a_eff rfl (e_alloc (z := .agg #[.slice none 0 0, .int .i64 0, .int .i64 0, .int .u64 0]) (cs := #[.slice none 0 0, .int .i64 0, .int .i64 0, .int .u64 0]) hs rfl (by kernel_rfl) rfl ?_); clear hs a; intro p2 a w hs
  refine a_eff rfl (e_store (cl := [_, _, _, _]) 0 rfl hs rfl rfl (by kernel_rfl) rfl rfl rfl ?_); clear hs a; intro a w hs
  refine a_val hs rfl rfl rfl (y_assign hs rfl) ?_; clear hs a; intro a hs
  refine a_val hs rfl rfl rfl (y_assign hs rfl) ?_; clear hs a; intro a hs
  refine wpList_nil (then_normal ?_)
  refine wp_seq ?_
  refine wp_region_lit ?_
  refine a_val hs rfl rfl rfl (y_loadPt 2 rfl hs Tryd.underlying26 rfl (by kernel_rfl) rfl) ?_; clear hs a; intro a hs
  refine a_val hs rfl rfl rfl (y_loadPt 0 rfl hs Tryd.underlying26 rfl (by kernel_rfl) rfl) ?_; clear hs a; intro a hs
  have hrl := readR_len b hz
  refine a_eff rfl (e_callB Tryd.func17 rfl rfl hs rfl rfl (psame_refl A1 A2 c1 c2 _ _ _ _ _ ((hs.mem.to 3 rfl).rowC encS_K' encS_len rfl rfl (by omega)) ((hs.mem.to 1 rfl).rowC encS_K' encS_len rfl rfl (by omega)) (by omega)) ?_); clear hs a; intro a w hs
  refine a_val hs rfl rfl rfl (y_move hs rfl) ?_; clear hs a; intro a hs
  refine a_valG hs rfl rfl rfl (y_move hs rfl) ?_; clear hs a; intro a hs
  refine a_valG hs rfl rfl rfl (y_move hs rfl) ?_; clear hs a; intro a hs
  refine a_valG hs rfl rfl rfl (y_cmp (b := true) hs rfl rfl (congrArg some (beq_iff_eq.2 (rfl)))) ?_; clear hs a; intro a hs
  refine a_val hs rfl rfl rfl (y_pickT hs rfl rfl rfl) ?_; clear hs a; intro a hs
  refine a_val hs rfl rfl rfl (y_move hs rfl) ?_; clear hs a; intro a hs
  refine a_valG hs rfl rfl rfl (y_move hs rfl) ?_; clear hs a; intro a hs
  refine a_valG hs rfl rfl rfl (y_move hs rfl) ?_; clear hs a; intro a hs
  refine a_valG hs rfl rfl rfl (y_cmp (b := true) hs rfl rfl (congrArg some (beq_iff_eq.2 (rfl)))) ?_; clear hs a; intro a hs
  refine a_val hs rfl rfl rfl (y_pickT hs rfl rfl rfl) ?_; clear hs a; intro a hs
  refine a_val hs rfl rfl rfl (y_move hs rfl) ?_; clear hs a; intro a hs
  refine a_effG hs rfl (e_callB Tryd.func13 rfl rfl hs rfl rfl (law_anchored _ (varKeep hs.mem.base hP) (varKeep hs.mem.base hD)) ?_); clear hs a; intro a w hs
  refine a_val hs rfl rfl rfl (y_pickT hs rfl rfl rfl) ?_; clear hs a; intro a hs
  refine a_val hs rfl rfl rfl (y_assign hs rfl) ?_; clear hs a; intro a hs
  refine wpList_nil (then_normal ?_)
  refine wp_ret ?_
  refine fin_ret hs (.tmp (hs.slots _ _ rfl) .nil) ⟨rfl, hs.mem.base⟩
end Go.Proofs.YtpdemfnemkmelaaDoor.E
namespace Go.Proofs.YtpdemfnemkmelaaDoor.E
open Go Go.RowKit Go.Proofs.YtpdemfnemkmelaaDoorW.PrintWords Go.Proofs.YtpdemfnemkmelaaDoorW.PrintLast Go.Proofs.YtpdemfnemkmelaaDoorW.PrintMore Go.Proofs.YtpdemfnemkmelaaDoor.PA Go.Proofs.YtpdemfnemkmelaaDoor.Num
set_option linter.unusedVariables false
set_option linter.unusedSimpArgs false
theorem H.kept {w0 w w' : World} {e : TypeId} {size n : Nat} {v : Value} {xs : List Value} {bs : List Res} (h : H w0 (row e size v n xs :: bs) w) (hb : Below w0.heap.size w0 w') (hk : Kept w w' (fun k => v.ownBlock = some k)) : H w0 bs w' := by
  have hp := List.pairwise_cons.1 h.apart
  refine ⟨hb, fun s hs => ?_, hp.2⟩
  have h1 := h.own s (.tail _ hs)
  refine ⟨s.keep w w' (fun g hg => hk.2 g (h1.2 g hg).2 (fun e1 => hp.1 s hs g e1 hg)) h1.1, fun g hg => ⟨(h1.2 g hg).1, Nat.lt_of_lt_of_le (h1.2 g hg).2 hk.1⟩⟩
theorem spoil_l1 (a : Int) : ∀ (d i k : Nat) (l : List Int), i + d = l.length → l.length < 9223372036854775807 → d < k → recoupref01_Spoil.l1 k l a (i : Int) = some () := by
  intro d
  induction d with
  | zero =>
    intro i k l h hz hk
    obtain ⟨k, rfl⟩ : ∃ m, k = m + 1 := ⟨k - 1, by omega⟩
    simp only [recoupref01_Spoil.l1]; rw [if_neg (by omega)]
  | succ d ih =>
    intro i k l h hz hk
    obtain ⟨k, rfl⟩ : ∃ m, k = m + 1 := ⟨k - 1, by omega⟩
    simp only [recoupref01_Spoil.l1]
    have hw : wrap64 ((i : Int) + 1) = ((i + 1 : Nat) : Int) := by unfold wrap64; omega
    rw [if_pos (by omega), if_pos (by omega), hw]
    exact ih (i + 1) k _ (by rw [List.length_set]; omega) (by rw [List.length_set]; exact hz) (by omega)
theorem spoil_l0 (a : Int) (n : Nat) (hn : n + 3 < 140737488355328) : ∀ (d i k : Nat) (l : List Int), i + d = l.length → l.length = n → d + n + 4 < k → recoupref01_Spoil.l0 k l a (i : Int) = some () := by
  intro d
  induction d with
  | zero =>
    intro i k l h hl hk
    obtain ⟨k, rfl⟩ : ∃ m, k = m + 1 := ⟨k - 1, by omega⟩
    simp only [recoupref01_Spoil.l0]; rw [if_neg (by omega)]
    simp only [Option.bind_some, List.length_cons, List.length_nil]
    rw [if_pos (by omega)]
    exact spoil_l1 a (n + 3) 0 k _ (by rw [List.length_append, List.length_cons, List.length_cons, List.length_cons, List.length_nil]; omega) (by rw [List.length_append, List.length_cons, List.length_cons, List.length_cons, List.length_nil]; omega) (by omega)
  | succ d ih =>
    intro i k l h hl hk
    obtain ⟨k, rfl⟩ : ∃ m, k = m + 1 := ⟨k - 1, by omega⟩
    simp only [recoupref01_Spoil.l0]
    have hw : wrap64 ((i : Int) + 1) = ((i + 1 : Nat) : Int) := by unfold wrap64; omega
    rw [if_pos (by omega), if_pos (by omega), hw]
    exact ih (i + 1) k _ (by rw [List.length_set]; omega) (by rw [List.length_set]; exact hl) (by omega)
theorem spoil_ok (l : List Int) (a : Int) (h : l.length ≤ 1000000) : ∃ k, recoupref01_Spoil.f k l a = some () :=
  ⟨l.length + l.length + 5, by unfold recoupref01_Spoil.f; exact spoil_l0 a l.length (by omega) l.length 0 _ l (by omega) rfl (by omega)⟩
theorem writeA_short (l : List Stp) (regs outs reads : Int) : (writeA l regs outs reads).1.length ≤ 1000000 := by
  unfold writeA
  cases hok : okProg l regs outs with
  | false => simp
  | true =>
    have h := accLen l regs outs reads l.length (okProg_yes hok).1
    rw [List.take_of_length_le (Nat.le_refl _)] at h
    simp only [if_true, writeL]
    simp only [List.length_append] at h ⊢
    omega
theorem copyP_H (A : Option Addr) (c : Nat) (l : List Stp) (a1 a2 a3 : Int) (v0 : World) (hA : Kd.C k47 v0 A l.length l) (hc : l.length ≤ c) (hl : l.length < 4398046511104) :
    Calls Tryd.prog 19 #[.agg #[.slice A l.length c, .int .i64 a1, .int .i64 a2, .int .u64 a3]] v0 fun e w' => ∃ A' c', e = .returned (.agg #[.slice A' l.length c', .int .i64 a1, .int .i64 a2, .int .u64 a3]) ∧ H v0 [row 47 4 (.slice A' (l).length c') (l).length ((l).flatMap encS)] w' := by
  refine (recoupref23_Copy.calls A c l a1 a2 a3 l a1 a2 a3 v0 hA hc (by unfold recoupref23_Copy.f; simp only [Option.bind_some, List.length_nil, List.nil_append]; rw [if_pos (by omega)])).mono ?_
  rintro e w' ⟨v, rfl, hR, hb⟩
  obtain ⟨A', c', rfl, hm⟩ := (H.init v0).addR encS_M encS_len hb hR
  exact ⟨A', c', rfl, hm⟩
theorem copyB_H (A : Option Addr) (c : Nat) (b : List Int) (v0 : World) (hA : Kd.C (Kd.int .u8) v0 A b.length b) (hc : b.length ≤ c) (hl : b.length ≤ 140737488355327) :
    Calls Tryd.prog 15 #[.slice A b.length c] v0 fun e w' => ∃ A' c', e = .returned (.slice A' b.length c') ∧ H v0 [row 5 1 (.slice A' (b).length c') (b).length ((b).flatMap encU)] w' := by
  refine (recoupref01_Copy.calls A c b b v0 hA hc (by unfold recoupref01_Copy.f; simp only [Option.bind_some, List.length_nil, List.nil_append]; rw [if_pos (by omega)])).mono ?_
  rintro e w' ⟨v, rfl, hR, hb⟩
  obtain ⟨A', c', rfl, hm⟩ := (H.init v0).addR encU_M encU_len hb hR
  exact ⟨A', c', rfl, hm⟩

set_option maxRecDepth 100000 in
theorem law_EmitFresh (A : Option Addr) (c : Nat) (l : List Stp) (regs outs : Int) (r : Nat) (hr : r < 2 ^ 64) (v0 : World) (hA : Kd.C k47 v0 A l.length l) (hg : ∀ s ∈ l, 0 ≤ s.f0 ∧ 0 ≤ s.f3 ∧ s.f3 ≤ 255) (hc : l.length ≤ c) (hl : l.length < 4398046511104) (A0 : Option Addr) (c0 : Nat) (b : List Int) (hB : Kd.C (Kd.int .u8) v0 A0 b.length b) (hcb : b.length ≤ c0) (hb : byteL b) (hz : b.length ≤ 140737488355327) (hP : Pow10 v0) (hD : DB v0) :
    Calls Tryd.prog 5 #[.agg #[.slice A l.length c, .int .i64 regs, .int .i64 outs, .int .u64 (r : Int)], .slice A0 b.length c0] v0 fun e w' => e = .returned (.bool true) ∧ Below v0.heap.size v0 w' := by
  refine calls_enter (N := 77) (n := 75) (args := [.agg #[.slice A l.length c, .int .i64 regs, .int .i64 outs, .int .u64 (r : Int)], .slice A0 b.length c0]) Tryd.func5 rfl rfl rfl (H.init v0) (fun a hs => ?_)
  refine wp_seq ?_
  refine wp_region_lit ?_
  refine a_eff rfl (e_box (cs := #[_, _, _, _]) hs rfl rfl rfl ?_); clear hs a; intro gp a w hs
  refine a_val hs rfl rfl rfl (y_assign hs rfl) ?_; clear hs a; intro a hs
  refine wpList_nil (then_normal ?_)
  refine wp_seq ?_
  refine wp_region_lit ?_
  refine a_val hs rfl rfl rfl (y_loadPt 0 rfl hs Tryd.underlying26 rfl (by kernel_rfl) rfl) ?_; clear hs a; intro a hs
  refine a_eff rfl (e_callX Tryd.func19 rfl rfl hs rfl rfl (copyP_H A c l regs outs (r : Int) _ (Kd.C_below hA hs.mem.base) hc hl) (fun e w1 ⟨Aq, cq, he, hm⟩ => ⟨_, he, _, hs.mem.more hm, ?_⟩)); clear hs a; intro a hs
  refine a_val hs rfl rfl rfl (y_move hs rfl) ?_; clear hs a; intro a hs
  refine a_eff rfl (e_callX Tryd.func15 rfl rfl hs rfl rfl (copyB_H A0 c0 b _ (Kd.C_below hB hs.mem.base) hcb hz) (fun e w1 ⟨Ac, cc, he, hm⟩ => ⟨_, he, _, hs.mem.more hm, ?_⟩)); clear hs a; intro a hs
  refine a_eff rfl (e_alloc (z := .agg #[.slice none 0 0, .int .i64 0, .int .i64 0, .int .u64 0]) (cs := #[.slice none 0 0, .int .i64 0, .int .i64 0, .int .u64 0]) hs rfl (by kernel_rfl) rfl ?_); clear hs a; intro gq a w hs
  refine a_eff rfl (e_store (cl := [_, _, _, _]) 0 rfl hs rfl rfl (by kernel_rfl) rfl rfl rfl ?_); clear hs a; intro a w hs
  refine a_val hs rfl rfl rfl (y_assign hs rfl) ?_; clear hs a; intro a hs
  refine wpList_nil (then_normal ?_)
  refine wp_seq ?_
  refine wp_region_lit ?_
  refine a_val hs rfl rfl rfl (y_loadPt 0 rfl hs Tryd.underlying26 rfl (by kernel_rfl) rfl) ?_; clear hs a; intro a hs
  refine a_eff rfl (e_callX Tryd.func10 rfl rfl hs rfl rfl (Write_ok Aq cq l regs outs (r : Int) _ ((hs.mem.to 2 rfl).rowC encS_K' encS_len rfl rfl (by omega)).1 hg) (fun e w1 ⟨Ax, cx, he, hm⟩ => ⟨_, he, _, hs.mem.more hm, ?_⟩)); clear hs a; intro a hs
  refine a_val hs rfl rfl rfl (y_move hs rfl) ?_; clear hs a; intro a hs
  refine a_val hs rfl rfl rfl (y_extract hs rfl rfl) ?_; clear hs a; intro a hs
  refine a_val hs rfl rfl rfl (y_extract hs rfl rfl) ?_; clear hs a; intro a hs
  refine a_val hs rfl rfl rfl (y_assign hs rfl) ?_; clear hs a; intro a hs
  refine a_val hs rfl rfl rfl (y_assign hs rfl) ?_; clear hs a; intro a hs
  refine wpList_nil (then_normal ?_)
  refine wp_seq ?_
  refine wp_region_lit ?_
  refine a_val hs rfl rfl rfl (y_move hs rfl) ?_; clear hs a; intro a hs
  refine a_eff rfl (e_callX Tryd.func14 rfl rfl hs rfl rfl (emit_Read Ac cc b ((hs.mem.to 2 rfl).rowC (d := Kd.int .u8) (fun _ _ => rfl) encU_len rfl rfl (by omega)).2 hb (by omega) _ ((hs.mem.to 2 rfl).rowC (d := Kd.int .u8) (fun _ _ => rfl) encU_len rfl rfl (by omega)).1) (fun e w1 ⟨Ay, cy, he, hm⟩ => ⟨_, he, _, hs.mem.more hm, ?_⟩)); clear hs a; intro a hs
  refine a_val hs rfl rfl rfl (y_move hs rfl) ?_; clear hs a; intro a hs
  refine a_val hs rfl rfl rfl (y_extract hs rfl rfl) ?_; clear hs a; intro a hs
  refine a_val hs rfl rfl rfl (y_extract hs rfl rfl) ?_; clear hs a; intro a hs
  refine a_val hs rfl rfl rfl (y_extract hs rfl rfl) ?_; clear hs a; intro a hs
  refine a_eff rfl (e_alloc (z := .agg #[.slice none 0 0, .int .i64 0, .int .i64 0, .int .u64 0]) (cs := #[.slice none 0 0, .int .i64 0, .int .i64 0, .int .u64 0]) hs rfl (by kernel_rfl) rfl ?_); clear hs a; intro gy a w hs
  refine a_eff rfl (e_store (cl := [_, _, _, _]) 0 rfl hs rfl rfl (by kernel_rfl) rfl rfl rfl ?_); clear hs a; intro a w hs
  refine a_val hs rfl rfl rfl (y_assign hs rfl) ?_; clear hs a; intro a hs
  refine a_val hs rfl rfl rfl (y_assign hs rfl) ?_; clear hs a; intro a hs
  refine wpList_nil (then_normal ?_)
  refine wp_seq ?_
  refine wp_region_lit ?_
  refine a_val hs rfl rfl rfl (y_move hs rfl) ?_; clear hs a; intro a hs
  obtain ⟨ks, hks⟩ := spoil_ok (writeA l regs outs (r : Int)).1 5 (writeA_short l regs outs (r : Int))
  refine a_eff rfl (e_callX Tryd.func20 rfl rfl hs rfl rfl (recoupref01_Spoil.calls ks _ _ (writeA l regs outs (r : Int)).1 5 v0 _ hs.mem.base ((hs.mem.to 2 rfl).rowR (d := Kd.int .u8) (fun _ _ _ _ => rfl) encU_len rfl) hks) (fun e w1 ⟨he, hb1, hk1⟩ => ⟨_, he, _, ((hs.mem.to 2 rfl)).kept hb1 hk1, ?_⟩)); clear hs a; intro a hs
  refine wpList_nil (then_normal ?_)
  refine wp_seq ?_
  refine wp_seq ?_
  refine wp_region_lit ?_
  refine a_val hs rfl rfl rfl (y_assign hs rfl) ?_; clear hs a; intro a hs
  refine wpList_nil (then_normal ?_)
  refine wp_block ?_
  obtain ⟨nY, hnY⟩ : ∃ n, n = (readR b).1.length := ⟨_, rfl⟩
  rw [← hnY] at hs
  have hY := readR_len b (by omega)
  rw [← hnY] at hY
  refine wp_loopN (fun m a w1 => ∃ (i : Nat) (ly : List Stp), (i + m = nY) ∧ (ly.length = nY) ∧ St 77 v0 [(1, .slice A0 b.length c0), (2, .pointer (some ⟨gp, 0, none⟩)), (5, .pointer (some ⟨gq, 0, none⟩)), (6, .slice Ac b.length cc), (9, .pointer (some ⟨gy, 0, none⟩)), (12, .int .i64 ((i : Nat) : Int))] [pt gy #[.slice Ay nY cy, .int .i64 (readR b).2.1, .int .i64 (readR b).2.2.1, .int .u64 (readR b).2.2.2.1] 26, row 47 4 (.slice Ay nY cy) nY ((ly).flatMap encS), pt gq #[.slice Aq l.length cq, .int .i64 regs, .int .i64 outs, .int .u64 (r : Int)] 26, pt gp #[.slice A l.length c, .int .i64 regs, .int .i64 outs, .int .u64 (r : Int)] 26, row 5 1 (.slice Ac (b).length cc) (b).length ((b).flatMap encU), row 47 4 (.slice Aq (l).length cq) (l).length ((l).flatMap encS)] a w1) (nY) ⟨0, (readR b).1, by omega, hnY.symm, ?_⟩ (fun m a w1 hJ => ?_)
  · exact (hs.mem_to ((((((hs.mem.to 4 rfl).to 4 rfl).to 5 rfl).to 5 rfl).to 5 rfl).to 5 rfl)).cut _ ⟨rfl, rfl, rfl, rfl, rfl, rfl, trivial⟩
  · clear hs
    obtain ⟨i, ly, hi, hly, hs⟩ := hJ
    refine wp_seq ?_
    refine wp_seq ?_
    refine wp_region_lit ?_
    refine a_val hs rfl rfl rfl (y_move hs rfl) ?_; clear hs a; intro a hs
    refine a_val hs rfl rfl rfl (y_faddr (k' := 0) 0 hs (by kernel_rfl) rfl rfl) ?_; clear hs a; intro a hs
    refine a_val hs rfl rfl rfl (y_load hs Tryd.underlying22 rfl rfl (fun w hw => (hw.to 0 rfl).cellV rfl)) ?_; clear hs a; intro a hs
    refine a_val hs rfl rfl rfl (y_lenL hs Tryd.underlying22 rfl) ?_; clear hs a; intro a hs
    refine a_val hs rfl rfl rfl (y_cmp hs rfl rfl rfl) ?_; clear hs a; intro a hs
    refine wpList_nil (then_normal ?_)
    refine wp_cond_split (hs.ev rfl) (fun h38 => ?_) (fun h38 => ?_)
    · replace h38 := of_decide_eq_true h38
      subst hly
      obtain ⟨gz, rfl⟩ := (hs.mem.to 1 rfl).rowAddr (by omega)
      refine wp_skip (then_normal ?_)
      refine wp_seq ?_
      refine wp_block ?_
      refine wp_region_lit ?_
      refine a_val hs rfl rfl rfl (y_faddr (k' := 0) 0 hs (by kernel_rfl) rfl rfl) ?_; clear hs a; intro a hs
      refine a_val hs rfl rfl rfl (y_load hs Tryd.underlying22 rfl rfl (fun w hw => (hw.to 0 rfl).cellV rfl)) ?_; clear hs a; intro a hs
      refine a_val hs rfl rfl rfl (y_move hs rfl) ?_; clear hs a; intro a hs
      refine a_val hs rfl rfl rfl (y_struct (zc := #[.int .u8 0, .int .i64 0, .int .i64 0, .int .u8 0]) (pl := [(0, 1), (1, 1), (2, 1), (3, 1)]) (cl := [_, _, .int .i64 0, .int .u8 0]) hs (by kernel_rfl) rfl (by rfl) rfl) ?_; clear hs a; intro a hs
      refine a_val hs rfl rfl rfl (y_idxA (size := 4) (off := i * 4) hs Tryd.underlying22 (by kernel_rfl) rfl rfl (by omega) (by omega) (by simp)) ?_; clear hs a; intro a hs
      refine a_eff rfl (e_storeL encS ly ⟨9, 9, 0, 0⟩ 1 rfl hs rfl rfl (by kernel_rfl) (fun _ => rfl) rfl rfl rfl (by omega) ?_); clear hs a; intro a w hs
      refine wpList_nil (in_normal (then_normal ?_))
      refine wp_region_lit ?_
      refine a_val hs rfl rfl rfl (y_move hs rfl) ?_; clear hs a; intro a hs
      refine a_val hs rfl rfl rfl (y_add hs rfl rfl (by omega)) ?_; clear hs a; intro a hs
      refine a_val hs rfl rfl rfl (y_assign hs rfl) ?_; clear hs a; intro a hs
      refine wpList_nil (then_normal ?_)
      rw [List.length_set] at hs
      refine ⟨m - 1, by omega, i + 1, ly.set i ⟨9, 9, 0, 0⟩, by omega, by rw [List.length_set], ?_⟩
      exact (hs.mem_to ((((((hs.mem.to 5 rfl).to 5 rfl).to 5 rfl).to 5 rfl).to 4 rfl).to 5 rfl)).cut _ ⟨rfl, rfl, rfl, rfl, rfl, rfl, trivial⟩
    · replace h38 := of_decide_eq_false h38
      refine wp_exit (then_exit (then_exit (in_here (then_normal ?_))))
      refine wp_seq ?_
      refine wp_region_lit ?_
      refine a_val hs rfl rfl rfl (y_loadPt 2 rfl hs Tryd.underlying26 rfl (by kernel_rfl) rfl) ?_; clear hs a; intro a hs
      refine a_eff rfl (e_callX Tryd.func10 rfl rfl hs rfl rfl (Write_ok Aq cq l regs outs (r : Int) _ ((hs.mem.to 5 rfl).rowC encS_K' encS_len rfl rfl (by omega)).1 hg) (fun e w1 ⟨Az, cz, he, hm⟩ => ⟨_, he, _, hs.mem.more hm, ?_⟩)); clear hs a; intro a hs
      refine a_val hs rfl rfl rfl (y_move hs rfl) ?_; clear hs a; intro a hs
      refine a_val hs rfl rfl rfl (y_extract hs rfl rfl) ?_; clear hs a; intro a hs
      refine a_val hs rfl rfl rfl (y_extract hs rfl rfl) ?_; clear hs a; intro a hs
      refine a_val hs rfl rfl rfl (y_assign hs rfl) ?_; clear hs a; intro a hs
      refine a_val hs rfl rfl rfl (y_assign hs rfl) ?_; clear hs a; intro a hs
      refine wpList_nil (then_normal ?_)
      refine wp_seq ?_
      refine wp_region_lit ?_
      refine a_val hs rfl rfl rfl (y_loadPt 4 rfl hs Tryd.underlying26 rfl (by kernel_rfl) rfl) ?_; clear hs a; intro a hs
      refine a_eff rfl (e_callX Tryd.func21 rfl rfl hs rfl rfl (WriteR_ok A c l regs outs (r : Int) _ (Kd.C_below hA hs.mem.base) hg) (fun e w1 ⟨Au, cu, he, hm⟩ => ⟨_, he, _, hs.mem.more hm, ?_⟩)); clear hs a; intro a hs
      refine a_val hs rfl rfl rfl (y_move hs rfl) ?_; clear hs a; intro a hs
      refine a_val hs rfl rfl rfl (y_extract hs rfl rfl) ?_; clear hs a; intro a hs
      refine a_val hs rfl rfl rfl (y_extract hs rfl rfl) ?_; clear hs a; intro a hs
      refine a_val hs rfl rfl rfl (y_assign hs rfl) ?_; clear hs a; intro a hs
      refine a_val hs rfl rfl rfl (y_assign hs rfl) ?_; clear hs a; intro a hs
      refine wpList_nil (then_normal ?_)
      refine wp_seq ?_
      refine wp_region_lit ?_
      refine a_eff rfl (e_callB Tryd.func13 rfl rfl hs rfl rfl (law_anchored _ (varKeep hs.mem.base hP) (varKeep hs.mem.base hD)) ?_); clear hs a; intro a w hs
      refine a_val hs rfl rfl rfl (y_move hs rfl) ?_; clear hs a; intro a hs
      refine a_valG hs rfl rfl rfl (y_loadPt 4 rfl hs Tryd.underlying26 rfl (by kernel_rfl) rfl) ?_; clear hs a; intro a hs
      refine a_valG hs rfl rfl rfl (y_loadPt 5 rfl hs Tryd.underlying26 rfl (by kernel_rfl) rfl) ?_; clear hs a; intro a hs
      refine a_effG hs rfl (e_callB Tryd.func17 rfl rfl hs rfl rfl (psame_refl Aq A cq c l regs outs (r : Int) _ ((hs.mem.to 7 rfl).rowC encS_K' encS_len rfl rfl (by omega)) ⟨Kd.C_below hA hs.mem.base, hc⟩ (by omega)) ?_); clear hs a; intro a w hs
      refine a_val hs rfl rfl rfl (y_pickT hs rfl rfl rfl) ?_; clear hs a; intro a hs
      refine a_val hs rfl rfl rfl (y_move hs rfl) ?_; clear hs a; intro a hs
      refine a_valG hs rfl rfl rfl (y_move hs rfl) ?_; clear hs a; intro a hs
      refine a_valG hs rfl rfl rfl (y_move hs rfl) ?_; clear hs a; intro a hs
      refine a_effG hs rfl (e_callB Tryd.func18 rfl rfl hs rfl rfl (same_refl Ac A0 cc c0 b _ ((hs.mem.to 6 rfl).rowC (d := Kd.int .u8) (fun _ _ => rfl) encU_len rfl rfl (by omega)) ⟨Kd.C_below hB hs.mem.base, hcb⟩) ?_); clear hs a; intro a w hs
      refine a_val hs rfl rfl rfl (y_pickT hs rfl rfl rfl) ?_; clear hs a; intro a hs
      refine a_val hs rfl rfl rfl (y_move hs rfl) ?_; clear hs a; intro a hs
      refine a_valG hs rfl rfl rfl (y_move hs rfl) ?_; clear hs a; intro a hs
      refine a_valG hs rfl rfl rfl (y_move hs rfl) ?_; clear hs a; intro a hs
      refine a_effG hs rfl (e_callB Tryd.func18 rfl rfl hs rfl rfl (same_refl Az Au cz cu _ _ ((hs.mem.to 1 rfl).rowC (d := Kd.int .u8) (fun _ _ => rfl) encU_len rfl rfl (writeA_len _ _ _ _)) ((hs.mem.to 0 rfl).rowC (d := Kd.int .u8) (fun _ _ => rfl) encU_len rfl rfl (writeA_len _ _ _ _))) ?_); clear hs a; intro a w hs
      refine a_val hs rfl rfl rfl (y_pickT hs rfl rfl rfl) ?_; clear hs a; intro a hs
      refine a_val hs rfl rfl rfl (y_move hs rfl) ?_; clear hs a; intro a hs
      refine a_valG hs rfl rfl rfl (y_move hs rfl) ?_; clear hs a; intro a hs
      refine a_valG hs rfl rfl rfl (y_move hs rfl) ?_; clear hs a; intro a hs
      refine a_valG hs rfl rfl rfl (y_cmp (b := true) hs rfl rfl (congrArg some (beq_iff_eq.2 (rfl)))) ?_; clear hs a; intro a hs
      refine a_val hs rfl rfl rfl (y_pickT hs rfl rfl rfl) ?_; clear hs a; intro a hs
      refine a_val hs rfl rfl rfl (y_assign hs rfl) ?_; clear hs a; intro a hs
      refine wpList_nil (then_normal ?_)
      refine wp_ret ?_
      refine fin_ret hs (.tmp (hs.slots _ _ rfl) .nil) ⟨rfl, hs.mem.base⟩
end Go.Proofs.YtpdemfnemkmelaaDoor.E
