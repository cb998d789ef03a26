/- EmitReads: both Reads of any bytes tell the same. Conditions: strconv's and math/bits' tables stand in their variables. -/
import Derived.Test.YtpdemfnemkmelaaDoorRdP
import Derived.Test.YtpdemfnemkmelaaDoorRdR
import Derived.Test.YtpdemfnemkmelaaDoorPSame
import Derived.Test.YtpdemfnemkmelaaDoorLawW
namespace Go.Proofs.YtpdemfnemkmelaaDoor.E
open Go Go.RowKit Go.Proofs.YtpdemfnemkmelaaDoorW.PrintWords Go.Proofs.YtpdemfnemkmelaaDoorW.PrintLast Go.Proofs.YtpdemfnemkmelaaDoorW.PrintMore Go.Proofs.YtpdemfnemkmelaaDoor.PA Go.Proofs.YtpdemfnemkmelaaDoor.Num
set_option linter.unusedVariables false
set_option linter.unusedSimpArgs false
theorem encS_K' (w : World) (x : Stp) : k47.K w x (encS x) := k47_mk w x
theorem stepsR_len (b : List Int) (rg ot rd : Int) : ∀ (n p : Nat) (acc : List Stp), (stepsR b rg ot rd n p acc).1.length ≤ acc.length + n := by
  intro n
  induction n with
  | zero => intro p acc; simp [stepsR]
  | succ n ih =>
    intro p acc
    rw [stepsR]
    cases b.drop p with
    | nil => simp [badR]
    | cons k t =>
      simp only
      split
      · simp [badR]
      · split
        · simp [badR]
        · have := ih (p + 1 + fldN k) (acc ++ [mkS k t])
          rw [List.length_append, List.length_singleton] at this
          omega
theorem numR_len (b : List Int) (p : Nat) (most : Int) (K : Int → Nat → RRes) (h : ∀ n q, n ≤ most → (K n q).1.length ≤ 65536) : (numR b p most K).1.length ≤ 65536 := by
  unfold numR
  split
  · split
    · simp [badR]
    · exact h _ _ (by omega)
  · simp [badR]
theorem bytesR_len (b : List Int) (K : Int → Nat → RRes) (h : ∀ n q, (K n q).1.length ≤ 65536) : ∀ (n p : Nat) (v : Int), (bytesR b K n p v).1.length ≤ 65536 := by
  intro n
  induction n with
  | zero => intro p v; exact h v p
  | succ n ih =>
    intro p v
    rw [bytesR]
    cases b.drop p with
    | nil => simp [badR]
    | cons k t => exact ih _ _
theorem readR_len (b : List Int) (hz : b.length ≤ 140737488355328) : (readR b).1.length ≤ 65536 := by
  refine numR_len b 0 256 _ (fun rg p1 _ => numR_len b p1 64 _ (fun ot p2 _ => bytesR_len b _ (fun rd p3 => numR_len b p3 65536 _ (fun n p4 hn => ?_)) 8 p2 0))
  have := stepsR_len b rg ot rd n.toNat p4 []
  simp only [List.length_nil] at this
  unfold readK4
  omega

set_option maxRecDepth 100000 in
theorem law_EmitReads (A : Option Addr) (c : Nat) (b : List Int) (hc : b.length ≤ c) (hb : byteL b) (hz : b.length ≤ 140737488355328) (v0 : World) (hA : Kd.C (Kd.int .u8) v0 A b.length b) (hP : Pow10 v0) (hD : DB v0) :
    Calls Tryd.prog 7 #[.slice A b.length c] v0 fun e w' => e = .returned (.bool true) ∧ Below v0.heap.size v0 w' := by
  refine calls_enter (N := 37) (n := 36) (args := [.slice A b.length c]) Tryd.func7 rfl rfl rfl (H.init v0) (fun a hs => ?_)
  refine wp_seq ?_
  refine wp_region_lit ?_
  refine a_val hs rfl rfl rfl (y_assign hs rfl) ?_; clear hs a; intro a hs
  refine wpList_nil (then_normal ?_)
  refine wp_seq ?_
  refine wp_region_lit ?_
  refine a_val hs rfl rfl rfl (y_move hs rfl) ?_; clear hs a; intro a hs
  refine a_eff rfl (e_callX Tryd.func14 rfl rfl hs rfl rfl (emit_Read A c b hc hb hz _ (Kd.C_below hA hs.mem.base)) (fun e w1 ⟨A1, c1, he, hm⟩ => ⟨_, he, _, hs.mem.more hm, ?_⟩)); clear hs a; intro a hs
  refine a_val hs rfl rfl rfl (y_move hs rfl) ?_; clear hs a; intro a hs
  refine a_val hs rfl rfl rfl (y_extract hs rfl rfl) ?_; clear hs a; intro a hs
  refine a_val hs rfl rfl rfl (y_extract hs rfl rfl) ?_; clear hs a; intro a hs
  refine a_val hs rfl rfl rfl (y_extract hs rfl rfl) ?_; clear hs a; intro a hs
  refine a_eff rfl (e_alloc (z := .agg #[.slice none 0 0, .int .i64 0, .int .i64 0, .int .u64 0]) (cs := #[.slice none 0 0, .int .i64 0, .int .i64 0, .int .u64 0]) hs rfl (by kernel_rfl) rfl ?_); clear hs a; intro p1 a w hs
  refine a_eff rfl (e_store (cl := [_, _, _, _]) 0 rfl hs rfl rfl (by kernel_rfl) rfl rfl rfl ?_); clear hs a; intro a w hs
  refine a_val hs rfl rfl rfl (y_assign hs rfl) ?_; clear hs a; intro a hs
  refine a_val hs rfl rfl rfl (y_assign hs rfl) ?_; clear hs a; intro a hs
  refine wpList_nil (then_normal ?_)
  refine wp_seq ?_
  refine wp_region_lit ?_
  refine a_val hs rfl rfl rfl (y_move hs rfl) ?_; clear hs a; intro a hs
  refine a_eff rfl (e_callX Tryd.func23 rfl rfl hs rfl rfl (ref_Read A c b hc hb hz _ (Kd.C_below hA hs.mem.base)) (fun e w1 ⟨A2, c2, he, hm⟩ => ⟨_, he, _, hs.mem.more hm, ?_⟩)); clear hs a; intro a hs
  refine a_val hs rfl rfl rfl (y_move hs rfl) ?_; clear hs a; intro a hs
  refine a_val hs rfl rfl rfl (y_extract hs rfl rfl) ?_; clear hs a; intro a hs
  refine a_val hs rfl rfl rfl (y_extract hs rfl rfl) ?_; clear hs a; intro a hs
  refine a_val hs rfl rfl rfl (y_extract hs rfl rfl) ?_; clear hs a; intro a hs
  refine a_eff rfl (e_alloc (z := .agg #[.slice none 0 0, .int .i64 0, .int .i64 0, .int .u64 0]) (cs := #[.slice none 0 0, .int .i64 0, .int .i64 0, .int .u64 0]) hs rfl (by kernel_rfl) rfl ?_); clear hs a; intro p2 a w hs
  refine a_eff rfl (e_store (cl := [_, _, _, _]) 0 rfl hs rfl rfl (by kernel_rfl) rfl rfl rfl ?_); clear hs a; intro a w hs
  refine a_val hs rfl rfl rfl (y_assign hs rfl) ?_; clear hs a; intro a hs
  refine a_val hs rfl rfl rfl (y_assign hs rfl) ?_; clear hs a; intro a hs
  refine wpList_nil (then_normal ?_)
  refine wp_seq ?_
  refine wp_region_lit ?_
  refine a_val hs rfl rfl rfl (y_loadPt 2 rfl hs Tryd.underlying26 rfl (by kernel_rfl) rfl) ?_; clear hs a; intro a hs
  refine a_val hs rfl rfl rfl (y_loadPt 0 rfl hs Tryd.underlying26 rfl (by kernel_rfl) rfl) ?_; clear hs a; intro a hs
  have hrl := readR_len b hz
  refine a_eff rfl (e_callB Tryd.func17 rfl rfl hs rfl rfl (psame_refl A1 A2 c1 c2 _ _ _ _ _ ((hs.mem.to 3 rfl).rowC encS_K' encS_len rfl rfl (by omega)) ((hs.mem.to 1 rfl).rowC encS_K' encS_len rfl rfl (by omega)) (by omega)) ?_); clear hs a; intro a w hs
  refine a_val hs rfl rfl rfl (y_move hs rfl) ?_; clear hs a; intro a hs
  refine a_valG hs rfl rfl rfl (y_move hs rfl) ?_; clear hs a; intro a hs
  refine a_valG hs rfl rfl rfl (y_move hs rfl) ?_; clear hs a; intro a hs
  refine a_valG hs rfl rfl rfl (y_cmp (b := true) hs rfl rfl (congrArg some (beq_iff_eq.2 (rfl)))) ?_; clear hs a; intro a hs
  refine a_val hs rfl rfl rfl (y_pickT hs rfl rfl rfl) ?_; clear hs a; intro a hs
  refine a_val hs rfl rfl rfl (y_move hs rfl) ?_; clear hs a; intro a hs
  refine a_valG hs rfl rfl rfl (y_move hs rfl) ?_; clear hs a; intro a hs
  refine a_valG hs rfl rfl rfl (y_move hs rfl) ?_; clear hs a; intro a hs
  refine a_valG hs rfl rfl rfl (y_cmp (b := true) hs rfl rfl (congrArg some (beq_iff_eq.2 (rfl)))) ?_; clear hs a; intro a hs
  refine a_val hs rfl rfl rfl (y_pickT hs rfl rfl rfl) ?_; clear hs a; intro a hs
  refine a_val hs rfl rfl rfl (y_move hs rfl) ?_; clear hs a; intro a hs
  refine a_effG hs rfl (e_callB Tryd.func13 rfl rfl hs rfl rfl (law_anchored _ (varKeep hs.mem.base hP) (varKeep hs.mem.base hD)) ?_); clear hs a; intro a w hs
  refine a_val hs rfl rfl rfl (y_pickT hs rfl rfl rfl) ?_; clear hs a; intro a hs
  refine a_val hs rfl rfl rfl (y_assign hs rfl) ?_; clear hs a; intro a hs
  refine wpList_nil (then_normal ?_)
  refine wp_ret ?_
  refine fin_ret hs (.tmp (hs.slots _ _ rfl) .nil) ⟨rfl, hs.mem.base⟩
end Go.Proofs.YtpdemfnemkmelaaDoor.E
