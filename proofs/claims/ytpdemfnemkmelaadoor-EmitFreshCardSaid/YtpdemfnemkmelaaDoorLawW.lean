/- The law's anchored, and EmitWrites: both texts' bytes and lines are the same. Conditions: strconv's and math/bits' tables stand in their variables. -/
import Derived.Test.YtpdemfnemkmelaaDoorText3
import Derived.Test.YtpdemfnemkmelaaDoorWriteR
import Derived.Test.YtpdemfnemkmelaaDoorPAM0
namespace Go.Proofs.YtpdemfnemkmelaaDoor.E
open Go Go.RowKit Go.Proofs.YtpdemfnemkmelaaDoorW.PrintWords Go.Proofs.YtpdemfnemkmelaaDoorW.PrintLast Go.Proofs.YtpdemfnemkmelaaDoorW.PrintMore Go.Proofs.YtpdemfnemkmelaaDoor.PA Go.Proofs.YtpdemfnemkmelaaDoor.Num
set_option linter.unusedVariables false
set_option linter.unusedSimpArgs false
/-- What Write answers. -/
def writeA (l : List Stp) (regs outs reads : Int) : List Int × Int := if okProg l regs outs then (writeL l regs outs reads, 0) else ([], 2)
def textP (l : List Stp) (regs outs : Int) (r : Nat) : ByteArray × Int := if okProg l regs outs then (textB l regs outs r, 0) else (⟨#[]⟩, 2)
theorem textA_eq (l : List Stp) (regs outs : Int) (r : Nat) : textA l regs outs r = .tuple #[.string (textP l regs outs r).1, .int .i64 (textP l regs outs r).2] := by
  unfold textA textP; cases okProg l regs outs <;> rfl

theorem Write_ok (A : Option Addr) (c : Nat) (l : List Stp) (regs outs reads : Int) (v0 : World) (hA : Kd.C k47 v0 A l.length l) (hg : ∀ s ∈ l, 0 ≤ s.f0 ∧ 0 ≤ s.f3 ∧ s.f3 ≤ 255) : Calls Tryd.prog 10 #[.agg #[.slice A l.length c, .int .i64 regs, .int .i64 outs, .int .u64 reads]] v0 fun e w' => ∃ A1 c1, e = .returned (.tuple #[.slice A1 (writeA l regs outs reads).1.length c1, .int .i64 (writeA l regs outs reads).2]) ∧ H v0 [row 5 1 (.slice A1 ((writeA l regs outs reads).1).length c1) ((writeA l regs outs reads).1).length (((writeA l regs outs reads).1).flatMap encU)] w' := by
  refine (emit_Write A c l regs outs reads v0 hA hg).mono ?_
  rintro e w' (⟨hok, rfl, hb⟩ | ⟨hok, A1, c1, rfl, hm⟩)
  · unfold writeA; rw [hok]
    exact ⟨none, 0, rfl, ((H.init v0).onBelow hb).nilRow 5 1⟩
  · unfold writeA; rw [hok]
    exact ⟨A1, c1, rfl, hm⟩

theorem WriteR_ok (A : Option Addr) (c : Nat) (l : List Stp) (regs outs reads : Int) (v0 : World) (hA : Kd.C k47 v0 A l.length l) (hg : ∀ s ∈ l, 0 ≤ s.f0 ∧ 0 ≤ s.f3 ∧ s.f3 ≤ 255) : Calls Tryd.prog 21 #[.agg #[.slice A l.length c, .int .i64 regs, .int .i64 outs, .int .u64 reads]] v0 fun e w' => ∃ A1 c1, e = .returned (.tuple #[.slice A1 (writeA l regs outs reads).1.length c1, .int .i64 (writeA l regs outs reads).2]) ∧ H v0 [row 5 1 (.slice A1 ((writeA l regs outs reads).1).length c1) ((writeA l regs outs reads).1).length (((writeA l regs outs reads).1).flatMap encU)] w' := by
  refine (ref_Write A c l regs outs reads v0 hA hg).mono ?_
  rintro e w' (⟨hok, rfl, hb⟩ | ⟨hok, A1, c1, rfl, hm⟩)
  · unfold writeA; rw [hok]
    exact ⟨none, 0, rfl, ((H.init v0).onBelow hb).nilRow 5 1⟩
  · unfold writeA; rw [hok]
    exact ⟨A1, c1, rfl, hm⟩

theorem Text_ok (A : Option Addr) (c : Nat) (l : List Stp) (regs outs : Int) (r : Nat) (hr : r < 2 ^ 64) (v0 : World) (hA : Kd.C k47 v0 A l.length l) (hg : ∀ s ∈ l, 0 ≤ s.f0 ∧ 0 ≤ s.f3 ∧ s.f3 ≤ 255) (hP : Pow10 v0) (hD : DB v0) : Calls Tryd.prog 11 #[.agg #[.slice A l.length c, .int .i64 regs, .int .i64 outs, .int .u64 (r : Int)]] v0 fun e w' => e = .returned (.tuple #[.string (textP l regs outs r).1, .int .i64 (textP l regs outs r).2]) ∧ Below v0.heap.size v0 w' := by
  rw [← textA_eq]
  exact emit_Text A c l regs outs r hr v0 hA hg hP hD

theorem TextR_ok (A : Option Addr) (c : Nat) (l : List Stp) (regs outs : Int) (r : Nat) (hr : r < 2 ^ 64) (v0 : World) (hA : Kd.C k47 v0 A l.length l) (hg : ∀ s ∈ l, 0 ≤ s.f0 ∧ 0 ≤ s.f3 ∧ s.f3 ≤ 255) (hP : Pow10 v0) : Calls Tryd.prog 24 #[.agg #[.slice A l.length c, .int .i64 regs, .int .i64 outs, .int .u64 (r : Int)]] v0 fun e w' => e = .returned (.tuple #[.string (textP l regs outs r).1, .int .i64 (textP l regs outs r).2]) ∧ Below v0.heap.size v0 w' := by
  rw [← textA_eq]
  exact ref_Text A c l regs outs r hr v0 hA hg hP

theorem same_refl (A0 A1 : Option Addr) (c0 c1 : Nat) (l : List Int) (w : World) (h0 : Kd.C (Kd.int .u8) w A0 l.length l ∧ l.length ≤ c0) (h1 : Kd.C (Kd.int .u8) w A1 l.length l ∧ l.length ≤ c1) :
    Calls Tryd.prog 18 #[.slice A0 l.length c0, .slice A1 l.length c1] w fun e w' => e = .returned (.bool true) ∧ Below w.heap.size w w' :=
  (recoupref01_Same.calls A0 c0 l A1 c1 l true w h0.1 h0.2 h1.1 h1.2 (Same_refl l)).mono (by rintro e w1 ⟨rfl, hd⟩; exact ⟨rfl, drawnB hd⟩)
/-- The law's small program. -/
def smallL : List Stp := [⟨1, 0, 0, 0⟩, ⟨3, 0, 0, 7⟩]
theorem small_H (v0 : World) : Calls Tryd.prog 35 #[] v0 fun e w' => ∃ A c, e = .returned (.agg #[.slice A smallL.length c, .int .i64 1, .int .i64 0, .int .u64 0]) ∧ H v0 [row 47 4 (.slice A smallL.length c) smallL.length (smallL.flatMap encS)] w' := by
  refine (recouplaw24_small.calls smallL 1 0 0 v0 rfl).mono ?_
  rintro e w' ⟨v, rfl, hR, hb⟩
  obtain ⟨A, c, rfl, hm⟩ := (H.init v0).addR encS_M encS_len hb hR
  exact ⟨A, c, rfl, hm⟩
theorem small_ok : okProg smallL 1 0 = true := by decide
theorem small_g : ∀ s ∈ smallL, 0 ≤ s.f0 ∧ 0 ≤ s.f3 ∧ s.f3 ≤ 255 := by decide
def smallB : List Int := [1, 0, 0, 0, 0, 0, 0, 0, 0, 0, 2, 1, 0, 3, 0, 0, 7]
theorem small_bytes : writeA smallL 1 0 0 = (smallB, 0) := by
  unfold writeA writeL
  rw [small_ok, show smallL.length = 2 from rfl, numL_small (by decide), numL_small (by decide), numL_small (by decide)]
  rfl
def smallT : ByteArray := ⟨#[112, 114, 111, 103, 114, 97, 109, 32, 49, 32, 48, 10, 99, 108, 101, 97, 114, 32, 48, 10, 109, 97, 99, 32, 48, 32, 48, 32, 55, 10]⟩
theorem small_text : textP smallL 1 0 0 = (smallT, 0) := by
  unfold textP
  rw [small_ok]
  show (textB smallL 1 0 0, (0 : Int)) = _
  have e : bitsL 0 = [] := by unfold bitsL; rw [bitsN_zero]; rfl
  have h : textB smallL 1 0 0 = smallT := by unfold textB headB; rw [e]; decide +kernel
  rw [h]
theorem encS_mkK (w : World) (x : Stp) : k47.K w x (encS x) := k47_mk w x

set_option maxRecDepth 100000 in
theorem law_anchored (v0 : World) (hP : Pow10 v0) (hD : DB v0) :
    Calls Tryd.prog 13 #[] v0 fun e w' => e = .returned (.bool true) ∧ Below v0.heap.size v0 w' := by
  refine calls_enter (N := 30) (n := 30) (args := []) Tryd.func13 rfl rfl rfl (H.init v0) (fun a hs => ?_)
  refine wp_seq ?_
  refine wp_region_lit ?_
  refine a_val hs rfl rfl rfl (y_assign hs rfl) ?_; clear hs a; intro a hs
  refine wpList_nil (then_normal ?_)
  refine wp_seq ?_
  refine wp_region_lit ?_
  refine a_eff rfl (e_callX Tryd.func35 rfl rfl hs rfl rfl (small_H _) (fun e w1 ⟨A0, c0, he, hm⟩ => ⟨_, he, _, hs.mem.more hm, ?_⟩)); clear hs a; intro a hs
  refine a_eff rfl (e_callX Tryd.func10 rfl rfl hs rfl rfl (Write_ok A0 c0 smallL 1 0 0 _ ((hs.mem.to 0 rfl).rowC encS_mkK encS_len rfl rfl (by decide)).1 small_g) (fun e w1 ⟨A1, c1, he, hm⟩ => ⟨_, he, _, hs.mem.more hm, ?_⟩)); clear hs a; intro a hs
  refine a_val hs rfl rfl rfl (y_move hs rfl) ?_; clear hs a; intro a hs
  rw [small_bytes] at hs
  refine a_val hs rfl rfl rfl (y_extract hs rfl rfl) ?_; clear hs a; intro a hs
  refine a_val hs rfl rfl rfl (y_extract hs rfl rfl) ?_; clear hs a; intro a hs
  refine a_val hs rfl rfl rfl (y_assign hs rfl) ?_; clear hs a; intro a hs
  refine a_val hs rfl rfl rfl (y_assign hs rfl) ?_; clear hs a; intro a hs
  refine wpList_nil (then_normal ?_)
  refine wp_seq ?_
  refine wp_region_lit ?_
  refine a_eff rfl (e_callX Tryd.func35 rfl rfl hs rfl rfl (small_H _) (fun e w1 ⟨A2, c2, he, hm⟩ => ⟨_, he, _, hs.mem.more hm, ?_⟩)); clear hs a; intro a hs
  refine a_eff rfl (e_callB Tryd.func11 rfl rfl hs rfl rfl (Text_ok A2 c2 smallL 1 0 0 (by decide) _ ((hs.mem.to 0 rfl).rowC encS_mkK encS_len rfl rfl (by decide)).1 small_g (varKeep hs.mem.base hP) (varKeep hs.mem.base hD)) ?_); clear hs a; intro a w hs
  refine a_val hs rfl rfl rfl (y_move hs rfl) ?_; clear hs a; intro a hs
  replace hs := hs.say 10 rfl (show (Value.tuple #[.string (textP smallL 1 0 0).1, .int .i64 (textP smallL 1 0 0).2]) = .tuple #[.string smallT, .int .i64 0] by rw [small_text])
  refine a_val hs rfl rfl rfl (y_extract hs rfl rfl) ?_; clear hs a; intro a hs
  refine a_val hs rfl rfl rfl (y_extract hs rfl rfl) ?_; clear hs a; intro a hs
  refine a_val hs rfl rfl rfl (y_assign hs rfl) ?_; clear hs a; intro a hs
  refine a_val hs rfl rfl rfl (y_assign hs rfl) ?_; clear hs a; intro a hs
  refine wpList_nil (then_normal ?_)
  refine wp_seq ?_
  refine wp_region_lit ?_
  refine a_val hs rfl rfl rfl (y_move hs rfl) ?_; clear hs a; intro a hs
  refine a_val hs rfl rfl rfl (y_cmp (b := true) hs rfl rfl (congrArg some (beq_iff_eq.2 (rfl)))) ?_; clear hs a; intro a hs
  refine a_val hs rfl rfl rfl (y_move hs rfl) ?_; clear hs a; intro a hs
  refine a_valG hs rfl rfl rfl (y_move hs rfl) ?_; clear hs a; intro a hs
  refine a_valG hs rfl rfl rfl (y_cmp (b := true) hs rfl rfl (congrArg some (beq_iff_eq.2 (rfl)))) ?_; clear hs a; intro a hs
  refine a_val hs rfl rfl rfl (y_pickT hs rfl rfl rfl) ?_; clear hs a; intro a hs
  refine a_val hs rfl rfl rfl (y_move hs rfl) ?_; clear hs a; intro a hs
  refine a_valG hs rfl rfl rfl (y_move hs rfl) ?_; clear hs a; intro a hs
  refine a_effG hs rfl (e_bslice (z := .int .u8 0) (size := 1) (zc := #[.int .u8 0, .int .u8 0, .int .u8 0, .int .u8 0, .int .u8 0, .int .u8 0, .int .u8 0, .int .u8 0, .int .u8 0, .int .u8 0, .int .u8 0, .int .u8 0, .int .u8 0, .int .u8 0, .int .u8 0, .int .u8 0, .int .u8 0]) (cl := [_, _, _, _, _, _, _, _, _, _, _, _, _, _, _, _, _]) hs rfl Tryd.underlying27 (by kernel_rfl) rfl rfl rfl (by kernel_rfl) (by rfl) rfl ?_); clear hs a; intro gl a w hs
  refine a_effG hs rfl (e_callB Tryd.func18 rfl rfl hs rfl rfl (same_refl A1 (some ⟨gl, 0, none⟩) c1 17 smallB _ ((hs.mem.to 2 rfl).rowC (d := Kd.int .u8) (fun _ _ => rfl) encU_len rfl rfl (by decide)) ⟨(hs.mem.to 0 rfl).ptC (d := Kd.int .u8) (enc := encU) (n := 17) (fun _ _ => rfl) encU_len (by decide) rfl, by decide⟩) ?_); clear hs a; intro a w hs
  refine a_val hs rfl rfl rfl (y_pickT hs rfl rfl rfl) ?_; clear hs a; intro a hs
  refine a_val hs rfl rfl rfl (y_move hs rfl) ?_; clear hs a; intro a hs
  refine a_valG hs rfl rfl rfl (y_move hs rfl) ?_; clear hs a; intro a hs
  refine a_valG hs rfl rfl rfl (y_seqB (b := true) hs rfl rfl (by decide +kernel)) ?_; clear hs a; intro a hs
  refine a_val hs rfl rfl rfl (y_pickT hs rfl rfl rfl) ?_; clear hs a; intro a hs
  refine a_val hs rfl rfl rfl (y_assign hs rfl) ?_; clear hs a; intro a hs
  refine wpList_nil (then_normal ?_)
  refine wp_ret ?_
  refine fin_ret hs (.tmp (hs.slots _ _ rfl) .nil) ⟨rfl, hs.mem.base⟩

theorem writeA_len (l : List Stp) (regs outs reads : Int) : (writeA l regs outs reads).1.length ≤ 9223372036854775807 := by
  unfold writeA
  cases hok : okProg l regs outs with
  | false => simp
  | true =>
    have h := accLen l regs outs reads l.length (okProg_yes hok).1
    rw [List.take_of_length_le (Nat.le_refl _)] at h
    simp only [if_true, writeL]
    simp only [List.length_append] at h ⊢
    omega

set_option maxRecDepth 100000 in
theorem law_EmitWrites (A : Option Addr) (c : Nat) (l : List Stp) (regs outs : Int) (r : Nat) (hr : r < 2 ^ 64) (v0 : World) (hA : Kd.C k47 v0 A l.length l) (hg : ∀ s ∈ l, 0 ≤ s.f0 ∧ 0 ≤ s.f3 ∧ s.f3 ≤ 255) (hP : Pow10 v0) (hD : DB v0) :
    Calls Tryd.prog 9 #[.agg #[.slice A l.length c, .int .i64 regs, .int .i64 outs, .int .u64 (r : Int)]] v0 fun e w' => e = .returned (.bool true) ∧ Below v0.heap.size v0 w' := by
  refine calls_enter (N := 52) (n := 51) (args := [.agg #[.slice A l.length c, .int .i64 regs, .int .i64 outs, .int .u64 (r : Int)]]) Tryd.func9 rfl rfl rfl (H.init v0) (fun a hs => ?_)
  refine wp_seq ?_
  refine wp_region_lit ?_
  refine a_eff rfl (e_box (cs := #[_, _, _, _]) hs rfl rfl rfl ?_); clear hs a; intro gp a w hs
  refine a_val hs rfl rfl rfl (y_assign hs rfl) ?_; clear hs a; intro a hs
  refine wpList_nil (then_normal ?_)
  refine wp_seq ?_
  refine wp_region_lit ?_
  refine a_val hs rfl rfl rfl (y_loadPt 0 rfl hs Tryd.underlying26 rfl (by kernel_rfl) rfl) ?_; clear hs a; intro a hs
  refine a_eff rfl (e_callX Tryd.func10 rfl rfl hs rfl rfl (Write_ok A c l regs outs (r : Int) _ (Kd.C_below hA hs.mem.base) hg) (fun e w1 ⟨A1, c1, he, hm⟩ => ⟨_, he, _, hs.mem.more hm, ?_⟩)); clear hs a; intro a hs
  refine a_val hs rfl rfl rfl (y_move hs rfl) ?_; clear hs a; intro a hs
  refine a_val hs rfl rfl rfl (y_extract hs rfl rfl) ?_; clear hs a; intro a hs
  refine a_val hs rfl rfl rfl (y_extract hs rfl rfl) ?_; clear hs a; intro a hs
  refine a_val hs rfl rfl rfl (y_assign hs rfl) ?_; clear hs a; intro a hs
  refine a_val hs rfl rfl rfl (y_assign hs rfl) ?_; clear hs a; intro a hs
  refine wpList_nil (then_normal ?_)
  refine wp_seq ?_
  refine wp_region_lit ?_
  refine a_val hs rfl rfl rfl (y_loadPt 1 rfl hs Tryd.underlying26 rfl (by kernel_rfl) rfl) ?_; clear hs a; intro a hs
  refine a_eff rfl (e_callX Tryd.func21 rfl rfl hs rfl rfl (WriteR_ok A c l regs outs (r : Int) _ (Kd.C_below hA hs.mem.base) hg) (fun e w1 ⟨A2, c2, he, hm⟩ => ⟨_, he, _, hs.mem.more hm, ?_⟩)); clear hs a; intro a hs
  refine a_val hs rfl rfl rfl (y_move hs rfl) ?_; clear hs a; intro a hs
  refine a_val hs rfl rfl rfl (y_extract hs rfl rfl) ?_; clear hs a; intro a hs
  refine a_val hs rfl rfl rfl (y_extract hs rfl rfl) ?_; clear hs a; intro a hs
  refine a_val hs rfl rfl rfl (y_assign hs rfl) ?_; clear hs a; intro a hs
  refine a_val hs rfl rfl rfl (y_assign hs rfl) ?_; clear hs a; intro a hs
  refine wpList_nil (then_normal ?_)
  refine wp_seq ?_
  refine wp_region_lit ?_
  refine a_val hs rfl rfl rfl (y_loadPt 2 rfl hs Tryd.underlying26 rfl (by kernel_rfl) rfl) ?_; clear hs a; intro a hs
  refine a_eff rfl (e_callB Tryd.func11 rfl rfl hs rfl rfl (Text_ok A c l regs outs r hr _ (Kd.C_below hA hs.mem.base) hg (varKeep hs.mem.base hP) (varKeep hs.mem.base hD)) ?_); clear hs a; intro a w hs
  refine a_val hs rfl rfl rfl (y_move hs rfl) ?_; clear hs a; intro a hs
  refine a_val hs rfl rfl rfl (y_extract hs rfl rfl) ?_; clear hs a; intro a hs
  refine a_val hs rfl rfl rfl (y_extract hs rfl rfl) ?_; clear hs a; intro a hs
  refine a_val hs rfl rfl rfl (y_assign hs rfl) ?_; clear hs a; intro a hs
  refine a_val hs rfl rfl rfl (y_assign hs rfl) ?_; clear hs a; intro a hs
  refine wpList_nil (then_normal ?_)
  refine wp_seq ?_
  refine wp_region_lit ?_
  refine a_val hs rfl rfl rfl (y_loadPt 2 rfl hs Tryd.underlying26 rfl (by kernel_rfl) rfl) ?_; clear hs a; intro a hs
  refine a_eff rfl (e_callB Tryd.func24 rfl rfl hs rfl rfl (TextR_ok A c l regs outs r hr _ (Kd.C_below hA hs.mem.base) hg (varKeep hs.mem.base hP)) ?_); clear hs a; intro a w hs
  refine a_val hs rfl rfl rfl (y_move hs rfl) ?_; clear hs a; intro a hs
  refine a_val hs rfl rfl rfl (y_extract hs rfl rfl) ?_; clear hs a; intro a hs
  refine a_val hs rfl rfl rfl (y_extract hs rfl rfl) ?_; clear hs a; intro a hs
  refine a_val hs rfl rfl rfl (y_assign hs rfl) ?_; clear hs a; intro a hs
  refine a_val hs rfl rfl rfl (y_assign hs rfl) ?_; clear hs a; intro a hs
  refine wpList_nil (then_normal ?_)
  refine wp_seq ?_
  refine wp_region_lit ?_
  refine a_val hs rfl rfl rfl (y_move hs rfl) ?_; clear hs a; intro a hs
  refine a_val hs rfl rfl rfl (y_move hs rfl) ?_; clear hs a; intro a hs
  refine a_eff rfl (e_callB Tryd.func18 rfl rfl hs rfl rfl (same_refl A1 A2 c1 c2 _ _ ((hs.mem.to 1 rfl).rowC (d := Kd.int .u8) (fun _ _ => rfl) encU_len rfl rfl (writeA_len _ _ _ _)) ((hs.mem.to 0 rfl).rowC (d := Kd.int .u8) (fun _ _ => rfl) encU_len rfl rfl (writeA_len _ _ _ _))) ?_); clear hs a; intro a w hs
  refine a_val hs rfl rfl rfl (y_move hs rfl) ?_; clear hs a; intro a hs
  refine a_valG hs rfl rfl rfl (y_move hs rfl) ?_; clear hs a; intro a hs
  refine a_valG hs rfl rfl rfl (y_move hs rfl) ?_; clear hs a; intro a hs
  refine a_valG hs rfl rfl rfl (y_cmp (b := true) hs rfl rfl (congrArg some (beq_iff_eq.2 (rfl)))) ?_; clear hs a; intro a hs
  refine a_val hs rfl rfl rfl (y_pickT hs rfl rfl rfl) ?_; clear hs a; intro a hs
  refine a_val hs rfl rfl rfl (y_move hs rfl) ?_; clear hs a; intro a hs
  refine a_valG hs rfl rfl rfl (y_move hs rfl) ?_; clear hs a; intro a hs
  refine a_valG hs rfl rfl rfl (y_move hs rfl) ?_; clear hs a; intro a hs
  refine a_valG hs rfl rfl rfl (y_seqB (b := true) hs rfl rfl (by simp)) ?_; clear hs a; intro a hs
  refine a_val hs rfl rfl rfl (y_pickT hs rfl rfl rfl) ?_; clear hs a; intro a hs
  refine a_val hs rfl rfl rfl (y_move hs rfl) ?_; clear hs a; intro a hs
  refine a_valG hs rfl rfl rfl (y_move hs rfl) ?_; clear hs a; intro a hs
  refine a_valG hs rfl rfl rfl (y_move hs rfl) ?_; clear hs a; intro a hs
  refine a_valG hs rfl rfl rfl (y_cmp (b := true) hs rfl rfl (congrArg some (beq_iff_eq.2 (rfl)))) ?_; clear hs a; intro a hs
  refine a_val hs rfl rfl rfl (y_pickT hs rfl rfl rfl) ?_; clear hs a; intro a hs
  refine a_val hs rfl rfl rfl (y_move hs rfl) ?_; clear hs a; intro a hs
  refine a_effG hs rfl (e_callB Tryd.func13 rfl rfl hs rfl rfl (law_anchored _ (varKeep hs.mem.base hP) (varKeep hs.mem.base hD)) ?_); clear hs a; intro a w hs
  refine a_val hs rfl rfl rfl (y_pickT hs rfl rfl rfl) ?_; clear hs a; intro a hs
  refine a_val hs rfl rfl rfl (y_assign hs rfl) ?_; clear hs a; intro a hs
  refine wpList_nil (then_normal ?_)
  refine wp_ret ?_
  refine fin_ret hs (.tmp (hs.slots _ _ rfl) .nil) ⟨?_, hs.mem.base⟩
  first | rfl | trivial
end Go.Proofs.YtpdemfnemkmelaaDoor.E
