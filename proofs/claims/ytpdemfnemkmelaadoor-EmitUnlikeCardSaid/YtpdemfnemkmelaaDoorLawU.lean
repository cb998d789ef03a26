/- EmitUnlike: two programs that are not the same have neither the same bytes nor the same lines. Conditions: strconv's and math/bits' tables stand in their variables. -/
import Derived.Test.YtpdemfnemkmelaaDoorUniq
namespace Go.Proofs.YtpdemfnemkmelaaDoor.E
open Go Go.RowKit Go.Proofs.YtpdemfnemkmelaaDoorW.PrintWords Go.Proofs.YtpdemfnemkmelaaDoorW.PrintLast Go.Proofs.YtpdemfnemkmelaaDoorW.PrintMore Go.Proofs.YtpdemfnemkmelaaDoor.PA Go.Proofs.YtpdemfnemkmelaaDoor.Num
set_option linter.unusedVariables false
set_option linter.unusedSimpArgs false
theorem unlike_bytes {l l' : List Stp} {a1 a2 b1 b2 : Int} {r r' : Nat} {bb b3 : Bool} (hp : okProg l a1 a2 = true) (hq : okProg l' b1 b2 = true) (hr : r < 2 ^ 64) (hr' : r' < 2 ^ 64) (ep : writeA l a1 a2 (r : Int) = (writeL l a1 a2 (r : Int), 0)) (eq : writeA l' b1 b2 (r' : Int) = (writeL l' b1 b2 (r' : Int), 0))
    (hbb : bb = true ↔ (l = l' ∧ a1 = b1 ∧ a2 = b2 ∧ (r : Int) = (r' : Int))) (hb3 : b3 = true ↔ (writeA l a1 a2 (r : Int)).1 = (writeA l' b1 b2 (r' : Int)).1) : (b3 == bb) = true := by
  have e : b3 = bb := by
    rw [Bool.eq_iff_iff, hbb, hb3, ep, eq]
    constructor
    · intro h; exact write_inj hp hq (by omega) (by omega) h
    · rintro ⟨rfl, rfl, rfl, h⟩; rw [h]
  rw [e]; simp
theorem unlike_text {l l' : List Stp} {a1 a2 b1 b2 : Int} {r r' : Nat} {bb : Bool} (hp : okProg l a1 a2 = true) (hq : okProg l' b1 b2 = true) (hr : r < 2 ^ 64) (hr' : r' < 2 ^ 64) (h3 : ∀ s ∈ l, 0 ≤ s.f3 ∧ s.f3 ≤ 255) (h3' : ∀ s ∈ l', 0 ≤ s.f3 ∧ s.f3 ≤ 255) (tp : textP l a1 a2 r = (textB l a1 a2 r, 0)) (tq : textP l' b1 b2 r' = (textB l' b1 b2 r', 0))
    (hbb : bb = true ↔ (l = l' ∧ a1 = b1 ∧ a2 = b2 ∧ (r : Int) = (r' : Int))) : (((textP l a1 a2 r).1.toList == (textP l' b1 b2 r').1.toList) == bb) = true := by
  have e : ((textP l a1 a2 r).1.toList == (textP l' b1 b2 r').1.toList) = bb := by
    rw [Bool.eq_iff_iff, hbb, tp, tq, beq_iff_eq]
    constructor
    · intro h
      obtain ⟨e1, e2, e3, e4⟩ := text_inj hp hq hr hr' h3 h3' h
      exact ⟨e1, e2, e3, by rw [e4]⟩
    · rintro ⟨rfl, rfl, rfl, h⟩
      have : r = r' := by omega
      rw [this]
  rw [e]; simp

set_option maxRecDepth 100000 in
theorem unlike_p (A : Option Addr) (c : Nat) (l : List Stp) (a1 a2 : Int) (r : Nat) (hr : r < 2 ^ 64) (A' : Option Addr) (c' : Nat) (l' : List Stp) (b1 b2 : Int) (r' : Nat) (hr' : r' < 2 ^ 64) (v0 : World) (hA : Kd.C k47 v0 A l.length l) (hc : l.length ≤ c) (hg : ∀ s ∈ l, 0 ≤ s.f0 ∧ 0 ≤ s.f3 ∧ s.f3 ≤ 255) (hA' : Kd.C k47 v0 A' l'.length l') (hc' : l'.length ≤ c') (hg' : ∀ s ∈ l', 0 ≤ s.f0 ∧ 0 ≤ s.f3 ∧ s.f3 ≤ 255) (hP : Pow10 v0) (hD : DB v0) (hp : okProg l a1 a2 = false) :
    Calls Tryd.prog 8 #[.agg #[.slice A l.length c, .int .i64 a1, .int .i64 a2, .int .u64 (r : Int)], .agg #[.slice A' l'.length c', .int .i64 b1, .int .i64 b2, .int .u64 (r' : Int)]] v0 fun e w' => e = .returned (.bool true) ∧ Below v0.heap.size v0 w' := by
  refine calls_enter (N := 77) (n := 75) (args := [.agg #[.slice A l.length c, .int .i64 a1, .int .i64 a2, .int .u64 (r : Int)], .agg #[.slice A' l'.length c', .int .i64 b1, .int .i64 b2, .int .u64 (r' : Int)]]) Tryd.func8 rfl rfl rfl (H.init v0) (fun a hs => ?_)
  have ep : writeA l a1 a2 (r : Int) = ([], 2) := by unfold writeA; rw [hp]; rfl
  refine wp_seq ?_
  refine wp_region_lit ?_
  refine a_eff rfl (e_box (cs := #[_, _, _, _]) hs rfl rfl rfl ?_); clear hs a; intro gp a w hs
  refine a_eff rfl (e_box (cs := #[_, _, _, _]) hs rfl rfl rfl ?_); clear hs a; intro gq a w hs
  refine a_val hs rfl rfl rfl (y_assign hs rfl) ?_; clear hs a; intro a hs
  refine wpList_nil (then_normal ?_)
  refine wp_seq ?_
  refine wp_region_lit ?_
  refine a_val hs rfl rfl rfl (y_loadPt 1 rfl hs Tryd.underlying26 rfl (by kernel_rfl) rfl) ?_; clear hs a; intro a hs
  refine a_eff rfl (e_callX Tryd.func10 rfl rfl hs rfl rfl (Write_ok A c l a1 a2 (r : Int) _ (Kd.C_below hA hs.mem.base) hg) (fun e w1 ⟨A1, c1, he, hm⟩ => ⟨_, he, _, hs.mem.more hm, ?_⟩)); clear hs a; intro a hs
  refine a_val hs rfl rfl rfl (y_move hs rfl) ?_; clear hs a; intro a hs
  refine a_val hs rfl rfl rfl (y_extract hs rfl rfl) ?_; clear hs a; intro a hs
  refine a_val hs rfl rfl rfl (y_extract hs rfl rfl) ?_; clear hs a; intro a hs
  refine a_val hs rfl rfl rfl (y_assign hs rfl) ?_; clear hs a; intro a hs
  refine a_val hs rfl rfl rfl (y_assign hs rfl) ?_; clear hs a; intro a hs
  refine wpList_nil (then_normal ?_)
  refine wp_seq ?_
  refine wp_region_lit ?_
  refine a_val hs rfl rfl rfl (y_loadPt 1 rfl hs Tryd.underlying26 rfl (by kernel_rfl) rfl) ?_; clear hs a; intro a hs
  refine a_eff rfl (e_callX Tryd.func10 rfl rfl hs rfl rfl (Write_ok A' c' l' b1 b2 (r' : Int) _ (Kd.C_below hA' hs.mem.base) hg') (fun e w1 ⟨A2, c2, he, hm⟩ => ⟨_, he, _, hs.mem.more hm, ?_⟩)); clear hs a; intro a hs
  refine a_val hs rfl rfl rfl (y_move hs rfl) ?_; clear hs a; intro a hs
  refine a_val hs rfl rfl rfl (y_extract hs rfl rfl) ?_; clear hs a; intro a hs
  refine a_val hs rfl rfl rfl (y_extract hs rfl rfl) ?_; clear hs a; intro a hs
  refine a_val hs rfl rfl rfl (y_assign hs rfl) ?_; clear hs a; intro a hs
  refine a_val hs rfl rfl rfl (y_assign hs rfl) ?_; clear hs a; intro a hs
  refine wpList_nil (then_normal ?_)
  refine wp_seq ?_
  refine wp_region_lit ?_
  refine a_val hs rfl rfl rfl (y_loadPt 3 rfl hs Tryd.underlying26 rfl (by kernel_rfl) rfl) ?_; clear hs a; intro a hs
  refine a_eff rfl (e_callB Tryd.func11 rfl rfl hs rfl rfl (Text_ok A c l a1 a2 r hr _ (Kd.C_below hA hs.mem.base) hg (varKeep hs.mem.base hP) (varKeep hs.mem.base hD)) ?_); clear hs a; intro a w hs
  refine a_val hs rfl rfl rfl (y_move hs rfl) ?_; clear hs a; intro a hs
  refine a_val hs rfl rfl rfl (y_extract hs rfl rfl) ?_; clear hs a; intro a hs
  refine a_val hs rfl rfl rfl (y_extract hs rfl rfl) ?_; clear hs a; intro a hs
  refine a_val hs rfl rfl rfl (y_assign hs rfl) ?_; clear hs a; intro a hs
  refine a_val hs rfl rfl rfl (y_assign hs rfl) ?_; clear hs a; intro a hs
  refine wpList_nil (then_normal ?_)
  refine wp_seq ?_
  refine wp_region_lit ?_
  refine a_val hs rfl rfl rfl (y_loadPt 2 rfl hs Tryd.underlying26 rfl (by kernel_rfl) rfl) ?_; clear hs a; intro a hs
  refine a_eff rfl (e_callB Tryd.func11 rfl rfl hs rfl rfl (Text_ok A' c' l' b1 b2 r' hr' _ (Kd.C_below hA' hs.mem.base) hg' (varKeep hs.mem.base hP) (varKeep hs.mem.base hD)) ?_); clear hs a; intro a w hs
  refine a_val hs rfl rfl rfl (y_move hs rfl) ?_; clear hs a; intro a hs
  refine a_val hs rfl rfl rfl (y_extract hs rfl rfl) ?_; clear hs a; intro a hs
  refine a_val hs rfl rfl rfl (y_extract hs rfl rfl) ?_; clear hs a; intro a hs
  refine a_val hs rfl rfl rfl (y_assign hs rfl) ?_; clear hs a; intro a hs
  refine a_val hs rfl rfl rfl (y_assign hs rfl) ?_; clear hs a; intro a hs
  refine wpList_nil (then_normal ?_)
  refine wp_seq ?_
  refine wp_seq ?_
  refine wp_region_lit ?_
  refine a_val hs rfl rfl rfl (y_move hs rfl) ?_; clear hs a; intro a hs
  refine a_val hs rfl rfl rfl (y_cmp (b := true) hs rfl rfl (congrArg some (bne_iff_ne.2 (by rw [ep]; decide)))) ?_; clear hs a; intro a hs
  refine a_val hs rfl rfl rfl (y_move hs rfl) ?_; clear hs a; intro a hs
  refine a_skip hs rfl rfl rfl ?_; clear hs a; intro a hs
  refine a_skip hs rfl rfl rfl ?_; clear hs a; intro a hs
  refine a_val hs rfl rfl rfl (y_pickT hs rfl rfl rfl) ?_; clear hs a; intro a hs
  refine a_val hs rfl rfl rfl (y_move hs rfl) ?_; clear hs a; intro a hs
  refine a_skip hs rfl rfl rfl ?_; clear hs a; intro a hs
  refine a_skip hs rfl rfl rfl ?_; clear hs a; intro a hs
  refine a_val hs rfl rfl rfl (y_pickT hs rfl rfl rfl) ?_; clear hs a; intro a hs
  refine a_val hs rfl rfl rfl (y_move hs rfl) ?_; clear hs a; intro a hs
  refine a_skip hs rfl rfl rfl ?_; clear hs a; intro a hs
  refine a_skip hs rfl rfl rfl ?_; clear hs a; intro a hs
  refine a_val hs rfl rfl rfl (y_pickT hs rfl rfl rfl) ?_; clear hs a; intro a hs
  refine wpList_nil (then_normal ?_)
  refine wp_cond_true (hs.ev rfl) ?_
  refine wp_seq ?_
  refine wp_region_lit ?_
  refine a_eff rfl (e_callB Tryd.func13 rfl rfl hs rfl rfl (law_anchored _ (varKeep hs.mem.base hP) (varKeep hs.mem.base hD)) ?_); clear hs a; intro a w hs
  refine a_val hs rfl rfl rfl (y_move hs rfl) ?_; clear hs a; intro a hs
  refine a_valG hs rfl rfl rfl (y_loadPt 3 rfl hs Tryd.underlying26 rfl (by kernel_rfl) rfl) ?_; clear hs a; intro a hs
  refine a_effG hs rfl (e_callB Tryd.func12 rfl rfl hs rfl rfl (ref_Can A c l a1 a2 (r : Int) _ (Kd.C_below hA hs.mem.base) hg) ?_); clear hs a; intro a w hs
  replace hs := hs.say 51 rfl (congrArg Value.bool hp)
  refine a_valG hs rfl rfl rfl (y_not hs rfl) ?_; clear hs a; intro a hs
  refine a_valG hs rfl rfl rfl (y_move hs rfl) ?_; clear hs a; intro a hs
  refine a_skip hs rfl rfl rfl ?_; clear hs a; intro a hs
  refine a_skip hs rfl rfl rfl ?_; clear hs a; intro a hs
  refine a_skip hs rfl rfl rfl ?_; clear hs a; intro a hs
  refine a_valG hs rfl rfl rfl (y_pickT hs rfl rfl rfl) ?_; clear hs a; intro a hs
  refine a_val hs rfl rfl rfl (y_pickT hs rfl rfl rfl) ?_; clear hs a; intro a hs
  refine a_val hs rfl rfl rfl (y_assign hs rfl) ?_; clear hs a; intro a hs
  refine wpList_nil (then_normal ?_)
  refine wp_ret (then_ret ?_)
  refine fin_ret hs (.tmp (hs.slots _ _ rfl) .nil) ⟨rfl, hs.mem.base⟩

set_option maxRecDepth 100000 in
theorem unlike_q (A : Option Addr) (c : Nat) (l : List Stp) (a1 a2 : Int) (r : Nat) (hr : r < 2 ^ 64) (A' : Option Addr) (c' : Nat) (l' : List Stp) (b1 b2 : Int) (r' : Nat) (hr' : r' < 2 ^ 64) (v0 : World) (hA : Kd.C k47 v0 A l.length l) (hc : l.length ≤ c) (hg : ∀ s ∈ l, 0 ≤ s.f0 ∧ 0 ≤ s.f3 ∧ s.f3 ≤ 255) (hA' : Kd.C k47 v0 A' l'.length l') (hc' : l'.length ≤ c') (hg' : ∀ s ∈ l', 0 ≤ s.f0 ∧ 0 ≤ s.f3 ∧ s.f3 ≤ 255) (hP : Pow10 v0) (hD : DB v0) (hp : okProg l a1 a2 = true) (hq : okProg l' b1 b2 = false) :
    Calls Tryd.prog 8 #[.agg #[.slice A l.length c, .int .i64 a1, .int .i64 a2, .int .u64 (r : Int)], .agg #[.slice A' l'.length c', .int .i64 b1, .int .i64 b2, .int .u64 (r' : Int)]] v0 fun e w' => e = .returned (.bool true) ∧ Below v0.heap.size v0 w' := by
  refine calls_enter (N := 77) (n := 75) (args := [.agg #[.slice A l.length c, .int .i64 a1, .int .i64 a2, .int .u64 (r : Int)], .agg #[.slice A' l'.length c', .int .i64 b1, .int .i64 b2, .int .u64 (r' : Int)]]) Tryd.func8 rfl rfl rfl (H.init v0) (fun a hs => ?_)
  have ep : writeA l a1 a2 (r : Int) = (writeL l a1 a2 (r : Int), 0) := by unfold writeA; rw [hp]; rfl
  have eq : writeA l' b1 b2 (r' : Int) = ([], 2) := by unfold writeA; rw [hq]; rfl
  refine wp_seq ?_
  refine wp_region_lit ?_
  refine a_eff rfl (e_box (cs := #[_, _, _, _]) hs rfl rfl rfl ?_); clear hs a; intro gp a w hs
  refine a_eff rfl (e_box (cs := #[_, _, _, _]) hs rfl rfl rfl ?_); clear hs a; intro gq a w hs
  refine a_val hs rfl rfl rfl (y_assign hs rfl) ?_; clear hs a; intro a hs
  refine wpList_nil (then_normal ?_)
  refine wp_seq ?_
  refine wp_region_lit ?_
  refine a_val hs rfl rfl rfl (y_loadPt 1 rfl hs Tryd.underlying26 rfl (by kernel_rfl) rfl) ?_; clear hs a; intro a hs
  refine a_eff rfl (e_callX Tryd.func10 rfl rfl hs rfl rfl (Write_ok A c l a1 a2 (r : Int) _ (Kd.C_below hA hs.mem.base) hg) (fun e w1 ⟨A1, c1, he, hm⟩ => ⟨_, he, _, hs.mem.more hm, ?_⟩)); clear hs a; intro a hs
  refine a_val hs rfl rfl rfl (y_move hs rfl) ?_; clear hs a; intro a hs
  refine a_val hs rfl rfl rfl (y_extract hs rfl rfl) ?_; clear hs a; intro a hs
  refine a_val hs rfl rfl rfl (y_extract hs rfl rfl) ?_; clear hs a; intro a hs
  refine a_val hs rfl rfl rfl (y_assign hs rfl) ?_; clear hs a; intro a hs
  refine a_val hs rfl rfl rfl (y_assign hs rfl) ?_; clear hs a; intro a hs
  refine wpList_nil (then_normal ?_)
  refine wp_seq ?_
  refine wp_region_lit ?_
  refine a_val hs rfl rfl rfl (y_loadPt 1 rfl hs Tryd.underlying26 rfl (by kernel_rfl) rfl) ?_; clear hs a; intro a hs
  refine a_eff rfl (e_callX Tryd.func10 rfl rfl hs rfl rfl (Write_ok A' c' l' b1 b2 (r' : Int) _ (Kd.C_below hA' hs.mem.base) hg') (fun e w1 ⟨A2, c2, he, hm⟩ => ⟨_, he, _, hs.mem.more hm, ?_⟩)); clear hs a; intro a hs
  refine a_val hs rfl rfl rfl (y_move hs rfl) ?_; clear hs a; intro a hs
  refine a_val hs rfl rfl rfl (y_extract hs rfl rfl) ?_; clear hs a; intro a hs
  refine a_val hs rfl rfl rfl (y_extract hs rfl rfl) ?_; clear hs a; intro a hs
  refine a_val hs rfl rfl rfl (y_assign hs rfl) ?_; clear hs a; intro a hs
  refine a_val hs rfl rfl rfl (y_assign hs rfl) ?_; clear hs a; intro a hs
  refine wpList_nil (then_normal ?_)
  refine wp_seq ?_
  refine wp_region_lit ?_
  refine a_val hs rfl rfl rfl (y_loadPt 3 rfl hs Tryd.underlying26 rfl (by kernel_rfl) rfl) ?_; clear hs a; intro a hs
  refine a_eff rfl (e_callB Tryd.func11 rfl rfl hs rfl rfl (Text_ok A c l a1 a2 r hr _ (Kd.C_below hA hs.mem.base) hg (varKeep hs.mem.base hP) (varKeep hs.mem.base hD)) ?_); clear hs a; intro a w hs
  refine a_val hs rfl rfl rfl (y_move hs rfl) ?_; clear hs a; intro a hs
  refine a_val hs rfl rfl rfl (y_extract hs rfl rfl) ?_; clear hs a; intro a hs
  refine a_val hs rfl rfl rfl (y_extract hs rfl rfl) ?_; clear hs a; intro a hs
  refine a_val hs rfl rfl rfl (y_assign hs rfl) ?_; clear hs a; intro a hs
  refine a_val hs rfl rfl rfl (y_assign hs rfl) ?_; clear hs a; intro a hs
  refine wpList_nil (then_normal ?_)
  refine wp_seq ?_
  refine wp_region_lit ?_
  refine a_val hs rfl rfl rfl (y_loadPt 2 rfl hs Tryd.underlying26 rfl (by kernel_rfl) rfl) ?_; clear hs a; intro a hs
  refine a_eff rfl (e_callB Tryd.func11 rfl rfl hs rfl rfl (Text_ok A' c' l' b1 b2 r' hr' _ (Kd.C_below hA' hs.mem.base) hg' (varKeep hs.mem.base hP) (varKeep hs.mem.base hD)) ?_); clear hs a; intro a w hs
  refine a_val hs rfl rfl rfl (y_move hs rfl) ?_; clear hs a; intro a hs
  refine a_val hs rfl rfl rfl (y_extract hs rfl rfl) ?_; clear hs a; intro a hs
  refine a_val hs rfl rfl rfl (y_extract hs rfl rfl) ?_; clear hs a; intro a hs
  refine a_val hs rfl rfl rfl (y_assign hs rfl) ?_; clear hs a; intro a hs
  refine a_val hs rfl rfl rfl (y_assign hs rfl) ?_; clear hs a; intro a hs
  refine wpList_nil (then_normal ?_)
  refine wp_seq ?_
  refine wp_seq ?_
  refine wp_region_lit ?_
  refine a_val hs rfl rfl rfl (y_move hs rfl) ?_; clear hs a; intro a hs
  refine a_val hs rfl rfl rfl (y_cmp (b := false) hs rfl rfl (congrArg some (bne_eq_false_iff_eq.2 (by rw [ep])))) ?_; clear hs a; intro a hs
  refine a_val hs rfl rfl rfl (y_move hs rfl) ?_; clear hs a; intro a hs
  refine a_valG hs rfl rfl rfl (y_move hs rfl) ?_; clear hs a; intro a hs
  refine a_valG hs rfl rfl rfl (y_cmp (b := true) hs rfl rfl (congrArg some (bne_iff_ne.2 (by rw [eq]; decide)))) ?_; clear hs a; intro a hs
  refine a_val hs rfl rfl rfl (y_pickF hs rfl rfl rfl) ?_; clear hs a; intro a hs
  refine a_val hs rfl rfl rfl (y_move hs rfl) ?_; clear hs a; intro a hs
  refine a_skip hs rfl rfl rfl ?_; clear hs a; intro a hs
  refine a_skip hs rfl rfl rfl ?_; clear hs a; intro a hs
  refine a_val hs rfl rfl rfl (y_pickT hs rfl rfl rfl) ?_; clear hs a; intro a hs
  refine a_val hs rfl rfl rfl (y_move hs rfl) ?_; clear hs a; intro a hs
  refine a_skip hs rfl rfl rfl ?_; clear hs a; intro a hs
  refine a_skip hs rfl rfl rfl ?_; clear hs a; intro a hs
  refine a_val hs rfl rfl rfl (y_pickT hs rfl rfl rfl) ?_; clear hs a; intro a hs
  refine wpList_nil (then_normal ?_)
  refine wp_cond_true (hs.ev rfl) ?_
  refine wp_seq ?_
  refine wp_region_lit ?_
  refine a_eff rfl (e_callB Tryd.func13 rfl rfl hs rfl rfl (law_anchored _ (varKeep hs.mem.base hP) (varKeep hs.mem.base hD)) ?_); clear hs a; intro a w hs
  refine a_val hs rfl rfl rfl (y_move hs rfl) ?_; clear hs a; intro a hs
  refine a_valG hs rfl rfl rfl (y_loadPt 3 rfl hs Tryd.underlying26 rfl (by kernel_rfl) rfl) ?_; clear hs a; intro a hs
  refine a_effG hs rfl (e_callB Tryd.func12 rfl rfl hs rfl rfl (ref_Can A c l a1 a2 (r : Int) _ (Kd.C_below hA hs.mem.base) hg) ?_); clear hs a; intro a w hs
  replace hs := hs.say 51 rfl (congrArg Value.bool hp)
  refine a_valG hs rfl rfl rfl (y_not hs rfl) ?_; clear hs a; intro a hs
  refine a_valG hs rfl rfl rfl (y_move hs rfl) ?_; clear hs a; intro a hs
  refine a_valG hs rfl rfl rfl (y_loadPt 2 rfl hs Tryd.underlying26 rfl (by kernel_rfl) rfl) ?_; clear hs a; intro a hs
  refine a_effG hs rfl (e_callB Tryd.func12 rfl rfl hs rfl rfl (ref_Can A' c' l' b1 b2 (r' : Int) _ (Kd.C_below hA' hs.mem.base) hg') ?_); clear hs a; intro a w hs
  replace hs := hs.say 55 rfl (congrArg Value.bool hq)
  refine a_valG hs rfl rfl rfl (y_not hs rfl) ?_; clear hs a; intro a hs
  refine a_valG hs rfl rfl rfl (y_pickF hs rfl rfl rfl) ?_; clear hs a; intro a hs
  refine a_val hs rfl rfl rfl (y_pickT hs rfl rfl rfl) ?_; clear hs a; intro a hs
  refine a_val hs rfl rfl rfl (y_assign hs rfl) ?_; clear hs a; intro a hs
  refine wpList_nil (then_normal ?_)
  refine wp_ret (then_ret ?_)
  refine fin_ret hs (.tmp (hs.slots _ _ rfl) .nil) ⟨rfl, hs.mem.base⟩

set_option maxRecDepth 100000 in
theorem unlike_ok (A : Option Addr) (c : Nat) (l : List Stp) (a1 a2 : Int) (r : Nat) (hr : r < 2 ^ 64) (A' : Option Addr) (c' : Nat) (l' : List Stp) (b1 b2 : Int) (r' : Nat) (hr' : r' < 2 ^ 64) (v0 : World) (hA : Kd.C k47 v0 A l.length l) (hc : l.length ≤ c) (hg : ∀ s ∈ l, 0 ≤ s.f0 ∧ 0 ≤ s.f3 ∧ s.f3 ≤ 255) (hA' : Kd.C k47 v0 A' l'.length l') (hc' : l'.length ≤ c') (hg' : ∀ s ∈ l', 0 ≤ s.f0 ∧ 0 ≤ s.f3 ∧ s.f3 ≤ 255) (hP : Pow10 v0) (hD : DB v0) (hp : okProg l a1 a2 = true) (hq : okProg l' b1 b2 = true) :
    Calls Tryd.prog 8 #[.agg #[.slice A l.length c, .int .i64 a1, .int .i64 a2, .int .u64 (r : Int)], .agg #[.slice A' l'.length c', .int .i64 b1, .int .i64 b2, .int .u64 (r' : Int)]] v0 fun e w' => e = .returned (.bool true) ∧ Below v0.heap.size v0 w' := by
  refine calls_enter (N := 77) (n := 75) (args := [.agg #[.slice A l.length c, .int .i64 a1, .int .i64 a2, .int .u64 (r : Int)], .agg #[.slice A' l'.length c', .int .i64 b1, .int .i64 b2, .int .u64 (r' : Int)]]) Tryd.func8 rfl rfl rfl (H.init v0) (fun a hs => ?_)
  have ep : writeA l a1 a2 (r : Int) = (writeL l a1 a2 (r : Int), 0) := by unfold writeA; rw [hp]; rfl
  have eq : writeA l' b1 b2 (r' : Int) = (writeL l' b1 b2 (r' : Int), 0) := by unfold writeA; rw [hq]; rfl
  have tp : textP l a1 a2 r = (textB l a1 a2 r, 0) := by unfold textP; rw [hp]; rfl
  have tq : textP l' b1 b2 r' = (textB l' b1 b2 r', 0) := by unfold textP; rw [hq]; rfl
  refine wp_seq ?_
  refine wp_region_lit ?_
  refine a_eff rfl (e_box (cs := #[_, _, _, _]) hs rfl rfl rfl ?_); clear hs a; intro gp a w hs
  refine a_eff rfl (e_box (cs := #[_, _, _, _]) hs rfl rfl rfl ?_); clear hs a; intro gq a w hs
  refine a_val hs rfl rfl rfl (y_assign hs rfl) ?_; clear hs a; intro a hs
  refine wpList_nil (then_normal ?_)
  refine wp_seq ?_
  refine wp_region_lit ?_
  refine a_val hs rfl rfl rfl (y_loadPt 1 rfl hs Tryd.underlying26 rfl (by kernel_rfl) rfl) ?_; clear hs a; intro a hs
  refine a_eff rfl (e_callX Tryd.func10 rfl rfl hs rfl rfl (Write_ok A c l a1 a2 (r : Int) _ (Kd.C_below hA hs.mem.base) hg) (fun e w1 ⟨A1, c1, he, hm⟩ => ⟨_, he, _, hs.mem.more hm, ?_⟩)); clear hs a; intro a hs
  refine a_val hs rfl rfl rfl (y_move hs rfl) ?_; clear hs a; intro a hs
  refine a_val hs rfl rfl rfl (y_extract hs rfl rfl) ?_; clear hs a; intro a hs
  refine a_val hs rfl rfl rfl (y_extract hs rfl rfl) ?_; clear hs a; intro a hs
  refine a_val hs rfl rfl rfl (y_assign hs rfl) ?_; clear hs a; intro a hs
  refine a_val hs rfl rfl rfl (y_assign hs rfl) ?_; clear hs a; intro a hs
  refine wpList_nil (then_normal ?_)
  refine wp_seq ?_
  refine wp_region_lit ?_
  refine a_val hs rfl rfl rfl (y_loadPt 1 rfl hs Tryd.underlying26 rfl (by kernel_rfl) rfl) ?_; clear hs a; intro a hs
  refine a_eff rfl (e_callX Tryd.func10 rfl rfl hs rfl rfl (Write_ok A' c' l' b1 b2 (r' : Int) _ (Kd.C_below hA' hs.mem.base) hg') (fun e w1 ⟨A2, c2, he, hm⟩ => ⟨_, he, _, hs.mem.more hm, ?_⟩)); clear hs a; intro a hs
  refine a_val hs rfl rfl rfl (y_move hs rfl) ?_; clear hs a; intro a hs
  refine a_val hs rfl rfl rfl (y_extract hs rfl rfl) ?_; clear hs a; intro a hs
  refine a_val hs rfl rfl rfl (y_extract hs rfl rfl) ?_; clear hs a; intro a hs
  refine a_val hs rfl rfl rfl (y_assign hs rfl) ?_; clear hs a; intro a hs
  refine a_val hs rfl rfl rfl (y_assign hs rfl) ?_; clear hs a; intro a hs
  refine wpList_nil (then_normal ?_)
  refine wp_seq ?_
  refine wp_region_lit ?_
  refine a_val hs rfl rfl rfl (y_loadPt 3 rfl hs Tryd.underlying26 rfl (by kernel_rfl) rfl) ?_; clear hs a; intro a hs
  refine a_eff rfl (e_callB Tryd.func11 rfl rfl hs rfl rfl (Text_ok A c l a1 a2 r hr _ (Kd.C_below hA hs.mem.base) hg (varKeep hs.mem.base hP) (varKeep hs.mem.base hD)) ?_); clear hs a; intro a w hs
  refine a_val hs rfl rfl rfl (y_move hs rfl) ?_; clear hs a; intro a hs
  refine a_val hs rfl rfl rfl (y_extract hs rfl rfl) ?_; clear hs a; intro a hs
  refine a_val hs rfl rfl rfl (y_extract hs rfl rfl) ?_; clear hs a; intro a hs
  refine a_val hs rfl rfl rfl (y_assign hs rfl) ?_; clear hs a; intro a hs
  refine a_val hs rfl rfl rfl (y_assign hs rfl) ?_; clear hs a; intro a hs
  refine wpList_nil (then_normal ?_)
  refine wp_seq ?_
  refine wp_region_lit ?_
  refine a_val hs rfl rfl rfl (y_loadPt 2 rfl hs Tryd.underlying26 rfl (by kernel_rfl) rfl) ?_; clear hs a; intro a hs
  refine a_eff rfl (e_callB Tryd.func11 rfl rfl hs rfl rfl (Text_ok A' c' l' b1 b2 r' hr' _ (Kd.C_below hA' hs.mem.base) hg' (varKeep hs.mem.base hP) (varKeep hs.mem.base hD)) ?_); clear hs a; intro a w hs
  refine a_val hs rfl rfl rfl (y_move hs rfl) ?_; clear hs a; intro a hs
  refine a_val hs rfl rfl rfl (y_extract hs rfl rfl) ?_; clear hs a; intro a hs
  refine a_val hs rfl rfl rfl (y_extract hs rfl rfl) ?_; clear hs a; intro a hs
  refine a_val hs rfl rfl rfl (y_assign hs rfl) ?_; clear hs a; intro a hs
  refine a_val hs rfl rfl rfl (y_assign hs rfl) ?_; clear hs a; intro a hs
  refine wpList_nil (then_normal ?_)
  refine wp_seq ?_
  refine wp_seq ?_
  refine wp_region_lit ?_
  refine a_val hs rfl rfl rfl (y_move hs rfl) ?_; clear hs a; intro a hs
  refine a_val hs rfl rfl rfl (y_cmp (b := false) hs rfl rfl (congrArg some (bne_eq_false_iff_eq.2 (by rw [ep])))) ?_; clear hs a; intro a hs
  refine a_val hs rfl rfl rfl (y_move hs rfl) ?_; clear hs a; intro a hs
  refine a_valG hs rfl rfl rfl (y_move hs rfl) ?_; clear hs a; intro a hs
  refine a_valG hs rfl rfl rfl (y_cmp (b := false) hs rfl rfl (congrArg some (bne_eq_false_iff_eq.2 (by rw [eq])))) ?_; clear hs a; intro a hs
  refine a_val hs rfl rfl rfl (y_pickF hs rfl rfl rfl) ?_; clear hs a; intro a hs
  refine a_val hs rfl rfl rfl (y_move hs rfl) ?_; clear hs a; intro a hs
  refine a_valG hs rfl rfl rfl (y_move hs rfl) ?_; clear hs a; intro a hs
  refine a_valG hs rfl rfl rfl (y_cmp (b := false) hs rfl rfl (congrArg some (bne_eq_false_iff_eq.2 (by rw [tp])))) ?_; clear hs a; intro a hs
  refine a_val hs rfl rfl rfl (y_pickF hs rfl rfl rfl) ?_; clear hs a; intro a hs
  refine a_val hs rfl rfl rfl (y_move hs rfl) ?_; clear hs a; intro a hs
  refine a_valG hs rfl rfl rfl (y_move hs rfl) ?_; clear hs a; intro a hs
  refine a_valG hs rfl rfl rfl (y_cmp (b := false) hs rfl rfl (congrArg some (bne_eq_false_iff_eq.2 (by rw [tq])))) ?_; clear hs a; intro a hs
  refine a_val hs rfl rfl rfl (y_pickF hs rfl rfl rfl) ?_; clear hs a; intro a hs
  refine wpList_nil (then_normal ?_)
  refine wp_cond_false (hs.ev rfl) ?_
  refine wp_skip (then_normal ?_)
  refine wp_seq ?_
  refine wp_region_lit ?_
  refine a_val hs rfl rfl rfl (y_loadPt 3 rfl hs Tryd.underlying26 rfl (by kernel_rfl) rfl) ?_; clear hs a; intro a hs
  refine a_val hs rfl rfl rfl (y_loadPt 2 rfl hs Tryd.underlying26 rfl (by kernel_rfl) rfl) ?_; clear hs a; intro a hs
  have hok1 := (okProg_yes hp).1
  refine a_eff rfl (e_callX Tryd.func17 rfl rfl hs rfl rfl (psame A A' c c' l l' a1 a2 (r : Int) b1 b2 (r' : Int) _ ⟨Kd.C_below hA hs.mem.base, hc⟩ ⟨Kd.C_below hA' hs.mem.base, hc'⟩ (by omega)) (fun e w1 ⟨bb, he, hbb, hb⟩ => ⟨_, he, _, hs.mem.grow hb, ?_⟩)); clear hs a; intro a hs
  refine a_val hs rfl rfl rfl (y_assign hs rfl) ?_; clear hs a; intro a hs
  refine wpList_nil (then_normal ?_)
  refine wp_seq ?_
  refine wp_region_lit ?_
  refine a_eff rfl (e_callB Tryd.func13 rfl rfl hs rfl rfl (law_anchored _ (varKeep hs.mem.base hP) (varKeep hs.mem.base hD)) ?_); clear hs a; intro a w hs
  refine a_val hs rfl rfl rfl (y_move hs rfl) ?_; clear hs a; intro a hs
  refine a_valG hs rfl rfl rfl (y_move hs rfl) ?_; clear hs a; intro a hs
  refine a_valG hs rfl rfl rfl (y_move hs rfl) ?_; clear hs a; intro a hs
  refine a_effG hs rfl (e_callX Tryd.func18 rfl rfl hs rfl rfl (bsame A1 A2 c1 c2 _ _ _ (by rw [ep]; exact writeL_byte hp (fun s hs => (hg s hs).2)) (by rw [eq]; exact writeL_byte hq (fun s hs => (hg' s hs).2)) ((hs.mem.to 1 rfl).rowC (d := Kd.int .u8) (fun _ _ => rfl) encU_len rfl rfl (writeA_len _ _ _ _)) ((hs.mem.to 0 rfl).rowC (d := Kd.int .u8) (fun _ _ => rfl) encU_len rfl rfl (writeA_len _ _ _ _))) (fun e w1 ⟨b3, he, hb3, hb⟩ => ⟨_, he, _, hs.mem.grow hb, ?_⟩)); clear hs a; intro a hs
  refine a_valG hs rfl rfl rfl (y_move hs rfl) ?_; clear hs a; intro a hs
  refine a_valG hs rfl rfl rfl (y_beqB (c := true) hs Tryd.underlying4 rfl rfl (unlike_bytes hp hq hr hr' ep eq hbb hb3)) ?_; clear hs a; intro a hs
  refine a_val hs rfl rfl rfl (y_pickT hs rfl rfl rfl) ?_; clear hs a; intro a hs
  refine a_val hs rfl rfl rfl (y_move hs rfl) ?_; clear hs a; intro a hs
  refine a_valG hs rfl rfl rfl (y_move hs rfl) ?_; clear hs a; intro a hs
  refine a_valG hs rfl rfl rfl (y_move hs rfl) ?_; clear hs a; intro a hs
  refine a_valG hs rfl rfl rfl (y_seq hs rfl rfl) ?_; clear hs a; intro a hs
  refine a_valG hs rfl rfl rfl (y_move hs rfl) ?_; clear hs a; intro a hs
  refine a_valG hs rfl rfl rfl (y_beqB (c := true) hs Tryd.underlying4 rfl rfl (unlike_text hp hq hr hr' (fun s hs => (hg s hs).2) (fun s hs => (hg' s hs).2) tp tq hbb)) ?_; clear hs a; intro a hs
  refine a_val hs rfl rfl rfl (y_pickT hs rfl rfl rfl) ?_; clear hs a; intro a hs
  refine a_val hs rfl rfl rfl (y_assign hs rfl) ?_; clear hs a; intro a hs
  refine wpList_nil (then_normal ?_)
  refine wp_ret ?_
  refine fin_ret hs (.tmp (hs.slots _ _ rfl) .nil) ⟨rfl, hs.mem.base⟩

theorem law_EmitUnlike (A : Option Addr) (c : Nat) (l : List Stp) (a1 a2 : Int) (r : Nat) (hr : r < 2 ^ 64) (A' : Option Addr) (c' : Nat) (l' : List Stp) (b1 b2 : Int) (r' : Nat) (hr' : r' < 2 ^ 64) (v0 : World) (hA : Kd.C k47 v0 A l.length l) (hc : l.length ≤ c) (hg : ∀ s ∈ l, 0 ≤ s.f0 ∧ 0 ≤ s.f3 ∧ s.f3 ≤ 255) (hA' : Kd.C k47 v0 A' l'.length l') (hc' : l'.length ≤ c') (hg' : ∀ s ∈ l', 0 ≤ s.f0 ∧ 0 ≤ s.f3 ∧ s.f3 ≤ 255) (hP : Pow10 v0) (hD : DB v0) :
    Calls Tryd.prog 8 #[.agg #[.slice A l.length c, .int .i64 a1, .int .i64 a2, .int .u64 (r : Int)], .agg #[.slice A' l'.length c', .int .i64 b1, .int .i64 b2, .int .u64 (r' : Int)]] v0 fun e w' => e = .returned (.bool true) ∧ Below v0.heap.size v0 w' := by
  cases hp : okProg l a1 a2 with
  | false => exact unlike_p A c l a1 a2 r hr A' c' l' b1 b2 r' hr' v0 hA hc hg hA' hc' hg' hP hD hp
  | true =>
    cases hq : okProg l' b1 b2 with
    | false => exact unlike_q A c l a1 a2 r hr A' c' l' b1 b2 r' hr' v0 hA hc hg hA' hc' hg' hP hD hp hq
    | true => exact unlike_ok A c l a1 a2 r hr A' c' l' b1 b2 r' hr' v0 hA hc hg hA' hc' hg' hP hD hp hq
end Go.Proofs.YtpdemfnemkmelaaDoor.E
