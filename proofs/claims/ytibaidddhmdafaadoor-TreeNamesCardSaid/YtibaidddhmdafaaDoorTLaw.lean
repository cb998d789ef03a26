/- The law's twos, anchored; TreeNames, TreeBrackets. Conditions: strconv's table stands in its variable. -/
import Derived.Test.YtibaidddhmdafaaDoorTPure
namespace Go.Proofs.YtibaidddhmdafaaDoor.E
open Go Go.RowKit Go.Proofs.YtibaidddhmdafaaDoorW.PrintWords Go.Proofs.YtibaidddhmdafaaDoorW.PrintLast Go.Proofs.YtibaidddhmdafaaDoorW.PrintMore Go.Proofs.YtibaidddhmdafaaDoor.PA
set_option linter.unusedVariables false
set_option linter.unusedSimpArgs false
def TwosOk (n : Nat) : Prop := ∀ (x : XE) (A : Option Addr) (C : Nat) (v0 : World), Kd.C k25 v0 A x.f3.length x.f3 → shapeX n x →
    Calls Tryd.prog 13 #[.agg #[.int .u8 x.f0, .int .i64 x.f1, .string x.f2, .slice A x.f3.length C, .int .i64 x.f4, .int .i64 x.f5]] v0 fun e w' => e = .returned (.int .i64 ((twosX n x : Nat) : Int)) ∧ Below v0.heap.size v0 w'

def twoB (x : XE) : Nat := if x.f3.length = 2 then 1 else 0

set_option maxRecDepth 100000 in
theorem twos_step (n : Nat) (hn : n ≤ 16) (ih : ∀ q, q + 1 = n → TwosOk q) (x : XE) (A : Option Addr) (C : Nat) (v0 : World) (hA : Kd.C k25 v0 A x.f3.length x.f3) (hS : shapeX n x) :
    Calls Tryd.prog 13 #[.agg #[.int .u8 x.f0, .int .i64 x.f1, .string x.f2, .slice A x.f3.length C, .int .i64 x.f4, .int .i64 x.f5]] v0 fun e w' => e = .returned (.int .i64 ((twosX n x : Nat) : Int)) ∧ Below v0.heap.size v0 w' := by
  refine calls_enter (N := 25) (n := 24) (args := [.agg #[.int .u8 x.f0, .int .i64 x.f1, .string x.f2, .slice A x.f3.length C, .int .i64 x.f4, .int .i64 x.f5]]) Tryd.func13 rfl rfl rfl (H.init v0) (fun a hs => ?_)
  obtain ⟨q, rfl⟩ : ∃ q, n = q + 1 := by cases n with | zero => exact hS.elim | succ q => exact ⟨q, rfl⟩
  obtain ⟨hp, hq⟩ := hS
  have hl2 := exprParts_le hp
  have h2q : 2 ^ q ≤ 65536 := Nat.le_trans (Nat.pow_le_pow_right (by decide) (show q ≤ 16 by omega)) (by decide)
  refine wp_seq ?_
  refine wp_region_lit ?_
  refine a_eff rfl (e_box (cs := #[_, _, _, _, _, _]) hs rfl rfl rfl ?_); clear hs a; intro gx a w hs
  refine a_val hs rfl rfl rfl (y_assign hs rfl) ?_; clear hs a; intro a hs
  refine wpList_nil (then_normal ?_)
  refine wp_seq ?_
  refine wp_region_lit ?_
  refine a_val hs rfl rfl rfl (y_assign hs rfl) ?_; clear hs a; intro a hs
  refine wpList_nil (then_normal ?_)
  refine wp_seq ?_
  refine wp_seq ?_
  refine wp_region_lit ?_
  refine a_val hs rfl rfl rfl (y_faddr (k' := 3) 3 hs (by kernel_rfl) rfl rfl) ?_; clear hs a; intro a hs
  refine a_val hs rfl rfl rfl (y_load hs Tryd.underlying23 rfl rfl (fun w hw => (hw.to 0 rfl).cellV rfl)) ?_; clear hs a; intro a hs
  refine a_val hs rfl rfl rfl (y_lenL hs Tryd.underlying23 rfl) ?_; clear hs a; intro a hs
  refine a_val hs rfl rfl rfl (y_cmp hs rfl rfl rfl) ?_; clear hs a; intro a hs
  refine wpList_nil (then_normal ?_)
  refine wp_cond_split (hs.ev rfl) (fun h8 => ?_) (fun h8 => ?_)
  · replace h8 := eq_of_beq h8
    refine wp_region_lit ?_
    refine a_val hs rfl rfl rfl (y_assign hs rfl) ?_; clear hs a; intro a hs
    refine wpList_nil (then_normal ?_)
    refine wp_seq ?_
    refine wp_seq ?_
    refine wp_region_lit ?_
    refine a_val hs rfl rfl rfl (y_assign hs rfl) ?_; clear hs a; intro a hs
    refine wpList_nil (then_normal ?_)
    refine wp_block ?_
    refine wp_loopN (fun m a w1 => ∃ (i : Nat), (i + m = x.f3.length) ∧ ((twoB x + ((x.f3.take i).map (twosX q)).sum) + (i * 2 ^ q) ≤ (twoB x + ((x.f3.take i).map (twosX q)).sum) + i * 2 ^ q + i * 2 ^ q) ∧ ((twoB x + ((x.f3.take i).map (twosX q)).sum) ≤ 1 + i * 2 ^ q) ∧ St 25 v0 [(1, .pointer (some ⟨gx, 0, none⟩)), (3, .int .i64 (((twoB x + ((x.f3.take i).map (twosX q)).sum) : Nat) : Int)), (4, .int .i64 ((i : Nat) : Int))] [pt gx #[.int .u8 x.f0, .int .i64 x.f1, .string x.f2, .slice A x.f3.length C, .int .i64 x.f4, .int .i64 x.f5] 25] a w1) (x.f3.length) ⟨0, by omega, by omega, by unfold twoB; split <;> simp, ?_⟩ (fun m a w1 hJ => ?_)
    · replace hs := hs.say 3 rfl (congrArg (Value.int IntKind.i64) (show _ = ((twoB x + ((x.f3.take 0).map (twosX q)).sum : Nat) : Int) by unfold twoB; first | (rw [if_pos (by omega)]; rfl) | (rw [if_neg (by omega)]; rfl)))
      exact (hs.mem_to hs.mem).cut _ ⟨rfl, rfl, rfl, trivial⟩
    · clear hs
      obtain ⟨i, hi, hb, hs2, hs⟩ := hJ
      refine wp_seq ?_
      refine wp_seq ?_
      refine wp_region_lit ?_
      refine a_val hs rfl rfl rfl (y_move hs rfl) ?_; clear hs a; intro a hs
      refine a_val hs rfl rfl rfl (y_faddr (k' := 3) 3 hs (by kernel_rfl) rfl rfl) ?_; clear hs a; intro a hs
      refine a_val hs rfl rfl rfl (y_load hs Tryd.underlying23 rfl rfl (fun w hw => (hw.to 0 rfl).cellV rfl)) ?_; clear hs a; intro a hs
      refine a_val hs rfl rfl rfl (y_lenL hs Tryd.underlying23 rfl) ?_; clear hs a; intro a hs
      refine a_val hs rfl rfl rfl (y_cmp hs rfl rfl rfl) ?_; clear hs a; intro a hs
      refine wpList_nil (then_normal ?_)
      refine wp_cond_split (hs.ev rfl) (fun h13 => ?_) (fun h13 => ?_)
      · replace h13 := of_decide_eq_true h13
        obtain ⟨y, hy⟩ : ∃ y, x.f3[i]? = some y := ⟨_, List.getElem?_eq_getElem (by omega)⟩
        obtain ⟨g0, o, rfl, hcell⟩ := C_atG (show 0 < 6 by decide) hA (by omega)
        obtain ⟨cs, hK, hc⟩ := hcell i y hy
        obtain ⟨A0, c0, rfl, hlc, hC⟩ := k25_open hK
        have hsum : twoB x + ((x.f3.take (i + 1)).map (twosX q)).sum = twoB x + ((x.f3.take i).map (twosX q)).sum + twosX q y := by rw [List.take_add_one, hy, List.map_append, List.sum_append]; simp; omega
        have hi2 : i * 2 ^ q ≤ 2 * 65536 := Nat.mul_le_mul (by omega) h2q
        refine wp_skip (then_normal ?_)
        refine wp_seq ?_
        refine wp_block ?_
        refine wp_region_lit ?_
        refine a_val hs rfl rfl rfl (y_move hs rfl) ?_; clear hs a; intro a hs
        refine a_val hs rfl rfl rfl (y_faddr (k' := 3) 3 hs (by kernel_rfl) rfl rfl) ?_; clear hs a; intro a hs
        refine a_val hs rfl rfl rfl (y_load hs Tryd.underlying23 rfl rfl (fun w hw => (hw.to 0 rfl).cellV rfl)) ?_; clear hs a; intro a hs
        refine a_val hs rfl rfl rfl (y_move hs rfl) ?_; clear hs a; intro a hs
        refine a_val hs rfl rfl rfl (y_idxB (size := 6) (off := o + i * 6) hs Tryd.underlying23 (by kernel_rfl) rfl rfl (by omega) (by omega) (by simp)) ?_; clear hs a; intro a hs
        refine a_val hs rfl rfl rfl (y_loadAgg (vs := [.int .u8 y.f0, .int .i64 y.f1, .string y.f2, .slice A0 y.f3.length c0, .int .i64 y.f4, .int .i64 y.f5]) hs Tryd.underlying25 rfl (by kernel_rfl) rfl (fun w hw k v hk => hc w hw.base k v hk)) ?_; clear hs a; intro a hs
        have htw := twos_le q y (hq y (List.mem_of_getElem? hy))
        refine a_eff rfl (e_callB Tryd.func13 rfl rfl hs rfl rfl (ih q rfl y A0 c0 _ (Kd.C_below hC hs.mem.base) (hq y (List.mem_of_getElem? hy))) ?_); clear hs a; intro a w hs
        refine a_val hs rfl rfl rfl (y_add hs rfl rfl (by omega)) ?_; clear hs a; intro a hs
        refine a_val hs rfl rfl rfl (y_assign hs rfl) ?_; clear hs a; intro a hs
        refine wpList_nil (in_normal (then_normal ?_))
        refine wp_region_lit ?_
        refine a_val hs rfl rfl rfl (y_move hs rfl) ?_; clear hs a; intro a hs
        refine a_val hs rfl rfl rfl (y_add hs rfl rfl (by omega)) ?_; clear hs a; intro a hs
        refine a_val hs rfl rfl rfl (y_assign hs rfl) ?_; clear hs a; intro a hs
        refine wpList_nil (then_normal ?_)
        replace hs := hs.say 3 rfl (congrArg (Value.int IntKind.i64) (show _ = ((twoB x + ((x.f3.take (i + 1)).map (twosX q)).sum : Nat) : Int) by rw [hsum]; omega))
        refine ⟨m - 1, by omega, i + 1, by omega, by omega, by rw [hsum, Nat.add_mul]; omega, ?_⟩
        exact (hs.mem_to hs.mem).cut _ ⟨rfl, rfl, rfl, trivial⟩
      · replace h13 := of_decide_eq_false h13
        have hX : twosX (q + 1) x = (twoB x + ((x.f3.take i).map (twosX q)).sum) := by rw [List.take_of_length_le (by omega), twosX]; rfl
        refine wp_exit (then_exit (then_exit (in_here (then_normal ?_))))
        refine wp_seq ?_
        refine wp_region_lit ?_
        refine a_val hs rfl rfl rfl (y_move hs rfl) ?_; clear hs a; intro a hs
        refine a_val hs rfl rfl rfl (y_assign hs rfl) ?_; clear hs a; intro a hs
        refine wpList_nil (then_normal ?_)
        refine wp_ret ?_
        refine fin_ret hs (.tmp (hs.slots _ _ rfl) .nil) ⟨?_, hs.mem.base⟩
        rw [hX]; rfl
  · replace h8 := ne_of_beq_false h8
    refine wp_skip (then_normal ?_)
    refine wp_seq ?_
    refine wp_seq ?_
    refine wp_region_lit ?_
    refine a_val hs rfl rfl rfl (y_assign hs rfl) ?_; clear hs a; intro a hs
    refine wpList_nil (then_normal ?_)
    refine wp_block ?_
    refine wp_loopN (fun m a w1 => ∃ (i : Nat), (i + m = x.f3.length) ∧ ((twoB x + ((x.f3.take i).map (twosX q)).sum) + (i * 2 ^ q) ≤ (twoB x + ((x.f3.take i).map (twosX q)).sum) + i * 2 ^ q + i * 2 ^ q) ∧ ((twoB x + ((x.f3.take i).map (twosX q)).sum) ≤ 1 + i * 2 ^ q) ∧ St 25 v0 [(1, .pointer (some ⟨gx, 0, none⟩)), (3, .int .i64 (((twoB x + ((x.f3.take i).map (twosX q)).sum) : Nat) : Int)), (4, .int .i64 ((i : Nat) : Int))] [pt gx #[.int .u8 x.f0, .int .i64 x.f1, .string x.f2, .slice A x.f3.length C, .int .i64 x.f4, .int .i64 x.f5] 25] a w1) (x.f3.length) ⟨0, by omega, by omega, by unfold twoB; split <;> simp, ?_⟩ (fun m a w1 hJ => ?_)
    · replace hs := hs.say 3 rfl (congrArg (Value.int IntKind.i64) (show _ = ((twoB x + ((x.f3.take 0).map (twosX q)).sum : Nat) : Int) by unfold twoB; first | (rw [if_pos (by omega)]; rfl) | (rw [if_neg (by omega)]; rfl)))
      exact (hs.mem_to hs.mem).cut _ ⟨rfl, rfl, rfl, trivial⟩
    · clear hs
      obtain ⟨i, hi, hb, hs2, hs⟩ := hJ
      refine wp_seq ?_
      refine wp_seq ?_
      refine wp_region_lit ?_
      refine a_val hs rfl rfl rfl (y_move hs rfl) ?_; clear hs a; intro a hs
      refine a_val hs rfl rfl rfl (y_faddr (k' := 3) 3 hs (by kernel_rfl) rfl rfl) ?_; clear hs a; intro a hs
      refine a_val hs rfl rfl rfl (y_load hs Tryd.underlying23 rfl rfl (fun w hw => (hw.to 0 rfl).cellV rfl)) ?_; clear hs a; intro a hs
      refine a_val hs rfl rfl rfl (y_lenL hs Tryd.underlying23 rfl) ?_; clear hs a; intro a hs
      refine a_val hs rfl rfl rfl (y_cmp hs rfl rfl rfl) ?_; clear hs a; intro a hs
      refine wpList_nil (then_normal ?_)
      refine wp_cond_split (hs.ev rfl) (fun h13 => ?_) (fun h13 => ?_)
      · replace h13 := of_decide_eq_true h13
        obtain ⟨y, hy⟩ : ∃ y, x.f3[i]? = some y := ⟨_, List.getElem?_eq_getElem (by omega)⟩
        obtain ⟨g0, o, rfl, hcell⟩ := C_atG (show 0 < 6 by decide) hA (by omega)
        obtain ⟨cs, hK, hc⟩ := hcell i y hy
        obtain ⟨A0, c0, rfl, hlc, hC⟩ := k25_open hK
        have hsum : twoB x + ((x.f3.take (i + 1)).map (twosX q)).sum = twoB x + ((x.f3.take i).map (twosX q)).sum + twosX q y := by rw [List.take_add_one, hy, List.map_append, List.sum_append]; simp; omega
        have hi2 : i * 2 ^ q ≤ 2 * 65536 := Nat.mul_le_mul (by omega) h2q
        refine wp_skip (then_normal ?_)
        refine wp_seq ?_
        refine wp_block ?_
        refine wp_region_lit ?_
        refine a_val hs rfl rfl rfl (y_move hs rfl) ?_; clear hs a; intro a hs
        refine a_val hs rfl rfl rfl (y_faddr (k' := 3) 3 hs (by kernel_rfl) rfl rfl) ?_; clear hs a; intro a hs
        refine a_val hs rfl rfl rfl (y_load hs Tryd.underlying23 rfl rfl (fun w hw => (hw.to 0 rfl).cellV rfl)) ?_; clear hs a; intro a hs
        refine a_val hs rfl rfl rfl (y_move hs rfl) ?_; clear hs a; intro a hs
        refine a_val hs rfl rfl rfl (y_idxB (size := 6) (off := o + i * 6) hs Tryd.underlying23 (by kernel_rfl) rfl rfl (by omega) (by omega) (by simp)) ?_; clear hs a; intro a hs
        refine a_val hs rfl rfl rfl (y_loadAgg (vs := [.int .u8 y.f0, .int .i64 y.f1, .string y.f2, .slice A0 y.f3.length c0, .int .i64 y.f4, .int .i64 y.f5]) hs Tryd.underlying25 rfl (by kernel_rfl) rfl (fun w hw k v hk => hc w hw.base k v hk)) ?_; clear hs a; intro a hs
        have htw := twos_le q y (hq y (List.mem_of_getElem? hy))
        refine a_eff rfl (e_callB Tryd.func13 rfl rfl hs rfl rfl (ih q rfl y A0 c0 _ (Kd.C_below hC hs.mem.base) (hq y (List.mem_of_getElem? hy))) ?_); clear hs a; intro a w hs
        refine a_val hs rfl rfl rfl (y_add hs rfl rfl (by omega)) ?_; clear hs a; intro a hs
        refine a_val hs rfl rfl rfl (y_assign hs rfl) ?_; clear hs a; intro a hs
        refine wpList_nil (in_normal (then_normal ?_))
        refine wp_region_lit ?_
        refine a_val hs rfl rfl rfl (y_move hs rfl) ?_; clear hs a; intro a hs
        refine a_val hs rfl rfl rfl (y_add hs rfl rfl (by omega)) ?_; clear hs a; intro a hs
        refine a_val hs rfl rfl rfl (y_assign hs rfl) ?_; clear hs a; intro a hs
        refine wpList_nil (then_normal ?_)
        replace hs := hs.say 3 rfl (congrArg (Value.int IntKind.i64) (show _ = ((twoB x + ((x.f3.take (i + 1)).map (twosX q)).sum : Nat) : Int) by rw [hsum]; omega))
        refine ⟨m - 1, by omega, i + 1, by omega, by omega, by rw [hsum, Nat.add_mul]; omega, ?_⟩
        exact (hs.mem_to hs.mem).cut _ ⟨rfl, rfl, rfl, trivial⟩
      · replace h13 := of_decide_eq_false h13
        have hX : twosX (q + 1) x = (twoB x + ((x.f3.take i).map (twosX q)).sum) := by rw [List.take_of_length_le (by omega), twosX]; rfl
        refine wp_exit (then_exit (then_exit (in_here (then_normal ?_))))
        refine wp_seq ?_
        refine wp_region_lit ?_
        refine a_val hs rfl rfl rfl (y_move hs rfl) ?_; clear hs a; intro a hs
        refine a_val hs rfl rfl rfl (y_assign hs rfl) ?_; clear hs a; intro a hs
        refine wpList_nil (then_normal ?_)
        refine wp_ret ?_
        refine fin_ret hs (.tmp (hs.slots _ _ rfl) .nil) ⟨?_, hs.mem.base⟩
        rw [hX]; rfl

theorem twos_ok : ∀ n : Nat, n ≤ 16 → TwosOk n := fun n => by
  induction n using Nat.strongRecOn with
  | _ n ih => exact fun hn x A C v0 hA hS => twos_step n hn (fun q hq => ih q (by omega) (by omega)) x A C v0 hA hS

def anchOne : XE := ⟨1, 1, ⟨#[]⟩, [], 0, 0⟩
def anchA : XE := ⟨2, 0, ⟨#[97]⟩, [], 0, 0⟩
def anchX : XE := ⟨4, 0, ⟨#[]⟩, [anchOne, anchA], 0, 0⟩
def zeroX : XE := ⟨0, 0, ⟨#[]⟩, [], 0, 0⟩
theorem small_leaf (n : Nat) (a b : Int) (s : ByteArray) (h : s.size ≤ 9223372036854775807) : smallX n ⟨a, b, s, [], 0, 0⟩ := by
  cases n with
  | zero => trivial
  | succ n => exact ⟨h, fun p hp => absurd hp (by simp)⟩
theorem anch_small : smallX 16 anchX := by
  refine ⟨by decide, fun p hp => ?_⟩
  rcases List.mem_cons.1 hp with rfl | hp
  · exact small_leaf _ _ _ _ (by decide)
  · rw [List.mem_singleton] at hp; subst hp; exact small_leaf _ _ _ _ (by decide)
theorem anch_text : textX anchX = (⟨#[40, 32, 49, 32, 43, 32, 97, 32, 41]⟩, 0) := by kernel_rfl
theorem zero_deep : decide (0 < deepX zeroX) = false := by kernel_rfl
theorem anch_C (g : Nat) (bs : List Res) (w0 w : World) (h : H w0 (pt g #[.int .u8 1, .int .i64 1, .string ⟨#[]⟩, .slice none 0 0, .int .i64 0, .int .i64 0, .int .u8 2, .int .i64 0, .string ⟨#[97]⟩, .slice none 0 0, .int .i64 0, .int .i64 0] 25 :: bs) w) : Kd.C k25 w (some ⟨g, 0, none⟩) 2 [anchOne, anchA] := by
  refine h.ptCG (l := [anchOne, anchA]) (by decide) (fun i => if i = 0 then [.int .u8 anchOne.f0, .int .i64 anchOne.f1, .string anchOne.f2, .slice none anchOne.f3.length 0, .int .i64 anchOne.f4, .int .i64 anchOne.f5] else [.int .u8 anchA.f0, .int .i64 anchA.f1, .string anchA.f2, .slice none anchA.f3.length 0, .int .i64 anchA.f4, .int .i64 anchA.f5]) (fun i x hi => ?_)
  match i, hi with
  | 0, hi =>
    obtain rfl := Option.some.inj hi
    refine ⟨k25_mk _ _ (Nat.le_refl 0) (nilC _ _), rfl, fun j v hj => ?_⟩
    match j, hj with
    | 0, hj | 1, hj | 2, hj | 3, hj | 4, hj | 5, hj => exact hj
  | 1, hi =>
    obtain rfl := Option.some.inj hi
    refine ⟨k25_mk _ _ (Nat.le_refl 0) (nilC _ _), rfl, fun j v hj => ?_⟩
    match j, hj with
    | 0, hj | 1, hj | 2, hj | 3, hj | 4, hj | 5, hj => exact hj

set_option maxRecDepth 100000 in
theorem law_anchored (v0 : World) (hP : Pow10 v0) :
    Calls Tryd.prog 12 #[] v0 fun e w' => e = .returned (.bool true) ∧ Below v0.heap.size v0 w' := by
  refine calls_enter (N := 24) (n := 24) (args := []) Tryd.func12 rfl rfl rfl (H.init v0) (fun a hs => ?_)
  refine wp_seq ?_
  refine wp_region_lit ?_
  refine a_val hs rfl rfl rfl (y_assign hs rfl) ?_; clear hs a; intro a hs
  refine wpList_nil (then_normal ?_)
  refine wp_seq ?_
  refine wp_region_lit ?_
  refine a_val hs rfl rfl rfl (y_struct (zc := #[.int .u8 0, .int .i64 0, .string ⟨#[]⟩, .slice none 0 0, .int .i64 0, .int .i64 0]) (pl := [(0, 1), (1, 1), (2, 1), (3, 1), (4, 1), (5, 1)]) (cl := [_, _, .string ⟨#[]⟩, .slice none 0 0, .int .i64 0, .int .i64 0]) hs (by kernel_rfl) rfl (by rfl) rfl) ?_; clear hs a; intro a hs
  refine a_eff rfl (e_alloc (z := .agg #[.int .u8 0, .int .i64 0, .string ⟨#[]⟩, .slice none 0 0, .int .i64 0, .int .i64 0]) (cs := #[.int .u8 0, .int .i64 0, .string ⟨#[]⟩, .slice none 0 0, .int .i64 0, .int .i64 0]) hs rfl (by kernel_rfl) rfl ?_); clear hs a; intro g1 a w hs
  refine a_eff rfl (e_store (cl := [_, _, _, _, _, _]) 0 rfl hs rfl rfl (by kernel_rfl) rfl rfl rfl ?_); clear hs a; intro a w hs
  refine wpList_nil (then_normal ?_)
  refine wp_seq ?_
  refine wp_region_lit ?_
  refine a_val hs rfl rfl rfl (y_loadPt 0 rfl hs Tryd.underlying25 rfl (by kernel_rfl) rfl) ?_; clear hs a; intro a hs
  refine a_val hs rfl rfl rfl (y_struct (zc := #[.int .u8 0, .int .i64 0, .string ⟨#[]⟩, .slice none 0 0, .int .i64 0, .int .i64 0]) (pl := [(0, 1), (1, 1), (2, 1), (3, 1), (4, 1), (5, 1)]) (cl := [_, .int .i64 0, _, .slice none 0 0, .int .i64 0, .int .i64 0]) hs (by kernel_rfl) rfl (by rfl) rfl) ?_; clear hs a; intro a hs
  refine a_eff rfl (e_bslice (z := .agg #[.int .u8 0, .int .i64 0, .string ⟨#[]⟩, .slice none 0 0, .int .i64 0, .int .i64 0]) (size := 6) (zc := #[.int .u8 0, .int .i64 0, .string ⟨#[]⟩, .slice none 0 0, .int .i64 0, .int .i64 0, .int .u8 0, .int .i64 0, .string ⟨#[]⟩, .slice none 0 0, .int .i64 0, .int .i64 0]) (cl := [_, _, _, _, _, _, _, _, _, _, _, _]) hs rfl Tryd.underlying23 (by kernel_rfl) rfl rfl rfl (by kernel_rfl) (by rfl) rfl ?_); clear hs a; intro gl a w hs
  refine a_val hs rfl rfl rfl (y_struct (zc := #[.int .u8 0, .int .i64 0, .string ⟨#[]⟩, .slice none 0 0, .int .i64 0, .int .i64 0]) (pl := [(0, 1), (1, 1), (2, 1), (3, 1), (4, 1), (5, 1)]) (cl := [_, .int .i64 0, .string ⟨#[]⟩, _, .int .i64 0, .int .i64 0]) hs (by kernel_rfl) rfl (by rfl) rfl) ?_; clear hs a; intro a hs
  refine a_eff rfl (e_callB Tryd.func10 rfl rfl hs rfl rfl (by have h := tree_ExprText anchX (some ⟨gl, 0, none⟩) 2 _ (anch_C gl _ _ _ hs.mem) anch_small (varKeep hs.mem.base hP); rw [anch_text] at h; exact h) ?_); clear hs a; intro a w hs
  refine a_val hs rfl rfl rfl (y_move hs rfl) ?_; clear hs a; intro a hs
  refine a_val hs rfl rfl rfl (y_extract hs rfl rfl) ?_; clear hs a; intro a hs
  refine a_val hs rfl rfl rfl (y_extract hs rfl rfl) ?_; clear hs a; intro a hs
  refine a_val hs rfl rfl rfl (y_assign hs rfl) ?_; clear hs a; intro a hs
  refine a_val hs rfl rfl rfl (y_assign hs rfl) ?_; clear hs a; intro a hs
  refine wpList_nil (then_normal ?_)
  refine wp_seq ?_
  refine wp_region_lit ?_
  refine a_val hs rfl rfl rfl (y_move hs rfl) ?_; clear hs a; intro a hs
  refine a_val hs rfl rfl rfl (y_cmp (b := true) hs rfl rfl rfl) ?_; clear hs a; intro a hs
  refine a_val hs rfl rfl rfl (y_move hs rfl) ?_; clear hs a; intro a hs
  refine a_valG hs rfl rfl rfl (y_move hs rfl) ?_; clear hs a; intro a hs
  refine a_valG hs rfl rfl rfl (y_seqB (b := true) hs rfl rfl (by decide +kernel)) ?_; clear hs a; intro a hs
  refine a_val hs rfl rfl rfl (y_pickT hs rfl rfl rfl) ?_; clear hs a; intro a hs
  refine a_val hs rfl rfl rfl (y_move hs rfl) ?_; clear hs a; intro a hs
  refine a_valG hs rfl rfl rfl (y_struct (zc := #[.int .u8 0, .int .i64 0, .string ⟨#[]⟩, .slice none 0 0, .int .i64 0, .int .i64 0]) (pl := [(0, 1), (1, 1), (2, 1), (3, 1), (4, 1), (5, 1)]) (cl := [.int .u8 0, .int .i64 0, .string ⟨#[]⟩, .slice none 0 0, .int .i64 0, .int .i64 0]) hs (by kernel_rfl) rfl (by rfl) rfl) ?_; clear hs a; intro a hs
  refine a_effG hs rfl (e_callB Tryd.func11 rfl rfl hs rfl rfl (by have h := tree_MayExpr zeroX none 0 w (nilC _ w) (small_leaf _ _ _ _ (by decide)); rw [zero_deep] at h; exact h) ?_); clear hs a; intro a w hs
  refine a_valG hs rfl rfl rfl (y_not hs rfl) ?_; clear hs a; intro a hs
  refine a_val hs rfl rfl rfl (y_pickT hs rfl rfl rfl) ?_; clear hs a; intro a hs
  refine a_val hs rfl rfl rfl (y_assign hs rfl) ?_; clear hs a; intro a hs
  refine wpList_nil (then_normal ?_)
  refine wp_ret ?_
  refine fin_ret hs (.tmp (hs.slots _ _ rfl) .nil) ⟨rfl, hs.mem.base⟩

set_option maxRecDepth 100000 in
theorem law_TreeNames (v0 : World) (hP : Pow10 v0) :
    Calls Tryd.prog 6 #[] v0 fun e w' => e = .returned (.bool true) ∧ Below v0.heap.size v0 w' := by
  refine calls_enter (N := 4) (n := 4) (args := []) Tryd.func6 rfl rfl rfl (H.init v0) (fun a hs => ?_)
  refine wp_seq ?_
  refine wp_region_lit ?_
  refine a_val hs rfl rfl rfl (y_assign hs rfl) ?_; clear hs a; intro a hs
  refine wpList_nil (then_normal ?_)
  refine wp_seq ?_
  refine wp_region_lit ?_
  refine a_val hs rfl rfl rfl (y_move hs rfl) ?_; clear hs a; intro a hs
  refine a_effG hs rfl (e_callB Tryd.func12 rfl rfl hs rfl rfl (law_anchored _ (varKeep hs.mem.base hP)) ?_); clear hs a; intro a w hs
  refine a_val hs rfl rfl rfl (y_pickT hs rfl rfl rfl) ?_; clear hs a; intro a hs
  refine a_val hs rfl rfl rfl (y_assign hs rfl) ?_; clear hs a; intro a hs
  refine wpList_nil (then_normal ?_)
  refine wp_ret ?_
  refine fin_ret hs (.tmp (hs.slots _ _ rfl) .nil) ⟨rfl, hs.mem.base⟩

set_option maxRecDepth 100000 in
theorem law_TreeBrackets (x : XE) (A : Option Addr) (C : Nat) (v0 : World) (hA : Kd.C k25 v0 A x.f3.length x.f3) (hsm : smallX 16 x) (hP : Pow10 v0) :
    Calls Tryd.prog 3 #[.agg #[.int .u8 x.f0, .int .i64 x.f1, .string x.f2, .slice A x.f3.length C, .int .i64 x.f4, .int .i64 x.f5]] v0 fun e w' => e = .returned (.bool true) ∧ Below v0.heap.size v0 w' := by
  refine calls_enter (N := 47) (n := 46) (args := [.agg #[.int .u8 x.f0, .int .i64 x.f1, .string x.f2, .slice A x.f3.length C, .int .i64 x.f4, .int .i64 x.f5]]) Tryd.func3 rfl rfl rfl (H.init v0) (fun a hs => ?_)
  obtain ⟨s, er, hse⟩ : ∃ s er, textX x = (s, er) := ⟨_, _, rfl⟩
  refine wp_seq ?_
  refine wp_region_lit ?_
  refine a_eff rfl (e_box (cs := #[_, _, _, _, _, _]) hs rfl rfl rfl ?_); clear hs a; intro gx a w hs
  refine a_val hs rfl rfl rfl (y_assign hs rfl) ?_; clear hs a; intro a hs
  refine wpList_nil (then_normal ?_)
  refine wp_seq ?_
  refine wp_region_lit ?_
  refine a_val hs rfl rfl rfl (y_loadPt 0 rfl hs Tryd.underlying25 rfl (by kernel_rfl) rfl) ?_; clear hs a; intro a hs
  refine a_eff rfl (e_callB Tryd.func10 rfl rfl hs rfl rfl (by have h := tree_ExprText x A C _ (Kd.C_below hA hs.mem.base) hsm (varKeep hs.mem.base hP); rw [hse] at h; exact h) ?_); clear hs a; intro a w hs
  refine a_val hs rfl rfl rfl (y_move hs rfl) ?_; clear hs a; intro a hs
  refine a_val hs rfl rfl rfl (y_extract hs rfl rfl) ?_; clear hs a; intro a hs
  refine a_val hs rfl rfl rfl (y_extract hs rfl rfl) ?_; clear hs a; intro a hs
  refine a_val hs rfl rfl rfl (y_assign hs rfl) ?_; clear hs a; intro a hs
  refine a_val hs rfl rfl rfl (y_assign hs rfl) ?_; clear hs a; intro a hs
  refine wpList_nil (then_normal ?_)
  refine wp_seq ?_
  refine wp_seq ?_
  refine wp_region_lit ?_
  refine a_val hs rfl rfl rfl (y_loadPt 0 rfl hs Tryd.underlying25 rfl (by kernel_rfl) rfl) ?_; clear hs a; intro a hs
  refine a_eff rfl (e_callB Tryd.func11 rfl rfl hs rfl rfl (tree_MayExpr x A C _ (Kd.C_below hA hs.mem.base) hsm) ?_); clear hs a; intro a w hs
  refine a_val hs rfl rfl rfl (y_not hs rfl) ?_; clear hs a; intro a hs
  refine wpList_nil (then_normal ?_)
  refine wp_cond_split (hs.ev rfl) (fun h14 => ?_) (fun h14 => ?_)
  · replace h14 := of_decide_eq_false (not_t h14)
    have hT : textX x = (⟨#[]⟩, 2) := by unfold textX; rw [if_pos (by omega)]
    rw [hse] at hT
    obtain ⟨rfl, rfl⟩ := Prod.mk.inj hT
    refine wp_seq ?_
    refine wp_region_lit ?_
    refine a_eff rfl (e_callB Tryd.func12 rfl rfl hs rfl rfl (law_anchored _ (varKeep hs.mem.base hP)) ?_); clear hs a; intro a w hs
    refine a_val hs rfl rfl rfl (y_move hs rfl) ?_; clear hs a; intro a hs
    refine a_valG hs rfl rfl rfl (y_move hs rfl) ?_; clear hs a; intro a hs
    refine a_valG hs rfl rfl rfl (y_cmp (b := true) hs rfl rfl rfl) ?_; clear hs a; intro a hs
    refine a_val hs rfl rfl rfl (y_pickT hs rfl rfl rfl) ?_; clear hs a; intro a hs
    refine a_val hs rfl rfl rfl (y_assign hs rfl) ?_; clear hs a; intro a hs
    refine wpList_nil (then_normal ?_)
    refine wp_ret (then_ret ?_)
    refine fin_ret hs (.tmp (hs.slots _ _ rfl) .nil) ⟨rfl, hs.mem.base⟩
  · replace h14 := of_decide_eq_true (not_f h14)
    have hb := brackets x (by omega)
    rw [hse] at hb
    simp only at hb
    refine wp_skip (then_normal ?_)
    refine wp_seq ?_
    refine wp_region_lit ?_
    refine a_val hs rfl rfl rfl (y_assign hs rfl) ?_; clear hs a; intro a hs
    refine wpList_nil (then_normal ?_)
    refine wp_seq ?_
    refine wp_seq ?_
    refine wp_region_lit ?_
    refine a_val hs rfl rfl rfl (y_assign hs rfl) ?_; clear hs a; intro a hs
    refine wpList_nil (then_normal ?_)
    refine wp_block ?_
    refine wp_loopN (fun m a w1 => ∃ (i : Nat), (i + m = s.size) ∧ (cntB s i ≤ i) ∧ St 47 v0 [(1, .pointer (some ⟨gx, 0, none⟩)), (3, .string s), (4, .int .i64 er), (5, .int .i64 ((cntB s i : Nat) : Int)), (6, .int .i64 ((i : Nat) : Int))] [pt gx #[.int .u8 x.f0, .int .i64 x.f1, .string x.f2, .slice A x.f3.length C, .int .i64 x.f4, .int .i64 x.f5] 25] a w1) (s.size) ⟨0, by omega, Nat.le_refl _, ?_⟩ (fun m a w1 hJ => ?_)
    · exact (hs.mem_to hs.mem).cut _ ⟨rfl, rfl, rfl, rfl, rfl, trivial⟩
    · clear hs
      obtain ⟨i, hi, hcb, hs⟩ := hJ
      refine wp_seq ?_
      refine wp_seq ?_
      refine wp_region_lit ?_
      refine a_val hs rfl rfl rfl (y_move hs rfl) ?_; clear hs a; intro a hs
      refine a_val hs rfl rfl rfl (y_move hs rfl) ?_; clear hs a; intro a hs
      refine a_val hs rfl rfl rfl (y_lenS hs Tryd.underlying9 rfl) ?_; clear hs a; intro a hs
      refine a_val hs rfl rfl rfl (y_cmp hs rfl rfl rfl) ?_; clear hs a; intro a hs
      refine wpList_nil (then_normal ?_)
      refine wp_cond_split (hs.ev rfl) (fun h23 => ?_) (fun h23 => ?_)
      · replace h23 := of_decide_eq_true h23
        obtain ⟨ch, hch⟩ : ∃ c, s[i]? = some c := ⟨_, getElem?_pos s i (by omega)⟩
        have hnx := cntB_next hch
        refine wp_skip (then_normal ?_)
        refine wp_seq ?_
        refine wp_block ?_
        refine wp_seq ?_
        refine wp_region_lit ?_
        refine a_val hs rfl rfl rfl (y_move hs rfl) ?_; clear hs a; intro a hs
        refine a_val hs rfl rfl rfl (y_move hs rfl) ?_; clear hs a; intro a hs
        refine a_val hs rfl rfl rfl (y_idxS (c := ch) hs Tryd.underlying9 rfl rfl (by omega) (by rw [Int.toNat_natCast]; exact hch)) ?_; clear hs a; intro a hs
        refine a_val hs rfl rfl rfl (y_cmp hs rfl rfl rfl) ?_; clear hs a; intro a hs
        refine wpList_nil (then_normal ?_)
        refine wp_cond_split (hs.ev rfl) (fun h29 => ?_) (fun h29 => ?_)
        · replace h29 := eq_of_beq h29
          rw [if_pos h29] at hnx
          refine wp_region_lit ?_
          refine a_val hs rfl rfl rfl (y_move hs rfl) ?_; clear hs a; intro a hs
          refine a_val hs rfl rfl rfl (y_add hs rfl rfl (by omega)) ?_; clear hs a; intro a hs
          refine a_val hs rfl rfl rfl (y_assign hs rfl) ?_; clear hs a; intro a hs
          refine wpList_nil (in_normal (then_normal ?_))
          refine wp_region_lit ?_
          refine a_val hs rfl rfl rfl (y_move hs rfl) ?_; clear hs a; intro a hs
          refine a_val hs rfl rfl rfl (y_add hs rfl rfl (by omega)) ?_; clear hs a; intro a hs
          refine a_val hs rfl rfl rfl (y_assign hs rfl) ?_; clear hs a; intro a hs
          refine wpList_nil (then_normal ?_)
          replace hs := hs.say 5 rfl (congrArg (Value.int IntKind.i64) (show _ = ((cntB s (i + 1) : Nat) : Int) by omega))
          refine ⟨m - 1, by omega, i + 1, by omega, by omega, ?_⟩
          exact (hs.mem_to hs.mem).cut _ ⟨rfl, rfl, rfl, rfl, rfl, trivial⟩
        · replace h29 := ne_of_beq_false h29
          rw [if_neg h29] at hnx
          refine wp_skip (in_normal (then_normal ?_))
          refine wp_region_lit ?_
          refine a_val hs rfl rfl rfl (y_move hs rfl) ?_; clear hs a; intro a hs
          refine a_val hs rfl rfl rfl (y_add hs rfl rfl (by omega)) ?_; clear hs a; intro a hs
          refine a_val hs rfl rfl rfl (y_assign hs rfl) ?_; clear hs a; intro a hs
          refine wpList_nil (then_normal ?_)
          replace hs := hs.say 5 rfl (congrArg (Value.int IntKind.i64) (show _ = ((cntB s (i + 1) : Nat) : Int) by omega))
          refine ⟨m - 1, by omega, i + 1, by omega, by omega, ?_⟩
          exact (hs.mem_to hs.mem).cut _ ⟨rfl, rfl, rfl, rfl, rfl, trivial⟩
      · replace h23 := of_decide_eq_false h23
        have hall := cntB_all s i (by omega)
        refine wp_exit (then_exit (then_exit (in_here (then_normal ?_))))
        refine wp_seq ?_
        refine wp_region_lit ?_
        refine a_eff rfl (e_callB Tryd.func12 rfl rfl hs rfl rfl (law_anchored _ (varKeep hs.mem.base hP)) ?_); clear hs a; intro a w hs
        refine a_val hs rfl rfl rfl (y_move hs rfl) ?_; clear hs a; intro a hs
        refine a_valG hs rfl rfl rfl (y_move hs rfl) ?_; clear hs a; intro a hs
        refine a_valG hs rfl rfl rfl (y_cmp hs rfl rfl rfl) ?_; clear hs a; intro a hs
        refine a_valG hs rfl rfl rfl (y_move hs rfl) ?_; clear hs a; intro a hs
        rcases hs.know (d := 36) rfl with ⟨h36, hs1⟩ | ⟨h36, hs1⟩ <;> replace hs := hs1 <;> clear hs1
        · replace h36 := eq_of_beq h36
          refine a_skip hs rfl rfl rfl ?_; clear hs a; intro a hs
          refine a_skip hs rfl rfl rfl ?_; clear hs a; intro a hs
          refine a_skip hs rfl rfl rfl ?_; clear hs a; intro a hs
          refine a_skip hs rfl rfl rfl ?_; clear hs a; intro a hs
          refine a_skip hs rfl rfl rfl ?_; clear hs a; intro a hs
          refine a_skip hs rfl rfl rfl ?_; clear hs a; intro a hs
          refine a_skip hs rfl rfl rfl ?_; clear hs a; intro a hs
          refine a_skip hs rfl rfl rfl ?_; clear hs a; intro a hs
          refine a_valG hs rfl rfl rfl (y_pickT hs rfl rfl rfl) ?_; clear hs a; intro a hs
          refine a_val hs rfl rfl rfl (y_pickT hs rfl rfl rfl) ?_; clear hs a; intro a hs
          refine a_val hs rfl rfl rfl (y_assign hs rfl) ?_; clear hs a; intro a hs
          refine wpList_nil (then_normal ?_)
          refine wp_ret ?_
          refine fin_ret hs (.tmp (hs.slots _ _ rfl) .nil) ⟨rfl, hs.mem.base⟩
        · replace h36 := ne_of_beq_false h36
          refine a_valG hs rfl rfl rfl (y_move hs rfl) ?_; clear hs a; intro a hs
          have hb2 := hb.2.resolve_left (by omega)
          refine a_valG hs rfl rfl rfl (y_cmp (b := true) hs rfl rfl (congrArg some (beq_iff_eq.2 (by omega)))) ?_; clear hs a; intro a hs
          refine a_valG hs rfl rfl rfl (y_move hs rfl) ?_; clear hs a; intro a hs
          refine a_valG hs rfl rfl rfl (y_move hs rfl) ?_; clear hs a; intro a hs
          refine a_valG hs rfl rfl rfl (y_loadPt 0 rfl hs Tryd.underlying25 rfl (by kernel_rfl) rfl) ?_; clear hs a; intro a hs
          refine a_effG hs rfl (e_callB Tryd.func13 rfl rfl hs rfl rfl (twos_ok 16 (by decide) x A C _ (Kd.C_below hA hs.mem.base) (shape_of 16 x 8192 (by unfold deepX at h14; omega))) ?_); clear hs a; intro a w hs
          refine a_valG hs rfl rfl rfl (y_cmp (b := true) hs rfl rfl (congrArg some (beq_iff_eq.2 (by omega)))) ?_; clear hs a; intro a hs
          refine a_valG hs rfl rfl rfl (y_pickT hs rfl rfl rfl) ?_; clear hs a; intro a hs
          refine a_valG hs rfl rfl rfl (y_pickF hs rfl rfl rfl) ?_; clear hs a; intro a hs
          refine a_val hs rfl rfl rfl (y_pickT hs rfl rfl rfl) ?_; clear hs a; intro a hs
          refine a_val hs rfl rfl rfl (y_assign hs rfl) ?_; clear hs a; intro a hs
          refine wpList_nil (then_normal ?_)
          refine wp_ret ?_
          refine fin_ret hs (.tmp (hs.slots _ _ rfl) .nil) ⟨rfl, hs.mem.base⟩
end Go.Proofs.YtibaidddhmdafaaDoor.E
