/- token.value: a number's value. Conditions: the text has at most 65536 bytes; strconv's sentinels stand in their variables. -/
import Derived.Test.YtbljojjacfmggaaDoorCutter
import Derived.Test.YtbljojjacfmggaaDoorShelfAtoi
import Derived.Lib.AtoiErrMem
import Derived.Lib.AtoiAll
namespace Go.Proofs.YtbljojjacfmggaaDoor.E
open Go Go.RowKit Go.Proofs.YtbljojjacfmggaaDoorW.PrintWords Go.Proofs.YtbljojjacfmggaaDoorW.PrintLast Go.Proofs.YtbljojjacfmggaaDoorW.PrintMore Go.Proofs.YtbljojjacfmggaaDoor.PA
theorem ex_size {s : ByteArray} {a b : Nat} (h : s.size ≤ 65536) : (s.extract a b).size ≤ 65536 := by rw [ByteArray.size_extract]; omega
/-- A token's cells. -/
def tokC (x : S34) : List Value := [.int .u8 x.f0, .string x.f1, .int .i64 x.f2, .int .i64 x.f3, .int .i64 x.f4]
/-- A number's value, and whether it may be. -/
def valueF (t : ByteArray) : Int × Bool :=
  if t.size > 1 ∧ bt t 0 = 48 then (0, false) else match Lib.atoiAll t.data.toList with
    | .ok v => (v, decide (v ≤ 2147483647))
    | .range => (Lib.atoiSat t.data.toList, false)
    | _ => (0, false)
/-- The sentinels of strconv stand in their variables. -/
def ErrVars (w : World) : Prop := (∃ tp p, w.var? Tryd.prog "strconv.ErrSyntax" = some #[.iface tp p]) ∧ (∃ tp p, w.var? Tryd.prog "strconv.ErrRange" = some #[.iface tp p])
theorem var_keep {w0 w : World} (hb : Below w0.heap.size w0 w) {n : String} {cs : Array Value} (h : w0.var? Tryd.prog n = some cs) : w.var? Tryd.prog n = some cs := by
  unfold World.var? at h ⊢
  cases hg : Tryd.prog.globalNamed n with
  | none => rw [hg] at h; cases h
  | some g =>
    simp only [hg, Option.bind_some] at h ⊢
    have hlt : g < w0.heap.size := by
      rcases Nat.lt_or_ge g w0.heap.size with h1 | h1
      · exact h1
      · rw [Array.getElem?_eq_none h1] at h; cases h
    rw [hb.block g hlt]; exact h
theorem ErrVars.keep {w0 w : World} {bs : List Res} (h : ErrVars w0) (hm : H w0 bs w) : ErrVars w := by
  obtain ⟨⟨t1, p1, h1⟩, ⟨t2, p2, h2⟩⟩ := h
  exact ⟨⟨t1, p1, var_keep hm.base h1⟩, ⟨t2, p2, var_keep hm.base h2⟩⟩
theorem token_value (t : ByteArray) (w : World) (hE : ErrVars w) (hz : t.size ≤ 65536) :
    Calls Tryd.prog 42 #[.string t] w fun e w' => e = .returned (.tuple #[.int .i64 (valueF t).1, .bool (valueF t).2]) ∧ Below w.heap.size w w' := by
  have h := H.init w
  refine calls_enter (N := 26) (n := 25) (args := [.string t]) Tryd.func42 rfl rfl rfl h (fun a hs => ?_)
  repeat with_reducible refine wp_seq ?_
  refine wp_region_lit ?_
  refine a_val hs rfl rfl rfl (y_assign hs rfl) ?_; clear hs a; intro a hs
  refine a_val hs rfl rfl rfl (y_assign hs rfl) ?_; clear hs a; intro a hs
  refine wpList_nil ?_
  repeat first | with_reducible refine in_normal ?_ | with_reducible refine then_normal ?_ | with_reducible refine then_ret ?_ | with_reducible refine in_ret ?_ | with_reducible refine then_exit ?_ | with_reducible refine in_here ?_ | with_reducible refine in_other rfl ?_
  by_cases hsz : t.size > 1
  · obtain ⟨c, hc⟩ : ∃ c, t[0]? = some c := ⟨_, getElem?_pos t 0 (by omega)⟩
    have hb0 : bt t 0 = ((c.toNat : Nat) : Int) := bt_of hc
    by_cases c48 : c.toNat = 48
    · repeat with_reducible refine wp_seq ?_
      refine wp_region_lit ?_
      refine a_val hs rfl rfl rfl (y_move hs rfl) ?_; clear hs a; intro a hs
      refine a_val hs rfl rfl rfl (y_lenS hs Tryd.underlying9 rfl) ?_; clear hs a; intro a hs
      refine a_val hs rfl rfl rfl (y_cmp (b := true) hs rfl rfl (congrArg some (decide_eq_true (by omega)))) ?_; clear hs a; intro a hs
      refine a_val hs rfl rfl rfl (y_move hs rfl) ?_; clear hs a; intro a hs
      refine a_valG hs rfl rfl rfl (y_move hs rfl) ?_; clear hs a; intro a hs
      refine a_valG hs rfl rfl rfl (y_idxS hs Tryd.underlying9 rfl rfl (by omega) hc) ?_; clear hs a; intro a hs
      refine a_valG hs rfl rfl rfl (y_cmp (b := true) hs rfl rfl (congrArg some (beq_iff_eq.2 (by omega)))) ?_; clear hs a; intro a hs
      refine a_val hs rfl rfl rfl (y_pick hs rfl rfl rfl) ?_; clear hs a; intro a hs
      refine wpList_nil ?_
      repeat first | with_reducible refine in_normal ?_ | with_reducible refine then_normal ?_ | with_reducible refine then_ret ?_ | with_reducible refine in_ret ?_ | with_reducible refine then_exit ?_ | with_reducible refine in_here ?_ | with_reducible refine in_other rfl ?_
      repeat with_reducible refine wp_seq ?_
      refine wp_cond_true (hs.ev rfl) ?_
      repeat with_reducible refine wp_seq ?_
      refine wp_region_lit ?_
      refine a_val hs rfl rfl rfl (y_assign hs rfl) ?_; clear hs a; intro a hs
      refine a_val hs rfl rfl rfl (y_assign hs rfl) ?_; clear hs a; intro a hs
      refine wpList_nil ?_
      repeat first | with_reducible refine in_normal ?_ | with_reducible refine then_normal ?_ | with_reducible refine then_ret ?_ | with_reducible refine in_ret ?_ | with_reducible refine then_exit ?_ | with_reducible refine in_here ?_ | with_reducible refine in_other rfl ?_
      repeat with_reducible refine wp_seq ?_
      refine wp_ret ?_
      repeat first | with_reducible refine in_normal ?_ | with_reducible refine then_normal ?_ | with_reducible refine then_ret ?_ | with_reducible refine in_ret ?_ | with_reducible refine then_exit ?_ | with_reducible refine in_here ?_ | with_reducible refine in_other rfl ?_
      refine fin_ret (vs := [.int .i64 0, .bool false]) hs (.tmp (hs.slots _ _ rfl) (.tmp (hs.slots _ _ rfl) .nil)) ⟨?_, hs.mem.base⟩
      unfold valueF; rw [if_pos ⟨hsz, by omega⟩]; rfl
    · repeat with_reducible refine wp_seq ?_
      refine wp_region_lit ?_
      refine a_val hs rfl rfl rfl (y_move hs rfl) ?_; clear hs a; intro a hs
      refine a_val hs rfl rfl rfl (y_lenS hs Tryd.underlying9 rfl) ?_; clear hs a; intro a hs
      refine a_val hs rfl rfl rfl (y_cmp (b := true) hs rfl rfl (congrArg some (decide_eq_true (by omega)))) ?_; clear hs a; intro a hs
      refine a_val hs rfl rfl rfl (y_move hs rfl) ?_; clear hs a; intro a hs
      refine a_valG hs rfl rfl rfl (y_move hs rfl) ?_; clear hs a; intro a hs
      refine a_valG hs rfl rfl rfl (y_idxS hs Tryd.underlying9 rfl rfl (by omega) hc) ?_; clear hs a; intro a hs
      refine a_valG hs rfl rfl rfl (y_cmp (b := false) hs rfl rfl (congrArg some (beq_eq_false_iff_ne.2 (by omega)))) ?_; clear hs a; intro a hs
      refine a_val hs rfl rfl rfl (y_pick hs rfl rfl rfl) ?_; clear hs a; intro a hs
      refine wpList_nil ?_
      repeat first | with_reducible refine in_normal ?_ | with_reducible refine then_normal ?_ | with_reducible refine then_ret ?_ | with_reducible refine in_ret ?_ | with_reducible refine then_exit ?_ | with_reducible refine in_here ?_ | with_reducible refine in_other rfl ?_
      repeat with_reducible refine wp_seq ?_
      refine wp_cond_false (hs.ev rfl) ?_
      repeat with_reducible refine wp_seq ?_
      refine wp_skip ?_
      repeat first | with_reducible refine in_normal ?_ | with_reducible refine then_normal ?_ | with_reducible refine then_ret ?_ | with_reducible refine in_ret ?_ | with_reducible refine then_exit ?_ | with_reducible refine in_here ?_ | with_reducible refine in_other rfl ?_
      have hv : valueF t = match Lib.atoiAll t.data.toList with | .ok v => (v, decide (v ≤ 2147483647)) | .range => (Lib.atoiSat t.data.toList, false) | _ => (0, false) := by unfold valueF; rw [if_neg (fun h => c48 (by omega))]
      rcases hA : Lib.atoiAll t.data.toList with v | _ | _
      · repeat with_reducible refine wp_seq ?_
        refine wp_region_lit ?_
        refine a_val hs rfl rfl rfl (y_move hs rfl) ?_; clear hs a; intro a hs
        refine a_eff rfl (e_callB Tryd.func49 rfl rfl hs rfl rfl ((Tryd.strconv_Atoi_ok t (by omega) v hA _).mono (by rintro e w1 ⟨rfl, h1⟩; exact ⟨rfl, by rcases h1 with rfl | ⟨t1, rfl⟩ <;> first | exact Below.refl _ _ | exact Lib.bytesWorld_below _ _ _⟩)) ?_); clear hs a; intro a w hs
        refine a_val hs rfl rfl rfl (y_move hs rfl) ?_; clear hs a; intro a hs
        refine a_val hs rfl rfl rfl (y_extract hs rfl rfl) ?_; clear hs a; intro a hs
        refine a_val hs rfl rfl rfl (y_extract hs rfl rfl) ?_; clear hs a; intro a hs
        refine a_val hs rfl rfl rfl (y_assign hs rfl) ?_; clear hs a; intro a hs
        refine a_val hs rfl rfl rfl (y_assign hs rfl) ?_; clear hs a; intro a hs
        refine wpList_nil ?_
        repeat first | with_reducible refine in_normal ?_ | with_reducible refine then_normal ?_ | with_reducible refine then_ret ?_ | with_reducible refine in_ret ?_ | with_reducible refine then_exit ?_ | with_reducible refine in_here ?_ | with_reducible refine in_other rfl ?_
        repeat with_reducible refine wp_seq ?_
        refine wp_region_lit ?_
        refine a_val hs rfl rfl rfl (y_move hs rfl) ?_; clear hs a; intro a hs
        refine a_val hs rfl rfl rfl (y_move hs rfl) ?_; clear hs a; intro a hs
        refine a_val hs rfl rfl rfl (y_isNil hs Tryd.underlying52 rfl) ?_; clear hs a; intro a hs
        refine a_val hs rfl rfl rfl (y_move hs rfl) ?_; clear hs a; intro a hs
        refine a_valG hs rfl rfl rfl (y_move hs rfl) ?_; clear hs a; intro a hs
        refine a_valG hs rfl rfl rfl (y_cmp hs rfl rfl rfl) ?_; clear hs a; intro a hs
        refine a_val hs rfl rfl rfl (y_pick hs rfl rfl rfl) ?_; clear hs a; intro a hs
        refine a_val hs rfl rfl rfl (y_assign hs rfl) ?_; clear hs a; intro a hs
        refine a_val hs rfl rfl rfl (y_assign hs rfl) ?_; clear hs a; intro a hs
        refine wpList_nil ?_
        repeat first | with_reducible refine in_normal ?_ | with_reducible refine then_normal ?_ | with_reducible refine then_ret ?_ | with_reducible refine in_ret ?_ | with_reducible refine then_exit ?_ | with_reducible refine in_here ?_ | with_reducible refine in_other rfl ?_
        repeat with_reducible refine wp_seq ?_
        refine wp_ret ?_
        repeat first | with_reducible refine in_normal ?_ | with_reducible refine then_normal ?_ | with_reducible refine then_ret ?_ | with_reducible refine in_ret ?_ | with_reducible refine then_exit ?_ | with_reducible refine in_here ?_ | with_reducible refine in_other rfl ?_
        refine fin_ret (vs := [.int .i64 v, .bool (decide (v ≤ 2147483647))]) hs (.tmp (hs.slots _ _ rfl) (.tmp (hs.slots _ _ rfl) .nil)) ⟨?_, hs.mem.base⟩
        rw [hv, hA]; rfl
      · obtain ⟨tp, p, he⟩ := hE.1
        repeat with_reducible refine wp_seq ?_
        refine wp_region_lit ?_
        refine a_val hs rfl rfl rfl (y_move hs rfl) ?_; clear hs a; intro a hs
        refine a_eff rfl (e_callX Tryd.func49 rfl rfl hs rfl rfl (Tryd.strconv_Atoi_syntax_var t (by omega) (by rw [hA]; exact ⟨nofun, nofun⟩) tp p _ (var_keep hs.mem.base he)) (fun e w ⟨nb, he2, _, _, hb⟩ => ⟨_, he2, _, hs.mem.grow hb, ?_⟩)); clear hs a; intro a hs
        refine a_val hs rfl rfl rfl (y_move hs rfl) ?_; clear hs a; intro a hs
        refine a_val hs rfl rfl rfl (y_extract hs rfl rfl) ?_; clear hs a; intro a hs
        refine a_val hs rfl rfl rfl (y_extract hs rfl rfl) ?_; clear hs a; intro a hs
        refine a_val hs rfl rfl rfl (y_assign hs rfl) ?_; clear hs a; intro a hs
        refine a_val hs rfl rfl rfl (y_assign hs rfl) ?_; clear hs a; intro a hs
        refine wpList_nil ?_
        repeat first | with_reducible refine in_normal ?_ | with_reducible refine then_normal ?_ | with_reducible refine then_ret ?_ | with_reducible refine in_ret ?_ | with_reducible refine then_exit ?_ | with_reducible refine in_here ?_ | with_reducible refine in_other rfl ?_
        repeat with_reducible refine wp_seq ?_
        refine wp_region_lit ?_
        refine a_val hs rfl rfl rfl (y_move hs rfl) ?_; clear hs a; intro a hs
        refine a_val hs rfl rfl rfl (y_move hs rfl) ?_; clear hs a; intro a hs
        refine a_val hs rfl rfl rfl (y_notNil hs Tryd.underlying52 rfl) ?_; clear hs a; intro a hs
        refine a_val hs rfl rfl rfl (y_move hs rfl) ?_; clear hs a; intro a hs
        refine a_skip hs rfl rfl rfl ?_; clear hs a; intro a hs
        refine a_skip hs rfl rfl rfl ?_; clear hs a; intro a hs
        refine a_val hs rfl rfl rfl (y_pick hs rfl rfl rfl) ?_; clear hs a; intro a hs
        refine a_val hs rfl rfl rfl (y_assign hs rfl) ?_; clear hs a; intro a hs
        refine a_val hs rfl rfl rfl (y_assign hs rfl) ?_; clear hs a; intro a hs
        refine wpList_nil ?_
        repeat first | with_reducible refine in_normal ?_ | with_reducible refine then_normal ?_ | with_reducible refine then_ret ?_ | with_reducible refine in_ret ?_ | with_reducible refine then_exit ?_ | with_reducible refine in_here ?_ | with_reducible refine in_other rfl ?_
        repeat with_reducible refine wp_seq ?_
        refine wp_ret ?_
        repeat first | with_reducible refine in_normal ?_ | with_reducible refine then_normal ?_ | with_reducible refine then_ret ?_ | with_reducible refine in_ret ?_ | with_reducible refine then_exit ?_ | with_reducible refine in_here ?_ | with_reducible refine in_other rfl ?_
        refine fin_ret (vs := [.int .i64 0, .bool false]) hs (.tmp (hs.slots _ _ rfl) (.tmp (hs.slots _ _ rfl) .nil)) ⟨?_, hs.mem.base⟩
        rw [hv, hA]; rfl
      · obtain ⟨tp, p, he⟩ := hE.2
        repeat with_reducible refine wp_seq ?_
        refine wp_region_lit ?_
        refine a_val hs rfl rfl rfl (y_move hs rfl) ?_; clear hs a; intro a hs
        refine a_eff rfl (e_callX Tryd.func49 rfl rfl hs rfl rfl (Tryd.strconv_Atoi_range_var t (by omega) hA tp p _ (var_keep hs.mem.base he)) (fun e w ⟨nb, he2, _, _, hb⟩ => ⟨_, he2, _, hs.mem.grow hb, ?_⟩)); clear hs a; intro a hs
        refine a_val hs rfl rfl rfl (y_move hs rfl) ?_; clear hs a; intro a hs
        refine a_val hs rfl rfl rfl (y_extract hs rfl rfl) ?_; clear hs a; intro a hs
        refine a_val hs rfl rfl rfl (y_extract hs rfl rfl) ?_; clear hs a; intro a hs
        refine a_val hs rfl rfl rfl (y_assign hs rfl) ?_; clear hs a; intro a hs
        refine a_val hs rfl rfl rfl (y_assign hs rfl) ?_; clear hs a; intro a hs
        refine wpList_nil ?_
        repeat first | with_reducible refine in_normal ?_ | with_reducible refine then_normal ?_ | with_reducible refine then_ret ?_ | with_reducible refine in_ret ?_ | with_reducible refine then_exit ?_ | with_reducible refine in_here ?_ | with_reducible refine in_other rfl ?_
        repeat with_reducible refine wp_seq ?_
        refine wp_region_lit ?_
        refine a_val hs rfl rfl rfl (y_move hs rfl) ?_; clear hs a; intro a hs
        refine a_val hs rfl rfl rfl (y_move hs rfl) ?_; clear hs a; intro a hs
        refine a_val hs rfl rfl rfl (y_notNil hs Tryd.underlying52 rfl) ?_; clear hs a; intro a hs
        refine a_val hs rfl rfl rfl (y_move hs rfl) ?_; clear hs a; intro a hs
        refine a_skip hs rfl rfl rfl ?_; clear hs a; intro a hs
        refine a_skip hs rfl rfl rfl ?_; clear hs a; intro a hs
        refine a_val hs rfl rfl rfl (y_pick hs rfl rfl rfl) ?_; clear hs a; intro a hs
        refine a_val hs rfl rfl rfl (y_assign hs rfl) ?_; clear hs a; intro a hs
        refine a_val hs rfl rfl rfl (y_assign hs rfl) ?_; clear hs a; intro a hs
        refine wpList_nil ?_
        repeat first | with_reducible refine in_normal ?_ | with_reducible refine then_normal ?_ | with_reducible refine then_ret ?_ | with_reducible refine in_ret ?_ | with_reducible refine then_exit ?_ | with_reducible refine in_here ?_ | with_reducible refine in_other rfl ?_
        repeat with_reducible refine wp_seq ?_
        refine wp_ret ?_
        repeat first | with_reducible refine in_normal ?_ | with_reducible refine then_normal ?_ | with_reducible refine then_ret ?_ | with_reducible refine in_ret ?_ | with_reducible refine then_exit ?_ | with_reducible refine in_here ?_ | with_reducible refine in_other rfl ?_
        refine fin_ret (vs := [.int .i64 (Lib.atoiSat t.data.toList), .bool false]) hs (.tmp (hs.slots _ _ rfl) (.tmp (hs.slots _ _ rfl) .nil)) ⟨?_, hs.mem.base⟩
        rw [hv, hA]; rfl
  · repeat with_reducible refine wp_seq ?_
    refine wp_region_lit ?_
    refine a_val hs rfl rfl rfl (y_move hs rfl) ?_; clear hs a; intro a hs
    refine a_val hs rfl rfl rfl (y_lenS hs Tryd.underlying9 rfl) ?_; clear hs a; intro a hs
    refine a_val hs rfl rfl rfl (y_cmp (b := false) hs rfl rfl (congrArg some (decide_eq_false (by omega)))) ?_; clear hs a; intro a hs
    refine a_val hs rfl rfl rfl (y_move hs rfl) ?_; clear hs a; intro a hs
    refine a_skip hs rfl rfl rfl ?_; clear hs a; intro a hs
    refine a_skip hs rfl rfl rfl ?_; clear hs a; intro a hs
    refine a_skip hs rfl rfl rfl ?_; clear hs a; intro a hs
    refine a_val hs rfl rfl rfl (y_pick hs rfl rfl rfl) ?_; clear hs a; intro a hs
    refine wpList_nil ?_
    repeat first | with_reducible refine in_normal ?_ | with_reducible refine then_normal ?_ | with_reducible refine then_ret ?_ | with_reducible refine in_ret ?_ | with_reducible refine then_exit ?_ | with_reducible refine in_here ?_ | with_reducible refine in_other rfl ?_
    repeat with_reducible refine wp_seq ?_
    refine wp_cond_false (hs.ev rfl) ?_
    repeat with_reducible refine wp_seq ?_
    refine wp_skip ?_
    repeat first | with_reducible refine in_normal ?_ | with_reducible refine then_normal ?_ | with_reducible refine then_ret ?_ | with_reducible refine in_ret ?_ | with_reducible refine then_exit ?_ | with_reducible refine in_here ?_ | with_reducible refine in_other rfl ?_
    have hv : valueF t = match Lib.atoiAll t.data.toList with | .ok v => (v, decide (v ≤ 2147483647)) | .range => (Lib.atoiSat t.data.toList, false) | _ => (0, false) := by unfold valueF; rw [if_neg (fun h => hsz h.1)]
    rcases hA : Lib.atoiAll t.data.toList with v | _ | _
    · repeat with_reducible refine wp_seq ?_
      refine wp_region_lit ?_
      refine a_val hs rfl rfl rfl (y_move hs rfl) ?_; clear hs a; intro a hs
      refine a_eff rfl (e_callB Tryd.func49 rfl rfl hs rfl rfl ((Tryd.strconv_Atoi_ok t (by omega) v hA _).mono (by rintro e w1 ⟨rfl, h1⟩; exact ⟨rfl, by rcases h1 with rfl | ⟨t1, rfl⟩ <;> first | exact Below.refl _ _ | exact Lib.bytesWorld_below _ _ _⟩)) ?_); clear hs a; intro a w hs
      refine a_val hs rfl rfl rfl (y_move hs rfl) ?_; clear hs a; intro a hs
      refine a_val hs rfl rfl rfl (y_extract hs rfl rfl) ?_; clear hs a; intro a hs
      refine a_val hs rfl rfl rfl (y_extract hs rfl rfl) ?_; clear hs a; intro a hs
      refine a_val hs rfl rfl rfl (y_assign hs rfl) ?_; clear hs a; intro a hs
      refine a_val hs rfl rfl rfl (y_assign hs rfl) ?_; clear hs a; intro a hs
      refine wpList_nil ?_
      repeat first | with_reducible refine in_normal ?_ | with_reducible refine then_normal ?_ | with_reducible refine then_ret ?_ | with_reducible refine in_ret ?_ | with_reducible refine then_exit ?_ | with_reducible refine in_here ?_ | with_reducible refine in_other rfl ?_
      repeat with_reducible refine wp_seq ?_
      refine wp_region_lit ?_
      refine a_val hs rfl rfl rfl (y_move hs rfl) ?_; clear hs a; intro a hs
      refine a_val hs rfl rfl rfl (y_move hs rfl) ?_; clear hs a; intro a hs
      refine a_val hs rfl rfl rfl (y_isNil hs Tryd.underlying52 rfl) ?_; clear hs a; intro a hs
      refine a_val hs rfl rfl rfl (y_move hs rfl) ?_; clear hs a; intro a hs
      refine a_valG hs rfl rfl rfl (y_move hs rfl) ?_; clear hs a; intro a hs
      refine a_valG hs rfl rfl rfl (y_cmp hs rfl rfl rfl) ?_; clear hs a; intro a hs
      refine a_val hs rfl rfl rfl (y_pick hs rfl rfl rfl) ?_; clear hs a; intro a hs
      refine a_val hs rfl rfl rfl (y_assign hs rfl) ?_; clear hs a; intro a hs
      refine a_val hs rfl rfl rfl (y_assign hs rfl) ?_; clear hs a; intro a hs
      refine wpList_nil ?_
      repeat first | with_reducible refine in_normal ?_ | with_reducible refine then_normal ?_ | with_reducible refine then_ret ?_ | with_reducible refine in_ret ?_ | with_reducible refine then_exit ?_ | with_reducible refine in_here ?_ | with_reducible refine in_other rfl ?_
      repeat with_reducible refine wp_seq ?_
      refine wp_ret ?_
      repeat first | with_reducible refine in_normal ?_ | with_reducible refine then_normal ?_ | with_reducible refine then_ret ?_ | with_reducible refine in_ret ?_ | with_reducible refine then_exit ?_ | with_reducible refine in_here ?_ | with_reducible refine in_other rfl ?_
      refine fin_ret (vs := [.int .i64 v, .bool (decide (v ≤ 2147483647))]) hs (.tmp (hs.slots _ _ rfl) (.tmp (hs.slots _ _ rfl) .nil)) ⟨?_, hs.mem.base⟩
      rw [hv, hA]; rfl
    · obtain ⟨tp, p, he⟩ := hE.1
      repeat with_reducible refine wp_seq ?_
      refine wp_region_lit ?_
      refine a_val hs rfl rfl rfl (y_move hs rfl) ?_; clear hs a; intro a hs
      refine a_eff rfl (e_callX Tryd.func49 rfl rfl hs rfl rfl (Tryd.strconv_Atoi_syntax_var t (by omega) (by rw [hA]; exact ⟨nofun, nofun⟩) tp p _ (var_keep hs.mem.base he)) (fun e w ⟨nb, he2, _, _, hb⟩ => ⟨_, he2, _, hs.mem.grow hb, ?_⟩)); clear hs a; intro a hs
      refine a_val hs rfl rfl rfl (y_move hs rfl) ?_; clear hs a; intro a hs
      refine a_val hs rfl rfl rfl (y_extract hs rfl rfl) ?_; clear hs a; intro a hs
      refine a_val hs rfl rfl rfl (y_extract hs rfl rfl) ?_; clear hs a; intro a hs
      refine a_val hs rfl rfl rfl (y_assign hs rfl) ?_; clear hs a; intro a hs
      refine a_val hs rfl rfl rfl (y_assign hs rfl) ?_; clear hs a; intro a hs
      refine wpList_nil ?_
      repeat first | with_reducible refine in_normal ?_ | with_reducible refine then_normal ?_ | with_reducible refine then_ret ?_ | with_reducible refine in_ret ?_ | with_reducible refine then_exit ?_ | with_reducible refine in_here ?_ | with_reducible refine in_other rfl ?_
      repeat with_reducible refine wp_seq ?_
      refine wp_region_lit ?_
      refine a_val hs rfl rfl rfl (y_move hs rfl) ?_; clear hs a; intro a hs
      refine a_val hs rfl rfl rfl (y_move hs rfl) ?_; clear hs a; intro a hs
      refine a_val hs rfl rfl rfl (y_notNil hs Tryd.underlying52 rfl) ?_; clear hs a; intro a hs
      refine a_val hs rfl rfl rfl (y_move hs rfl) ?_; clear hs a; intro a hs
      refine a_skip hs rfl rfl rfl ?_; clear hs a; intro a hs
      refine a_skip hs rfl rfl rfl ?_; clear hs a; intro a hs
      refine a_val hs rfl rfl rfl (y_pick hs rfl rfl rfl) ?_; clear hs a; intro a hs
      refine a_val hs rfl rfl rfl (y_assign hs rfl) ?_; clear hs a; intro a hs
      refine a_val hs rfl rfl rfl (y_assign hs rfl) ?_; clear hs a; intro a hs
      refine wpList_nil ?_
      repeat first | with_reducible refine in_normal ?_ | with_reducible refine then_normal ?_ | with_reducible refine then_ret ?_ | with_reducible refine in_ret ?_ | with_reducible refine then_exit ?_ | with_reducible refine in_here ?_ | with_reducible refine in_other rfl ?_
      repeat with_reducible refine wp_seq ?_
      refine wp_ret ?_
      repeat first | with_reducible refine in_normal ?_ | with_reducible refine then_normal ?_ | with_reducible refine then_ret ?_ | with_reducible refine in_ret ?_ | with_reducible refine then_exit ?_ | with_reducible refine in_here ?_ | with_reducible refine in_other rfl ?_
      refine fin_ret (vs := [.int .i64 0, .bool false]) hs (.tmp (hs.slots _ _ rfl) (.tmp (hs.slots _ _ rfl) .nil)) ⟨?_, hs.mem.base⟩
      rw [hv, hA]; rfl
    · obtain ⟨tp, p, he⟩ := hE.2
      repeat with_reducible refine wp_seq ?_
      refine wp_region_lit ?_
      refine a_val hs rfl rfl rfl (y_move hs rfl) ?_; clear hs a; intro a hs
      refine a_eff rfl (e_callX Tryd.func49 rfl rfl hs rfl rfl (Tryd.strconv_Atoi_range_var t (by omega) hA tp p _ (var_keep hs.mem.base he)) (fun e w ⟨nb, he2, _, _, hb⟩ => ⟨_, he2, _, hs.mem.grow hb, ?_⟩)); clear hs a; intro a hs
      refine a_val hs rfl rfl rfl (y_move hs rfl) ?_; clear hs a; intro a hs
      refine a_val hs rfl rfl rfl (y_extract hs rfl rfl) ?_; clear hs a; intro a hs
      refine a_val hs rfl rfl rfl (y_extract hs rfl rfl) ?_; clear hs a; intro a hs
      refine a_val hs rfl rfl rfl (y_assign hs rfl) ?_; clear hs a; intro a hs
      refine a_val hs rfl rfl rfl (y_assign hs rfl) ?_; clear hs a; intro a hs
      refine wpList_nil ?_
      repeat first | with_reducible refine in_normal ?_ | with_reducible refine then_normal ?_ | with_reducible refine then_ret ?_ | with_reducible refine in_ret ?_ | with_reducible refine then_exit ?_ | with_reducible refine in_here ?_ | with_reducible refine in_other rfl ?_
      repeat with_reducible refine wp_seq ?_
      refine wp_region_lit ?_
      refine a_val hs rfl rfl rfl (y_move hs rfl) ?_; clear hs a; intro a hs
      refine a_val hs rfl rfl rfl (y_move hs rfl) ?_; clear hs a; intro a hs
      refine a_val hs rfl rfl rfl (y_notNil hs Tryd.underlying52 rfl) ?_; clear hs a; intro a hs
      refine a_val hs rfl rfl rfl (y_move hs rfl) ?_; clear hs a; intro a hs
      refine a_skip hs rfl rfl rfl ?_; clear hs a; intro a hs
      refine a_skip hs rfl rfl rfl ?_; clear hs a; intro a hs
      refine a_val hs rfl rfl rfl (y_pick hs rfl rfl rfl) ?_; clear hs a; intro a hs
      refine a_val hs rfl rfl rfl (y_assign hs rfl) ?_; clear hs a; intro a hs
      refine a_val hs rfl rfl rfl (y_assign hs rfl) ?_; clear hs a; intro a hs
      refine wpList_nil ?_
      repeat first | with_reducible refine in_normal ?_ | with_reducible refine then_normal ?_ | with_reducible refine then_ret ?_ | with_reducible refine in_ret ?_ | with_reducible refine then_exit ?_ | with_reducible refine in_here ?_ | with_reducible refine in_other rfl ?_
      repeat with_reducible refine wp_seq ?_
      refine wp_ret ?_
      repeat first | with_reducible refine in_normal ?_ | with_reducible refine then_normal ?_ | with_reducible refine then_ret ?_ | with_reducible refine in_ret ?_ | with_reducible refine then_exit ?_ | with_reducible refine in_here ?_ | with_reducible refine in_other rfl ?_
      refine fin_ret (vs := [.int .i64 (Lib.atoiSat t.data.toList), .bool false]) hs (.tmp (hs.slots _ _ rfl) (.tmp (hs.slots _ _ rfl) .nil)) ⟨?_, hs.mem.base⟩
      rw [hv, hA]; rfl
end Go.Proofs.YtbljojjacfmggaaDoor.E
