/- The walks of the cutter's methods: each comes to what a plain function of the text and the place says. Conditions: the text has at most 65536 bytes. -/
import Derived.Test.YtbljojjacfmggaaDoorFlat
import Derived.Test.YtbljojjacfmggaaDoorPA1037
import Derived.Test.YtbljojjacfmggaaDoorPA5017
import Derived.Test.YtbljojjacfmggaaDoorPA1039
namespace Go.Proofs.YtbljojjacfmggaaDoor.E
open Go Go.RowKit Go.Proofs.YtbljojjacfmggaaDoorW.PrintWords Go.Proofs.YtbljojjacfmggaaDoorW.PrintLast Go.Proofs.YtbljojjacfmggaaDoorW.PrintMore Go.Proofs.YtbljojjacfmggaaDoor.PA
theorem bt_of {s : ByteArray} {p : Nat} {c : UInt8} (hc : s[p]? = some c) : bt s (p : Int) = ((c.toNat : Nat) : Int) := by
  have hlt : p < s.size := by
    rcases Nat.lt_or_ge p s.size with h | h
    · exact h
    · rw [getElem?_neg s p (by omega)] at hc; cases hc
  rw [getElem?_pos s p hlt] at hc
  have hc := Option.some.inj hc
  unfold bt
  rw [dif_pos (show ((p : Int)).toNat < s.size from hlt)]
  subst hc
  rfl
/-- The kind of the byte at a place; other at the end. -/
def kd (s : ByteArray) (p : Nat) : Int := if p < s.size then kindOf (bt s (p : Int)) else 0
theorem kd_end {s : ByteArray} {p : Nat} (h : p = s.size) : kd s p = 0 := by unfold kd; rw [if_neg (by omega)]
theorem kd_at {s : ByteArray} {p : Nat} {c : UInt8} (hc : s[p]? = some c) : kd s p = kindOf ((c.toNat : Nat) : Int) := by
  have hlt : p < s.size := by
    rcases Nat.lt_or_ge p s.size with h | h
    · exact h
    · rw [getElem?_neg s p (by omega)] at hc; cases hc
  unfold kd; rw [if_pos hlt, bt_of hc]
/-- Where bytes of these kinds end. -/
def runTo (s : ByteArray) (l : List Int) : Nat → Nat → Nat → Nat → Nat × Nat × Nat
  | 0, p, q, r => (p, q, r)
  | n + 1, p, q, r => if p < s.size ∧ l.contains (kd s p) = true then runTo s l n (p + 1) (if bt s p = 10 then q + 1 else q) (if bt s p = 10 then 1 else r + 1) else (p, q, r)
theorem runTo_stop {s : ByteArray} {l : List Int} {n p q r : Nat} (h : ¬ (p < s.size ∧ l.contains (kd s p) = true)) : runTo s l n p q r = (p, q, r) := by
  cases n with
  | zero => rfl
  | succ n => rw [runTo, if_neg h]
theorem int_mk {w : World} {x : Int} : (Kd.int .i64).K w x [.int .i64 x] := rfl
theorem flatMap_one (l : List Int) : ((l.map (Value.int .i64)).toArray).toList = l.flatMap (fun x => [Value.int .i64 x]) := by
  induction l with
  | nil => rfl
  | cons x l ih => simpa using ih
theorem drawn_below {w w1 : World} (h : Drawn0 w w1) : Below w.heap.size w w1 := by
  obtain ⟨n, rfl⟩ := h
  exact pw_below_drewN (Below.refl _ _) n
theorem cutter_step (g : Nat) (s : ByteArray) (p q r : Nat) (lv : Value) (bs : List Res) (w0 w : World) (hp : p < s.size) (hz : s.size ≤ 65536 ∧ q ≤ 65537 ∧ r ≤ 65537) (h : H w0 (pt g #[.string s, .int .i64 ((p : Nat) : Int), .int .i64 ((q : Nat) : Int), .int .i64 ((r : Nat) : Int), lv] 44 :: bs) w) :
    Calls Tryd.prog 40 #[.pointer (some ⟨g, 0, none⟩)] w fun e w' => e = .returned (.tuple #[]) ∧ H w0 (pt g #[.string s, .int .i64 ((p + 1 : Nat) : Int), .int .i64 ((if bt s p = 10 then q + 1 else q : Nat) : Int), .int .i64 ((if bt s p = 10 then 1 else r + 1 : Nat) : Int), lv] 44 :: bs) w' := by
  obtain ⟨c, hc⟩ : ∃ c, s[p]? = some c := ⟨_, getElem?_pos s p hp⟩
  refine calls_enter (N := 37) (n := 36) (args := [.pointer (some ⟨g, 0, none⟩)]) Tryd.func40 rfl rfl rfl h (fun a hs => ?_)
  repeat with_reducible refine wp_seq ?_
  refine wp_region_lit ?_
  refine a_val hs rfl rfl rfl (y_move hs rfl) ?_; clear hs a; intro a hs
  refine a_val hs rfl rfl rfl (y_nilchk hs rfl) ?_; clear hs a; intro a hs
  refine a_val hs rfl rfl rfl (y_faddr (k' := 3) 3 hs (by kernel_rfl) rfl rfl) ?_; clear hs a; intro a hs
  refine a_val hs rfl rfl rfl (y_load hs Tryd.underlying3 rfl rfl (fun w hw => (hw.to 0 rfl).cellV rfl)) ?_; clear hs a; intro a hs
  refine a_val hs rfl rfl rfl (y_add hs rfl rfl (by omega)) ?_; clear hs a; intro a hs
  refine a_val hs rfl rfl rfl (y_nilchk hs rfl) ?_; clear hs a; intro a hs
  refine a_val hs rfl rfl rfl (y_faddr (k' := 3) 3 hs (by kernel_rfl) rfl rfl) ?_; clear hs a; intro a hs
  refine a_eff rfl (e_store (cl := [_, _, _, _, _]) 0 rfl hs rfl rfl (by kernel_rfl) rfl rfl rfl ?_); clear hs a; intro a w hs
  refine wpList_nil ?_
  repeat first | with_reducible refine in_normal ?_ | with_reducible refine then_normal ?_ | with_reducible refine then_ret ?_ | with_reducible refine in_ret ?_ | with_reducible refine then_exit ?_ | with_reducible refine in_here ?_ | with_reducible refine in_other rfl ?_
  repeat with_reducible refine wp_seq ?_
  refine b_enter [0] (by kernel_rfl) hs #[false, false, false, false, false, false, false, false, false, false] (by rfl) 10 (by rfl) ?_; clear hs; intro w hs
  refine b_take 0 rfl #[true, false, false, false, false, false, false, false, false, false] rfl (by kernel_rfl) hs ((hs.mem.first 1)) rfl rfl rfl (fun _ _ _ h => h) (y_move hs rfl) ?_; clear hs a; intro a hs
  refine b_take 1 rfl #[true, true, false, false, false, false, false, false, false, false] rfl (by kernel_rfl) hs ((hs.mem.first 1)) rfl rfl rfl (fun _ _ _ h => h) (y_nilchk hs rfl) ?_; clear hs a; intro a hs
  refine b_take 2 rfl #[true, true, true, false, false, false, false, false, false, false] rfl (by kernel_rfl) hs ((hs.mem.first 1)) rfl rfl rfl (fun _ _ _ h => h) (y_faddr (k' := 0) 0 hs (by kernel_rfl) rfl rfl) ?_; clear hs a; intro a hs
  refine b_take 3 rfl #[true, true, true, true, false, false, false, false, false, false] rfl (by kernel_rfl) hs ((hs.mem.first 1)) rfl rfl rfl (fun _ _ _ h => h) (y_load hs Tryd.underlying9 rfl rfl (fun w hw => (hw.to 0 rfl).cellV rfl)) ?_; clear hs a; intro a hs
  refine b_take 4 rfl #[true, true, true, true, true, false, false, false, false, false] rfl (by kernel_rfl) hs ((hs.mem.first 1)) rfl rfl rfl (fun _ _ _ h => h) (y_move hs rfl) ?_; clear hs a; intro a hs
  refine b_take 5 rfl #[true, true, true, true, true, true, false, false, false, false] rfl (by kernel_rfl) hs ((hs.mem.first 1)) rfl rfl rfl (fun _ _ _ h => h) (y_nilchk hs rfl) ?_; clear hs a; intro a hs
  refine b_take 6 rfl #[true, true, true, true, true, true, true, false, false, false] rfl (by kernel_rfl) hs ((hs.mem.first 1)) rfl rfl rfl (fun _ _ _ h => h) (y_faddr (k' := 1) 1 hs (by kernel_rfl) rfl rfl) ?_; clear hs a; intro a hs
  refine b_take 7 rfl #[true, true, true, true, true, true, true, true, false, false] rfl (by kernel_rfl) hs ((hs.mem.first 1)) rfl rfl rfl (fun _ _ _ h => h) (y_load hs Tryd.underlying3 rfl rfl (fun w hw => (hw.to 0 rfl).cellV rfl)) ?_; clear hs a; intro a hs
  refine b_take 8 rfl #[true, true, true, true, true, true, true, true, true, false] rfl (by kernel_rfl) hs ((hs.mem.first 1)) rfl rfl rfl (fun _ _ _ h => h) (y_idxS hs Tryd.underlying9 rfl rfl (by omega) hc) ?_; clear hs a; intro a hs
  refine b_take 9 rfl #[true, true, true, true, true, true, true, true, true, true] rfl (by kernel_rfl) hs ((hs.mem.first 1)) rfl rfl rfl (fun _ _ _ h => h) (y_cmp hs rfl rfl rfl) ?_; clear hs a; intro a hs
  refine b_done (by kernel_rfl) ?_
  repeat first | with_reducible refine in_normal ?_ | with_reducible refine then_normal ?_ | with_reducible refine then_ret ?_ | with_reducible refine in_ret ?_ | with_reducible refine then_exit ?_ | with_reducible refine in_here ?_ | with_reducible refine in_other rfl ?_
  repeat with_reducible refine wp_seq ?_
  refine wp_cond_split (hs.ev rfl) (fun hb => ?_) (fun hb => ?_)
  · have c10 : c.toNat = 10 := by have := eq_of_beq hb; omega
    repeat with_reducible refine wp_seq ?_
    refine wp_region_lit ?_
    refine a_val hs rfl rfl rfl (y_move hs rfl) ?_; clear hs a; intro a hs
    refine a_val hs rfl rfl rfl (y_move hs rfl) ?_; clear hs a; intro a hs
    refine a_val hs rfl rfl rfl (y_move hs rfl) ?_; clear hs a; intro a hs
    refine a_val hs rfl rfl rfl (y_nilchk hs rfl) ?_; clear hs a; intro a hs
    refine a_val hs rfl rfl rfl (y_faddr (k' := 2) 2 hs (by kernel_rfl) rfl rfl) ?_; clear hs a; intro a hs
    refine a_val hs rfl rfl rfl (y_load hs Tryd.underlying3 rfl rfl (fun w hw => (hw.to 0 rfl).cellV rfl)) ?_; clear hs a; intro a hs
    refine a_val hs rfl rfl rfl (y_add hs rfl rfl (by omega)) ?_; clear hs a; intro a hs
    refine a_val hs rfl rfl rfl (y_nilchk hs rfl) ?_; clear hs a; intro a hs
    refine a_val hs rfl rfl rfl (y_faddr (k' := 2) 2 hs (by kernel_rfl) rfl rfl) ?_; clear hs a; intro a hs
    refine a_eff rfl (e_store (cl := [_, _, _, _, _]) 0 rfl hs rfl rfl (by kernel_rfl) rfl rfl rfl ?_); clear hs a; intro a w hs
    refine a_val hs rfl rfl rfl (y_nilchk hs rfl) ?_; clear hs a; intro a hs
    refine a_val hs rfl rfl rfl (y_faddr (k' := 3) 3 hs (by kernel_rfl) rfl rfl) ?_; clear hs a; intro a hs
    refine a_eff rfl (e_store (cl := [_, _, _, _, _]) 0 rfl hs rfl rfl (by kernel_rfl) rfl rfl rfl ?_); clear hs a; intro a w hs
    refine wpList_nil ?_
    repeat first | with_reducible refine in_normal ?_ | with_reducible refine then_normal ?_ | with_reducible refine then_ret ?_ | with_reducible refine in_ret ?_ | with_reducible refine then_exit ?_ | with_reducible refine in_here ?_ | with_reducible refine in_other rfl ?_
    repeat with_reducible refine wp_seq ?_
    refine wp_region_lit ?_
    refine a_val hs rfl rfl rfl (y_move hs rfl) ?_; clear hs a; intro a hs
    refine a_val hs rfl rfl rfl (y_nilchk hs rfl) ?_; clear hs a; intro a hs
    refine a_val hs rfl rfl rfl (y_faddr (k' := 1) 1 hs (by kernel_rfl) rfl rfl) ?_; clear hs a; intro a hs
    refine a_val hs rfl rfl rfl (y_load hs Tryd.underlying3 rfl rfl (fun w hw => (hw.to 0 rfl).cellV rfl)) ?_; clear hs a; intro a hs
    refine a_val hs rfl rfl rfl (y_add hs rfl rfl (by omega)) ?_; clear hs a; intro a hs
    refine a_val hs rfl rfl rfl (y_nilchk hs rfl) ?_; clear hs a; intro a hs
    refine a_val hs rfl rfl rfl (y_faddr (k' := 1) 1 hs (by kernel_rfl) rfl rfl) ?_; clear hs a; intro a hs
    refine a_eff rfl (e_store (cl := [_, _, _, _, _]) 0 rfl hs rfl rfl (by kernel_rfl) rfl rfl rfl ?_); clear hs a; intro a w hs
    refine wpList_nil ?_
    repeat first | with_reducible refine in_normal ?_ | with_reducible refine then_normal ?_ | with_reducible refine then_ret ?_ | with_reducible refine in_ret ?_ | with_reducible refine then_exit ?_ | with_reducible refine in_here ?_ | with_reducible refine in_other rfl ?_
    refine fin_end (vs := []) hs .nil ⟨rfl, ?_⟩
    have e10 : bt s p = 10 := by rw [bt_of hc, c10]; rfl
    rw [if_pos e10, if_pos e10]
    exact hs.mem
  · have c10 : ¬ c.toNat = 10 := by have := ne_of_beq_false hb; omega
    repeat with_reducible refine wp_seq ?_
    refine wp_skip ?_
    repeat first | with_reducible refine in_normal ?_ | with_reducible refine then_normal ?_ | with_reducible refine then_ret ?_ | with_reducible refine in_ret ?_ | with_reducible refine then_exit ?_ | with_reducible refine in_here ?_ | with_reducible refine in_other rfl ?_
    repeat with_reducible refine wp_seq ?_
    refine wp_region_lit ?_
    refine a_val hs rfl rfl rfl (y_move hs rfl) ?_; clear hs a; intro a hs
    refine a_val hs rfl rfl rfl (y_nilchk hs rfl) ?_; clear hs a; intro a hs
    refine a_val hs rfl rfl rfl (y_faddr (k' := 1) 1 hs (by kernel_rfl) rfl rfl) ?_; clear hs a; intro a hs
    refine a_val hs rfl rfl rfl (y_load hs Tryd.underlying3 rfl rfl (fun w hw => (hw.to 0 rfl).cellV rfl)) ?_; clear hs a; intro a hs
    refine a_val hs rfl rfl rfl (y_add hs rfl rfl (by omega)) ?_; clear hs a; intro a hs
    refine a_val hs rfl rfl rfl (y_nilchk hs rfl) ?_; clear hs a; intro a hs
    refine a_val hs rfl rfl rfl (y_faddr (k' := 1) 1 hs (by kernel_rfl) rfl rfl) ?_; clear hs a; intro a hs
    refine a_eff rfl (e_store (cl := [_, _, _, _, _]) 0 rfl hs rfl rfl (by kernel_rfl) rfl rfl rfl ?_); clear hs a; intro a w hs
    refine wpList_nil ?_
    repeat first | with_reducible refine in_normal ?_ | with_reducible refine then_normal ?_ | with_reducible refine then_ret ?_ | with_reducible refine in_ret ?_ | with_reducible refine then_exit ?_ | with_reducible refine in_here ?_ | with_reducible refine in_other rfl ?_
    refine fin_end (vs := []) hs .nil ⟨rfl, ?_⟩
    have e10 : ¬ bt s p = 10 := by rw [bt_of hc]; omega
    rw [if_neg e10, if_neg e10]
    exact hs.mem
theorem cutter_now (g : Nat) (s : ByteArray) (p q r : Nat) (lv : Value) (bs : List Res) (w0 w : World) (hp : p ≤ s.size) (h : H w0 (pt g #[.string s, .int .i64 ((p : Nat) : Int), .int .i64 ((q : Nat) : Int), .int .i64 ((r : Nat) : Int), lv] 44 :: bs) w) :
    Calls Tryd.prog 39 #[.pointer (some ⟨g, 0, none⟩)] w fun e w' => e = .returned (.int .i64 (kd s p)) ∧ H w0 (pt g #[.string s, .int .i64 ((p : Nat) : Int), .int .i64 ((q : Nat) : Int), .int .i64 ((r : Nat) : Int), lv] 44 :: bs) w' := by
  refine calls_enter (N := 23) (n := 22) (args := [.pointer (some ⟨g, 0, none⟩)]) Tryd.func39 rfl rfl rfl h (fun a hs => ?_)
  repeat with_reducible refine wp_seq ?_
  refine wp_region_lit ?_
  refine a_val hs rfl rfl rfl (y_assign hs rfl) ?_; clear hs a; intro a hs
  refine wpList_nil ?_
  repeat first | with_reducible refine in_normal ?_ | with_reducible refine then_normal ?_ | with_reducible refine then_ret ?_ | with_reducible refine in_ret ?_ | with_reducible refine then_exit ?_ | with_reducible refine in_here ?_ | with_reducible refine in_other rfl ?_
  repeat with_reducible refine wp_seq ?_
  refine b_enter [0] (by kernel_rfl) hs #[false, false, false, false, false, false, false, false, false, false] (by rfl) 10 (by rfl) ?_; clear hs; intro w hs
  refine b_take 0 rfl #[true, false, false, false, false, false, false, false, false, false] rfl (by kernel_rfl) hs ((hs.mem.first 1)) rfl rfl rfl (fun _ _ _ h => h) (y_move hs rfl) ?_; clear hs a; intro a hs
  refine b_take 1 rfl #[true, true, false, false, false, false, false, false, false, false] rfl (by kernel_rfl) hs ((hs.mem.first 1)) rfl rfl rfl (fun _ _ _ h => h) (y_nilchk hs rfl) ?_; clear hs a; intro a hs
  refine b_take 2 rfl #[true, true, true, false, false, false, false, false, false, false] rfl (by kernel_rfl) hs ((hs.mem.first 1)) rfl rfl rfl (fun _ _ _ h => h) (y_faddr (k' := 1) 1 hs (by kernel_rfl) rfl rfl) ?_; clear hs a; intro a hs
  refine b_take 3 rfl #[true, true, true, true, false, false, false, false, false, false] rfl (by kernel_rfl) hs ((hs.mem.first 1)) rfl rfl rfl (fun _ _ _ h => h) (y_load hs Tryd.underlying3 rfl rfl (fun w hw => (hw.to 0 rfl).cellV rfl)) ?_; clear hs a; intro a hs
  refine b_take 4 rfl #[true, true, true, true, true, false, false, false, false, false] rfl (by kernel_rfl) hs ((hs.mem.first 1)) rfl rfl rfl (fun _ _ _ h => h) (y_move hs rfl) ?_; clear hs a; intro a hs
  refine b_take 5 rfl #[true, true, true, true, true, true, false, false, false, false] rfl (by kernel_rfl) hs ((hs.mem.first 1)) rfl rfl rfl (fun _ _ _ h => h) (y_nilchk hs rfl) ?_; clear hs a; intro a hs
  refine b_take 6 rfl #[true, true, true, true, true, true, true, false, false, false] rfl (by kernel_rfl) hs ((hs.mem.first 1)) rfl rfl rfl (fun _ _ _ h => h) (y_faddr (k' := 0) 0 hs (by kernel_rfl) rfl rfl) ?_; clear hs a; intro a hs
  refine b_take 7 rfl #[true, true, true, true, true, true, true, true, false, false] rfl (by kernel_rfl) hs ((hs.mem.first 1)) rfl rfl rfl (fun _ _ _ h => h) (y_load hs Tryd.underlying9 rfl rfl (fun w hw => (hw.to 0 rfl).cellV rfl)) ?_; clear hs a; intro a hs
  refine b_take 8 rfl #[true, true, true, true, true, true, true, true, true, false] rfl (by kernel_rfl) hs ((hs.mem.first 1)) rfl rfl rfl (fun _ _ _ h => h) (y_lenS hs Tryd.underlying9 rfl) ?_; clear hs a; intro a hs
  refine b_take 9 rfl #[true, true, true, true, true, true, true, true, true, true] rfl (by kernel_rfl) hs ((hs.mem.first 1)) rfl rfl rfl (fun _ _ _ h => h) (y_cmp hs rfl rfl rfl) ?_; clear hs a; intro a hs
  refine b_done (by kernel_rfl) ?_
  repeat first | with_reducible refine in_normal ?_ | with_reducible refine then_normal ?_ | with_reducible refine then_ret ?_ | with_reducible refine in_ret ?_ | with_reducible refine then_exit ?_ | with_reducible refine in_here ?_ | with_reducible refine in_other rfl ?_
  repeat with_reducible refine wp_seq ?_
  refine wp_cond_split (hs.ev rfl) (fun hb => ?_) (fun hb => ?_)
  · have e : p = s.size := by have := eq_of_beq hb; omega
    repeat with_reducible refine wp_seq ?_
    refine wp_region_lit ?_
    refine a_val hs rfl rfl rfl (y_assign hs rfl) ?_; clear hs a; intro a hs
    refine wpList_nil ?_
    repeat first | with_reducible refine in_normal ?_ | with_reducible refine then_normal ?_ | with_reducible refine then_ret ?_ | with_reducible refine in_ret ?_ | with_reducible refine then_exit ?_ | with_reducible refine in_here ?_ | with_reducible refine in_other rfl ?_
    repeat with_reducible refine wp_seq ?_
    refine wp_ret ?_
    repeat first | with_reducible refine in_normal ?_ | with_reducible refine then_normal ?_ | with_reducible refine then_ret ?_ | with_reducible refine in_ret ?_ | with_reducible refine then_exit ?_ | with_reducible refine in_here ?_ | with_reducible refine in_other rfl ?_
    refine fin_ret (vs := [.int .i64 0]) hs (.tmp (hs.slots _ _ rfl) .nil) ⟨?_, hs.mem⟩
    rw [kd_end e]; rfl
  · have e : ¬ p = s.size := by have := ne_of_beq_false hb; omega
    have hp : p < s.size := by omega
    obtain ⟨c, hc⟩ : ∃ c, s[p]? = some c := ⟨_, getElem?_pos s p hp⟩
    repeat with_reducible refine wp_seq ?_
    refine wp_skip ?_
    repeat first | with_reducible refine in_normal ?_ | with_reducible refine then_normal ?_ | with_reducible refine then_ret ?_ | with_reducible refine in_ret ?_ | with_reducible refine then_exit ?_ | with_reducible refine in_here ?_ | with_reducible refine in_other rfl ?_
    repeat with_reducible refine wp_seq ?_
    refine b_enter [0] (by kernel_rfl) hs #[false, false, false, false, false, false, false, false, false, false, false] (by rfl) 11 (by rfl) ?_; clear hs; intro w hs
    refine b_take 0 rfl #[true, false, false, false, false, false, false, false, false, false, false] rfl (by kernel_rfl) hs ((hs.mem.first 1)) rfl rfl rfl (fun _ _ _ h => h) (y_move hs rfl) ?_; clear hs a; intro a hs
    refine b_take 1 rfl #[true, true, false, false, false, false, false, false, false, false, false] rfl (by kernel_rfl) hs ((hs.mem.first 1)) rfl rfl rfl (fun _ _ _ h => h) (y_nilchk hs rfl) ?_; clear hs a; intro a hs
    refine b_take 2 rfl #[true, true, true, false, false, false, false, false, false, false, false] rfl (by kernel_rfl) hs ((hs.mem.first 1)) rfl rfl rfl (fun _ _ _ h => h) (y_faddr (k' := 0) 0 hs (by kernel_rfl) rfl rfl) ?_; clear hs a; intro a hs
    refine b_take 3 rfl #[true, true, true, true, false, false, false, false, false, false, false] rfl (by kernel_rfl) hs ((hs.mem.first 1)) rfl rfl rfl (fun _ _ _ h => h) (y_load hs Tryd.underlying9 rfl rfl (fun w hw => (hw.to 0 rfl).cellV rfl)) ?_; clear hs a; intro a hs
    refine b_take 4 rfl #[true, true, true, true, true, false, false, false, false, false, false] rfl (by kernel_rfl) hs ((hs.mem.first 1)) rfl rfl rfl (fun _ _ _ h => h) (y_move hs rfl) ?_; clear hs a; intro a hs
    refine b_take 5 rfl #[true, true, true, true, true, true, false, false, false, false, false] rfl (by kernel_rfl) hs ((hs.mem.first 1)) rfl rfl rfl (fun _ _ _ h => h) (y_nilchk hs rfl) ?_; clear hs a; intro a hs
    refine b_take 6 rfl #[true, true, true, true, true, true, true, false, false, false, false] rfl (by kernel_rfl) hs ((hs.mem.first 1)) rfl rfl rfl (fun _ _ _ h => h) (y_faddr (k' := 1) 1 hs (by kernel_rfl) rfl rfl) ?_; clear hs a; intro a hs
    refine b_take 7 rfl #[true, true, true, true, true, true, true, true, false, false, false] rfl (by kernel_rfl) hs ((hs.mem.first 1)) rfl rfl rfl (fun _ _ _ h => h) (y_load hs Tryd.underlying3 rfl rfl (fun w hw => (hw.to 0 rfl).cellV rfl)) ?_; clear hs a; intro a hs
    refine b_take 8 rfl #[true, true, true, true, true, true, true, true, true, false, false] rfl (by kernel_rfl) hs ((hs.mem.first 1)) rfl rfl rfl (fun _ _ _ h => h) (y_idxS hs Tryd.underlying9 rfl rfl (by omega) hc) ?_; clear hs a; intro a hs
    refine b_eff 9 (by kernel_rfl) rfl #[true, true, true, true, true, true, true, true, true, true, false] rfl hs rfl (e_callB Tryd.func37 rfl rfl hs rfl rfl ((token_kind.calls 2 _ _ _ (kind_ok 0 _)).mono (by rintro e w1 ⟨rfl, hd⟩; exact ⟨rfl, drawn_below hd⟩)) ?_); clear hs a; intro a w hs
    refine ⟨(hs.mem.first 1), ?_⟩
    refine b_take 10 rfl #[true, true, true, true, true, true, true, true, true, true, true] rfl (by kernel_rfl) hs ((hs.mem.first 1)) rfl rfl rfl (fun _ _ _ h => h) (y_assign hs rfl) ?_; clear hs a; intro a hs
    refine b_done (by kernel_rfl) ?_
    repeat first | with_reducible refine in_normal ?_ | with_reducible refine then_normal ?_ | with_reducible refine then_ret ?_ | with_reducible refine in_ret ?_ | with_reducible refine then_exit ?_ | with_reducible refine in_here ?_ | with_reducible refine in_other rfl ?_
    repeat with_reducible refine wp_seq ?_
    refine wp_ret ?_
    repeat first | with_reducible refine in_normal ?_ | with_reducible refine then_normal ?_ | with_reducible refine then_ret ?_ | with_reducible refine in_ret ?_ | with_reducible refine then_exit ?_ | with_reducible refine in_here ?_ | with_reducible refine in_other rfl ?_
    refine fin_ret (vs := [.int .i64 (kindOf ((c.toNat : Nat) : Int))]) hs (.tmp (hs.slots _ _ rfl) .nil) ⟨?_, hs.mem⟩
    rw [kd_at hc]; rfl
theorem cutter_run (g gk : Nat) (s : ByteArray) (l : List Int) (p q r : Nat) (lv : Value) (bs : List Res) (w0 w : World) (hp : p ≤ s.size) (hz : s.size ≤ 65536) (hq : q ≤ p + 1) (hr : r ≤ p + 1) (hll : l.length ≤ 100) (hcon : ∀ a, slices_Contains_int_int.f 4 l a = some (l.contains a)) (h : H w0 (pt g #[.string s, .int .i64 ((p : Nat) : Int), .int .i64 ((q : Nat) : Int), .int .i64 ((r : Nat) : Int), lv] 44 :: pt gk (l.map (Value.int .i64)).toArray 3 :: bs) w) :
    Calls Tryd.prog 41 #[.pointer (some ⟨g, 0, none⟩), .slice (some ⟨gk, 0, none⟩) l.length l.length] w fun e w' => e = .returned (.string (s.extract p (runTo s l (s.size - p) p q r).1)) ∧ H w0 (pt g #[.string s, .int .i64 (((runTo s l (s.size - p) p q r).1 : Nat) : Int), .int .i64 (((runTo s l (s.size - p) p q r).2.1 : Nat) : Int), .int .i64 (((runTo s l (s.size - p) p q r).2.2 : Nat) : Int), lv] 44 :: pt gk (l.map (Value.int .i64)).toArray 3 :: bs) w' := by
  refine calls_enter (N := 38) (n := 36) (args := [.pointer (some ⟨g, 0, none⟩), .slice (some ⟨gk, 0, none⟩) l.length l.length]) Tryd.func41 rfl rfl rfl h (fun a hs => ?_)
  repeat with_reducible refine wp_seq ?_
  refine wp_region_lit ?_
  refine a_val hs rfl rfl rfl (y_assign hs rfl) ?_; clear hs a; intro a hs
  refine wpList_nil ?_
  repeat first | with_reducible refine in_normal ?_ | with_reducible refine then_normal ?_ | with_reducible refine then_ret ?_ | with_reducible refine in_ret ?_ | with_reducible refine then_exit ?_ | with_reducible refine in_here ?_ | with_reducible refine in_other rfl ?_
  repeat with_reducible refine wp_seq ?_
  refine wp_region_lit ?_
  refine a_val hs rfl rfl rfl (y_move hs rfl) ?_; clear hs a; intro a hs
  refine a_val hs rfl rfl rfl (y_nilchk hs rfl) ?_; clear hs a; intro a hs
  refine a_val hs rfl rfl rfl (y_faddr (k' := 1) 1 hs (by kernel_rfl) rfl rfl) ?_; clear hs a; intro a hs
  refine a_val hs rfl rfl rfl (y_load hs Tryd.underlying3 rfl rfl (fun w hw => (hw.to 0 rfl).cellV rfl)) ?_; clear hs a; intro a hs
  refine a_val hs rfl rfl rfl (y_assign hs rfl) ?_; clear hs a; intro a hs
  refine wpList_nil ?_
  repeat first | with_reducible refine in_normal ?_ | with_reducible refine then_normal ?_ | with_reducible refine then_ret ?_ | with_reducible refine in_ret ?_ | with_reducible refine then_exit ?_ | with_reducible refine in_here ?_ | with_reducible refine in_other rfl ?_
  repeat with_reducible refine wp_seq ?_
  refine wp_block ?_
  refine wp_loopN (fun m a w => ∃ p1 q1 r1 : Nat, m = s.size - p1 ∧ p ≤ p1 ∧ p1 ≤ s.size ∧ q1 ≤ p1 + 1 ∧ r1 ≤ p1 + 1 ∧ runTo s l (s.size - p1) p1 q1 r1 = runTo s l (s.size - p) p q r ∧ St 38 w0 [(0, .pointer (some ⟨g, 0, none⟩)), (1, .slice (some ⟨gk, 0, none⟩) l.length l.length), (5, .int .i64 (p : Int))] (pt g #[.string s, .int .i64 ((p1 : Nat) : Int), .int .i64 ((q1 : Nat) : Int), .int .i64 ((r1 : Nat) : Int), lv] 44 :: pt gk (l.map (Value.int .i64)).toArray 3 :: bs) a w) (s.size - p) ⟨p, q, r, rfl, Nat.le_refl _, hp, hq, hr, rfl, hs.cut _ ⟨rfl, rfl, rfl, trivial⟩⟩ (fun m a w hI => ?_)
  clear hs
  obtain ⟨p1, q1, r1, hm, hp1, hp2, hq1, hr1, hrun, hs⟩ := hI
  by_cases hlt : p1 < s.size
  · repeat with_reducible refine wp_seq ?_
    refine b_enter [0, 1] (by kernel_rfl) hs #[false, false, false, false, false, false, false, false, false, false, false, false, false, false, false, false] (by rfl) 16 (by rfl) ?_; clear hs; intro w hs
    refine b_take 0 rfl #[true, false, false, false, false, false, false, false, false, false, false, false, false, false, false, false] rfl (by kernel_rfl) hs ((((hs.mem.to 1 rfl).to 1 rfl).first 2)) rfl rfl rfl (fun _ _ _ h => h) (y_move hs rfl) ?_; clear hs a; intro a hs
    refine b_take 1 rfl #[true, true, false, false, false, false, false, false, false, false, false, false, false, false, false, false] rfl (by kernel_rfl) hs ((((hs.mem.to 1 rfl).to 1 rfl).first 2)) rfl rfl rfl (fun _ _ _ h => h) (y_nilchk hs rfl) ?_; clear hs a; intro a hs
    refine b_take 2 rfl #[true, true, true, false, false, false, false, false, false, false, false, false, false, false, false, false] rfl (by kernel_rfl) hs ((((hs.mem.to 1 rfl).to 1 rfl).first 2)) rfl rfl rfl (fun _ _ _ h => h) (y_faddr (k' := 1) 1 hs (by kernel_rfl) rfl rfl) ?_; clear hs a; intro a hs
    refine b_take 3 rfl #[true, true, true, true, false, false, false, false, false, false, false, false, false, false, false, false] rfl (by kernel_rfl) hs ((((hs.mem.to 1 rfl).to 1 rfl).first 2)) rfl rfl rfl (fun _ _ _ h => h) (y_load hs Tryd.underlying3 rfl rfl (fun w hw => (hw.to 0 rfl).cellV rfl)) ?_; clear hs a; intro a hs
    refine b_take 4 rfl #[true, true, true, true, true, false, false, false, false, false, false, false, false, false, false, false] rfl (by kernel_rfl) hs ((((hs.mem.to 1 rfl).to 1 rfl).first 2)) rfl rfl rfl (fun _ _ _ h => h) (y_move hs rfl) ?_; clear hs a; intro a hs
    refine b_take 5 rfl #[true, true, true, true, true, true, false, false, false, false, false, false, false, false, false, false] rfl (by kernel_rfl) hs ((((hs.mem.to 1 rfl).to 1 rfl).first 2)) rfl rfl rfl (fun _ _ _ h => h) (y_nilchk hs rfl) ?_; clear hs a; intro a hs
    refine b_take 6 rfl #[true, true, true, true, true, true, true, false, false, false, false, false, false, false, false, false] rfl (by kernel_rfl) hs ((((hs.mem.to 1 rfl).to 1 rfl).first 2)) rfl rfl rfl (fun _ _ _ h => h) (y_faddr (k' := 0) 0 hs (by kernel_rfl) rfl rfl) ?_; clear hs a; intro a hs
    refine b_take 7 rfl #[true, true, true, true, true, true, true, true, false, false, false, false, false, false, false, false] rfl (by kernel_rfl) hs ((((hs.mem.to 1 rfl).to 1 rfl).first 2)) rfl rfl rfl (fun _ _ _ h => h) (y_load hs Tryd.underlying9 rfl rfl (fun w hw => (hw.to 0 rfl).cellV rfl)) ?_; clear hs a; intro a hs
    refine b_take 8 rfl #[true, true, true, true, true, true, true, true, true, false, false, false, false, false, false, false] rfl (by kernel_rfl) hs ((((hs.mem.to 1 rfl).to 1 rfl).first 2)) rfl rfl rfl (fun _ _ _ h => h) (y_lenS hs Tryd.underlying9 rfl) ?_; clear hs a; intro a hs
    refine b_take 9 rfl #[true, true, true, true, true, true, true, true, true, true, false, false, false, false, false, false] rfl (by kernel_rfl) hs ((((hs.mem.to 1 rfl).to 1 rfl).first 2)) rfl rfl rfl (fun _ _ _ h => h) (y_cmp (b := true) hs rfl rfl (congrArg some (decide_eq_true (by omega)))) ?_; clear hs a; intro a hs
    refine b_take 10 rfl #[true, true, true, true, true, true, true, true, true, true, true, false, false, false, false, false] rfl (by kernel_rfl) hs ((((hs.mem.to 1 rfl).to 1 rfl).first 2)) rfl rfl rfl (fun _ _ _ h => h) (y_move hs rfl) ?_; clear hs a; intro a hs
    refine b_take 11 rfl #[true, true, true, true, true, true, true, true, true, true, true, true, false, false, false, false] rfl (by kernel_rfl) hs ((((hs.mem.to 1 rfl).to 1 rfl).first 2)) rfl rfl rfl (fun _ _ _ h => h) (y_move hs rfl) ?_; clear hs a; intro a hs
    refine b_take 12 rfl #[true, true, true, true, true, true, true, true, true, true, true, true, true, false, false, false] rfl (by kernel_rfl) hs ((((hs.mem.to 1 rfl).to 1 rfl).first 2)) rfl rfl rfl (fun _ _ _ h => h) (y_move hs rfl) ?_; clear hs a; intro a hs
    refine b_eff 13 (by kernel_rfl) rfl #[true, true, true, true, true, true, true, true, true, true, true, true, true, true, false, false] rfl hs rfl (e_call Tryd.func39 rfl rfl hs rfl rfl (cutter_now g s p1 q1 r1 lv _ w0 _ hp2 (hs.mem.to 0 rfl)) (fun w hm => ⟨_, hm, ?_⟩)); clear hs a; intro a hs
    refine ⟨(((hs.mem.to 1 rfl).to 1 rfl).first 2), ?_⟩
    refine b_eff 14 (by kernel_rfl) rfl #[true, true, true, true, true, true, true, true, true, true, true, true, true, true, true, false] rfl hs rfl (e_callB Tryd.func48 rfl rfl hs rfl rfl ((slices_Contains_int_int.calls 4 _ _ l _ (l.contains (kd s p1)) _ (C_pt (Kd.int .i64) (fun x => [.int .i64 x]) (fun _ _ => int_mk) (fun _ => rfl) (hs.mem.to 1 rfl) (by omega) (flatMap_one l)) (Nat.le_refl _) (hcon _)).mono (by rintro e w1 ⟨rfl, hd⟩; exact ⟨rfl, drawn_below hd⟩)) ?_); clear hs a; intro a w hs
    refine ⟨(((hs.mem.to 1 rfl).to 1 rfl).first 2), ?_⟩
    refine b_take 15 rfl #[true, true, true, true, true, true, true, true, true, true, true, true, true, true, true, true] rfl (by kernel_rfl) hs ((((hs.mem.to 1 rfl).to 1 rfl).first 2)) rfl rfl rfl (fun _ _ _ h => h) (y_pick hs rfl rfl rfl) ?_; clear hs a; intro a hs
    refine b_done (by kernel_rfl) ?_
    repeat first | with_reducible refine in_normal ?_ | with_reducible refine then_normal ?_ | with_reducible refine then_ret ?_ | with_reducible refine in_ret ?_ | with_reducible refine then_exit ?_ | with_reducible refine in_here ?_ | with_reducible refine in_other rfl ?_
    repeat with_reducible refine wp_seq ?_
    refine wp_cond_split (hs.ev rfl) (fun hb => ?_) (fun hb => ?_)
    · have hk : l.contains (kd s p1) = true := hb
      repeat with_reducible refine wp_seq ?_
      refine wp_skip ?_
      repeat first | with_reducible refine in_normal ?_ | with_reducible refine then_normal ?_ | with_reducible refine then_ret ?_ | with_reducible refine in_ret ?_ | with_reducible refine then_exit ?_ | with_reducible refine in_here ?_ | with_reducible refine in_other rfl ?_
      repeat with_reducible refine wp_seq ?_
      refine wp_block ?_
      repeat with_reducible refine wp_seq ?_
      refine wp_region_lit ?_
      refine a_val hs rfl rfl rfl (y_move hs rfl) ?_; clear hs a; intro a hs
      refine a_eff rfl (e_call Tryd.func40 rfl rfl hs rfl rfl (cutter_step g s p1 q1 r1 lv _ w0 _ hlt (by omega) (hs.mem.to 0 rfl)) (fun w hm => ⟨_, hm, ?_⟩)); clear hs a; intro a hs
      refine wpList_nil ?_
      repeat first | with_reducible refine in_normal ?_ | with_reducible refine then_normal ?_ | with_reducible refine then_ret ?_ | with_reducible refine in_ret ?_ | with_reducible refine then_exit ?_ | with_reducible refine in_here ?_ | with_reducible refine in_other rfl ?_
      have hr2 := hrun
      rw [show s.size - p1 = (s.size - (p1 + 1)) + 1 by omega, runTo, if_pos ⟨hlt, hk⟩] at hr2
      refine ⟨s.size - (p1 + 1), by omega, p1 + 1, _, _, rfl, by omega, by omega, ?_, ?_, hr2, hs.cut _ ⟨rfl, rfl, rfl, trivial⟩⟩ <;> split <;> omega
    · have hk : ¬ l.contains (kd s p1) = true := by rw [show l.contains (kd s p1) = false from hb]; simp
      have hr2 : runTo s l (s.size - p) p q r = (p1, q1, r1) := by rw [← hrun]; exact runTo_stop (fun h => hk h.2)
      repeat with_reducible refine wp_seq ?_
      refine wp_exit ?_
      repeat first | with_reducible refine in_normal ?_ | with_reducible refine then_normal ?_ | with_reducible refine then_ret ?_ | with_reducible refine in_ret ?_ | with_reducible refine then_exit ?_ | with_reducible refine in_here ?_ | with_reducible refine in_other rfl ?_
      repeat with_reducible refine wp_seq ?_
      refine b_enter [0, 1] (by kernel_rfl) hs #[false, false, false, false, false, false, false, false, false, false, false] (by rfl) 11 (by rfl) ?_; clear hs; intro w hs
      refine b_take 0 rfl #[true, false, false, false, false, false, false, false, false, false, false] rfl (by kernel_rfl) hs ((((hs.mem.to 1 rfl).to 1 rfl).first 2)) rfl rfl rfl (fun _ _ _ h => h) (y_move hs rfl) ?_; clear hs a; intro a hs
      refine b_take 1 rfl #[true, true, false, false, false, false, false, false, false, false, false] rfl (by kernel_rfl) hs ((((hs.mem.to 1 rfl).to 1 rfl).first 2)) rfl rfl rfl (fun _ _ _ h => h) (y_nilchk hs rfl) ?_; clear hs a; intro a hs
      refine b_take 2 rfl #[true, true, true, false, false, false, false, false, false, false, false] rfl (by kernel_rfl) hs ((((hs.mem.to 1 rfl).to 1 rfl).first 2)) rfl rfl rfl (fun _ _ _ h => h) (y_faddr (k' := 0) 0 hs (by kernel_rfl) rfl rfl) ?_; clear hs a; intro a hs
      refine b_take 3 rfl #[true, true, true, true, false, false, false, false, false, false, false] rfl (by kernel_rfl) hs ((((hs.mem.to 1 rfl).to 1 rfl).first 2)) rfl rfl rfl (fun _ _ _ h => h) (y_load hs Tryd.underlying9 rfl rfl (fun w hw => (hw.to 0 rfl).cellV rfl)) ?_; clear hs a; intro a hs
      refine b_take 4 rfl #[true, true, true, true, true, false, false, false, false, false, false] rfl (by kernel_rfl) hs ((((hs.mem.to 1 rfl).to 1 rfl).first 2)) rfl rfl rfl (fun _ _ _ h => h) (y_move hs rfl) ?_; clear hs a; intro a hs
      refine b_take 5 rfl #[true, true, true, true, true, true, false, false, false, false, false] rfl (by kernel_rfl) hs ((((hs.mem.to 1 rfl).to 1 rfl).first 2)) rfl rfl rfl (fun _ _ _ h => h) (y_move hs rfl) ?_; clear hs a; intro a hs
      refine b_take 6 rfl #[true, true, true, true, true, true, true, false, false, false, false] rfl (by kernel_rfl) hs ((((hs.mem.to 1 rfl).to 1 rfl).first 2)) rfl rfl rfl (fun _ _ _ h => h) (y_nilchk hs rfl) ?_; clear hs a; intro a hs
      refine b_take 7 rfl #[true, true, true, true, true, true, true, true, false, false, false] rfl (by kernel_rfl) hs ((((hs.mem.to 1 rfl).to 1 rfl).first 2)) rfl rfl rfl (fun _ _ _ h => h) (y_faddr (k' := 1) 1 hs (by kernel_rfl) rfl rfl) ?_; clear hs a; intro a hs
      refine b_take 8 rfl #[true, true, true, true, true, true, true, true, true, false, false] rfl (by kernel_rfl) hs ((((hs.mem.to 1 rfl).to 1 rfl).first 2)) rfl rfl rfl (fun _ _ _ h => h) (y_load hs Tryd.underlying3 rfl rfl (fun w hw => (hw.to 0 rfl).cellV rfl)) ?_; clear hs a; intro a hs
      refine b_take 9 rfl #[true, true, true, true, true, true, true, true, true, true, false] rfl (by kernel_rfl) hs ((((hs.mem.to 1 rfl).to 1 rfl).first 2)) rfl rfl rfl (fun _ _ _ h => h) (y_sliceS hs Tryd.underlying9 rfl rfl rfl (by omega) (by omega) (by omega)) ?_; clear hs a; intro a hs
      refine b_take 10 rfl #[true, true, true, true, true, true, true, true, true, true, true] rfl (by kernel_rfl) hs ((((hs.mem.to 1 rfl).to 1 rfl).first 2)) rfl rfl rfl (fun _ _ _ h => h) (y_assign hs rfl) ?_; clear hs a; intro a hs
      refine b_done (by kernel_rfl) ?_
      repeat first | with_reducible refine in_normal ?_ | with_reducible refine then_normal ?_ | with_reducible refine then_ret ?_ | with_reducible refine in_ret ?_ | with_reducible refine then_exit ?_ | with_reducible refine in_here ?_ | with_reducible refine in_other rfl ?_
      repeat with_reducible refine wp_seq ?_
      refine wp_ret ?_
      repeat first | with_reducible refine in_normal ?_ | with_reducible refine then_normal ?_ | with_reducible refine then_ret ?_ | with_reducible refine in_ret ?_ | with_reducible refine then_exit ?_ | with_reducible refine in_here ?_ | with_reducible refine in_other rfl ?_
      refine fin_ret (vs := [.string (s.extract p p1)]) hs (.tmp (hs.slots _ _ rfl) .nil) ⟨?_, ?_⟩
      · rw [hr2]; rfl
      · rw [hr2]; exact hs.mem
  · repeat with_reducible refine wp_seq ?_
    refine b_enter [0, 1] (by kernel_rfl) hs #[false, false, false, false, false, false, false, false, false, false, false, false, false, false, false, false] (by rfl) 16 (by rfl) ?_; clear hs; intro w hs
    refine b_take 0 rfl #[true, false, false, false, false, false, false, false, false, false, false, false, false, false, false, false] rfl (by kernel_rfl) hs ((((hs.mem.to 1 rfl).to 1 rfl).first 2)) rfl rfl rfl (fun _ _ _ h => h) (y_move hs rfl) ?_; clear hs a; intro a hs
    refine b_take 1 rfl #[true, true, false, false, false, false, false, false, false, false, false, false, false, false, false, false] rfl (by kernel_rfl) hs ((((hs.mem.to 1 rfl).to 1 rfl).first 2)) rfl rfl rfl (fun _ _ _ h => h) (y_nilchk hs rfl) ?_; clear hs a; intro a hs
    refine b_take 2 rfl #[true, true, true, false, false, false, false, false, false, false, false, false, false, false, false, false] rfl (by kernel_rfl) hs ((((hs.mem.to 1 rfl).to 1 rfl).first 2)) rfl rfl rfl (fun _ _ _ h => h) (y_faddr (k' := 1) 1 hs (by kernel_rfl) rfl rfl) ?_; clear hs a; intro a hs
    refine b_take 3 rfl #[true, true, true, true, false, false, false, false, false, false, false, false, false, false, false, false] rfl (by kernel_rfl) hs ((((hs.mem.to 1 rfl).to 1 rfl).first 2)) rfl rfl rfl (fun _ _ _ h => h) (y_load hs Tryd.underlying3 rfl rfl (fun w hw => (hw.to 0 rfl).cellV rfl)) ?_; clear hs a; intro a hs
    refine b_take 4 rfl #[true, true, true, true, true, false, false, false, false, false, false, false, false, false, false, false] rfl (by kernel_rfl) hs ((((hs.mem.to 1 rfl).to 1 rfl).first 2)) rfl rfl rfl (fun _ _ _ h => h) (y_move hs rfl) ?_; clear hs a; intro a hs
    refine b_take 5 rfl #[true, true, true, true, true, true, false, false, false, false, false, false, false, false, false, false] rfl (by kernel_rfl) hs ((((hs.mem.to 1 rfl).to 1 rfl).first 2)) rfl rfl rfl (fun _ _ _ h => h) (y_nilchk hs rfl) ?_; clear hs a; intro a hs
    refine b_take 6 rfl #[true, true, true, true, true, true, true, false, false, false, false, false, false, false, false, false] rfl (by kernel_rfl) hs ((((hs.mem.to 1 rfl).to 1 rfl).first 2)) rfl rfl rfl (fun _ _ _ h => h) (y_faddr (k' := 0) 0 hs (by kernel_rfl) rfl rfl) ?_; clear hs a; intro a hs
    refine b_take 7 rfl #[true, true, true, true, true, true, true, true, false, false, false, false, false, false, false, false] rfl (by kernel_rfl) hs ((((hs.mem.to 1 rfl).to 1 rfl).first 2)) rfl rfl rfl (fun _ _ _ h => h) (y_load hs Tryd.underlying9 rfl rfl (fun w hw => (hw.to 0 rfl).cellV rfl)) ?_; clear hs a; intro a hs
    refine b_take 8 rfl #[true, true, true, true, true, true, true, true, true, false, false, false, false, false, false, false] rfl (by kernel_rfl) hs ((((hs.mem.to 1 rfl).to 1 rfl).first 2)) rfl rfl rfl (fun _ _ _ h => h) (y_lenS hs Tryd.underlying9 rfl) ?_; clear hs a; intro a hs
    refine b_take 9 rfl #[true, true, true, true, true, true, true, true, true, true, false, false, false, false, false, false] rfl (by kernel_rfl) hs ((((hs.mem.to 1 rfl).to 1 rfl).first 2)) rfl rfl rfl (fun _ _ _ h => h) (y_cmp (b := false) hs rfl rfl (congrArg some (decide_eq_false (by omega)))) ?_; clear hs a; intro a hs
    refine b_take 10 rfl #[true, true, true, true, true, true, true, true, true, true, true, false, false, false, false, false] rfl (by kernel_rfl) hs ((((hs.mem.to 1 rfl).to 1 rfl).first 2)) rfl rfl rfl (fun _ _ _ h => h) (y_move hs rfl) ?_; clear hs a; intro a hs
    refine b_skip 11 rfl #[true, true, true, true, true, true, true, true, true, true, true, true, false, false, false, false] rfl (by kernel_rfl) hs ((((hs.mem.to 1 rfl).to 1 rfl).first 2)) rfl rfl rfl (fun _ _ _ h => h) ?_; clear hs a; intro a hs
    refine b_skip 12 rfl #[true, true, true, true, true, true, true, true, true, true, true, true, true, false, false, false] rfl (by kernel_rfl) hs ((((hs.mem.to 1 rfl).to 1 rfl).first 2)) rfl rfl rfl (fun _ _ _ h => h) ?_; clear hs a; intro a hs
    refine b_skip 13 rfl #[true, true, true, true, true, true, true, true, true, true, true, true, true, true, false, false] rfl (by kernel_rfl) hs ((((hs.mem.to 1 rfl).to 1 rfl).first 2)) rfl rfl rfl (fun _ _ _ h => h) ?_; clear hs a; intro a hs
    refine b_skip 14 rfl #[true, true, true, true, true, true, true, true, true, true, true, true, true, true, true, false] rfl (by kernel_rfl) hs ((((hs.mem.to 1 rfl).to 1 rfl).first 2)) rfl rfl rfl (fun _ _ _ h => h) ?_; clear hs a; intro a hs
    refine b_take 15 rfl #[true, true, true, true, true, true, true, true, true, true, true, true, true, true, true, true] rfl (by kernel_rfl) hs ((((hs.mem.to 1 rfl).to 1 rfl).first 2)) rfl rfl rfl (fun _ _ _ h => h) (y_pick hs rfl rfl rfl) ?_; clear hs a; intro a hs
    refine b_done (by kernel_rfl) ?_
    repeat first | with_reducible refine in_normal ?_ | with_reducible refine then_normal ?_ | with_reducible refine then_ret ?_ | with_reducible refine in_ret ?_ | with_reducible refine then_exit ?_ | with_reducible refine in_here ?_ | with_reducible refine in_other rfl ?_
    repeat with_reducible refine wp_seq ?_
    refine wp_cond_false (hs.ev rfl) ?_
    have hr2 : runTo s l (s.size - p) p q r = (p1, q1, r1) := by rw [← hrun]; exact runTo_stop (fun h => hlt h.1)
    repeat with_reducible refine wp_seq ?_
    refine wp_exit ?_
    repeat first | with_reducible refine in_normal ?_ | with_reducible refine then_normal ?_ | with_reducible refine then_ret ?_ | with_reducible refine in_ret ?_ | with_reducible refine then_exit ?_ | with_reducible refine in_here ?_ | with_reducible refine in_other rfl ?_
    repeat with_reducible refine wp_seq ?_
    refine b_enter [0, 1] (by kernel_rfl) hs #[false, false, false, false, false, false, false, false, false, false, false] (by rfl) 11 (by rfl) ?_; clear hs; intro w hs
    refine b_take 0 rfl #[true, false, false, false, false, false, false, false, false, false, false] rfl (by kernel_rfl) hs ((((hs.mem.to 1 rfl).to 1 rfl).first 2)) rfl rfl rfl (fun _ _ _ h => h) (y_move hs rfl) ?_; clear hs a; intro a hs
    refine b_take 1 rfl #[true, true, false, false, false, false, false, false, false, false, false] rfl (by kernel_rfl) hs ((((hs.mem.to 1 rfl).to 1 rfl).first 2)) rfl rfl rfl (fun _ _ _ h => h) (y_nilchk hs rfl) ?_; clear hs a; intro a hs
    refine b_take 2 rfl #[true, true, true, false, false, false, false, false, false, false, false] rfl (by kernel_rfl) hs ((((hs.mem.to 1 rfl).to 1 rfl).first 2)) rfl rfl rfl (fun _ _ _ h => h) (y_faddr (k' := 0) 0 hs (by kernel_rfl) rfl rfl) ?_; clear hs a; intro a hs
    refine b_take 3 rfl #[true, true, true, true, false, false, false, false, false, false, false] rfl (by kernel_rfl) hs ((((hs.mem.to 1 rfl).to 1 rfl).first 2)) rfl rfl rfl (fun _ _ _ h => h) (y_load hs Tryd.underlying9 rfl rfl (fun w hw => (hw.to 0 rfl).cellV rfl)) ?_; clear hs a; intro a hs
    refine b_take 4 rfl #[true, true, true, true, true, false, false, false, false, false, false] rfl (by kernel_rfl) hs ((((hs.mem.to 1 rfl).to 1 rfl).first 2)) rfl rfl rfl (fun _ _ _ h => h) (y_move hs rfl) ?_; clear hs a; intro a hs
    refine b_take 5 rfl #[true, true, true, true, true, true, false, false, false, false, false] rfl (by kernel_rfl) hs ((((hs.mem.to 1 rfl).to 1 rfl).first 2)) rfl rfl rfl (fun _ _ _ h => h) (y_move hs rfl) ?_; clear hs a; intro a hs
    refine b_take 6 rfl #[true, true, true, true, true, true, true, false, false, false, false] rfl (by kernel_rfl) hs ((((hs.mem.to 1 rfl).to 1 rfl).first 2)) rfl rfl rfl (fun _ _ _ h => h) (y_nilchk hs rfl) ?_; clear hs a; intro a hs
    refine b_take 7 rfl #[true, true, true, true, true, true, true, true, false, false, false] rfl (by kernel_rfl) hs ((((hs.mem.to 1 rfl).to 1 rfl).first 2)) rfl rfl rfl (fun _ _ _ h => h) (y_faddr (k' := 1) 1 hs (by kernel_rfl) rfl rfl) ?_; clear hs a; intro a hs
    refine b_take 8 rfl #[true, true, true, true, true, true, true, true, true, false, false] rfl (by kernel_rfl) hs ((((hs.mem.to 1 rfl).to 1 rfl).first 2)) rfl rfl rfl (fun _ _ _ h => h) (y_load hs Tryd.underlying3 rfl rfl (fun w hw => (hw.to 0 rfl).cellV rfl)) ?_; clear hs a; intro a hs
    refine b_take 9 rfl #[true, true, true, true, true, true, true, true, true, true, false] rfl (by kernel_rfl) hs ((((hs.mem.to 1 rfl).to 1 rfl).first 2)) rfl rfl rfl (fun _ _ _ h => h) (y_sliceS hs Tryd.underlying9 rfl rfl rfl (by omega) (by omega) (by omega)) ?_; clear hs a; intro a hs
    refine b_take 10 rfl #[true, true, true, true, true, true, true, true, true, true, true] rfl (by kernel_rfl) hs ((((hs.mem.to 1 rfl).to 1 rfl).first 2)) rfl rfl rfl (fun _ _ _ h => h) (y_assign hs rfl) ?_; clear hs a; intro a hs
    refine b_done (by kernel_rfl) ?_
    repeat first | with_reducible refine in_normal ?_ | with_reducible refine then_normal ?_ | with_reducible refine then_ret ?_ | with_reducible refine in_ret ?_ | with_reducible refine then_exit ?_ | with_reducible refine in_here ?_ | with_reducible refine in_other rfl ?_
    repeat with_reducible refine wp_seq ?_
    refine wp_ret ?_
    repeat first | with_reducible refine in_normal ?_ | with_reducible refine then_normal ?_ | with_reducible refine then_ret ?_ | with_reducible refine in_ret ?_ | with_reducible refine then_exit ?_ | with_reducible refine in_here ?_ | with_reducible refine in_other rfl ?_
    refine fin_ret (vs := [.string (s.extract p p1)]) hs (.tmp (hs.slots _ _ rfl) .nil) ⟨?_, ?_⟩
    · rw [hr2]; rfl
    · rw [hr2]; exact hs.mem
end Go.Proofs.YtbljojjacfmggaaDoor.E
