/- recoupref09.Cut: the tokens, or the fault, as a plain function tells them. No conditions. -/
import Derived.Test.YtbljojjacfmggaaDoorRefTok
import Derived.Test.YtbljojjacfmggaaDoorCut
namespace Go.Proofs.YtbljojjacfmggaaDoor.E
open Go Go.RowKit Go.Proofs.YtbljojjacfmggaaDoorW.PrintWords Go.Proofs.YtbljojjacfmggaaDoorW.PrintLast Go.Proofs.YtbljojjacfmggaaDoorW.PrintMore Go.Proofs.YtbljojjacfmggaaDoor.PA
/-- The document's cut: from a place on, with what was told so far. -/
def refF (s : ByteArray) : Nat → Nat → Nat → Nat → Bool → List S34 → Option (List S34 × Int × Int × Int)
  | 0, _, _, _, _, _ => none
  | n + 1, p, q, r, rm, l =>
    if p < s.size then
      if bt s p = 10 then refF s n (p + 1) (q + 1) 1 false l
      else if rm = false ∧ isLetter (bt s p) = true then
        if wordIn wordList (s.extract p (endP s true p)) = true then refF s n (endP s true p) q (r + (endP s true p - p)) rm (l ++ [⟨2, s.extract p (endP s true p), 0, q, r⟩])
        else if nameOk (s.extract p (endP s true p)) = true then refF s n (endP s true p) q (r + (endP s true p - p)) rm (l ++ [⟨1, s.extract p (endP s true p), 0, q, r⟩])
        else some ([], 90, ((posF s p).1 : Int), ((posF s p).2 : Int))
      else if rm = false ∧ isDigit (bt s p) = true then
        if numP (s.extract p (endP s false p)) < 0 then some ([], 90, ((posF s p).1 : Int), ((posF s p).2 : Int))
        else if endP s false p < s.size ∧ isLetter (bt s ((endP s false p : Nat) : Int)) = true then some ([], 90, ((posF s (endP s false p)).1 : Int), ((posF s (endP s false p)).2 : Int))
        else refF s n (endP s false p) q (r + (endP s false p - p)) rm (l ++ [⟨3, ⟨#[]⟩, numP (s.extract p (endP s false p)), q, r⟩])
      else if rm = false ∧ signB (bt s p) = true then refF s n (p + 1) q (r + 1) rm (l ++ [⟨4, s.extract p (p + 1), 0, q, r⟩])
      else if bt s p = 35 then refF s n (p + 1) q (r + 1) true l
      else if rm = false ∧ bt s p ≠ 32 ∧ bt s p ≠ 9 then some ([], 90, ((posF s p).1 : Int), ((posF s p).2 : Int))
      else refF s n (p + 1) q (r + 1) rm l
    else some (l, 0, 0, 0)
def refS (s : ByteArray) (k : Nat) : Option (List S34 × Int × Int × Int) := if s.size > 65536 then some ([], 4, 1, 1) else refF s k 0 1 1 false []
theorem endP_le (s : ByteArray) (b : Bool) (p : Nat) (hp : p ≤ s.size) : p ≤ endP s b p ∧ endP s b p ≤ s.size := endF_le s b (s.size - p) p hp
theorem endP_lt (s : ByteArray) (b : Bool) (p : Nat) (hp : p < s.size) (h : (isDigit (bt s p) || (b && isLetter (bt s p))) = true) : p < endP s b p := by
  unfold endP
  rw [show s.size - p = (s.size - (p + 1)) + 1 by omega, endF, if_pos ⟨hp, h⟩]
  have := (endF_le s b (s.size - (p + 1)) (p + 1) (by omega)).1
  omega
theorem snoc_row {w0 w : World} {bs : List Res} {g c : Nat} {A : Option Addr} {l : List S34} {tk : S34} {cs : Array Value} {t : TypeId}
    (h : H w0 (row 34 5 (.slice A (l.length + 1) c) (l.length + 1) (l.flatMap tokC ++ tokC tk) :: pt g cs t :: bs) w) :
    H w0 (pt g cs t :: row 34 5 (.slice A (l.length + 1) c) (l.length + 1) ((l ++ [tk]).flatMap tokC) :: bs) w := by
  have e2 : (l ++ [tk]).flatMap tokC = l.flatMap tokC ++ tokC tk := by simp
  rw [e2]; exact h.to 1 rfl
set_option maxRecDepth 100000 in
theorem ref_Cut (s : ByteArray) (k : Nat) (L : List S34) (f1 f2 f3 : Int) (hC : refS s k = some (L, f1, f2, f3)) (bs : List Res) (w0 w : World) (h : H w0 bs w) :
    Calls Tryd.prog 13 #[.string s] w fun e w' => ∃ (A : Option Addr) (c : Nat), e = .returned (.tuple #[.slice A L.length c, .agg #[.int .i64 f1, .int .i64 f2, .int .i64 f3]]) ∧ H w0 (row 34 5 (.slice A (L).length c) (L).length ((L).flatMap tokC) :: bs) w' := by
  refine calls_enter (N := 135) (n := 134) (args := [.string s]) Tryd.func13 rfl rfl rfl h (fun a hs => ?_)
  repeat with_reducible refine wp_seq ?_
  refine wp_region_lit ?_
  refine a_val hs rfl rfl rfl (y_assign hs rfl) ?_; clear hs a; intro a hs
  refine a_eff rfl (e_alloc (z := .agg #[.int .i64 0, .int .i64 0, .int .i64 0]) (cs := #[.int .i64 0, .int .i64 0, .int .i64 0]) hs rfl (by kernel_rfl) rfl ?_); clear hs a; intro gf a w hs
  refine wpList_nil ?_
  repeat first | with_reducible refine in_normal ?_ | with_reducible refine then_normal ?_ | with_reducible refine then_ret ?_ | with_reducible refine in_ret ?_ | with_reducible refine then_exit ?_ | with_reducible refine in_here ?_ | with_reducible refine in_other rfl ?_ | with_reducible refine then_goto ?_ | with_reducible refine in_goto ?_ | with_reducible refine jump_normal ?_ | with_reducible refine jump_ret ?_ | with_reducible refine jump_goto ?_
  by_cases hbig : s.size > 65536
  · repeat with_reducible refine wp_seq ?_
    refine wp_region_lit ?_
    refine a_val hs rfl rfl rfl (y_move hs rfl) ?_; clear hs a; intro a hs
    refine a_val hs rfl rfl rfl (y_lenS hs Tryd.underlying9 rfl) ?_; clear hs a; intro a hs
    refine a_val hs rfl rfl rfl (y_cmp (b := true) hs rfl rfl (congrArg some (decide_eq_true (by omega)))) ?_; clear hs a; intro a hs
    refine wpList_nil ?_
    repeat first | with_reducible refine in_normal ?_ | with_reducible refine then_normal ?_ | with_reducible refine then_ret ?_ | with_reducible refine in_ret ?_ | with_reducible refine then_exit ?_ | with_reducible refine in_here ?_ | with_reducible refine in_other rfl ?_ | with_reducible refine then_goto ?_ | with_reducible refine in_goto ?_ | with_reducible refine jump_normal ?_ | with_reducible refine jump_ret ?_ | with_reducible refine jump_goto ?_
    repeat with_reducible refine wp_seq ?_
    refine wp_cond_true (hs.ev rfl) ?_
    repeat with_reducible refine wp_seq ?_
    refine wp_region_lit ?_
    refine a_val hs rfl rfl rfl (y_struct (zc := #[.int .i64 0, .int .i64 0, .int .i64 0]) (pl := [(0, 1), (1, 1), (2, 1)]) (cl := [_, _, _]) hs (by kernel_rfl) rfl (by rfl) rfl) ?_; clear hs a; intro a hs
    refine a_val hs rfl rfl rfl (y_assign hs rfl) ?_; clear hs a; intro a hs
    refine a_eff rfl (e_store (cl := [_, _, _]) 0 rfl hs rfl rfl (by kernel_rfl) rfl rfl rfl ?_); clear hs a; intro a w hs
    refine wpList_nil ?_
    repeat first | with_reducible refine in_normal ?_ | with_reducible refine then_normal ?_ | with_reducible refine then_ret ?_ | with_reducible refine in_ret ?_ | with_reducible refine then_exit ?_ | with_reducible refine in_here ?_ | with_reducible refine in_other rfl ?_ | with_reducible refine then_goto ?_ | with_reducible refine in_goto ?_ | with_reducible refine jump_normal ?_ | with_reducible refine jump_ret ?_ | with_reducible refine jump_goto ?_
    unfold refS at hC
    rw [if_pos hbig] at hC
    injection hC with hC
    injection hC with h1 hC
    injection hC with h2 hC
    injection hC with h3 h4
    subst h1 h2 h3 h4
    repeat with_reducible refine wp_seq ?_
    refine wp_ret ?_
    repeat first | with_reducible refine in_normal ?_ | with_reducible refine then_normal ?_ | with_reducible refine then_ret ?_ | with_reducible refine in_ret ?_ | with_reducible refine then_exit ?_ | with_reducible refine in_here ?_ | with_reducible refine in_other rfl ?_ | with_reducible refine then_goto ?_ | with_reducible refine in_goto ?_ | with_reducible refine jump_normal ?_ | with_reducible refine jump_ret ?_ | with_reducible refine jump_goto ?_
    refine fin_ret (vs := [.slice none (([] : List S34)).length 0, .agg #[.int .i64 (4), .int .i64 (1), .int .i64 (1)]]) hs (.tmp (hs.slots _ _ rfl) (.cell (hs.slots 3 _ rfl) (hs.mem.to 0 rfl).cells Tryd.underlying25 rfl (by kernel_rfl) .nil)) ⟨none, 0, rfl, ((hs.mem.to 0 rfl).drop.nilRow 34 5)⟩
  · repeat with_reducible refine wp_seq ?_
    refine wp_region_lit ?_
    refine a_val hs rfl rfl rfl (y_move hs rfl) ?_; clear hs a; intro a hs
    refine a_val hs rfl rfl rfl (y_lenS hs Tryd.underlying9 rfl) ?_; clear hs a; intro a hs
    refine a_val hs rfl rfl rfl (y_cmp (b := false) hs rfl rfl (congrArg some (decide_eq_false (by omega)))) ?_; clear hs a; intro a hs
    refine wpList_nil ?_
    repeat first | with_reducible refine in_normal ?_ | with_reducible refine then_normal ?_ | with_reducible refine then_ret ?_ | with_reducible refine in_ret ?_ | with_reducible refine then_exit ?_ | with_reducible refine in_here ?_ | with_reducible refine in_other rfl ?_ | with_reducible refine then_goto ?_ | with_reducible refine in_goto ?_ | with_reducible refine jump_normal ?_ | with_reducible refine jump_ret ?_ | with_reducible refine jump_goto ?_
    repeat with_reducible refine wp_seq ?_
    refine wp_cond_false (hs.ev rfl) ?_
    repeat with_reducible refine wp_seq ?_
    refine wp_skip ?_
    repeat first | with_reducible refine in_normal ?_ | with_reducible refine then_normal ?_ | with_reducible refine then_ret ?_ | with_reducible refine in_ret ?_ | with_reducible refine then_exit ?_ | with_reducible refine in_here ?_ | with_reducible refine in_other rfl ?_
    have hz : s.size ≤ 65536 := by omega
    unfold refS at hC
    rw [if_neg hbig] at hC
    repeat with_reducible refine wp_seq ?_
    refine wp_region_lit ?_
    refine a_val hs rfl rfl rfl (y_assign hs rfl) ?_; clear hs a; intro a hs
    refine wpList_nil ?_
    repeat first | with_reducible refine in_normal ?_ | with_reducible refine then_normal ?_ | with_reducible refine then_ret ?_ | with_reducible refine in_ret ?_ | with_reducible refine then_exit ?_ | with_reducible refine in_here ?_ | with_reducible refine in_other rfl ?_ | with_reducible refine then_goto ?_ | with_reducible refine in_goto ?_ | with_reducible refine jump_normal ?_ | with_reducible refine jump_ret ?_ | with_reducible refine jump_goto ?_
    repeat with_reducible refine wp_seq ?_
    refine wp_region_lit ?_
    refine a_val hs rfl rfl rfl (y_assign hs rfl) ?_; clear hs a; intro a hs
    refine a_val hs rfl rfl rfl (y_assign hs rfl) ?_; clear hs a; intro a hs
    refine wpList_nil ?_
    repeat first | with_reducible refine in_normal ?_ | with_reducible refine then_normal ?_ | with_reducible refine then_ret ?_ | with_reducible refine in_ret ?_ | with_reducible refine then_exit ?_ | with_reducible refine in_here ?_ | with_reducible refine in_other rfl ?_ | with_reducible refine then_goto ?_ | with_reducible refine in_goto ?_ | with_reducible refine jump_normal ?_ | with_reducible refine jump_ret ?_ | with_reducible refine jump_goto ?_
    repeat with_reducible refine wp_seq ?_
    refine wp_region_lit ?_
    refine a_val hs rfl rfl rfl (y_assign hs rfl) ?_; clear hs a; intro a hs
    refine wpList_nil ?_
    repeat first | with_reducible refine in_normal ?_ | with_reducible refine then_normal ?_ | with_reducible refine then_ret ?_ | with_reducible refine in_ret ?_ | with_reducible refine then_exit ?_ | with_reducible refine in_here ?_ | with_reducible refine in_other rfl ?_ | with_reducible refine then_goto ?_ | with_reducible refine in_goto ?_ | with_reducible refine jump_normal ?_ | with_reducible refine jump_ret ?_ | with_reducible refine jump_goto ?_
    repeat with_reducible refine wp_seq ?_
    refine wp_region_lit ?_
    refine a_val hs rfl rfl rfl (y_assign hs rfl) ?_; clear hs a; intro a hs
    refine wpList_nil ?_
    repeat first | with_reducible refine in_normal ?_ | with_reducible refine then_normal ?_ | with_reducible refine then_ret ?_ | with_reducible refine in_ret ?_ | with_reducible refine then_exit ?_ | with_reducible refine in_here ?_ | with_reducible refine in_other rfl ?_ | with_reducible refine then_goto ?_ | with_reducible refine in_goto ?_ | with_reducible refine jump_normal ?_ | with_reducible refine jump_ret ?_ | with_reducible refine jump_goto ?_
    repeat with_reducible refine wp_seq ?_
    refine wp_block ?_
    refine wp_loopN (fun m a w => ∃ (p q r : Nat) (rm : Bool) (l : List S34) (A : Option Addr) (c : Nat), p ≤ s.size ∧ q ≤ p + 1 ∧ r ≤ p + 1 ∧ l.length ≤ p ∧ refF s m p q r rm l = some (L, f1, f2, f3) ∧ St 135 w0 [(0, .string s), (3, .pointer (some ⟨gf, 0, none⟩)), (4, .slice A (l).length c), (5, .int .i64 ((q : Nat) : Int)), (6, .int .i64 ((r : Nat) : Int)), (7, .bool rm), (8, .int .i64 ((p : Nat) : Int))] (pt gf #[.int .i64 0, .int .i64 0, .int .i64 0] 25 :: row 34 5 (.slice A (l).length c) (l).length ((l).flatMap tokC) :: bs) a w) k ⟨0, 1, 1, false, [], none, 0, Nat.zero_le _, by omega, by omega, Nat.le_refl _, hC, ((hs.mem_to (hs.mem.nilRow 34 5 |>.to 1 rfl)).cut _ ⟨rfl, rfl, rfl, rfl, rfl, rfl, rfl, trivial⟩)⟩ (fun m a w hJ => ?_)
    clear hs hC
    obtain ⟨p, q, r, rm, l, A, c0, hp, hq, hr, hl, hF, hs⟩ := hJ
    cases m with
    | zero => exact absurd hF (by simp [refF])
    | succ m =>
      by_cases hlt : p < s.size
      · repeat with_reducible refine wp_seq ?_
        refine wp_region_lit ?_
        refine a_val hs rfl rfl rfl (y_move hs rfl) ?_; clear hs a; intro a hs
        refine a_val hs rfl rfl rfl (y_move hs rfl) ?_; clear hs a; intro a hs
        refine a_val hs rfl rfl rfl (y_lenS hs Tryd.underlying9 rfl) ?_; clear hs a; intro a hs
        refine a_val hs rfl rfl rfl (y_cmp (b := true) hs rfl rfl (congrArg some (decide_eq_true (by omega)))) ?_; clear hs a; intro a hs
        refine wpList_nil ?_
        repeat first | with_reducible refine in_normal ?_ | with_reducible refine then_normal ?_ | with_reducible refine then_ret ?_ | with_reducible refine in_ret ?_ | with_reducible refine then_exit ?_ | with_reducible refine in_here ?_ | with_reducible refine in_other rfl ?_ | with_reducible refine then_goto ?_ | with_reducible refine in_goto ?_ | with_reducible refine jump_normal ?_ | with_reducible refine jump_ret ?_ | with_reducible refine jump_goto ?_
        repeat with_reducible refine wp_seq ?_
        refine wp_cond_true (hs.ev rfl) ?_
        repeat with_reducible refine wp_seq ?_
        refine wp_skip ?_
        repeat first | with_reducible refine in_normal ?_ | with_reducible refine then_normal ?_ | with_reducible refine then_ret ?_ | with_reducible refine in_ret ?_ | with_reducible refine then_exit ?_ | with_reducible refine in_here ?_ | with_reducible refine in_other rfl ?_
        obtain ⟨c, hc⟩ : ∃ c, s[p]? = some c := ⟨_, getElem?_pos s p hlt⟩
        have hbt : bt s (p : Int) = ((c.toNat : Nat) : Int) := bt_of hc
        rw [refF, if_pos hlt] at hF
        repeat with_reducible refine wp_seq ?_
        refine wp_block ?_
        repeat with_reducible refine wp_seq ?_
        refine wp_region_lit ?_
        refine a_val hs rfl rfl rfl (y_move hs rfl) ?_; clear hs a; intro a hs
        refine a_val hs rfl rfl rfl (y_move hs rfl) ?_; clear hs a; intro a hs
        refine a_val hs rfl rfl rfl (y_idxS hs Tryd.underlying9 rfl rfl (by omega) hc) ?_; clear hs a; intro a hs
        refine a_val hs rfl rfl rfl (y_assign hs rfl) ?_; clear hs a; intro a hs
        refine wpList_nil ?_
        repeat first | with_reducible refine in_normal ?_ | with_reducible refine then_normal ?_ | with_reducible refine then_ret ?_ | with_reducible refine in_ret ?_ | with_reducible refine then_exit ?_ | with_reducible refine in_here ?_ | with_reducible refine in_other rfl ?_ | with_reducible refine then_goto ?_ | with_reducible refine in_goto ?_ | with_reducible refine jump_normal ?_ | with_reducible refine jump_ret ?_ | with_reducible refine jump_goto ?_
        repeat with_reducible refine wp_seq ?_
        refine wp_region_lit ?_
        refine a_val hs rfl rfl rfl (y_move hs rfl) ?_; clear hs a; intro a hs
        refine a_val hs rfl rfl rfl (y_move hs rfl) ?_; clear hs a; intro a hs
        refine a_val hs rfl rfl rfl (y_struct (zc := #[.int .u8 0, .string ⟨#[]⟩, .int .i64 0, .int .i64 0, .int .i64 0]) (pl := [(0, 1), (1, 1), (2, 1), (3, 1), (4, 1)]) (cl := [.int .u8 0, .string ⟨#[]⟩, .int .i64 0, _, _]) hs (by kernel_rfl) rfl (by rfl) rfl) ?_; clear hs a; intro a hs
        refine a_eff rfl (e_alloc (z := .agg #[.int .u8 0, .string ⟨#[]⟩, .int .i64 0, .int .i64 0, .int .i64 0]) (cs := #[.int .u8 0, .string ⟨#[]⟩, .int .i64 0, .int .i64 0, .int .i64 0]) hs rfl (by kernel_rfl) rfl ?_); clear hs a; intro gt a w hs
        refine a_eff rfl (e_store (cl := [_, _, _, _, _]) 0 rfl hs rfl rfl (by kernel_rfl) rfl rfl rfl ?_); clear hs a; intro a w hs
        refine wpList_nil ?_
        repeat first | with_reducible refine in_normal ?_ | with_reducible refine then_normal ?_ | with_reducible refine then_ret ?_ | with_reducible refine in_ret ?_ | with_reducible refine then_exit ?_ | with_reducible refine in_here ?_ | with_reducible refine in_other rfl ?_ | with_reducible refine then_goto ?_ | with_reducible refine in_goto ?_ | with_reducible refine jump_normal ?_ | with_reducible refine jump_ret ?_ | with_reducible refine jump_goto ?_
        repeat with_reducible refine wp_seq ?_
        refine wp_region_lit ?_
        refine a_val hs rfl rfl rfl (y_move hs rfl) ?_; clear hs a; intro a hs
        refine a_val hs rfl rfl rfl (y_add hs rfl rfl (by omega)) ?_; clear hs a; intro a hs
        refine a_val hs rfl rfl rfl (y_assign hs rfl) ?_; clear hs a; intro a hs
        refine wpList_nil ?_
        repeat first | with_reducible refine in_normal ?_ | with_reducible refine then_normal ?_ | with_reducible refine then_ret ?_ | with_reducible refine in_ret ?_ | with_reducible refine then_exit ?_ | with_reducible refine in_here ?_ | with_reducible refine in_other rfl ?_ | with_reducible refine then_goto ?_ | with_reducible refine in_goto ?_ | with_reducible refine jump_normal ?_ | with_reducible refine jump_ret ?_ | with_reducible refine jump_goto ?_
        refine wp_seq_cut (fun a w => ∃ (t q1 r1 : Nat) (rm1 : Bool) (tk : S34), p < t ∧ t ≤ s.size ∧ q1 ≤ t + 1 ∧ r1 + (t - p) ≤ t + 1 ∧ refF s m t q1 (r1 + (t - p)) rm1 (if tk.f0 = 0 then l else l ++ [tk]) = some (L, f1, f2, f3) ∧ St 135 w0 [(0, .string s), (3, .pointer (some ⟨gf, 0, none⟩)), (4, .slice A (l).length c0), (5, .int .i64 ((q1 : Nat) : Int)), (6, .int .i64 ((r1 : Nat) : Int)), (7, .bool rm1), (8, .int .i64 ((p : Nat) : Int)), (10, .pointer (some ⟨gt, 0, none⟩)), (11, .int .i64 ((t : Nat) : Int))] (pt gt (tokC tk).toArray 34 :: pt gf #[.int .i64 0, .int .i64 0, .int .i64 0] 25 :: row 34 5 (.slice A (l).length c0) (l).length ((l).flatMap tokC) :: bs) a w) ?_ ?_
        · by_cases c10 : bt s p = 10
          · repeat with_reducible refine wp_seq ?_
            refine wp_region_lit ?_
            refine a_val hs rfl rfl rfl (y_move hs rfl) ?_; clear hs a; intro a hs
            refine a_val hs rfl rfl rfl (y_cmp (b := true) hs rfl rfl (congrArg some (beq_iff_eq.2 (by omega)))) ?_; clear hs a; intro a hs
            refine wpList_nil ?_
            repeat first | with_reducible refine in_normal ?_ | with_reducible refine then_normal ?_ | with_reducible refine then_ret ?_ | with_reducible refine in_ret ?_ | with_reducible refine then_exit ?_ | with_reducible refine in_here ?_ | with_reducible refine in_other rfl ?_ | with_reducible refine then_goto ?_ | with_reducible refine in_goto ?_ | with_reducible refine jump_normal ?_ | with_reducible refine jump_ret ?_ | with_reducible refine jump_goto ?_
            repeat with_reducible refine wp_seq ?_
            refine wp_cond_true (hs.ev rfl) ?_
            repeat with_reducible refine wp_seq ?_
            refine wp_region_lit ?_
            refine a_val hs rfl rfl rfl (y_assign hs rfl) ?_; clear hs a; intro a hs
            refine wpList_nil ?_
            repeat first | with_reducible refine in_normal ?_ | with_reducible refine then_normal ?_ | with_reducible refine then_ret ?_ | with_reducible refine in_ret ?_ | with_reducible refine then_exit ?_ | with_reducible refine in_here ?_ | with_reducible refine in_other rfl ?_ | with_reducible refine then_goto ?_ | with_reducible refine in_goto ?_ | with_reducible refine jump_normal ?_ | with_reducible refine jump_ret ?_ | with_reducible refine jump_goto ?_
            repeat with_reducible refine wp_seq ?_
            refine wp_region_lit ?_
            refine a_val hs rfl rfl rfl (y_move hs rfl) ?_; clear hs a; intro a hs
            refine a_val hs rfl rfl rfl (y_add hs rfl rfl (by omega)) ?_; clear hs a; intro a hs
            refine a_val hs rfl rfl rfl (y_assign hs rfl) ?_; clear hs a; intro a hs
            refine a_val hs rfl rfl rfl (y_assign hs rfl) ?_; clear hs a; intro a hs
            refine wpList_nil ?_
            repeat first | with_reducible refine in_normal ?_ | with_reducible refine then_normal ?_ | with_reducible refine then_ret ?_ | with_reducible refine in_ret ?_ | with_reducible refine then_exit ?_ | with_reducible refine in_here ?_ | with_reducible refine in_other rfl ?_ | with_reducible refine then_goto ?_ | with_reducible refine in_goto ?_ | with_reducible refine jump_normal ?_ | with_reducible refine jump_ret ?_ | with_reducible refine jump_goto ?_
            rw [if_pos c10] at hF
            refine ⟨(p + 1), (q + 1), 0, false, ⟨0, ⟨#[]⟩, 0, q, r⟩, by omega, by omega, by omega, by omega, ?_, (hs.mem_to (((hs.mem.to 2 rfl).to 2 rfl).to 2 rfl)).cut _ ⟨rfl, rfl, rfl, rfl, rfl, rfl, rfl, rfl, rfl, trivial⟩⟩
            rw [if_pos rfl, show 0 + (p + 1 - p) = 1 by omega]; exact hF
          · repeat with_reducible refine wp_seq ?_
            refine wp_region_lit ?_
            refine a_val hs rfl rfl rfl (y_move hs rfl) ?_; clear hs a; intro a hs
            refine a_val hs rfl rfl rfl (y_cmp (b := false) hs rfl rfl (congrArg some (beq_eq_false_iff_ne.2 (by omega)))) ?_; clear hs a; intro a hs
            refine wpList_nil ?_
            repeat first | with_reducible refine in_normal ?_ | with_reducible refine then_normal ?_ | with_reducible refine then_ret ?_ | with_reducible refine in_ret ?_ | with_reducible refine then_exit ?_ | with_reducible refine in_here ?_ | with_reducible refine in_other rfl ?_ | with_reducible refine then_goto ?_ | with_reducible refine in_goto ?_ | with_reducible refine jump_normal ?_ | with_reducible refine jump_ret ?_ | with_reducible refine jump_goto ?_
            repeat with_reducible refine wp_seq ?_
            refine wp_cond_false (hs.ev rfl) ?_
            rw [if_neg c10] at hF
            cases rm with
            | true =>
              rw [if_neg (by simp), if_neg (by simp), if_neg (by simp)] at hF
              repeat with_reducible refine wp_seq ?_
              refine wp_region_lit ?_
              refine a_val hs rfl rfl rfl (y_move hs rfl) ?_; clear hs a; intro a hs
              refine a_val hs rfl rfl rfl (y_not hs rfl) ?_; clear hs a; intro a hs
              refine a_val hs rfl rfl rfl (y_move hs rfl) ?_; clear hs a; intro a hs
              refine a_skip hs rfl rfl rfl ?_; clear hs a; intro a hs
              refine a_skip hs rfl rfl rfl ?_; clear hs a; intro a hs
              refine a_val hs rfl rfl rfl (y_pick hs rfl rfl rfl) ?_; clear hs a; intro a hs
              refine wpList_nil ?_
              repeat first | with_reducible refine in_normal ?_ | with_reducible refine then_normal ?_ | with_reducible refine then_ret ?_ | with_reducible refine in_ret ?_ | with_reducible refine then_exit ?_ | with_reducible refine in_here ?_ | with_reducible refine in_other rfl ?_ | with_reducible refine then_goto ?_ | with_reducible refine in_goto ?_ | with_reducible refine jump_normal ?_ | with_reducible refine jump_ret ?_ | with_reducible refine jump_goto ?_
              repeat with_reducible refine wp_seq ?_
              refine wp_cond_false (hs.ev rfl) ?_
              repeat with_reducible refine wp_seq ?_
              refine wp_region_lit ?_
              refine a_val hs rfl rfl rfl (y_move hs rfl) ?_; clear hs a; intro a hs
              refine a_val hs rfl rfl rfl (y_not hs rfl) ?_; clear hs a; intro a hs
              refine a_val hs rfl rfl rfl (y_move hs rfl) ?_; clear hs a; intro a hs
              refine a_skip hs rfl rfl rfl ?_; clear hs a; intro a hs
              refine a_skip hs rfl rfl rfl ?_; clear hs a; intro a hs
              refine a_val hs rfl rfl rfl (y_pick hs rfl rfl rfl) ?_; clear hs a; intro a hs
              refine wpList_nil ?_
              repeat first | with_reducible refine in_normal ?_ | with_reducible refine then_normal ?_ | with_reducible refine then_ret ?_ | with_reducible refine in_ret ?_ | with_reducible refine then_exit ?_ | with_reducible refine in_here ?_ | with_reducible refine in_other rfl ?_ | with_reducible refine then_goto ?_ | with_reducible refine in_goto ?_ | with_reducible refine jump_normal ?_ | with_reducible refine jump_ret ?_ | with_reducible refine jump_goto ?_
              repeat with_reducible refine wp_seq ?_
              refine wp_cond_false (hs.ev rfl) ?_
              repeat with_reducible refine wp_seq ?_
              refine wp_region_lit ?_
              refine a_val hs rfl rfl rfl (y_move hs rfl) ?_; clear hs a; intro a hs
              refine a_val hs rfl rfl rfl (y_not hs rfl) ?_; clear hs a; intro a hs
              refine a_val hs rfl rfl rfl (y_move hs rfl) ?_; clear hs a; intro a hs
              refine a_skip hs rfl rfl rfl ?_; clear hs a; intro a hs
              refine a_skip hs rfl rfl rfl ?_; clear hs a; intro a hs
              refine a_val hs rfl rfl rfl (y_pick hs rfl rfl rfl) ?_; clear hs a; intro a hs
              refine wpList_nil ?_
              repeat first | with_reducible refine in_normal ?_ | with_reducible refine then_normal ?_ | with_reducible refine then_ret ?_ | with_reducible refine in_ret ?_ | with_reducible refine then_exit ?_ | with_reducible refine in_here ?_ | with_reducible refine in_other rfl ?_ | with_reducible refine then_goto ?_ | with_reducible refine in_goto ?_ | with_reducible refine jump_normal ?_ | with_reducible refine jump_ret ?_ | with_reducible refine jump_goto ?_
              repeat with_reducible refine wp_seq ?_
              refine wp_cond_false (hs.ev rfl) ?_
              by_cases c35 : bt s p = 35
              · repeat with_reducible refine wp_seq ?_
                refine wp_region_lit ?_
                refine a_val hs rfl rfl rfl (y_move hs rfl) ?_; clear hs a; intro a hs
                refine a_val hs rfl rfl rfl (y_cmp (b := true) hs rfl rfl (congrArg some (beq_iff_eq.2 (by omega)))) ?_; clear hs a; intro a hs
                refine wpList_nil ?_
                repeat first | with_reducible refine in_normal ?_ | with_reducible refine then_normal ?_ | with_reducible refine then_ret ?_ | with_reducible refine in_ret ?_ | with_reducible refine then_exit ?_ | with_reducible refine in_here ?_ | with_reducible refine in_other rfl ?_ | with_reducible refine then_goto ?_ | with_reducible refine in_goto ?_ | with_reducible refine jump_normal ?_ | with_reducible refine jump_ret ?_ | with_reducible refine jump_goto ?_
                repeat with_reducible refine wp_seq ?_
                refine wp_cond_true (hs.ev rfl) ?_
                repeat with_reducible refine wp_seq ?_
                refine wp_region_lit ?_
                refine a_val hs rfl rfl rfl (y_assign hs rfl) ?_; clear hs a; intro a hs
                refine wpList_nil ?_
                repeat first | with_reducible refine in_normal ?_ | with_reducible refine then_normal ?_ | with_reducible refine then_ret ?_ | with_reducible refine in_ret ?_ | with_reducible refine then_exit ?_ | with_reducible refine in_here ?_ | with_reducible refine in_other rfl ?_ | with_reducible refine then_goto ?_ | with_reducible refine in_goto ?_ | with_reducible refine jump_normal ?_ | with_reducible refine jump_ret ?_ | with_reducible refine jump_goto ?_
                rw [if_pos c35] at hF
                refine ⟨(p + 1), q, r, true, ⟨0, ⟨#[]⟩, 0, q, r⟩, by omega, by omega, by omega, by omega, ?_, (hs.mem_to (((hs.mem.to 2 rfl).to 2 rfl).to 2 rfl)).cut _ ⟨rfl, rfl, rfl, rfl, rfl, rfl, rfl, rfl, rfl, trivial⟩⟩
                rw [if_pos rfl, show r + (p + 1 - p) = r + 1 by omega]; exact hF
              · repeat with_reducible refine wp_seq ?_
                refine wp_region_lit ?_
                refine a_val hs rfl rfl rfl (y_move hs rfl) ?_; clear hs a; intro a hs
                refine a_val hs rfl rfl rfl (y_cmp (b := false) hs rfl rfl (congrArg some (beq_eq_false_iff_ne.2 (by omega)))) ?_; clear hs a; intro a hs
                refine wpList_nil ?_
                repeat first | with_reducible refine in_normal ?_ | with_reducible refine then_normal ?_ | with_reducible refine then_ret ?_ | with_reducible refine in_ret ?_ | with_reducible refine then_exit ?_ | with_reducible refine in_here ?_ | with_reducible refine in_other rfl ?_ | with_reducible refine then_goto ?_ | with_reducible refine in_goto ?_ | with_reducible refine jump_normal ?_ | with_reducible refine jump_ret ?_ | with_reducible refine jump_goto ?_
                repeat with_reducible refine wp_seq ?_
                refine wp_cond_false (hs.ev rfl) ?_
                repeat with_reducible refine wp_seq ?_
                refine wp_region_lit ?_
                refine a_val hs rfl rfl rfl (y_move hs rfl) ?_; clear hs a; intro a hs
                refine a_val hs rfl rfl rfl (y_not hs rfl) ?_; clear hs a; intro a hs
                refine a_val hs rfl rfl rfl (y_move hs rfl) ?_; clear hs a; intro a hs
                refine a_skip hs rfl rfl rfl ?_; clear hs a; intro a hs
                refine a_skip hs rfl rfl rfl ?_; clear hs a; intro a hs
                refine a_val hs rfl rfl rfl (y_pick hs rfl rfl rfl) ?_; clear hs a; intro a hs
                refine a_val hs rfl rfl rfl (y_move hs rfl) ?_; clear hs a; intro a hs
                refine a_skip hs rfl rfl rfl ?_; clear hs a; intro a hs
                refine a_skip hs rfl rfl rfl ?_; clear hs a; intro a hs
                refine a_val hs rfl rfl rfl (y_pick hs rfl rfl rfl) ?_; clear hs a; intro a hs
                refine wpList_nil ?_
                repeat first | with_reducible refine in_normal ?_ | with_reducible refine then_normal ?_ | with_reducible refine then_ret ?_ | with_reducible refine in_ret ?_ | with_reducible refine then_exit ?_ | with_reducible refine in_here ?_ | with_reducible refine in_other rfl ?_ | with_reducible refine then_goto ?_ | with_reducible refine in_goto ?_ | with_reducible refine jump_normal ?_ | with_reducible refine jump_ret ?_ | with_reducible refine jump_goto ?_
                repeat with_reducible refine wp_seq ?_
                refine wp_cond_false (hs.ev rfl) ?_
                repeat with_reducible refine wp_seq ?_
                refine wp_skip ?_
                repeat first | with_reducible refine in_normal ?_ | with_reducible refine then_normal ?_ | with_reducible refine then_ret ?_ | with_reducible refine in_ret ?_ | with_reducible refine then_exit ?_ | with_reducible refine in_here ?_ | with_reducible refine in_other rfl ?_
                rw [if_neg c35, if_neg (by simp)] at hF
                refine ⟨(p + 1), q, r, true, ⟨0, ⟨#[]⟩, 0, q, r⟩, by omega, by omega, by omega, by omega, ?_, (hs.mem_to (((hs.mem.to 2 rfl).to 2 rfl).to 2 rfl)).cut _ ⟨rfl, rfl, rfl, rfl, rfl, rfl, rfl, rfl, rfl, trivial⟩⟩
                rw [if_pos rfl, show r + (p + 1 - p) = r + 1 by omega]; exact hF
            | false =>
              repeat with_reducible refine wp_seq ?_
              refine wp_region_lit ?_
              refine a_val hs rfl rfl rfl (y_move hs rfl) ?_; clear hs a; intro a hs
              refine a_val hs rfl rfl rfl (y_not hs rfl) ?_; clear hs a; intro a hs
              refine a_val hs rfl rfl rfl (y_move hs rfl) ?_; clear hs a; intro a hs
              refine a_valG hs rfl rfl rfl (y_move hs rfl) ?_; clear hs a; intro a hs
              refine a_effG hs rfl (e_callB Tryd.func27 rfl rfl hs rfl rfl ((recoupref09_letter.calls _ _ _ (refLetter _)).mono (by rintro e w1 ⟨rfl, hd⟩; exact ⟨rfl, drawn_below hd⟩)) ?_); clear hs a; intro a w hs
              refine a_val hs rfl rfl rfl (y_pick hs rfl rfl rfl) ?_; clear hs a; intro a hs
              refine wpList_nil ?_
              repeat first | with_reducible refine in_normal ?_ | with_reducible refine then_normal ?_ | with_reducible refine then_ret ?_ | with_reducible refine in_ret ?_ | with_reducible refine then_exit ?_ | with_reducible refine in_here ?_ | with_reducible refine in_other rfl ?_ | with_reducible refine then_goto ?_ | with_reducible refine in_goto ?_ | with_reducible refine jump_normal ?_ | with_reducible refine jump_ret ?_ | with_reducible refine jump_goto ?_
              repeat with_reducible refine wp_seq ?_
              refine wp_cond_split (hs.ev rfl) (fun hb => ?_) (fun hb => ?_)
              · have hL : false = false ∧ isLetter (bt s p) = true := ⟨rfl, by rw [hbt]; exact hb⟩
                rw [if_pos hL] at hF
                obtain ⟨e1, e2⟩ := endP_le s true p hp
                have hlt2 : p < endP s true p := endP_lt s true p hlt (by rw [hL.2]; simp)
                repeat with_reducible refine wp_seq ?_
                refine wp_region_lit ?_
                refine a_val hs rfl rfl rfl (y_move hs rfl) ?_; clear hs a; intro a hs
                refine a_val hs rfl rfl rfl (y_move hs rfl) ?_; clear hs a; intro a hs
                refine a_eff rfl (e_callB Tryd.func28 rfl rfl hs rfl rfl ((recoupref09_end.calls _ s _ _ _ _ (refEnd s hz true p hp)).mono (by rintro e w1 ⟨rfl, hd⟩; exact ⟨rfl, drawn_below hd⟩)) ?_); clear hs a; intro a w hs
                refine a_val hs rfl rfl rfl (y_assign hs rfl) ?_; clear hs a; intro a hs
                refine wpList_nil ?_
                repeat first | with_reducible refine in_normal ?_ | with_reducible refine then_normal ?_ | with_reducible refine then_ret ?_ | with_reducible refine in_ret ?_ | with_reducible refine then_exit ?_ | with_reducible refine in_here ?_ | with_reducible refine in_other rfl ?_ | with_reducible refine then_goto ?_ | with_reducible refine in_goto ?_ | with_reducible refine jump_normal ?_ | with_reducible refine jump_ret ?_ | with_reducible refine jump_goto ?_
                repeat with_reducible refine wp_seq ?_
                refine b_enter [1, 2] (by kernel_rfl) hs #[false, false, false, false, false, false, false, false] (by rfl) 8 (by rfl) ?_; clear hs; intro w hs
                refine b_take 0 rfl #[true, false, false, false, false, false, false, false] rfl (by kernel_rfl) hs ((((hs.mem.to 2 rfl).to 2 rfl).first 2)) rfl rfl rfl (fun _ _ _ h => h) (y_move hs rfl) ?_; clear hs a; intro a hs
                refine b_take 1 rfl #[true, true, false, false, false, false, false, false] rfl (by kernel_rfl) hs ((((hs.mem.to 2 rfl).to 2 rfl).first 2)) rfl rfl rfl (fun _ _ _ h => h) (y_move hs rfl) ?_; clear hs a; intro a hs
                refine b_take 2 rfl #[true, true, true, false, false, false, false, false] rfl (by kernel_rfl) hs ((((hs.mem.to 2 rfl).to 2 rfl).first 2)) rfl rfl rfl (fun _ _ _ h => h) (y_move hs rfl) ?_; clear hs a; intro a hs
                refine b_take 3 rfl #[true, true, true, true, false, false, false, false] rfl (by kernel_rfl) hs ((((hs.mem.to 2 rfl).to 2 rfl).first 2)) rfl rfl rfl (fun _ _ _ h => h) (y_sliceS hs Tryd.underlying9 rfl rfl rfl (by omega) (by omega) (by omega)) ?_; clear hs a; intro a hs
                refine b_take 4 rfl #[true, true, true, true, true, false, false, false] rfl (by kernel_rfl) hs ((((hs.mem.to 2 rfl).to 2 rfl).first 2)) rfl rfl rfl (fun _ _ _ h => h) (y_faddr (k' := 0) 0 hs (by kernel_rfl) rfl rfl) ?_; clear hs a; intro a hs
                refine b_eff 5 (by kernel_rfl) rfl #[true, true, true, true, true, true, false, false] rfl hs rfl (e_store (cl := [_, _, _, _, _]) 0 rfl hs rfl rfl (by kernel_rfl) rfl rfl rfl ?_); clear hs a; intro a w hs
                refine ⟨(((hs.mem.to 2 rfl).to 2 rfl).first 2), ?_⟩
                refine b_take 6 rfl #[true, true, true, true, true, true, true, false] rfl (by kernel_rfl) hs ((((hs.mem.to 2 rfl).to 2 rfl).first 2)) rfl rfl rfl (fun _ _ _ h => h) (y_faddr (k' := 1) 1 hs (by kernel_rfl) rfl rfl) ?_; clear hs a; intro a hs
                refine b_eff 7 (by kernel_rfl) rfl #[true, true, true, true, true, true, true, true] rfl hs rfl (e_store (cl := [_, _, _, _, _]) 0 rfl hs rfl rfl (by kernel_rfl) rfl rfl rfl ?_); clear hs a; intro a w hs
                refine ⟨(((hs.mem.to 2 rfl).to 2 rfl).first 2), ?_⟩
                refine b_done (by kernel_rfl) ?_
                repeat first | with_reducible refine in_normal ?_ | with_reducible refine then_normal ?_ | with_reducible refine then_ret ?_ | with_reducible refine in_ret ?_ | with_reducible refine then_exit ?_ | with_reducible refine in_here ?_ | with_reducible refine in_other rfl ?_ | with_reducible refine then_goto ?_ | with_reducible refine in_goto ?_ | with_reducible refine jump_normal ?_ | with_reducible refine jump_ret ?_ | with_reducible refine jump_goto ?_
                repeat with_reducible refine wp_seq ?_
                refine wp_region_lit ?_
                refine a_val hs rfl rfl rfl (y_faddr (k' := 1) 1 hs (by kernel_rfl) rfl rfl) ?_; clear hs a; intro a hs
                refine a_val hs rfl rfl rfl (y_load hs Tryd.underlying9 rfl rfl (fun w hw => (hw.to 0 rfl).cellV rfl)) ?_; clear hs a; intro a hs
                refine a_eff rfl (e_callB Tryd.func25 rfl rfl hs rfl rfl (recoupref09_Word.calls _ _ _ _ (refWord _)) ?_); clear hs a; intro a w hs
                refine wpList_nil ?_
                repeat first | with_reducible refine in_normal ?_ | with_reducible refine then_normal ?_ | with_reducible refine then_ret ?_ | with_reducible refine in_ret ?_ | with_reducible refine then_exit ?_ | with_reducible refine in_here ?_ | with_reducible refine in_other rfl ?_ | with_reducible refine then_goto ?_ | with_reducible refine in_goto ?_ | with_reducible refine jump_normal ?_ | with_reducible refine jump_ret ?_ | with_reducible refine jump_goto ?_
                repeat with_reducible refine wp_seq ?_
                refine wp_cond_split (hs.ev rfl) (fun hb => ?_) (fun hb => ?_)
                · have hw : wordIn wordList (s.extract p (endP s true p)) = true := hb
                  repeat with_reducible refine wp_seq ?_
                  refine wp_region_lit ?_
                  refine a_val hs rfl rfl rfl (y_faddr (k' := 0) 0 hs (by kernel_rfl) rfl rfl) ?_; clear hs a; intro a hs
                  refine a_eff rfl (e_store (cl := [_, _, _, _, _]) 0 rfl hs rfl rfl (by kernel_rfl) rfl rfl rfl ?_); clear hs a; intro a w hs
                  refine wpList_nil ?_
                  repeat first | with_reducible refine in_normal ?_ | with_reducible refine then_normal ?_ | with_reducible refine then_ret ?_ | with_reducible refine in_ret ?_ | with_reducible refine then_exit ?_ | with_reducible refine in_here ?_ | with_reducible refine in_other rfl ?_ | with_reducible refine then_goto ?_ | with_reducible refine in_goto ?_ | with_reducible refine jump_normal ?_ | with_reducible refine jump_ret ?_ | with_reducible refine jump_goto ?_
                  rw [if_pos hw] at hF
                  refine ⟨_, q, r, false, ⟨2, (s.extract p (endP s true p)), 0, q, r⟩, hlt2, e2, by omega, by omega, ?_, (hs.mem_to (((hs.mem.to 2 rfl).to 2 rfl).to 2 rfl)).cut _ ⟨rfl, rfl, rfl, rfl, rfl, rfl, rfl, rfl, rfl, trivial⟩⟩
                  rw [if_neg (by dsimp only; omega)]; exact hF
                · have hw : ¬ wordIn wordList (s.extract p (endP s true p)) = true := by rw [show wordIn wordList (s.extract p (endP s true p)) = false from hb]; simp
                  repeat with_reducible refine wp_seq ?_
                  refine wp_region_lit ?_
                  refine a_val hs rfl rfl rfl (y_faddr (k' := 1) 1 hs (by kernel_rfl) rfl rfl) ?_; clear hs a; intro a hs
                  refine a_val hs rfl rfl rfl (y_load hs Tryd.underlying9 rfl rfl (fun w hw => (hw.to 0 rfl).cellV rfl)) ?_; clear hs a; intro a hs
                  refine a_eff rfl (e_callB Tryd.func24 rfl rfl hs rfl rfl (recoupref09_Name.calls _ _ _ _ (refName _ (Nat.le_trans (ex_size hz) (by decide)))) ?_); clear hs a; intro a w hs
                  refine a_val hs rfl rfl rfl (y_not hs rfl) ?_; clear hs a; intro a hs
                  refine wpList_nil ?_
                  repeat first | with_reducible refine in_normal ?_ | with_reducible refine then_normal ?_ | with_reducible refine then_ret ?_ | with_reducible refine in_ret ?_ | with_reducible refine then_exit ?_ | with_reducible refine in_here ?_ | with_reducible refine in_other rfl ?_ | with_reducible refine then_goto ?_ | with_reducible refine in_goto ?_ | with_reducible refine jump_normal ?_ | with_reducible refine jump_ret ?_ | with_reducible refine jump_goto ?_
                  repeat with_reducible refine wp_seq ?_
                  refine wp_cond_split (hs.ev rfl) (fun hb => ?_) (fun hb => ?_)
                  · have hn : nameOk (s.extract p (endP s true p)) = false := by simpa using hb
                    rw [if_neg hw, hn, if_neg (by simp)] at hF
                    repeat with_reducible refine wp_seq ?_
                    refine wp_region_lit ?_
                    refine a_val hs rfl rfl rfl (y_move hs rfl) ?_; clear hs a; intro a hs
                    refine a_val hs rfl rfl rfl (y_move hs rfl) ?_; clear hs a; intro a hs
                    refine a_eff rfl (e_callB Tryd.func29 rfl rfl hs rfl rfl (recoupref09_Fault.calls _ _ s _ _ _ _ _ (refFault s hz (p) (by omega))) ?_); clear hs a; intro a w hs
                    refine a_val hs rfl rfl rfl (y_assign hs rfl) ?_; clear hs a; intro a hs
                    refine a_eff rfl (e_store (cl := [_, _, _]) 1 rfl hs rfl rfl (by kernel_rfl) rfl rfl rfl ?_); clear hs a; intro a w hs
                    refine wpList_nil ?_
                    repeat first | with_reducible refine in_normal ?_ | with_reducible refine then_normal ?_ | with_reducible refine then_ret ?_ | with_reducible refine in_ret ?_ | with_reducible refine then_exit ?_ | with_reducible refine in_here ?_ | with_reducible refine in_other rfl ?_ | with_reducible refine then_goto ?_ | with_reducible refine in_goto ?_ | with_reducible refine jump_normal ?_ | with_reducible refine jump_ret ?_ | with_reducible refine jump_goto ?_
                    injection hF with hF
                    injection hF with h1 hF
                    injection hF with h2 hF
                    injection hF with h3 h4
                    subst h1 h2 h3 h4
                    repeat with_reducible refine wp_seq ?_
                    refine wp_ret ?_
                    repeat first | with_reducible refine in_normal ?_ | with_reducible refine then_normal ?_ | with_reducible refine then_ret ?_ | with_reducible refine in_ret ?_ | with_reducible refine then_exit ?_ | with_reducible refine in_here ?_ | with_reducible refine in_other rfl ?_ | with_reducible refine then_goto ?_ | with_reducible refine in_goto ?_ | with_reducible refine jump_normal ?_ | with_reducible refine jump_ret ?_ | with_reducible refine jump_goto ?_
                    refine fin_ret (vs := [.slice none (([] : List S34)).length 0, .agg #[.int .i64 (90), .int .i64 (((posF s (p)).1 : Int)), .int .i64 (((posF s (p)).2 : Int))]]) hs (.tmp (hs.slots _ _ rfl) (.cell (hs.slots 3 _ rfl) (hs.mem.to 0 rfl).cells Tryd.underlying25 rfl (by kernel_rfl) .nil)) ⟨none, 0, rfl, ((((hs.mem.to 0 rfl).drop.to 0 rfl).drop.to 0 rfl).drop.nilRow 34 5)⟩
                  · have hn : nameOk (s.extract p (endP s true p)) = true := by simpa using hb
                    repeat with_reducible refine wp_seq ?_
                    refine wp_skip ?_
                    repeat first | with_reducible refine in_normal ?_ | with_reducible refine then_normal ?_ | with_reducible refine then_ret ?_ | with_reducible refine in_ret ?_ | with_reducible refine then_exit ?_ | with_reducible refine in_here ?_ | with_reducible refine in_other rfl ?_
                    rw [if_neg hw, if_pos hn] at hF
                    refine ⟨_, q, r, false, ⟨1, (s.extract p (endP s true p)), 0, q, r⟩, hlt2, e2, by omega, by omega, ?_, (hs.mem_to (((hs.mem.to 2 rfl).to 2 rfl).to 2 rfl)).cut _ ⟨rfl, rfl, rfl, rfl, rfl, rfl, rfl, rfl, rfl, trivial⟩⟩
                    rw [if_neg (by dsimp only; omega)]; exact hF
              · have hL : ¬ (false = false ∧ isLetter (bt s p) = true) := fun h => by have h2 := h.2; rw [hbt, show isLetter ((c.toNat : Nat) : Int) = false from hb] at h2; cases h2
                rw [if_neg hL] at hF
                clear hb
                repeat with_reducible refine wp_seq ?_
                refine wp_region_lit ?_
                refine a_val hs rfl rfl rfl (y_move hs rfl) ?_; clear hs a; intro a hs
                refine a_val hs rfl rfl rfl (y_not hs rfl) ?_; clear hs a; intro a hs
                refine a_val hs rfl rfl rfl (y_move hs rfl) ?_; clear hs a; intro a hs
                refine a_valG hs rfl rfl rfl (y_move hs rfl) ?_; clear hs a; intro a hs
                refine a_effG hs rfl (e_callB Tryd.func30 rfl rfl hs rfl rfl ((recoupref09_digit.calls _ _ _ (refDigit _)).mono (by rintro e w1 ⟨rfl, hd⟩; exact ⟨rfl, drawn_below hd⟩)) ?_); clear hs a; intro a w hs
                refine a_val hs rfl rfl rfl (y_pick hs rfl rfl rfl) ?_; clear hs a; intro a hs
                refine wpList_nil ?_
                repeat first | with_reducible refine in_normal ?_ | with_reducible refine then_normal ?_ | with_reducible refine then_ret ?_ | with_reducible refine in_ret ?_ | with_reducible refine then_exit ?_ | with_reducible refine in_here ?_ | with_reducible refine in_other rfl ?_ | with_reducible refine then_goto ?_ | with_reducible refine in_goto ?_ | with_reducible refine jump_normal ?_ | with_reducible refine jump_ret ?_ | with_reducible refine jump_goto ?_
                repeat with_reducible refine wp_seq ?_
                refine wp_cond_split (hs.ev rfl) (fun hb => ?_) (fun hb => ?_)
                · have hD : false = false ∧ isDigit (bt s p) = true := ⟨rfl, by rw [hbt]; exact hb⟩
                  rw [if_pos hD] at hF
                  obtain ⟨e1, e2⟩ := endP_le s false p hp
                  have hlt2 : p < endP s false p := endP_lt s false p hlt (by rw [hD.2]; simp)
                  repeat with_reducible refine wp_seq ?_
                  refine wp_region_lit ?_
                  refine a_val hs rfl rfl rfl (y_move hs rfl) ?_; clear hs a; intro a hs
                  refine a_val hs rfl rfl rfl (y_move hs rfl) ?_; clear hs a; intro a hs
                  refine a_eff rfl (e_callB Tryd.func28 rfl rfl hs rfl rfl ((recoupref09_end.calls _ s _ _ _ _ (refEnd s hz false p hp)).mono (by rintro e w1 ⟨rfl, hd⟩; exact ⟨rfl, drawn_below hd⟩)) ?_); clear hs a; intro a w hs
                  refine a_val hs rfl rfl rfl (y_assign hs rfl) ?_; clear hs a; intro a hs
                  refine wpList_nil ?_
                  repeat first | with_reducible refine in_normal ?_ | with_reducible refine then_normal ?_ | with_reducible refine then_ret ?_ | with_reducible refine in_ret ?_ | with_reducible refine then_exit ?_ | with_reducible refine in_here ?_ | with_reducible refine in_other rfl ?_ | with_reducible refine then_goto ?_ | with_reducible refine in_goto ?_ | with_reducible refine jump_normal ?_ | with_reducible refine jump_ret ?_ | with_reducible refine jump_goto ?_
                  repeat with_reducible refine wp_seq ?_
                  refine wp_region_lit ?_
                  refine a_val hs rfl rfl rfl (y_move hs rfl) ?_; clear hs a; intro a hs
                  refine a_val hs rfl rfl rfl (y_move hs rfl) ?_; clear hs a; intro a hs
                  refine a_val hs rfl rfl rfl (y_move hs rfl) ?_; clear hs a; intro a hs
                  refine a_val hs rfl rfl rfl (y_sliceS hs Tryd.underlying9 rfl rfl rfl (by omega) (by omega) (by omega)) ?_; clear hs a; intro a hs
                  refine a_eff rfl (e_callB Tryd.func31 rfl rfl hs rfl rfl ((recoupref09_number.calls _ _ _ _ (refNumberT _ (ex_size hz) (by rw [ByteArray.size_extract]; show 0 < min (endP s false p) s.size - p; omega))).mono (by rintro e w1 ⟨rfl, hd⟩; exact ⟨rfl, drawn_below hd⟩)) ?_); clear hs a; intro a w hs
                  refine a_val hs rfl rfl rfl (y_faddr (k' := 0) 0 hs (by kernel_rfl) rfl rfl) ?_; clear hs a; intro a hs
                  refine a_eff rfl (e_store (cl := [_, _, _, _, _]) 0 rfl hs rfl rfl (by kernel_rfl) rfl rfl rfl ?_); clear hs a; intro a w hs
                  refine a_val hs rfl rfl rfl (y_faddr (k' := 2) 2 hs (by kernel_rfl) rfl rfl) ?_; clear hs a; intro a hs
                  refine a_eff rfl (e_store (cl := [_, _, _, _, _]) 0 rfl hs rfl rfl (by kernel_rfl) rfl rfl rfl ?_); clear hs a; intro a w hs
                  refine wpList_nil ?_
                  repeat first | with_reducible refine in_normal ?_ | with_reducible refine then_normal ?_ | with_reducible refine then_ret ?_ | with_reducible refine in_ret ?_ | with_reducible refine then_exit ?_ | with_reducible refine in_here ?_ | with_reducible refine in_other rfl ?_ | with_reducible refine then_goto ?_ | with_reducible refine in_goto ?_ | with_reducible refine jump_normal ?_ | with_reducible refine jump_ret ?_ | with_reducible refine jump_goto ?_
                  by_cases hN : numP (s.extract p (endP s false p)) < 0
                  · repeat with_reducible refine wp_seq ?_
                    refine wp_region_lit ?_
                    refine a_val hs rfl rfl rfl (y_faddr (k' := 2) 2 hs (by kernel_rfl) rfl rfl) ?_; clear hs a; intro a hs
                    refine a_val hs rfl rfl rfl (y_load hs Tryd.underlying3 rfl rfl (fun w hw => (hw.to 0 rfl).cellV rfl)) ?_; clear hs a; intro a hs
                    refine a_val hs rfl rfl rfl (y_cmp (b := true) hs rfl rfl (congrArg some (decide_eq_true hN))) ?_; clear hs a; intro a hs
                    refine wpList_nil ?_
                    repeat first | with_reducible refine in_normal ?_ | with_reducible refine then_normal ?_ | with_reducible refine then_ret ?_ | with_reducible refine in_ret ?_ | with_reducible refine then_exit ?_ | with_reducible refine in_here ?_ | with_reducible refine in_other rfl ?_ | with_reducible refine then_goto ?_ | with_reducible refine in_goto ?_ | with_reducible refine jump_normal ?_ | with_reducible refine jump_ret ?_ | with_reducible refine jump_goto ?_
                    repeat with_reducible refine wp_seq ?_
                    refine wp_cond_true (hs.ev rfl) ?_
                    rw [if_pos hN] at hF
                    repeat with_reducible refine wp_seq ?_
                    refine wp_region_lit ?_
                    refine a_val hs rfl rfl rfl (y_move hs rfl) ?_; clear hs a; intro a hs
                    refine a_val hs rfl rfl rfl (y_move hs rfl) ?_; clear hs a; intro a hs
                    refine a_eff rfl (e_callB Tryd.func29 rfl rfl hs rfl rfl (recoupref09_Fault.calls _ _ s _ _ _ _ _ (refFault s hz (p) (by omega))) ?_); clear hs a; intro a w hs
                    refine a_val hs rfl rfl rfl (y_assign hs rfl) ?_; clear hs a; intro a hs
                    refine a_eff rfl (e_store (cl := [_, _, _]) 1 rfl hs rfl rfl (by kernel_rfl) rfl rfl rfl ?_); clear hs a; intro a w hs
                    refine wpList_nil ?_
                    repeat first | with_reducible refine in_normal ?_ | with_reducible refine then_normal ?_ | with_reducible refine then_ret ?_ | with_reducible refine in_ret ?_ | with_reducible refine then_exit ?_ | with_reducible refine in_here ?_ | with_reducible refine in_other rfl ?_ | with_reducible refine then_goto ?_ | with_reducible refine in_goto ?_ | with_reducible refine jump_normal ?_ | with_reducible refine jump_ret ?_ | with_reducible refine jump_goto ?_
                    injection hF with hF
                    injection hF with h1 hF
                    injection hF with h2 hF
                    injection hF with h3 h4
                    subst h1 h2 h3 h4
                    repeat with_reducible refine wp_seq ?_
                    refine wp_ret ?_
                    repeat first | with_reducible refine in_normal ?_ | with_reducible refine then_normal ?_ | with_reducible refine then_ret ?_ | with_reducible refine in_ret ?_ | with_reducible refine then_exit ?_ | with_reducible refine in_here ?_ | with_reducible refine in_other rfl ?_ | with_reducible refine then_goto ?_ | with_reducible refine in_goto ?_ | with_reducible refine jump_normal ?_ | with_reducible refine jump_ret ?_ | with_reducible refine jump_goto ?_
                    refine fin_ret (vs := [.slice none (([] : List S34)).length 0, .agg #[.int .i64 (90), .int .i64 (((posF s (p)).1 : Int)), .int .i64 (((posF s (p)).2 : Int))]]) hs (.tmp (hs.slots _ _ rfl) (.cell (hs.slots 3 _ rfl) (hs.mem.to 0 rfl).cells Tryd.underlying25 rfl (by kernel_rfl) .nil)) ⟨none, 0, rfl, ((((hs.mem.to 0 rfl).drop.to 0 rfl).drop.to 0 rfl).drop.nilRow 34 5)⟩
                  · repeat with_reducible refine wp_seq ?_
                    refine wp_region_lit ?_
                    refine a_val hs rfl rfl rfl (y_faddr (k' := 2) 2 hs (by kernel_rfl) rfl rfl) ?_; clear hs a; intro a hs
                    refine a_val hs rfl rfl rfl (y_load hs Tryd.underlying3 rfl rfl (fun w hw => (hw.to 0 rfl).cellV rfl)) ?_; clear hs a; intro a hs
                    refine a_val hs rfl rfl rfl (y_cmp (b := false) hs rfl rfl (congrArg some (decide_eq_false hN))) ?_; clear hs a; intro a hs
                    refine wpList_nil ?_
                    repeat first | with_reducible refine in_normal ?_ | with_reducible refine then_normal ?_ | with_reducible refine then_ret ?_ | with_reducible refine in_ret ?_ | with_reducible refine then_exit ?_ | with_reducible refine in_here ?_ | with_reducible refine in_other rfl ?_ | with_reducible refine then_goto ?_ | with_reducible refine in_goto ?_ | with_reducible refine jump_normal ?_ | with_reducible refine jump_ret ?_ | with_reducible refine jump_goto ?_
                    repeat with_reducible refine wp_seq ?_
                    refine wp_cond_false (hs.ev rfl) ?_
                    repeat with_reducible refine wp_seq ?_
                    refine wp_skip ?_
                    repeat first | with_reducible refine in_normal ?_ | with_reducible refine then_normal ?_ | with_reducible refine then_ret ?_ | with_reducible refine in_ret ?_ | with_reducible refine then_exit ?_ | with_reducible refine in_here ?_ | with_reducible refine in_other rfl ?_
                    rw [if_neg hN] at hF
                    by_cases hE : endP s false p < s.size
                    · obtain ⟨c2, hc2⟩ : ∃ c2, s[endP s false p]? = some c2 := ⟨_, getElem?_pos s _ hE⟩
                      have hbt2 : bt s ((endP s false p : Nat) : Int) = ((c2.toNat : Nat) : Int) := bt_of hc2
                      repeat with_reducible refine wp_seq ?_
                      refine wp_region_lit ?_
                      refine a_val hs rfl rfl rfl (y_move hs rfl) ?_; clear hs a; intro a hs
                      refine a_val hs rfl rfl rfl (y_move hs rfl) ?_; clear hs a; intro a hs
                      refine a_val hs rfl rfl rfl (y_lenS hs Tryd.underlying9 rfl) ?_; clear hs a; intro a hs
                      refine a_val hs rfl rfl rfl (y_cmp (b := true) hs rfl rfl (congrArg some (decide_eq_true (by omega)))) ?_; clear hs a; intro a hs
                      refine a_val hs rfl rfl rfl (y_move hs rfl) ?_; clear hs a; intro a hs
                      refine a_valG hs rfl rfl rfl (y_move hs rfl) ?_; clear hs a; intro a hs
                      refine a_valG hs rfl rfl rfl (y_move hs rfl) ?_; clear hs a; intro a hs
                      refine a_valG hs rfl rfl rfl (y_idxS hs Tryd.underlying9 rfl rfl (by omega) hc2) ?_; clear hs a; intro a hs
                      refine a_effG hs rfl (e_callB Tryd.func27 rfl rfl hs rfl rfl ((recoupref09_letter.calls _ _ _ (refLetter _)).mono (by rintro e w1 ⟨rfl, hd⟩; exact ⟨rfl, drawn_below hd⟩)) ?_); clear hs a; intro a w hs
                      refine a_val hs rfl rfl rfl (y_pick hs rfl rfl rfl) ?_; clear hs a; intro a hs
                      refine wpList_nil ?_
                      repeat first | with_reducible refine in_normal ?_ | with_reducible refine then_normal ?_ | with_reducible refine then_ret ?_ | with_reducible refine in_ret ?_ | with_reducible refine then_exit ?_ | with_reducible refine in_here ?_ | with_reducible refine in_other rfl ?_ | with_reducible refine then_goto ?_ | with_reducible refine in_goto ?_ | with_reducible refine jump_normal ?_ | with_reducible refine jump_ret ?_ | with_reducible refine jump_goto ?_
                      repeat with_reducible refine wp_seq ?_
                      refine wp_cond_split (hs.ev rfl) (fun hb => ?_) (fun hb => ?_)
                      · have hX : endP s false p < s.size ∧ isLetter (bt s ((endP s false p : Nat) : Int)) = true := ⟨hE, by rw [hbt2]; exact hb⟩
                        rw [if_pos hX] at hF
                        repeat with_reducible refine wp_seq ?_
                        refine wp_region_lit ?_
                        refine a_val hs rfl rfl rfl (y_move hs rfl) ?_; clear hs a; intro a hs
                        refine a_val hs rfl rfl rfl (y_move hs rfl) ?_; clear hs a; intro a hs
                        refine a_eff rfl (e_callB Tryd.func29 rfl rfl hs rfl rfl (recoupref09_Fault.calls _ _ s _ _ _ _ _ (refFault s hz (endP s false p) (by omega))) ?_); clear hs a; intro a w hs
                        refine a_val hs rfl rfl rfl (y_assign hs rfl) ?_; clear hs a; intro a hs
                        refine a_eff rfl (e_store (cl := [_, _, _]) 1 rfl hs rfl rfl (by kernel_rfl) rfl rfl rfl ?_); clear hs a; intro a w hs
                        refine wpList_nil ?_
                        repeat first | with_reducible refine in_normal ?_ | with_reducible refine then_normal ?_ | with_reducible refine then_ret ?_ | with_reducible refine in_ret ?_ | with_reducible refine then_exit ?_ | with_reducible refine in_here ?_ | with_reducible refine in_other rfl ?_ | with_reducible refine then_goto ?_ | with_reducible refine in_goto ?_ | with_reducible refine jump_normal ?_ | with_reducible refine jump_ret ?_ | with_reducible refine jump_goto ?_
                        injection hF with hF
                        injection hF with h1 hF
                        injection hF with h2 hF
                        injection hF with h3 h4
                        subst h1 h2 h3 h4
                        repeat with_reducible refine wp_seq ?_
                        refine wp_ret ?_
                        repeat first | with_reducible refine in_normal ?_ | with_reducible refine then_normal ?_ | with_reducible refine then_ret ?_ | with_reducible refine in_ret ?_ | with_reducible refine then_exit ?_ | with_reducible refine in_here ?_ | with_reducible refine in_other rfl ?_ | with_reducible refine then_goto ?_ | with_reducible refine in_goto ?_ | with_reducible refine jump_normal ?_ | with_reducible refine jump_ret ?_ | with_reducible refine jump_goto ?_
                        refine fin_ret (vs := [.slice none (([] : List S34)).length 0, .agg #[.int .i64 (90), .int .i64 (((posF s (endP s false p)).1 : Int)), .int .i64 (((posF s (endP s false p)).2 : Int))]]) hs (.tmp (hs.slots _ _ rfl) (.cell (hs.slots 3 _ rfl) (hs.mem.to 0 rfl).cells Tryd.underlying25 rfl (by kernel_rfl) .nil)) ⟨none, 0, rfl, ((((hs.mem.to 0 rfl).drop.to 0 rfl).drop.to 0 rfl).drop.nilRow 34 5)⟩
                      · have hX : ¬ (endP s false p < s.size ∧ isLetter (bt s ((endP s false p : Nat) : Int)) = true) := fun h => by have h2 := h.2; rw [hbt2, show isLetter ((c2.toNat : Nat) : Int) = false from hb] at h2; cases h2
                        repeat with_reducible refine wp_seq ?_
                        refine wp_skip ?_
                        repeat first | with_reducible refine in_normal ?_ | with_reducible refine then_normal ?_ | with_reducible refine then_ret ?_ | with_reducible refine in_ret ?_ | with_reducible refine then_exit ?_ | with_reducible refine in_here ?_ | with_reducible refine in_other rfl ?_
                        rw [if_neg hX] at hF
                        refine ⟨_, q, r, false, ⟨3, ⟨#[]⟩, numP (s.extract p (endP s false p)), q, r⟩, hlt2, e2, by omega, by omega, ?_, (hs.mem_to (((hs.mem.to 2 rfl).to 2 rfl).to 2 rfl)).cut _ ⟨rfl, rfl, rfl, rfl, rfl, rfl, rfl, rfl, rfl, trivial⟩⟩
                        rw [if_neg (by dsimp only; omega)]; exact hF
                    · have hX : ¬ (endP s false p < s.size ∧ isLetter (bt s ((endP s false p : Nat) : Int)) = true) := fun h => hE h.1
                      repeat with_reducible refine wp_seq ?_
                      refine wp_region_lit ?_
                      refine a_val hs rfl rfl rfl (y_move hs rfl) ?_; clear hs a; intro a hs
                      refine a_val hs rfl rfl rfl (y_move hs rfl) ?_; clear hs a; intro a hs
                      refine a_val hs rfl rfl rfl (y_lenS hs Tryd.underlying9 rfl) ?_; clear hs a; intro a hs
                      refine a_val hs rfl rfl rfl (y_cmp (b := false) hs rfl rfl (congrArg some (decide_eq_false (by omega)))) ?_; clear hs a; intro a hs
                      refine a_val hs rfl rfl rfl (y_move hs rfl) ?_; clear hs a; intro a hs
                      refine a_skip hs rfl rfl rfl ?_; clear hs a; intro a hs
                      refine a_skip hs rfl rfl rfl ?_; clear hs a; intro a hs
                      refine a_skip hs rfl rfl rfl ?_; clear hs a; intro a hs
                      refine a_skip hs rfl rfl rfl ?_; clear hs a; intro a hs
                      refine a_val hs rfl rfl rfl (y_pick hs rfl rfl rfl) ?_; clear hs a; intro a hs
                      refine wpList_nil ?_
                      repeat first | with_reducible refine in_normal ?_ | with_reducible refine then_normal ?_ | with_reducible refine then_ret ?_ | with_reducible refine in_ret ?_ | with_reducible refine then_exit ?_ | with_reducible refine in_here ?_ | with_reducible refine in_other rfl ?_ | with_reducible refine then_goto ?_ | with_reducible refine in_goto ?_ | with_reducible refine jump_normal ?_ | with_reducible refine jump_ret ?_ | with_reducible refine jump_goto ?_
                      repeat with_reducible refine wp_seq ?_
                      refine wp_cond_false (hs.ev rfl) ?_
                      repeat with_reducible refine wp_seq ?_
                      refine wp_skip ?_
                      repeat first | with_reducible refine in_normal ?_ | with_reducible refine then_normal ?_ | with_reducible refine then_ret ?_ | with_reducible refine in_ret ?_ | with_reducible refine then_exit ?_ | with_reducible refine in_here ?_ | with_reducible refine in_other rfl ?_
                      rw [if_neg hX] at hF
                      refine ⟨_, q, r, false, ⟨3, ⟨#[]⟩, numP (s.extract p (endP s false p)), q, r⟩, hlt2, e2, by omega, by omega, ?_, (hs.mem_to (((hs.mem.to 2 rfl).to 2 rfl).to 2 rfl)).cut _ ⟨rfl, rfl, rfl, rfl, rfl, rfl, rfl, rfl, rfl, trivial⟩⟩
                      rw [if_neg (by dsimp only; omega)]; exact hF
                · have hD : ¬ (false = false ∧ isDigit (bt s p) = true) := fun h => by have h2 := h.2; rw [hbt, show isDigit ((c.toNat : Nat) : Int) = false from hb] at h2; cases h2
                  rw [if_neg hD] at hF
                  clear hb
                  repeat with_reducible refine wp_seq ?_
                  refine wp_region_lit ?_
                  refine a_val hs rfl rfl rfl (y_move hs rfl) ?_; clear hs a; intro a hs
                  refine a_val hs rfl rfl rfl (y_not hs rfl) ?_; clear hs a; intro a hs
                  refine a_val hs rfl rfl rfl (y_move hs rfl) ?_; clear hs a; intro a hs
                  refine a_valG hs rfl rfl rfl (y_move hs rfl) ?_; clear hs a; intro a hs
                  refine a_effG hs rfl (e_callB Tryd.func26 rfl rfl hs rfl rfl ((recoupref09_sign.calls 13 _ _ _ (refSign _)).mono (by rintro e w1 ⟨rfl, hd⟩; exact ⟨rfl, drawn_below hd⟩)) ?_); clear hs a; intro a w hs
                  refine a_val hs rfl rfl rfl (y_pick hs rfl rfl rfl) ?_; clear hs a; intro a hs
                  refine wpList_nil ?_
                  repeat first | with_reducible refine in_normal ?_ | with_reducible refine then_normal ?_ | with_reducible refine then_ret ?_ | with_reducible refine in_ret ?_ | with_reducible refine then_exit ?_ | with_reducible refine in_here ?_ | with_reducible refine in_other rfl ?_ | with_reducible refine then_goto ?_ | with_reducible refine in_goto ?_ | with_reducible refine jump_normal ?_ | with_reducible refine jump_ret ?_ | with_reducible refine jump_goto ?_
                  repeat with_reducible refine wp_seq ?_
                  refine wp_cond_split (hs.ev rfl) (fun hb => ?_) (fun hb => ?_)
                  · have hS : false = false ∧ signB (bt s p) = true := ⟨rfl, by rw [hbt]; exact hb⟩
                    rw [if_pos hS] at hF
                    repeat with_reducible refine wp_seq ?_
                    refine b_enter [1, 2] (by kernel_rfl) hs #[false, false, false, false, false, false, false, false] (by rfl) 8 (by rfl) ?_; clear hs; intro w hs
                    refine b_take 0 rfl #[true, false, false, false, false, false, false, false] rfl (by kernel_rfl) hs ((((hs.mem.to 2 rfl).to 2 rfl).first 2)) rfl rfl rfl (fun _ _ _ h => h) (y_move hs rfl) ?_; clear hs a; intro a hs
                    refine b_take 1 rfl #[true, true, false, false, false, false, false, false] rfl (by kernel_rfl) hs ((((hs.mem.to 2 rfl).to 2 rfl).first 2)) rfl rfl rfl (fun _ _ _ h => h) (y_move hs rfl) ?_; clear hs a; intro a hs
                    refine b_take 2 rfl #[true, true, true, false, false, false, false, false] rfl (by kernel_rfl) hs ((((hs.mem.to 2 rfl).to 2 rfl).first 2)) rfl rfl rfl (fun _ _ _ h => h) (y_move hs rfl) ?_; clear hs a; intro a hs
                    refine b_take 3 rfl #[true, true, true, true, false, false, false, false] rfl (by kernel_rfl) hs ((((hs.mem.to 2 rfl).to 2 rfl).first 2)) rfl rfl rfl (fun _ _ _ h => h) (y_sliceS hs Tryd.underlying9 rfl rfl rfl (by omega) (by omega) (by omega)) ?_; clear hs a; intro a hs
                    refine b_take 4 rfl #[true, true, true, true, true, false, false, false] rfl (by kernel_rfl) hs ((((hs.mem.to 2 rfl).to 2 rfl).first 2)) rfl rfl rfl (fun _ _ _ h => h) (y_faddr (k' := 0) 0 hs (by kernel_rfl) rfl rfl) ?_; clear hs a; intro a hs
                    refine b_eff 5 (by kernel_rfl) rfl #[true, true, true, true, true, true, false, false] rfl hs rfl (e_store (cl := [_, _, _, _, _]) 0 rfl hs rfl rfl (by kernel_rfl) rfl rfl rfl ?_); clear hs a; intro a w hs
                    refine ⟨(((hs.mem.to 2 rfl).to 2 rfl).first 2), ?_⟩
                    refine b_take 6 rfl #[true, true, true, true, true, true, true, false] rfl (by kernel_rfl) hs ((((hs.mem.to 2 rfl).to 2 rfl).first 2)) rfl rfl rfl (fun _ _ _ h => h) (y_faddr (k' := 1) 1 hs (by kernel_rfl) rfl rfl) ?_; clear hs a; intro a hs
                    refine b_eff 7 (by kernel_rfl) rfl #[true, true, true, true, true, true, true, true] rfl hs rfl (e_store (cl := [_, _, _, _, _]) 0 rfl hs rfl rfl (by kernel_rfl) rfl rfl rfl ?_); clear hs a; intro a w hs
                    refine ⟨(((hs.mem.to 2 rfl).to 2 rfl).first 2), ?_⟩
                    refine b_done (by kernel_rfl) ?_
                    repeat first | with_reducible refine in_normal ?_ | with_reducible refine then_normal ?_ | with_reducible refine then_ret ?_ | with_reducible refine in_ret ?_ | with_reducible refine then_exit ?_ | with_reducible refine in_here ?_ | with_reducible refine in_other rfl ?_ | with_reducible refine then_goto ?_ | with_reducible refine in_goto ?_ | with_reducible refine jump_normal ?_ | with_reducible refine jump_ret ?_ | with_reducible refine jump_goto ?_
                    refine ⟨(p + 1), q, r, false, ⟨4, s.extract p (p + 1), 0, q, r⟩, by omega, by omega, by omega, by omega, ?_, (hs.mem_to (((hs.mem.to 2 rfl).to 2 rfl).to 2 rfl)).cut _ ⟨rfl, rfl, rfl, rfl, rfl, rfl, rfl, rfl, rfl, trivial⟩⟩
                    rw [if_neg (by dsimp only; omega), show r + (p + 1 - p) = r + 1 by omega]; exact hF
                  · have hS : ¬ (false = false ∧ signB (bt s p) = true) := fun h => by have h2 := h.2; rw [hbt, show signB ((c.toNat : Nat) : Int) = false from hb] at h2; cases h2
                    rw [if_neg hS] at hF
                    clear hb
                    by_cases c35 : bt s p = 35
                    · repeat with_reducible refine wp_seq ?_
                      refine wp_region_lit ?_
                      refine a_val hs rfl rfl rfl (y_move hs rfl) ?_; clear hs a; intro a hs
                      refine a_val hs rfl rfl rfl (y_cmp (b := true) hs rfl rfl (congrArg some (beq_iff_eq.2 (by omega)))) ?_; clear hs a; intro a hs
                      refine wpList_nil ?_
                      repeat first | with_reducible refine in_normal ?_ | with_reducible refine then_normal ?_ | with_reducible refine then_ret ?_ | with_reducible refine in_ret ?_ | with_reducible refine then_exit ?_ | with_reducible refine in_here ?_ | with_reducible refine in_other rfl ?_ | with_reducible refine then_goto ?_ | with_reducible refine in_goto ?_ | with_reducible refine jump_normal ?_ | with_reducible refine jump_ret ?_ | with_reducible refine jump_goto ?_
                      repeat with_reducible refine wp_seq ?_
                      refine wp_cond_true (hs.ev rfl) ?_
                      repeat with_reducible refine wp_seq ?_
                      refine wp_region_lit ?_
                      refine a_val hs rfl rfl rfl (y_assign hs rfl) ?_; clear hs a; intro a hs
                      refine wpList_nil ?_
                      repeat first | with_reducible refine in_normal ?_ | with_reducible refine then_normal ?_ | with_reducible refine then_ret ?_ | with_reducible refine in_ret ?_ | with_reducible refine then_exit ?_ | with_reducible refine in_here ?_ | with_reducible refine in_other rfl ?_ | with_reducible refine then_goto ?_ | with_reducible refine in_goto ?_ | with_reducible refine jump_normal ?_ | with_reducible refine jump_ret ?_ | with_reducible refine jump_goto ?_
                      rw [if_pos c35] at hF
                      refine ⟨(p + 1), q, r, true, ⟨0, ⟨#[]⟩, 0, q, r⟩, by omega, by omega, by omega, by omega, ?_, (hs.mem_to (((hs.mem.to 2 rfl).to 2 rfl).to 2 rfl)).cut _ ⟨rfl, rfl, rfl, rfl, rfl, rfl, rfl, rfl, rfl, trivial⟩⟩
                      rw [if_pos rfl, show r + (p + 1 - p) = r + 1 by omega]; exact hF
                    · repeat with_reducible refine wp_seq ?_
                      refine wp_region_lit ?_
                      refine a_val hs rfl rfl rfl (y_move hs rfl) ?_; clear hs a; intro a hs
                      refine a_val hs rfl rfl rfl (y_cmp (b := false) hs rfl rfl (congrArg some (beq_eq_false_iff_ne.2 (by omega)))) ?_; clear hs a; intro a hs
                      refine wpList_nil ?_
                      repeat first | with_reducible refine in_normal ?_ | with_reducible refine then_normal ?_ | with_reducible refine then_ret ?_ | with_reducible refine in_ret ?_ | with_reducible refine then_exit ?_ | with_reducible refine in_here ?_ | with_reducible refine in_other rfl ?_ | with_reducible refine then_goto ?_ | with_reducible refine in_goto ?_ | with_reducible refine jump_normal ?_ | with_reducible refine jump_ret ?_ | with_reducible refine jump_goto ?_
                      repeat with_reducible refine wp_seq ?_
                      refine wp_cond_false (hs.ev rfl) ?_
                      rw [if_neg c35] at hF
                      by_cases c32 : bt s p = 32
                      · repeat with_reducible refine wp_seq ?_
                        refine wp_region_lit ?_
                        refine a_val hs rfl rfl rfl (y_move hs rfl) ?_; clear hs a; intro a hs
                        refine a_val hs rfl rfl rfl (y_not hs rfl) ?_; clear hs a; intro a hs
                        refine a_val hs rfl rfl rfl (y_move hs rfl) ?_; clear hs a; intro a hs
                        refine a_valG hs rfl rfl rfl (y_move hs rfl) ?_; clear hs a; intro a hs
                        refine a_valG hs rfl rfl rfl (y_cmp (b := false) hs rfl rfl (congrArg some (by rw [show ((c.toNat : Nat) : Int) = 32 by omega]; rfl))) ?_; clear hs a; intro a hs
                        refine a_val hs rfl rfl rfl (y_pick hs rfl rfl rfl) ?_; clear hs a; intro a hs
                        refine a_val hs rfl rfl rfl (y_move hs rfl) ?_; clear hs a; intro a hs
                        refine a_skip hs rfl rfl rfl ?_; clear hs a; intro a hs
                        refine a_skip hs rfl rfl rfl ?_; clear hs a; intro a hs
                        refine a_val hs rfl rfl rfl (y_pick hs rfl rfl rfl) ?_; clear hs a; intro a hs
                        refine wpList_nil ?_
                        repeat first | with_reducible refine in_normal ?_ | with_reducible refine then_normal ?_ | with_reducible refine then_ret ?_ | with_reducible refine in_ret ?_ | with_reducible refine then_exit ?_ | with_reducible refine in_here ?_ | with_reducible refine in_other rfl ?_ | with_reducible refine then_goto ?_ | with_reducible refine in_goto ?_ | with_reducible refine jump_normal ?_ | with_reducible refine jump_ret ?_ | with_reducible refine jump_goto ?_
                        repeat with_reducible refine wp_seq ?_
                        refine wp_cond_false (hs.ev rfl) ?_
                        repeat with_reducible refine wp_seq ?_
                        refine wp_skip ?_
                        repeat first | with_reducible refine in_normal ?_ | with_reducible refine then_normal ?_ | with_reducible refine then_ret ?_ | with_reducible refine in_ret ?_ | with_reducible refine then_exit ?_ | with_reducible refine in_here ?_ | with_reducible refine in_other rfl ?_
                        rw [if_neg (fun h => h.2.1 c32)] at hF
                        refine ⟨(p + 1), q, r, false, ⟨0, ⟨#[]⟩, 0, q, r⟩, by omega, by omega, by omega, by omega, ?_, (hs.mem_to (((hs.mem.to 2 rfl).to 2 rfl).to 2 rfl)).cut _ ⟨rfl, rfl, rfl, rfl, rfl, rfl, rfl, rfl, rfl, trivial⟩⟩
                        rw [if_pos rfl, show r + (p + 1 - p) = r + 1 by omega]; exact hF
                      · by_cases c9 : bt s p = 9
                        · repeat with_reducible refine wp_seq ?_
                          refine wp_region_lit ?_
                          refine a_val hs rfl rfl rfl (y_move hs rfl) ?_; clear hs a; intro a hs
                          refine a_val hs rfl rfl rfl (y_not hs rfl) ?_; clear hs a; intro a hs
                          refine a_val hs rfl rfl rfl (y_move hs rfl) ?_; clear hs a; intro a hs
                          refine a_valG hs rfl rfl rfl (y_move hs rfl) ?_; clear hs a; intro a hs
                          refine a_valG hs rfl rfl rfl (y_cmp (b := true) hs rfl rfl (congrArg some (bne_iff_ne.2 (by omega)))) ?_; clear hs a; intro a hs
                          refine a_val hs rfl rfl rfl (y_pick hs rfl rfl rfl) ?_; clear hs a; intro a hs
                          refine a_val hs rfl rfl rfl (y_move hs rfl) ?_; clear hs a; intro a hs
                          refine a_valG hs rfl rfl rfl (y_move hs rfl) ?_; clear hs a; intro a hs
                          refine a_valG hs rfl rfl rfl (y_cmp (b := false) hs rfl rfl (congrArg some (by rw [show ((c.toNat : Nat) : Int) = 9 by omega]; rfl))) ?_; clear hs a; intro a hs
                          refine a_val hs rfl rfl rfl (y_pick hs rfl rfl rfl) ?_; clear hs a; intro a hs
                          refine wpList_nil ?_
                          repeat first | with_reducible refine in_normal ?_ | with_reducible refine then_normal ?_ | with_reducible refine then_ret ?_ | with_reducible refine in_ret ?_ | with_reducible refine then_exit ?_ | with_reducible refine in_here ?_ | with_reducible refine in_other rfl ?_ | with_reducible refine then_goto ?_ | with_reducible refine in_goto ?_ | with_reducible refine jump_normal ?_ | with_reducible refine jump_ret ?_ | with_reducible refine jump_goto ?_
                          repeat with_reducible refine wp_seq ?_
                          refine wp_cond_false (hs.ev rfl) ?_
                          repeat with_reducible refine wp_seq ?_
                          refine wp_skip ?_
                          repeat first | with_reducible refine in_normal ?_ | with_reducible refine then_normal ?_ | with_reducible refine then_ret ?_ | with_reducible refine in_ret ?_ | with_reducible refine then_exit ?_ | with_reducible refine in_here ?_ | with_reducible refine in_other rfl ?_
                          rw [if_neg (fun h => h.2.2 c9)] at hF
                          refine ⟨(p + 1), q, r, false, ⟨0, ⟨#[]⟩, 0, q, r⟩, by omega, by omega, by omega, by omega, ?_, (hs.mem_to (((hs.mem.to 2 rfl).to 2 rfl).to 2 rfl)).cut _ ⟨rfl, rfl, rfl, rfl, rfl, rfl, rfl, rfl, rfl, trivial⟩⟩
                          rw [if_pos rfl, show r + (p + 1 - p) = r + 1 by omega]; exact hF
                        · repeat with_reducible refine wp_seq ?_
                          refine wp_region_lit ?_
                          refine a_val hs rfl rfl rfl (y_move hs rfl) ?_; clear hs a; intro a hs
                          refine a_val hs rfl rfl rfl (y_not hs rfl) ?_; clear hs a; intro a hs
                          refine a_val hs rfl rfl rfl (y_move hs rfl) ?_; clear hs a; intro a hs
                          refine a_valG hs rfl rfl rfl (y_move hs rfl) ?_; clear hs a; intro a hs
                          refine a_valG hs rfl rfl rfl (y_cmp (b := true) hs rfl rfl (congrArg some (bne_iff_ne.2 (by omega)))) ?_; clear hs a; intro a hs
                          refine a_val hs rfl rfl rfl (y_pick hs rfl rfl rfl) ?_; clear hs a; intro a hs
                          refine a_val hs rfl rfl rfl (y_move hs rfl) ?_; clear hs a; intro a hs
                          refine a_valG hs rfl rfl rfl (y_move hs rfl) ?_; clear hs a; intro a hs
                          refine a_valG hs rfl rfl rfl (y_cmp (b := true) hs rfl rfl (congrArg some (bne_iff_ne.2 (by omega)))) ?_; clear hs a; intro a hs
                          refine a_val hs rfl rfl rfl (y_pick hs rfl rfl rfl) ?_; clear hs a; intro a hs
                          refine wpList_nil ?_
                          repeat first | with_reducible refine in_normal ?_ | with_reducible refine then_normal ?_ | with_reducible refine then_ret ?_ | with_reducible refine in_ret ?_ | with_reducible refine then_exit ?_ | with_reducible refine in_here ?_ | with_reducible refine in_other rfl ?_ | with_reducible refine then_goto ?_ | with_reducible refine in_goto ?_ | with_reducible refine jump_normal ?_ | with_reducible refine jump_ret ?_ | with_reducible refine jump_goto ?_
                          repeat with_reducible refine wp_seq ?_
                          refine wp_cond_true (hs.ev rfl) ?_
                          rw [if_pos ⟨rfl, c32, c9⟩] at hF
                          repeat with_reducible refine wp_seq ?_
                          refine wp_region_lit ?_
                          refine a_val hs rfl rfl rfl (y_move hs rfl) ?_; clear hs a; intro a hs
                          refine a_val hs rfl rfl rfl (y_move hs rfl) ?_; clear hs a; intro a hs
                          refine a_eff rfl (e_callB Tryd.func29 rfl rfl hs rfl rfl (recoupref09_Fault.calls _ _ s _ _ _ _ _ (refFault s hz (p) (by omega))) ?_); clear hs a; intro a w hs
                          refine a_val hs rfl rfl rfl (y_assign hs rfl) ?_; clear hs a; intro a hs
                          refine a_eff rfl (e_store (cl := [_, _, _]) 1 rfl hs rfl rfl (by kernel_rfl) rfl rfl rfl ?_); clear hs a; intro a w hs
                          refine wpList_nil ?_
                          repeat first | with_reducible refine in_normal ?_ | with_reducible refine then_normal ?_ | with_reducible refine then_ret ?_ | with_reducible refine in_ret ?_ | with_reducible refine then_exit ?_ | with_reducible refine in_here ?_ | with_reducible refine in_other rfl ?_ | with_reducible refine then_goto ?_ | with_reducible refine in_goto ?_ | with_reducible refine jump_normal ?_ | with_reducible refine jump_ret ?_ | with_reducible refine jump_goto ?_
                          injection hF with hF
                          injection hF with h1 hF
                          injection hF with h2 hF
                          injection hF with h3 h4
                          subst h1 h2 h3 h4
                          repeat with_reducible refine wp_seq ?_
                          refine wp_ret ?_
                          repeat first | with_reducible refine in_normal ?_ | with_reducible refine then_normal ?_ | with_reducible refine then_ret ?_ | with_reducible refine in_ret ?_ | with_reducible refine then_exit ?_ | with_reducible refine in_here ?_ | with_reducible refine in_other rfl ?_ | with_reducible refine then_goto ?_ | with_reducible refine in_goto ?_ | with_reducible refine jump_normal ?_ | with_reducible refine jump_ret ?_ | with_reducible refine jump_goto ?_
                          refine fin_ret (vs := [.slice none (([] : List S34)).length 0, .agg #[.int .i64 (90), .int .i64 (((posF s (p)).1 : Int)), .int .i64 (((posF s (p)).2 : Int))]]) hs (.tmp (hs.slots _ _ rfl) (.cell (hs.slots 3 _ rfl) (hs.mem.to 0 rfl).cells Tryd.underlying25 rfl (by kernel_rfl) .nil)) ⟨none, 0, rfl, ((((hs.mem.to 0 rfl).drop.to 0 rfl).drop.to 0 rfl).drop.nilRow 34 5)⟩
        · clear hs a w
          rintro a w ⟨t, q1, r1, rm1, tk, h1, h2, h3, h4, hF, hs⟩
          by_cases hk : tk.f0 = 0
          · repeat with_reducible refine wp_seq ?_
            refine wp_region_lit ?_
            refine a_val hs rfl rfl rfl (y_faddr (k' := 0) 0 hs (by kernel_rfl) rfl rfl) ?_; clear hs a; intro a hs
            refine a_val hs rfl rfl rfl (y_load hs Tryd.underlying32 rfl rfl (fun w hw => (hw.to 0 rfl).cellV rfl)) ?_; clear hs a; intro a hs
            refine a_val hs rfl rfl rfl (y_cmp (b := false) hs rfl rfl (congrArg some (by rw [hk]; rfl))) ?_; clear hs a; intro a hs
            refine wpList_nil ?_
            repeat first | with_reducible refine in_normal ?_ | with_reducible refine then_normal ?_ | with_reducible refine then_ret ?_ | with_reducible refine in_ret ?_ | with_reducible refine then_exit ?_ | with_reducible refine in_here ?_ | with_reducible refine in_other rfl ?_ | with_reducible refine then_goto ?_ | with_reducible refine in_goto ?_ | with_reducible refine jump_normal ?_ | with_reducible refine jump_ret ?_ | with_reducible refine jump_goto ?_
            repeat with_reducible refine wp_seq ?_
            refine wp_cond_false (hs.ev rfl) ?_
            repeat with_reducible refine wp_seq ?_
            refine wp_skip ?_
            repeat first | with_reducible refine in_normal ?_ | with_reducible refine then_normal ?_ | with_reducible refine then_ret ?_ | with_reducible refine in_ret ?_ | with_reducible refine then_exit ?_ | with_reducible refine in_here ?_ | with_reducible refine in_other rfl ?_
            rw [if_pos hk] at hF
            repeat with_reducible refine wp_seq ?_
            refine wp_region_lit ?_
            refine a_val hs rfl rfl rfl (y_move hs rfl) ?_; clear hs a; intro a hs
            refine a_val hs rfl rfl rfl (y_move hs rfl) ?_; clear hs a; intro a hs
            refine a_val hs rfl rfl rfl (y_move hs rfl) ?_; clear hs a; intro a hs
            refine a_val hs rfl rfl rfl (y_sub hs rfl rfl (by omega)) ?_; clear hs a; intro a hs
            refine a_val hs rfl rfl rfl (y_add hs rfl rfl (by omega)) ?_; clear hs a; intro a hs
            refine a_val hs rfl rfl rfl (y_assign hs rfl) ?_; clear hs a; intro a hs
            refine wpList_nil ?_
            repeat first | with_reducible refine in_normal ?_ | with_reducible refine then_normal ?_ | with_reducible refine then_ret ?_ | with_reducible refine in_ret ?_ | with_reducible refine then_exit ?_ | with_reducible refine in_here ?_ | with_reducible refine in_other rfl ?_ | with_reducible refine then_goto ?_ | with_reducible refine in_goto ?_ | with_reducible refine jump_normal ?_ | with_reducible refine jump_ret ?_ | with_reducible refine jump_goto ?_
            repeat with_reducible refine wp_seq ?_
            refine wp_region_lit ?_
            refine a_val hs rfl rfl rfl (y_move hs rfl) ?_; clear hs a; intro a hs
            refine a_val hs rfl rfl rfl (y_assign hs rfl) ?_; clear hs a; intro a hs
            refine wpList_nil ?_
            repeat first | with_reducible refine in_normal ?_ | with_reducible refine then_normal ?_ | with_reducible refine then_ret ?_ | with_reducible refine in_ret ?_ | with_reducible refine then_exit ?_ | with_reducible refine in_here ?_ | with_reducible refine in_other rfl ?_ | with_reducible refine then_goto ?_ | with_reducible refine in_goto ?_ | with_reducible refine jump_normal ?_ | with_reducible refine jump_ret ?_ | with_reducible refine jump_goto ?_
            have e6 : ((r1 : Nat) : Int) + ((t : Int) - (p : Int)) = ((r1 + (t - p) : Nat) : Int) := by omega
            rw [e6] at hs
            exact ⟨m, by omega, t, q1, r1 + (t - p), rm1, l, A, c0, h2, h3, h4, by omega, hF, (hs.mem_to (((hs.mem.to 0 rfl).drop.to 1 rfl).to 1 rfl)).cut _ ⟨rfl, rfl, rfl, rfl, rfl, rfl, rfl, trivial⟩⟩
          · repeat with_reducible refine wp_seq ?_
            refine wp_region_lit ?_
            refine a_val hs rfl rfl rfl (y_faddr (k' := 0) 0 hs (by kernel_rfl) rfl rfl) ?_; clear hs a; intro a hs
            refine a_val hs rfl rfl rfl (y_load hs Tryd.underlying32 rfl rfl (fun w hw => (hw.to 0 rfl).cellV rfl)) ?_; clear hs a; intro a hs
            refine a_val hs rfl rfl rfl (y_cmp (b := true) hs rfl rfl (congrArg some (bne_iff_ne.2 (hk)))) ?_; clear hs a; intro a hs
            refine wpList_nil ?_
            repeat first | with_reducible refine in_normal ?_ | with_reducible refine then_normal ?_ | with_reducible refine then_ret ?_ | with_reducible refine in_ret ?_ | with_reducible refine then_exit ?_ | with_reducible refine in_here ?_ | with_reducible refine in_other rfl ?_ | with_reducible refine then_goto ?_ | with_reducible refine in_goto ?_ | with_reducible refine jump_normal ?_ | with_reducible refine jump_ret ?_ | with_reducible refine jump_goto ?_
            repeat with_reducible refine wp_seq ?_
            refine wp_cond_true (hs.ev rfl) ?_
            repeat with_reducible refine wp_seq ?_
            refine wp_region_lit ?_
            refine a_val hs rfl rfl rfl (y_move hs rfl) ?_; clear hs a; intro a hs
            refine a_val hs rfl rfl rfl (y_loadPt 0 rfl hs Tryd.underlying34 rfl (by kernel_rfl) rfl) ?_; clear hs a; intro a hs
            refine a_eff rfl (e_bslice (z := .agg #[.int .u8 0, .string ⟨#[]⟩, .int .i64 0, .int .i64 0, .int .i64 0]) (size := 5) (zc := #[.int .u8 0, .string ⟨#[]⟩, .int .i64 0, .int .i64 0, .int .i64 0]) (cl := [_, _, _, _, _]) hs rfl Tryd.underlying22 (by kernel_rfl) rfl rfl rfl (by kernel_rfl) (by rfl) rfl ?_); clear hs a; intro gn a w hs
            refine a_eff rfl (e_append (z := .agg #[.int .u8 0, .string ⟨#[]⟩, .int .i64 0, .int .i64 0, .int .i64 0]) (size := 5) (bytes := 48) 3 rfl 0 rfl hs rfl Tryd.underlying22 (by kernel_rfl) rfl rfl rfl rfl (news := tokC tk) rfl rfl rfl (by unfold maxLen; omega) (by omega) ?_); clear hs a; intro A2 c2 a w hs
            refine a_val hs rfl rfl rfl (y_assign hs rfl) ?_; clear hs a; intro a hs
            refine wpList_nil ?_
            repeat first | with_reducible refine in_normal ?_ | with_reducible refine then_normal ?_ | with_reducible refine then_ret ?_ | with_reducible refine in_ret ?_ | with_reducible refine then_exit ?_ | with_reducible refine in_here ?_ | with_reducible refine in_other rfl ?_ | with_reducible refine then_goto ?_ | with_reducible refine in_goto ?_ | with_reducible refine jump_normal ?_ | with_reducible refine jump_ret ?_ | with_reducible refine jump_goto ?_
            rw [if_neg hk] at hF
            have hsl : (l ++ [tk]).length = l.length + 1 := by simp
            repeat with_reducible refine wp_seq ?_
            refine wp_region_lit ?_
            refine a_val hs rfl rfl rfl (y_move hs rfl) ?_; clear hs a; intro a hs
            refine a_val hs rfl rfl rfl (y_move hs rfl) ?_; clear hs a; intro a hs
            refine a_val hs rfl rfl rfl (y_move hs rfl) ?_; clear hs a; intro a hs
            refine a_val hs rfl rfl rfl (y_sub hs rfl rfl (by omega)) ?_; clear hs a; intro a hs
            refine a_val hs rfl rfl rfl (y_add hs rfl rfl (by omega)) ?_; clear hs a; intro a hs
            refine a_val hs rfl rfl rfl (y_assign hs rfl) ?_; clear hs a; intro a hs
            refine wpList_nil ?_
            repeat first | with_reducible refine in_normal ?_ | with_reducible refine then_normal ?_ | with_reducible refine then_ret ?_ | with_reducible refine in_ret ?_ | with_reducible refine then_exit ?_ | with_reducible refine in_here ?_ | with_reducible refine in_other rfl ?_ | with_reducible refine then_goto ?_ | with_reducible refine in_goto ?_ | with_reducible refine jump_normal ?_ | with_reducible refine jump_ret ?_ | with_reducible refine jump_goto ?_
            repeat with_reducible refine wp_seq ?_
            refine wp_region_lit ?_
            refine a_val hs rfl rfl rfl (y_move hs rfl) ?_; clear hs a; intro a hs
            refine a_val hs rfl rfl rfl (y_assign hs rfl) ?_; clear hs a; intro a hs
            refine wpList_nil ?_
            repeat first | with_reducible refine in_normal ?_ | with_reducible refine then_normal ?_ | with_reducible refine then_ret ?_ | with_reducible refine in_ret ?_ | with_reducible refine then_exit ?_ | with_reducible refine in_here ?_ | with_reducible refine in_other rfl ?_ | with_reducible refine then_goto ?_ | with_reducible refine in_goto ?_ | with_reducible refine jump_normal ?_ | with_reducible refine jump_ret ?_ | with_reducible refine jump_goto ?_
            have e6 : ((r1 : Nat) : Int) + ((t : Int) - (p : Int)) = ((r1 + (t - p) : Nat) : Int) := by omega
            rw [e6] at hs
            refine ⟨m, by omega, t, q1, r1 + (t - p), rm1, l ++ [tk], A2, c2, h2, h3, h4, by simp; omega, hF, ?_⟩
            rw [hsl]
            exact (hs.mem_to (snoc_row ((((hs.mem.to 1 rfl).drop.to 1 rfl).drop.to 1 rfl).to 1 rfl))).cut _ ⟨rfl, rfl, rfl, rfl, rfl, rfl, rfl, trivial⟩
      · repeat with_reducible refine wp_seq ?_
        refine wp_region_lit ?_
        refine a_val hs rfl rfl rfl (y_move hs rfl) ?_; clear hs a; intro a hs
        refine a_val hs rfl rfl rfl (y_move hs rfl) ?_; clear hs a; intro a hs
        refine a_val hs rfl rfl rfl (y_lenS hs Tryd.underlying9 rfl) ?_; clear hs a; intro a hs
        refine a_val hs rfl rfl rfl (y_cmp (b := false) hs rfl rfl (congrArg some (decide_eq_false (by omega)))) ?_; clear hs a; intro a hs
        refine wpList_nil ?_
        repeat first | with_reducible refine in_normal ?_ | with_reducible refine then_normal ?_ | with_reducible refine then_ret ?_ | with_reducible refine in_ret ?_ | with_reducible refine then_exit ?_ | with_reducible refine in_here ?_ | with_reducible refine in_other rfl ?_ | with_reducible refine then_goto ?_ | with_reducible refine in_goto ?_ | with_reducible refine jump_normal ?_ | with_reducible refine jump_ret ?_ | with_reducible refine jump_goto ?_
        repeat with_reducible refine wp_seq ?_
        refine wp_cond_false (hs.ev rfl) ?_
        repeat with_reducible refine wp_seq ?_
        refine wp_exit ?_
        repeat first | with_reducible refine in_normal ?_ | with_reducible refine then_normal ?_ | with_reducible refine then_ret ?_ | with_reducible refine in_ret ?_ | with_reducible refine then_exit ?_ | with_reducible refine in_here ?_ | with_reducible refine in_other rfl ?_ | with_reducible refine then_goto ?_ | with_reducible refine in_goto ?_ | with_reducible refine jump_normal ?_ | with_reducible refine jump_ret ?_ | with_reducible refine jump_goto ?_
        rw [refF, if_neg hlt] at hF
        injection hF with hF
        injection hF with h1 hF
        injection hF with h2 hF
        injection hF with h3 h4
        subst h1 h2 h3 h4
        repeat with_reducible refine wp_seq ?_
        refine wp_region_lit ?_
        refine a_val hs rfl rfl rfl (y_move hs rfl) ?_; clear hs a; intro a hs
        refine a_val hs rfl rfl rfl (y_struct (zc := #[.int .i64 0, .int .i64 0, .int .i64 0]) (pl := [(0, 1), (1, 1), (2, 1)]) (cl := [.int .i64 0, .int .i64 0, .int .i64 0]) hs (by kernel_rfl) rfl (by rfl) rfl) ?_; clear hs a; intro a hs
        refine a_val hs rfl rfl rfl (y_assign hs rfl) ?_; clear hs a; intro a hs
        refine a_eff rfl (e_store (cl := [_, _, _]) 0 rfl hs rfl rfl (by kernel_rfl) rfl rfl rfl ?_); clear hs a; intro a w hs
        refine wpList_nil ?_
        repeat first | with_reducible refine in_normal ?_ | with_reducible refine then_normal ?_ | with_reducible refine then_ret ?_ | with_reducible refine in_ret ?_ | with_reducible refine then_exit ?_ | with_reducible refine in_here ?_ | with_reducible refine in_other rfl ?_ | with_reducible refine then_goto ?_ | with_reducible refine in_goto ?_ | with_reducible refine jump_normal ?_ | with_reducible refine jump_ret ?_ | with_reducible refine jump_goto ?_
        repeat with_reducible refine wp_seq ?_
        refine wp_ret ?_
        repeat first | with_reducible refine in_normal ?_ | with_reducible refine then_normal ?_ | with_reducible refine then_ret ?_ | with_reducible refine in_ret ?_ | with_reducible refine then_exit ?_ | with_reducible refine in_here ?_ | with_reducible refine in_other rfl ?_ | with_reducible refine then_goto ?_ | with_reducible refine in_goto ?_ | with_reducible refine jump_normal ?_ | with_reducible refine jump_ret ?_ | with_reducible refine jump_goto ?_
        refine fin_ret (vs := [.slice A (l).length c0, .agg #[.int .i64 (0), .int .i64 (0), .int .i64 (0)]]) hs (.tmp (hs.slots _ _ rfl) (.cell (hs.slots 3 _ rfl) (hs.mem.to 0 rfl).cells Tryd.underlying25 rfl (by kernel_rfl) .nil)) ⟨A, c0, rfl, (hs.mem.to 0 rfl).drop⟩
end Go.Proofs.YtbljojjacfmggaaDoor.E
