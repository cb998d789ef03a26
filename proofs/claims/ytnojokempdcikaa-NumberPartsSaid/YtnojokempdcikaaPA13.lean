/- Printed by a program of this repo over the kit's printer: functions of the given program as plain Lean functions, each with the proof that the call does what it says. -/
import Derived.Test.YtnojokempdcikaaPA0
import Derived.Test.YtnojokempdcikaaPA7
import Derived.Test.YtnojokempdcikaaPA9
import Derived.Test.YtnojokempdcikaaPA11
import Derived.Test.YtnojokempdcikaaPA12
import Derived.Deep.WholeRow
import Derived.Laws.Tables
namespace Go.Proofs.Ytnojokempdcikaa.PA
open Go.RowKit Go.Proofs.YtnojokempdcikaaW.PrintWords Go.Proofs.YtnojokempdcikaaW.PrintLast Go.Proofs.YtnojokempdcikaaW.PrintMore
attribute [local go_sem] max2_int min2_int max_two min_two max_three min_three max_four min_four   -- for this text's walks alone
set_option linter.unusedVariables false
set_option linter.unusedSimpArgs false

/-! ### tree_walk_expr: function 58 -/
--OWNPART Derived.Deep.WholeRow Derived.Laws.Tables
open Go.RowKit
/-- How many parts an expression of its kind has; none: it may not be. -/
def exprParts (x : S25) : Option Int :=
  if x.f0 = 1 then (if x.f1 < 0 then none else if x.f1 > 2147483647 then none else if x.f2.toList = ([] : List UInt8) then some 0 else none)
  else if x.f0 = 2 then (if x.f1 = 0 then (if nameOk x.f2 = true then some 0 else none) else none)
  else if x.f0 = 3 then (if x.f1 = 0 then (if x.f2.toList = ([] : List UInt8) then some 1 else none) else none)
  else if x.f0 = 4 ∨ x.f0 = 5 ∨ x.f0 = 6 ∨ x.f0 = 7 ∨ x.f0 = 8 then (if x.f1 = 0 then (if x.f2.toList = ([] : List UInt8) then some 2 else none) else none)
  else none
def xexprs (f : S25 → Int → Int × Int) : List S25 → Int → Int → Int × Int
  | [], d, left => (wrap64 (d + 1), left)
  | p :: ps, d, left => if (f p left).1 = 0 then (0, (f p left).2) else xexprs f ps (if d < (f p left).1 then (f p left).1 else d) (f p left).2
/-- How deep an expression is, so many levels being allowed (0: it may not be), and how many nodes are left behind it. -/
def xexpr : Nat → S25 → Int → Int × Int
  | 0, _, left => (0, left)
  | n + 1, x, left => if wrap64 (left - 1) < 0 then (0, wrap64 (left - 1)) else
    match exprParts x with
    | none => (0, wrap64 (left - 1))
    | some p => if (x.f3.length : Int) = p then xexprs (xexpr n) x.f3 0 (wrap64 (left - 1)) else (0, wrap64 (left - 1))
def smallB : Nat → S25 → Bool
  | 0, _ => true
  | n + 1, x => decide (x.f2.size ≤ 9223372036854775807) && x.f3.all (smallB n)
theorem tnamed_ok (s : ByteArray) (hs : s.size ≤ 9223372036854775807) : tree_named.f (s.size + 3) s = some (nameOk s) := by
  unfold tree_named.f
  rw [may_name s hs]; rfl
theorem exprInfo : (Try.prog.info? 25).map (·.size) = some 6 := by kernel_rfl
theorem xone6 (a b c d : Int) (s : ByteArray) (A : Option Addr) (n m : Nat) : (#[.int .u8 a, .int .i64 b, .string s, .slice A n m, .int .i64 c, .int .i64 d] : Array Value).all (·.oneCell') = true := by simp [Value.oneCell']
theorem xbelow_base {w0 w w1 : World} (h : Below w0.heap.size w0 w) (k : Below w.heap.size w w1) : Below w0.heap.size w0 w1 := h.trans (k.mono h.size)
theorem rd_drop25 (l : List S25) (i : Nat) (h : i < l.length) : l.drop i = rd_T25 l (i : Int) :: l.drop (i + 1) := by
  rw [List.drop_eq_getElem_cons h]
  unfold rd_T25
  rw [Int.toNat_natCast, List.getD_eq_getElem?_getD, List.getElem?_eq_getElem h]; rfl
theorem rd_mem25 (l : List S25) (i : Nat) (h : i < l.length) : rd_T25 l (i : Int) ∈ l := by
  unfold rd_T25
  rw [Int.toNat_natCast, List.getD_eq_getElem?_getD, List.getElem?_eq_getElem h]; exact List.getElem_mem h
theorem exprParts_le (x : S25) (p : Int) (h : exprParts x = some p) : p ≤ 2 := by
  unfold exprParts at h
  repeat' split at h
  all_goals first | (cases h; omega) | cases h
set_option maxHeartbeats 8000000 in
set_option maxRecDepth 100000 in
theorem walk_expr.walk : ∀ (n : Nat) (L : Int) (K N : Int) (S : ByteArray) (A : Option Addr) (C : Nat) (l : List S25) (I O : Int) (g : Nat) (left : Int) (w0 w : World), L = n → n ≤ 1000000 → IsS102 w0 w g left → Below w0.heap.size w0 w → Kd.C k25 w0 A l.length l → smallB n ⟨K, N, S, l, I, O⟩ = true →
    Calls Try.prog 58 #[.pointer (some ⟨g, 0, none⟩), .agg #[.int .u8 K, .int .i64 N, .string S, .slice A l.length C, .int .i64 I, .int .i64 O], .int .i64 L] w fun e w' =>
      e = .returned (.int .i64 (xexpr n ⟨K, N, S, l, I, O⟩ left).1) ∧ IsS102 w0 w' g (xexpr n ⟨K, N, S, l, I, O⟩ left).2 ∧ Below w0.heap.size w0 w' ∧ KeepBut w w' g none := by
  intro n
  induction n with
  | zero =>
    intro L K N S A C l I O g left w0 w hL hn hI hB hR hsm
    subst hL
    have HI := Aside0.mk hI
    have HB := Aside0.mk hB
    clear hI hB hR hsm hn
    go_enter Try.func58, Try.ntmps58
    go_wp2_with (first | ((with_reducible refine gate_dst (N := 4) rfl ?_); refine box_event ?hg (N := 4) ?hd (cs := #[.int .u8 K, .int .i64 N, .string S, .slice A l.length C, .int .i64 I, .int .i64 O]) (t := 25) ?hr ?_; (case hd => rfl); (case hg => rfl); (case hr => first | (go_simp; done) | (go_simp; rfl)); intro gx hg w1 hbox hb; have BX := Aside0.mk hbox; have HB1 := Aside0.mk (xbelow_base HB.out hb); have HI1 := Aside0.mk (HI.out.below hb); have GX := Aside0.mk (show w.heap.size ≤ gx from by rw [hg]; exact Nat.le_refl _); have NX := Aside0.mk (show gx ≠ g from fun e => by have := HI.out.lt; omega); have HK1 := Aside0.mk (KeepBut.of_below hb g none); clear hbox hb hg))
    go_ret
    exact ⟨rfl, HI1.out, HB1.out, HK1.out⟩
  | succ n ih =>
    intro L K N S A C l I O g left w0 w hL hn hI hB hR hsm
    have HIH := Aside0.mk ih
    clear ih
    have hL0 : (L == 0) = false := by rw [hL]; exact beq_eq_false_iff_ne.2 (by omega)
    have HL1 := Aside0.mk (show wrap64 (L - 1) = (n : Int) by rw [hL, xw64 (by omega) (by omega)]; omega)
    have HN := Aside0.mk hn
    have HI := Aside0.mk hI
    have HB := Aside0.mk hB
    have HR := Aside0.mk hR
    have HS := Aside0.mk hsm
    clear hI hB hR hsm hn hL
    obtain ⟨R, hR⟩ : ∃ R, xexpr (n + 1) ⟨K, N, S, l, I, O⟩ left = R := ⟨_, rfl⟩
    have HRR := Aside0.mk hR
    rw [hR]
    clear hR
    go_enter Try.func58, Try.ntmps58
    by_cases c0 : wrap64 (left - 1) < 0
    · have d0 := Aside0.mk (show decide (wrap64 (left - 1) ≥ 0) = false from decide_eq_false (by omega))
      have hR : (0, wrap64 (left - 1)) = R := by
        have h := HRR.out
        simp only [xexpr] at h
        rw [if_pos c0] at h; exact h
      have HE := Aside0.mk hR
      clear hR c0
      go_wp2_with (first | ((with_reducible refine gate_dst (N := 4) rfl ?_); refine box_event ?hg (N := 4) ?hd (cs := #[.int .u8 K, .int .i64 N, .string S, .slice A l.length C, .int .i64 I, .int .i64 O]) (t := 25) ?hr ?_; (case hd => rfl); (case hg => rfl); (case hr => first | (go_simp; done) | (go_simp; rfl)); intro gx hg w1 hbox hb; have BX := Aside0.mk hbox; have HB1 := Aside0.mk (xbelow_base HB.out hb); have HI1 := Aside0.mk (HI.out.below hb); have GX := Aside0.mk (show w.heap.size ≤ gx from by rw [hg]; exact Nat.le_refl _); have NX := Aside0.mk (show gx ≠ g from fun e => by have := HI.out.lt; omega); have HK1 := Aside0.mk (KeepBut.of_below hb g none); clear hbox hb hg) | (go_at_call 66; refine (tree_walk_node.calls g left false (wrap64 (left - 1)) w0 _ HI1.out HB1.out (by unfold tree_walk_node.f; rw [d0.out])).mono ?_; rintro e w2 ⟨rfl, hi, hb, hk⟩; have HI2 := Aside0.mk hi; have HB2 := Aside0.mk hb; have HK2 := Aside0.mk (HK1.out.trans hk (.inl rfl)); have BX2 := Aside0.mk (hk.blk BX.out NX.out (by simp)); clear hi hb hk))
      go_ret
      have hE := HE.out
      subst hE
      exact ⟨rfl, HI2.out, HB2.out, HK2.out⟩
    · have d0 := Aside0.mk (show decide (wrap64 (left - 1) ≥ 0) = true from decide_eq_true (by omega))
      have HE := Aside0.mk (show (match exprParts ⟨K, N, S, l, I, O⟩ with
          | none => (0, wrap64 (left - 1))
          | some p => if (l.length : Int) = p then xexprs (xexpr n) l 0 (wrap64 (left - 1)) else (0, wrap64 (left - 1))) = R by
        have h := HRR.out
        simp only [xexpr] at h
        rw [if_neg c0] at h; exact h)
      clear c0
      have HNM := Aside0.mk (tnamed_ok S (by have h := HS.out; simp only [smallB, Bool.and_eq_true, decide_eq_true_iff] at h; exact h.1))
      clear HRR
      go_upto_region 4 with (first | ((with_reducible refine gate_dst (N := 4) rfl ?_); refine box_event ?hg (N := 4) ?hd (cs := #[.int .u8 K, .int .i64 N, .string S, .slice A l.length C, .int .i64 I, .int .i64 O]) (t := 25) ?hr ?_; (case hd => rfl); (case hg => rfl); (case hr => first | (go_simp; done) | (go_simp; rfl)); intro gx hg w1 hbox hb; have BX := Aside0.mk hbox; have HB1 := Aside0.mk (xbelow_base HB.out hb); have HI1 := Aside0.mk (HI.out.below hb); have GX := Aside0.mk (show w.heap.size ≤ gx from by rw [hg]; exact Nat.le_refl _); have NX := Aside0.mk (show gx ≠ g from fun e => by have := HI.out.lt; omega); have HK1 := Aside0.mk (KeepBut.of_below hb g none); clear hbox hb hg) | (go_at_call 66; refine (tree_walk_node.calls g left true (wrap64 (left - 1)) w0 _ HI1.out HB1.out (by unfold tree_walk_node.f; rw [d0.out])).mono ?_; rintro e w2 ⟨rfl, hi, hb, hk⟩; have HI2 := Aside0.mk hi; have HB2 := Aside0.mk hb; have HK2 := Aside0.mk (HK1.out.trans hk (.inl rfl)); have BX2 := Aside0.mk (hk.blk BX.out NX.out (by simp)); clear hi hb hk))
      have hz0 : w2.cell? ⟨gx, 0, none⟩ = some (.int .u8 K) := (blk_cell BX2.out 0).trans rfl; have hz1 : w2.cell? ⟨gx, 1, none⟩ = some (.int .i64 N) := (blk_cell BX2.out 1).trans rfl; have hz2 : w2.cell? ⟨gx, 2, none⟩ = some (.string S) := (blk_cell BX2.out 2).trans rfl; have hz3 : w2.cell? ⟨gx, 3, none⟩ = some (.slice A l.length C) := (blk_cell BX2.out 3).trans rfl; have hz4 : w2.cell? ⟨gx, 4, none⟩ = some (.int .i64 I) := (blk_cell BX2.out 4).trans rfl; have hz5 : w2.cell? ⟨gx, 5, none⟩ = some (.int .i64 O) := (blk_cell BX2.out 5).trans rfl
      (try simp only [Act.put, List.setIfInBounds_toArray, List.set_cons_zero, List.set_cons_succ])
      go_upto_block 0 with (fail)
      go_cut [7] (fun v7 wc => ∃ p : Int, v7 = .int .i64 p ∧ Aside0 (exprParts ⟨K, N, S, l, I, O⟩ = some p) ∧ Aside0 (wc.heap[gx]? = some (.cells #[.int .u8 K, .int .i64 N, .string S, .slice A l.length C, .int .i64 I, .int .i64 O] 25 (0, 0))) ∧ Aside0 (IsS102 w0 wc g (wrap64 (left - 1))) ∧ Aside0 (Below w0.heap.size w0 wc) ∧ Aside0 (KeepBut w wc g none))
      case first =>
          by_cases k1 : K = 1
          · subst k1
            by_cases c1 : N < 0
            · have c1b : decide (N < 0) = true := decide_eq_true c1
              have hP : exprParts ⟨1, N, S, l, I, O⟩ = none := by simp [exprParts, c1]
              have hE := HE.out
              rw [hP] at hE
              have HE2 := Aside0.mk (show (0, wrap64 (left - 1)) = R from hE)
              clear hE hP c1
              go_wp2
              go_ret
              have hE := HE2.out
              subst hE
              exact ⟨rfl, HI2.out, HB2.out, HK2.out⟩
            · have c1b : decide (N < 0) = false := decide_eq_false c1
              by_cases c2 : N > 2147483647
              · have c2b : decide (2147483647 < N) = true := decide_eq_true c2
                have hP : exprParts ⟨1, N, S, l, I, O⟩ = none := by simp [exprParts, c1, c2]
                have hE := HE.out
                rw [hP] at hE
                have HE2 := Aside0.mk (show (0, wrap64 (left - 1)) = R from hE)
                clear hE hP c1 c2
                go_wp2
                go_ret
                have hE := HE2.out
                subst hE
                exact ⟨rfl, HI2.out, HB2.out, HK2.out⟩
              · have c2b : decide (2147483647 < N) = false := decide_eq_false c2
                by_cases c3 : S.toList = ([] : List UInt8)
                · have c3b : S.toList.isEmpty = true := List.isEmpty_iff.2 c3
                  have hP : exprParts ⟨1, N, S, l, I, O⟩ = some 0 := by simp [exprParts, c1, c2, c3]
                  have HP := Aside0.mk hP
                  clear hP c1 c2 c3
                  go_wp2
                  go_meet
                  case rel => exact ⟨0, rfl, HP, BX2, HI2, HB2, HK2⟩
                · have c3b : S.toList.isEmpty = false := Bool.eq_false_iff.2 (fun h => c3 (List.isEmpty_iff.1 h))
                  have hP : exprParts ⟨1, N, S, l, I, O⟩ = none := by simp [exprParts, c1, c2, c3]
                  have hE := HE.out
                  rw [hP] at hE
                  have HE2 := Aside0.mk (show (0, wrap64 (left - 1)) = R from hE)
                  clear hE hP c1 c2 c3
                  go_wp2
                  go_ret
                  have hE := HE2.out
                  subst hE
                  exact ⟨rfl, HI2.out, HB2.out, HK2.out⟩
          · have k1b : (K == 1) = false := beq_eq_false_iff_ne.2 k1
            by_cases k2 : K = 2
            · subst k2
              by_cases c1 : N = 0
              · have c1b : (N != 0) = false := bne_eq_false_iff_eq.mpr c1
                cases c2 : nameOk S with
                | true =>
                  rw [c2] at HNM
                  have hP : exprParts ⟨2, N, S, l, I, O⟩ = some 0 := by simp [exprParts, c1, c2]
                  have HP := Aside0.mk hP
                  clear hP c1 c2
                  go_wp2_with (first | (go_at_call 67; refine (tree_named.calls (S.size + 3) S true _ HNM.out).mono ?_; rintro e w3 ⟨rfl, hb⟩; have HI3 := Aside0.mk (HI2.out.below hb); have HB3 := Aside0.mk (xbelow_base HB2.out hb); have HK3 := Aside0.mk (HK2.out.trans (KeepBut.of_below hb g none) (.inl rfl)); have BX3 := Aside0.mk (blk_below BX2.out hb); clear hb))
                  go_meet
                  case rel => exact ⟨0, rfl, HP, BX3, HI3, HB3, HK3⟩
                | false =>
                  rw [c2] at HNM
                  have hP : exprParts ⟨2, N, S, l, I, O⟩ = none := by simp [exprParts, c1, c2]
                  have hE := HE.out
                  rw [hP] at hE
                  have HE2 := Aside0.mk (show (0, wrap64 (left - 1)) = R from hE)
                  clear hE hP c1 c2
                  go_wp2_with (first | (go_at_call 67; refine (tree_named.calls (S.size + 3) S false _ HNM.out).mono ?_; rintro e w3 ⟨rfl, hb⟩; have HI3 := Aside0.mk (HI2.out.below hb); have HB3 := Aside0.mk (xbelow_base HB2.out hb); have HK3 := Aside0.mk (HK2.out.trans (KeepBut.of_below hb g none) (.inl rfl)); have BX3 := Aside0.mk (blk_below BX2.out hb); clear hb))
                  go_ret
                  have hE := HE2.out
                  subst hE
                  exact ⟨rfl, HI3.out, HB3.out, HK3.out⟩
              · have c1b : (N != 0) = true := bne_iff_ne.mpr c1
                have hP : exprParts ⟨2, N, S, l, I, O⟩ = none := by simp [exprParts, c1]
                have hE := HE.out
                rw [hP] at hE
                have HE2 := Aside0.mk (show (0, wrap64 (left - 1)) = R from hE)
                clear hE hP c1
                go_wp2
                go_ret
                have hE := HE2.out
                subst hE
                exact ⟨rfl, HI2.out, HB2.out, HK2.out⟩
            · have k2b : (K == 2) = false := beq_eq_false_iff_ne.2 k2
              by_cases k3 : K = 3
              · subst k3
                by_cases c1 : N = 0
                · have c1b : (N != 0) = false := bne_eq_false_iff_eq.mpr c1
                  by_cases c3 : S.toList = ([] : List UInt8)
                  · have c3b : S.toList.isEmpty = true := List.isEmpty_iff.2 c3
                    have hP : exprParts ⟨3, N, S, l, I, O⟩ = some 1 := by simp [exprParts, c1, c3]
                    have HP := Aside0.mk hP
                    clear hP c1 c3
                    go_wp2
                    go_meet
                    case rel => exact ⟨1, rfl, HP, BX2, HI2, HB2, HK2⟩
                  · have c3b : S.toList.isEmpty = false := Bool.eq_false_iff.2 (fun h => c3 (List.isEmpty_iff.1 h))
                    have hP : exprParts ⟨3, N, S, l, I, O⟩ = none := by simp [exprParts, c1, c3]
                    have hE := HE.out
                    rw [hP] at hE
                    have HE2 := Aside0.mk (show (0, wrap64 (left - 1)) = R from hE)
                    clear hE hP c1 c3
                    go_wp2
                    go_ret
                    have hE := HE2.out
                    subst hE
                    exact ⟨rfl, HI2.out, HB2.out, HK2.out⟩
                · have c1b : (N != 0) = true := bne_iff_ne.mpr c1
                  have hP : exprParts ⟨3, N, S, l, I, O⟩ = none := by simp [exprParts, c1]
                  have hE := HE.out
                  rw [hP] at hE
                  have HE2 := Aside0.mk (show (0, wrap64 (left - 1)) = R from hE)
                  clear hE hP c1
                  go_wp2
                  go_ret
                  have hE := HE2.out
                  subst hE
                  exact ⟨rfl, HI2.out, HB2.out, HK2.out⟩
              · have k3b : (K == 3) = false := beq_eq_false_iff_ne.2 k3
                by_cases k4 : K = 4
                · subst k4
                  by_cases c1 : N = 0
                  · have c1b : (N != 0) = false := bne_eq_false_iff_eq.mpr c1
                    by_cases c3 : S.toList = ([] : List UInt8)
                    · have c3b : S.toList.isEmpty = true := List.isEmpty_iff.2 c3
                      have hP : exprParts ⟨4, N, S, l, I, O⟩ = some 2 := by simp [exprParts, c1, c3]
                      have HP := Aside0.mk hP
                      clear hP c1 c3
                      go_wp2
                      go_meet
                      case rel => exact ⟨2, rfl, HP, BX2, HI2, HB2, HK2⟩
                    · have c3b : S.toList.isEmpty = false := Bool.eq_false_iff.2 (fun h => c3 (List.isEmpty_iff.1 h))
                      have hP : exprParts ⟨4, N, S, l, I, O⟩ = none := by simp [exprParts, c1, c3]
                      have hE := HE.out
                      rw [hP] at hE
                      have HE2 := Aside0.mk (show (0, wrap64 (left - 1)) = R from hE)
                      clear hE hP c1 c3
                      go_wp2
                      go_ret
                      have hE := HE2.out
                      subst hE
                      exact ⟨rfl, HI2.out, HB2.out, HK2.out⟩
                  · have c1b : (N != 0) = true := bne_iff_ne.mpr c1
                    have hP : exprParts ⟨4, N, S, l, I, O⟩ = none := by simp [exprParts, c1]
                    have hE := HE.out
                    rw [hP] at hE
                    have HE2 := Aside0.mk (show (0, wrap64 (left - 1)) = R from hE)
                    clear hE hP c1
                    go_wp2
                    go_ret
                    have hE := HE2.out
                    subst hE
                    exact ⟨rfl, HI2.out, HB2.out, HK2.out⟩
                · have k4b : (K == 4) = false := beq_eq_false_iff_ne.2 k4
                  by_cases k5 : K = 5
                  · subst k5
                    by_cases c1 : N = 0
                    · have c1b : (N != 0) = false := bne_eq_false_iff_eq.mpr c1
                      by_cases c3 : S.toList = ([] : List UInt8)
                      · have c3b : S.toList.isEmpty = true := List.isEmpty_iff.2 c3
                        have hP : exprParts ⟨5, N, S, l, I, O⟩ = some 2 := by simp [exprParts, c1, c3]
                        have HP := Aside0.mk hP
                        clear hP c1 c3
                        go_wp2
                        go_meet
                        case rel => exact ⟨2, rfl, HP, BX2, HI2, HB2, HK2⟩
                      · have c3b : S.toList.isEmpty = false := Bool.eq_false_iff.2 (fun h => c3 (List.isEmpty_iff.1 h))
                        have hP : exprParts ⟨5, N, S, l, I, O⟩ = none := by simp [exprParts, c1, c3]
                        have hE := HE.out
                        rw [hP] at hE
                        have HE2 := Aside0.mk (show (0, wrap64 (left - 1)) = R from hE)
                        clear hE hP c1 c3
                        go_wp2
                        go_ret
                        have hE := HE2.out
                        subst hE
                        exact ⟨rfl, HI2.out, HB2.out, HK2.out⟩
                    · have c1b : (N != 0) = true := bne_iff_ne.mpr c1
                      have hP : exprParts ⟨5, N, S, l, I, O⟩ = none := by simp [exprParts, c1]
                      have hE := HE.out
                      rw [hP] at hE
                      have HE2 := Aside0.mk (show (0, wrap64 (left - 1)) = R from hE)
                      clear hE hP c1
                      go_wp2
                      go_ret
                      have hE := HE2.out
                      subst hE
                      exact ⟨rfl, HI2.out, HB2.out, HK2.out⟩
                  · have k5b : (K == 5) = false := beq_eq_false_iff_ne.2 k5
                    by_cases k6 : K = 6
                    · subst k6
                      by_cases c1 : N = 0
                      · have c1b : (N != 0) = false := bne_eq_false_iff_eq.mpr c1
                        by_cases c3 : S.toList = ([] : List UInt8)
                        · have c3b : S.toList.isEmpty = true := List.isEmpty_iff.2 c3
                          have hP : exprParts ⟨6, N, S, l, I, O⟩ = some 2 := by simp [exprParts, c1, c3]
                          have HP := Aside0.mk hP
                          clear hP c1 c3
                          go_wp2
                          go_meet
                          case rel => exact ⟨2, rfl, HP, BX2, HI2, HB2, HK2⟩
                        · have c3b : S.toList.isEmpty = false := Bool.eq_false_iff.2 (fun h => c3 (List.isEmpty_iff.1 h))
                          have hP : exprParts ⟨6, N, S, l, I, O⟩ = none := by simp [exprParts, c1, c3]
                          have hE := HE.out
                          rw [hP] at hE
                          have HE2 := Aside0.mk (show (0, wrap64 (left - 1)) = R from hE)
                          clear hE hP c1 c3
                          go_wp2
                          go_ret
                          have hE := HE2.out
                          subst hE
                          exact ⟨rfl, HI2.out, HB2.out, HK2.out⟩
                      · have c1b : (N != 0) = true := bne_iff_ne.mpr c1
                        have hP : exprParts ⟨6, N, S, l, I, O⟩ = none := by simp [exprParts, c1]
                        have hE := HE.out
                        rw [hP] at hE
                        have HE2 := Aside0.mk (show (0, wrap64 (left - 1)) = R from hE)
                        clear hE hP c1
                        go_wp2
                        go_ret
                        have hE := HE2.out
                        subst hE
                        exact ⟨rfl, HI2.out, HB2.out, HK2.out⟩
                    · have k6b : (K == 6) = false := beq_eq_false_iff_ne.2 k6
                      by_cases k7 : K = 7
                      · subst k7
                        by_cases c1 : N = 0
                        · have c1b : (N != 0) = false := bne_eq_false_iff_eq.mpr c1
                          by_cases c3 : S.toList = ([] : List UInt8)
                          · have c3b : S.toList.isEmpty = true := List.isEmpty_iff.2 c3
                            have hP : exprParts ⟨7, N, S, l, I, O⟩ = some 2 := by simp [exprParts, c1, c3]
                            have HP := Aside0.mk hP
                            clear hP c1 c3
                            go_wp2
                            go_meet
                            case rel => exact ⟨2, rfl, HP, BX2, HI2, HB2, HK2⟩
                          · have c3b : S.toList.isEmpty = false := Bool.eq_false_iff.2 (fun h => c3 (List.isEmpty_iff.1 h))
                            have hP : exprParts ⟨7, N, S, l, I, O⟩ = none := by simp [exprParts, c1, c3]
                            have hE := HE.out
                            rw [hP] at hE
                            have HE2 := Aside0.mk (show (0, wrap64 (left - 1)) = R from hE)
                            clear hE hP c1 c3
                            go_wp2
                            go_ret
                            have hE := HE2.out
                            subst hE
                            exact ⟨rfl, HI2.out, HB2.out, HK2.out⟩
                        · have c1b : (N != 0) = true := bne_iff_ne.mpr c1
                          have hP : exprParts ⟨7, N, S, l, I, O⟩ = none := by simp [exprParts, c1]
                          have hE := HE.out
                          rw [hP] at hE
                          have HE2 := Aside0.mk (show (0, wrap64 (left - 1)) = R from hE)
                          clear hE hP c1
                          go_wp2
                          go_ret
                          have hE := HE2.out
                          subst hE
                          exact ⟨rfl, HI2.out, HB2.out, HK2.out⟩
                      · have k7b : (K == 7) = false := beq_eq_false_iff_ne.2 k7
                        by_cases k8 : K = 8
                        · subst k8
                          by_cases c1 : N = 0
                          · have c1b : (N != 0) = false := bne_eq_false_iff_eq.mpr c1
                            by_cases c3 : S.toList = ([] : List UInt8)
                            · have c3b : S.toList.isEmpty = true := List.isEmpty_iff.2 c3
                              have hP : exprParts ⟨8, N, S, l, I, O⟩ = some 2 := by simp [exprParts, c1, c3]
                              have HP := Aside0.mk hP
                              clear hP c1 c3
                              go_wp2
                              go_meet
                              case rel => exact ⟨2, rfl, HP, BX2, HI2, HB2, HK2⟩
                            · have c3b : S.toList.isEmpty = false := Bool.eq_false_iff.2 (fun h => c3 (List.isEmpty_iff.1 h))
                              have hP : exprParts ⟨8, N, S, l, I, O⟩ = none := by simp [exprParts, c1, c3]
                              have hE := HE.out
                              rw [hP] at hE
                              have HE2 := Aside0.mk (show (0, wrap64 (left - 1)) = R from hE)
                              clear hE hP c1 c3
                              go_wp2
                              go_ret
                              have hE := HE2.out
                              subst hE
                              exact ⟨rfl, HI2.out, HB2.out, HK2.out⟩
                          · have c1b : (N != 0) = true := bne_iff_ne.mpr c1
                            have hP : exprParts ⟨8, N, S, l, I, O⟩ = none := by simp [exprParts, c1]
                            have hE := HE.out
                            rw [hP] at hE
                            have HE2 := Aside0.mk (show (0, wrap64 (left - 1)) = R from hE)
                            clear hE hP c1
                            go_wp2
                            go_ret
                            have hE := HE2.out
                            subst hE
                            exact ⟨rfl, HI2.out, HB2.out, HK2.out⟩
                        · have k8b : (K == 8) = false := beq_eq_false_iff_ne.2 k8
                          have hP : exprParts ⟨K, N, S, l, I, O⟩ = none := by simp [exprParts, k1, k2, k3, k4, k5, k6, k7, k8]
                          have hE := HE.out
                          rw [hP] at hE
                          have HE2 := Aside0.mk (show (0, wrap64 (left - 1)) = R from hE)
                          clear hE hP k1 k2 k3 k4 k5 k6 k7 k8
                          go_wp2
                          go_ret
                          have hE := HE2.out
                          subst hE
                          exact ⟨rfl, HI2.out, HB2.out, HK2.out⟩
      case rest =>
        clear BX BX2 HI HI1 HI2 HB HB1 HB2 HK1 HK2 HNM
        clear hz0 hz1 hz2 hz3 hz4 hz5
        obtain ⟨p, rfl, HP, BX, HI, HB, HK⟩ := hcut
        have hE := HE.out
        clear HE
        rw [HP.out] at hE
        dsimp only at hE
        have hz0 : wc.cell? ⟨gx, 0, none⟩ = some (.int .u8 K) := (blk_cell BX.out 0).trans rfl; have hz1 : wc.cell? ⟨gx, 1, none⟩ = some (.int .i64 N) := (blk_cell BX.out 1).trans rfl; have hz2 : wc.cell? ⟨gx, 2, none⟩ = some (.string S) := (blk_cell BX.out 2).trans rfl; have hz3 : wc.cell? ⟨gx, 3, none⟩ = some (.slice A l.length C) := (blk_cell BX.out 3).trans rfl; have hz4 : wc.cell? ⟨gx, 4, none⟩ = some (.int .i64 I) := (blk_cell BX.out 4).trans rfl; have hz5 : wc.cell? ⟨gx, 5, none⟩ = some (.int .i64 O) := (blk_cell BX.out 5).trans rfl
        by_cases c1 : (l.length : Int) = p
        · rw [if_pos c1] at hE
          have c1b : ((l.length : Int) != p) = false := bne_eq_false_iff_eq.mpr c1
          have HLE := Aside0.mk (show l.length ≤ 2 by have := exprParts_le _ _ HP.out; omega)
          have HSM := Aside0.mk (show ∀ y ∈ l, smallB n y = true by have h := HS.out; simp only [smallB, Bool.and_eq_true, List.all_eq_true] at h; exact h.2)
          have HE := Aside0.mk (show xexprs (xexpr n) (l.drop 0) 0 (wrap64 (left - 1)) = R from hE)
          clear c1 hE HP HS
          go_wp2
          go_loopg [8, 75] l.length (fun q v8 v75 wx => ∃ (i : Nat) (d lf : Int), i + q = l.length ∧ v8 = .int .i64 d ∧ v75 = .int .i64 i ∧ Aside0 (xexprs (xexpr n) (l.drop i) d lf = R) ∧ Aside0 (wx.heap[gx]? = some (.cells #[.int .u8 K, .int .i64 N, .string S, .slice A l.length C, .int .i64 I, .int .i64 O] 25 (0, 0))) ∧ Aside0 (IsS102 w0 wx g lf) ∧ Aside0 (Below w0.heap.size w0 wx) ∧ Aside0 (KeepBut w wx g none))
          case atStart => exact ⟨0, 0, _, by omega, rfl, rfl, HE, BX, HI, HB, HK⟩
          case round =>
            clear BX HI HB HK HE c1b
            clear hz0 hz1 hz2 hz3 hz4 hz5
            obtain ⟨i, d, lf, hi, rfl, rfl, HE, BX, HI, HB, HK⟩ := hrel
            cases gk with
            | zero =>
              obtain rfl : i = l.length := by omega
              have hE := HE.out
              rw [List.drop_length] at hE
              simp only [xexprs] at hE
              have HE2 := Aside0.mk hE
              clear hE HE
              go_wp2
              go_ret
              have hE := HE2.out
              subst hE
              exact ⟨rfl, HI.out, HB.out, HK.out⟩
            | succ q =>
              have hik : i < l.length := by omega
              have hlt : decide ((i : Int) < (l.length : Int)) = true := decide_eq_true (by omega)
              have hE := HE.out
              clear HE
              rw [rd_drop25 l i hik] at hE
              have hmem := rd_mem25 l i hik
              obtain ⟨ad, A3, c3, e0, hx0, hx1, hx2, hx3, hx4, hx5, hlc, hRC⟩ := at_T25 HR.out (i : Int) (by omega) (by omega)
              subst e0
              rw [Int.toNat_natCast] at hx0 hx1 hx2 hx3 hx4 hx5
              generalize rd_T25 l (i : Int) = y at hE hmem hx0 hx1 hx2 hx3 hx4 hx5 hlc hRC
              obtain ⟨K2, N2, S2, l2, I2, O2⟩ := y
              dsimp only at hE hmem hx0 hx1 hx2 hx3 hx4 hx5 hlc hRC
              replace hx0 := (HB.out.cell (World.block_lt_of_cell? w0 _ hx0)).trans hx0
              replace hx1 := (HB.out.cell (World.block_lt_of_cell? w0 _ hx1)).trans hx1
              replace hx2 := (HB.out.cell (World.block_lt_of_cell? w0 _ hx2)).trans hx2
              replace hx3 := (HB.out.cell (World.block_lt_of_cell? w0 _ hx3)).trans hx3
              replace hx4 := (HB.out.cell (World.block_lt_of_cell? w0 _ hx4)).trans hx4
              replace hx5 := (HB.out.cell (World.block_lt_of_cell? w0 _ hx5)).trans hx5
              have HRC := Aside0.mk hRC
              have HSY := Aside0.mk (HSM.out _ hmem)
              have HII := Aside0.mk (show i + 1 ≤ 2 by have := HLE.out; omega)
              simp only [xexprs] at hE
              clear hRC hlc hmem
              generalize hY : xexpr n ⟨K2, N2, S2, l2, I2, O2⟩ lf = Y at hE
              obtain ⟨e, lf2⟩ := Y
              have HY := Aside0.mk hY
              clear hY
              dsimp only at hE
              by_cases c2 : e = 0
              · rw [if_pos c2] at hE
                have HE := Aside0.mk hE
                have c2b : (e == 0) = true := beq_iff_eq.mpr c2
                clear hE c2
                go_wp2_with (first | ((with_reducible refine gate_dst (N := 10) rfl ?_); refine box_event ?hg (N := 10) ?hd (cs := #[.int .u8 0, .int .i64 0, .string (⟨#[]⟩ : ByteArray), .slice none 0 0, .int .i64 0, .int .i64 0]) (t := 25) ?hr ?_; (case hd => rfl); (case hg => rfl); (case hr => first | (go_simp; done) | (go_simp; rfl)); intro gp hg w1 hbox hb; have BP := Aside0.mk hbox; have HI3 := Aside0.mk (HI.out.below hb); have HB3 := Aside0.mk (xbelow_base HB.out hb); have HK3 := Aside0.mk (HK.out.trans (KeepBut.of_below hb g none) (.inl rfl)); have BX3 := Aside0.mk (blk_below BX.out hb); have GP := Aside0.mk (show w.heap.size ≤ gp ∧ w0.heap.size ≤ gp from by rw [hg]; exact ⟨HK.out.1, HB.out.size⟩); have NP := Aside0.mk (show gp ≠ g ∧ gx ≠ gp from ⟨fun e => by have := HI.out.lt; omega, fun e => by have := blk_lt BX.out; omega⟩); clear hbox hb hg) | (refine xstore_row rfl 25 _ _ rfl gp #[.int .u8 K2, .int .i64 N2, .string S2, .slice A3 l2.length c3, .int .i64 I2, .int .i64 O2] rfl rfl 25 _ BP.out exprInfo rfl (xone6 _ _ _ _ _ _ _ _) ?_; intro w2 hbk hgr hbl; have hp0 : w2.cell? ⟨gp, 0, none⟩ = some (.int .u8 K2) := (blk_cell hbk 0).trans rfl; have hp1 : w2.cell? ⟨gp, 1, none⟩ = some (.int .i64 N2) := (blk_cell hbk 1).trans rfl; have hp2 : w2.cell? ⟨gp, 2, none⟩ = some (.string S2) := (blk_cell hbk 2).trans rfl; have hp3 : w2.cell? ⟨gp, 3, none⟩ = some (.slice A3 l2.length c3) := (blk_cell hbk 3).trans rfl; have hp4 : w2.cell? ⟨gp, 4, none⟩ = some (.int .i64 I2) := (blk_cell hbk 4).trans rfl; have hp5 : w2.cell? ⟨gp, 5, none⟩ = some (.int .i64 O2) := (blk_cell hbk 5).trans rfl; have HI4 := Aside0.mk (HI3.out.grown hgr (by simpa using NP.out.1.symm)); have HB4 := Aside0.mk (hbl _ _ HB3.out GP.out.2); have HK4 := Aside0.mk (HK3.out.trans (KeepBut.of_grown hgr g) (.inr ⟨gp, rfl, GP.out.1⟩)); have BX4 := Aside0.mk (blk_grown BX3.out hgr (by simpa using NP.out.2)); clear hbk hgr hbl) | (go_at_call 58; refine (HIH.out (wrap64 (L - 1)) K2 N2 S2 A3 c3 l2 I2 O2 g lf w0 _ HL1.out (by have := HN.out; omega) HI4.out HB4.out HRC.out HSY.out).mono ?_; rw [HY.out]; rintro e5 w5 ⟨rfl, hi5, hb5, hk5⟩; have HI5 := Aside0.mk hi5; have HB5 := Aside0.mk hb5; have HK5 := Aside0.mk (HK4.out.trans hk5 (.inl rfl)); have BX5 := Aside0.mk (hk5.blk BX4.out NX.out (by simp)); clear hi5 hb5 hk5))
                go_ret
                have hE := HE.out
                subst hE
                exact ⟨rfl, HI5.out, HB5.out, HK5.out⟩
              · rw [if_neg c2] at hE
                have c2b : (e == 0) = false := beq_eq_false_iff_ne.2 c2
                clear c2
                by_cases c4 : d < e
                · rw [if_pos c4] at hE
                  have HE := Aside0.mk hE
                  clear hE
                  go_wp2_with (first | ((with_reducible refine gate_dst (N := 10) rfl ?_); refine box_event ?hg (N := 10) ?hd (cs := #[.int .u8 0, .int .i64 0, .string (⟨#[]⟩ : ByteArray), .slice none 0 0, .int .i64 0, .int .i64 0]) (t := 25) ?hr ?_; (case hd => rfl); (case hg => rfl); (case hr => first | (go_simp; done) | (go_simp; rfl)); intro gp hg w1 hbox hb; have BP := Aside0.mk hbox; have HI3 := Aside0.mk (HI.out.below hb); have HB3 := Aside0.mk (xbelow_base HB.out hb); have HK3 := Aside0.mk (HK.out.trans (KeepBut.of_below hb g none) (.inl rfl)); have BX3 := Aside0.mk (blk_below BX.out hb); have GP := Aside0.mk (show w.heap.size ≤ gp ∧ w0.heap.size ≤ gp from by rw [hg]; exact ⟨HK.out.1, HB.out.size⟩); have NP := Aside0.mk (show gp ≠ g ∧ gx ≠ gp from ⟨fun e => by have := HI.out.lt; omega, fun e => by have := blk_lt BX.out; omega⟩); clear hbox hb hg) | (refine xstore_row rfl 25 _ _ rfl gp #[.int .u8 K2, .int .i64 N2, .string S2, .slice A3 l2.length c3, .int .i64 I2, .int .i64 O2] rfl rfl 25 _ BP.out exprInfo rfl (xone6 _ _ _ _ _ _ _ _) ?_; intro w2 hbk hgr hbl; have hp0 : w2.cell? ⟨gp, 0, none⟩ = some (.int .u8 K2) := (blk_cell hbk 0).trans rfl; have hp1 : w2.cell? ⟨gp, 1, none⟩ = some (.int .i64 N2) := (blk_cell hbk 1).trans rfl; have hp2 : w2.cell? ⟨gp, 2, none⟩ = some (.string S2) := (blk_cell hbk 2).trans rfl; have hp3 : w2.cell? ⟨gp, 3, none⟩ = some (.slice A3 l2.length c3) := (blk_cell hbk 3).trans rfl; have hp4 : w2.cell? ⟨gp, 4, none⟩ = some (.int .i64 I2) := (blk_cell hbk 4).trans rfl; have hp5 : w2.cell? ⟨gp, 5, none⟩ = some (.int .i64 O2) := (blk_cell hbk 5).trans rfl; have HI4 := Aside0.mk (HI3.out.grown hgr (by simpa using NP.out.1.symm)); have HB4 := Aside0.mk (hbl _ _ HB3.out GP.out.2); have HK4 := Aside0.mk (HK3.out.trans (KeepBut.of_grown hgr g) (.inr ⟨gp, rfl, GP.out.1⟩)); have BX4 := Aside0.mk (blk_grown BX3.out hgr (by simpa using NP.out.2)); clear hbk hgr hbl) | (go_at_call 58; refine (HIH.out (wrap64 (L - 1)) K2 N2 S2 A3 c3 l2 I2 O2 g lf w0 _ HL1.out (by have := HN.out; omega) HI4.out HB4.out HRC.out HSY.out).mono ?_; rw [HY.out]; rintro e5 w5 ⟨rfl, hi5, hb5, hk5⟩; have HI5 := Aside0.mk hi5; have HB5 := Aside0.mk hb5; have HK5 := Aside0.mk (HK4.out.trans hk5 (.inl rfl)); have BX5 := Aside0.mk (hk5.blk BX4.out NX.out (by simp)); clear hi5 hb5 hk5))
                  go_roundg q
                  case measure => omega
                  case rel => exact ⟨i + 1, _, lf2, by omega, by first | rfl | (rw [if_pos c4]) | simp [c4], (by have h2 := HLE.out; rw [xw64 (by omega) (by omega)]; simp), HE, BX5, HI5, HB5, HK5⟩
                · rw [if_neg c4] at hE
                  have HE := Aside0.mk hE
                  clear hE
                  go_wp2_with (first | ((with_reducible refine gate_dst (N := 10) rfl ?_); refine box_event ?hg (N := 10) ?hd (cs := #[.int .u8 0, .int .i64 0, .string (⟨#[]⟩ : ByteArray), .slice none 0 0, .int .i64 0, .int .i64 0]) (t := 25) ?hr ?_; (case hd => rfl); (case hg => rfl); (case hr => first | (go_simp; done) | (go_simp; rfl)); intro gp hg w1 hbox hb; have BP := Aside0.mk hbox; have HI3 := Aside0.mk (HI.out.below hb); have HB3 := Aside0.mk (xbelow_base HB.out hb); have HK3 := Aside0.mk (HK.out.trans (KeepBut.of_below hb g none) (.inl rfl)); have BX3 := Aside0.mk (blk_below BX.out hb); have GP := Aside0.mk (show w.heap.size ≤ gp ∧ w0.heap.size ≤ gp from by rw [hg]; exact ⟨HK.out.1, HB.out.size⟩); have NP := Aside0.mk (show gp ≠ g ∧ gx ≠ gp from ⟨fun e => by have := HI.out.lt; omega, fun e => by have := blk_lt BX.out; omega⟩); clear hbox hb hg) | (refine xstore_row rfl 25 _ _ rfl gp #[.int .u8 K2, .int .i64 N2, .string S2, .slice A3 l2.length c3, .int .i64 I2, .int .i64 O2] rfl rfl 25 _ BP.out exprInfo rfl (xone6 _ _ _ _ _ _ _ _) ?_; intro w2 hbk hgr hbl; have hp0 : w2.cell? ⟨gp, 0, none⟩ = some (.int .u8 K2) := (blk_cell hbk 0).trans rfl; have hp1 : w2.cell? ⟨gp, 1, none⟩ = some (.int .i64 N2) := (blk_cell hbk 1).trans rfl; have hp2 : w2.cell? ⟨gp, 2, none⟩ = some (.string S2) := (blk_cell hbk 2).trans rfl; have hp3 : w2.cell? ⟨gp, 3, none⟩ = some (.slice A3 l2.length c3) := (blk_cell hbk 3).trans rfl; have hp4 : w2.cell? ⟨gp, 4, none⟩ = some (.int .i64 I2) := (blk_cell hbk 4).trans rfl; have hp5 : w2.cell? ⟨gp, 5, none⟩ = some (.int .i64 O2) := (blk_cell hbk 5).trans rfl; have HI4 := Aside0.mk (HI3.out.grown hgr (by simpa using NP.out.1.symm)); have HB4 := Aside0.mk (hbl _ _ HB3.out GP.out.2); have HK4 := Aside0.mk (HK3.out.trans (KeepBut.of_grown hgr g) (.inr ⟨gp, rfl, GP.out.1⟩)); have BX4 := Aside0.mk (blk_grown BX3.out hgr (by simpa using NP.out.2)); clear hbk hgr hbl) | (go_at_call 58; refine (HIH.out (wrap64 (L - 1)) K2 N2 S2 A3 c3 l2 I2 O2 g lf w0 _ HL1.out (by have := HN.out; omega) HI4.out HB4.out HRC.out HSY.out).mono ?_; rw [HY.out]; rintro e5 w5 ⟨rfl, hi5, hb5, hk5⟩; have HI5 := Aside0.mk hi5; have HB5 := Aside0.mk hb5; have HK5 := Aside0.mk (HK4.out.trans hk5 (.inl rfl)); have BX5 := Aside0.mk (hk5.blk BX4.out NX.out (by simp)); clear hi5 hb5 hk5))
                  go_roundg q
                  case measure => omega
                  case rel => exact ⟨i + 1, _, lf2, by omega, by first | rfl | (rw [if_neg c4]) | simp [c4], (by have h2 := HLE.out; rw [xw64 (by omega) (by omega)]; simp), HE, BX5, HI5, HB5, HK5⟩
        · rw [if_neg c1] at hE
          have c1b : ((l.length : Int) != p) = true := bne_iff_ne.mpr c1
          have HE := Aside0.mk hE
          clear c1 hE
          go_wp2
          go_ret
          have hE := HE.out
          subst hE
          exact ⟨rfl, HI.out, HB.out, HK.out⟩

end Go.Proofs.Ytnojokempdcikaa.PA
