/- Printed by a program of this repo over the kit's printer: functions of the given program as plain Lean functions, each with the proof that the call does what it says. -/
import Derived.Test.YtnojokempdcikaaPA0
import Derived.Test.YtnojokempdcikaaPA7
import Derived.Test.YtnojokempdcikaaPA11
import Derived.Test.YtnojokempdcikaaPA13
import Derived.Test.YtnojokempdcikaaPA17
import Derived.Deep.RegionWith
namespace Go.Proofs.Ytnojokempdcikaa.PA
open Go.RowKit Go.Proofs.YtnojokempdcikaaW.PrintWords Go.Proofs.YtnojokempdcikaaW.PrintLast Go.Proofs.YtnojokempdcikaaW.PrintMore
attribute [local go_sem] max2_int min2_int max_two min_two max_three min_three max_four min_four   -- for this text's walks alone
set_option linter.unusedVariables false
set_option linter.unusedSimpArgs false

/-! ### number_eval: function 24 -/
--OWNPART Derived.Deep.RegionWith
open Go.RowKit
/-- The parts' numbers, one after the other; behind the first fault: it. -/
def xparts (f : S25 → Option (Int × Int × Int × Int)) : List S25 → Nat → Int → Int → Option ((Int × Int) × (Int × Int × Int))
  | [], _, a, b => some ((a, b), (0, 0, 0))
  | p :: ps, i, a, b => (f p).bind fun r => if r.2.1 = 0 then xparts f ps (i + 1) (if i = 0 then r.1 else a) (if i = 0 then b else r.1) else some ((0, 0), r.2)
/-- What an expression comes to: its number, and the fault's code, line and column. -/
def xeval (F : ByteArray → Option Int) : Nat → S25 → Option (Int × Int × Int × Int)
  | 0, _ => none
  | n + 1, x => if x.f0 = 1 then some (x.f1, 0, 0, 0) else if x.f0 = 2 then (if x.f2.size ≤ 9223372036854775807 then (if (F x.f2).isSome = true then some ((F x.f2).getD 0, 0, 0, 0) else some (0, 121, x.f4, x.f5)) else none)
    else if x.f3.length ≤ 2 then (xparts (xeval F n) x.f3 0 0 0).bind fun r => if r.2.1 = 0 then (number_Work.f x.f0 r.1.1 r.1.2).bind fun q => if q.2 = 0 then some (q.1, 0, 0, 0) else some (0, q.2, x.f4, x.f5) else some (0, r.2)
    else none
theorem faultInfo : (Try.prog.info? 29).map (·.size) = some 3 := by kernel_rfl
theorem xone3 (a b c : Int) : (#[.int .i64 a, .int .i64 b, .int .i64 c] : Array Value).all (·.oneCell') = true := by simp [Value.oneCell']
theorem pair_put (a b v : Int) (i : Nat) (h : i ≤ 1) : (#[.int .i64 a, .int .i64 b] : Array Value).setIfInBounds i (.int .i64 v) = #[.int .i64 (if i = 0 then v else a), .int .i64 (if i = 0 then b else v)] := by
  match i, h with
  | 0, _ => rfl
  | 1, _ => rfl
theorem pair_at (a b : Int) (i : Nat) (h : i ≤ 1) : (#[.int .i64 a, .int .i64 b] : Array Value)[i]? = some (.int .i64 (if i = 0 then a else b)) := by
  match i, h with
  | 0, _ => rfl
  | 1, _ => rfl
set_option maxHeartbeats 1000000 in
theorem eval_fault (e I O : Int) (gx : Nat) (w : World) (h4 : w.cell? ⟨gx, 4, none⟩ = some (.int .i64 I)) (h5 : w.cell? ⟨gx, 5, none⟩ = some (.int .i64 O)) :
    Calls Try.prog 40 #[.int .i64 e, .pointer (some ⟨gx, 0, none⟩)] w fun ex w' => ex = .returned (.agg #[.int .i64 e, .int .i64 I, .int .i64 O]) ∧ Below w.heap.size w w' := by
  have H4 := Aside0.mk h4
  have H5 := Aside0.mk h5
  clear h4 h5
  go_enter Try.func40, Try.ntmps40
  go_wp2_with (first | ((with_reducible refine gate_dst (N := 3) rfl ?_); refine box_event ?hg (N := 3) ?hd (cs := #[.int .i64 0, .int .i64 0, .int .i64 0]) (t := 29) ?hr ?_; (case hd => rfl); (case hg => rfl); (case hr => first | (go_simp; done) | (go_simp; rfl)); intro gr hg w1 hbox hb; have BR := Aside0.mk hbox; have HB1 := Aside0.mk hb; have GR := Aside0.mk (show w.heap.size ≤ gr from by rw [hg]; exact Nat.le_refl _); have h4 : w1.cell? ⟨gx, 4, none⟩ = some (.int .i64 I) := (hb.cell (World.block_lt_of_cell? w _ H4.out)).trans H4.out; have h5 : w1.cell? ⟨gx, 5, none⟩ = some (.int .i64 O) := (hb.cell (World.block_lt_of_cell? w _ H5.out)).trans H5.out; clear hbox hb hg) | (refine xstore_row rfl 29 _ _ rfl gr #[.int .i64 e, .int .i64 I, .int .i64 O] rfl rfl 29 _ BR.out faultInfo rfl (xone3 _ _ _) ?_; intro w2 hbk hgr hbl; have HB2 := Aside0.mk (hbl _ _ HB1.out GR.out); have BR2 := Aside0.mk hbk; clear hbk hgr hbl))
  refine bodyPost_ret (v := .agg #[.int .i64 e, .int .i64 I, .int .i64 O]) (results_cell_row rfl _ _ gr 29 #[.int .i64 e, .int .i64 I, .int .i64 O] (0, 0) _ rfl BR2.out Try.underlying29 rfl faultInfo) rfl ⟨rfl, HB2.out⟩
set_option maxHeartbeats 8000000 in
set_option maxRecDepth 100000 in
theorem number_eval.walk : ∀ (n : Nat) (K N : Int) (S : ByteArray) (A : Option Addr) (C : Nat) (l : List S25) (I O : Int) (g m : Nat) (F : ByteArray → Option Int) (r1 r2 r3 r4 : Int) (w : World), Kd.C k25 w A l.length l → envIs w g m F → xeval F n ⟨K, N, S, l, I, O⟩ = some (r1, r2, r3, r4) →
    Calls Try.prog 24 #[.agg #[.int .u8 K, .int .i64 N, .string S, .slice A l.length C, .int .i64 I, .int .i64 O], .map (some g)] w fun e w' =>
      e = .returned (.tuple #[.int .i64 r1, .agg #[.int .i64 r2, .int .i64 r3, .int .i64 r4]]) ∧ Below w.heap.size w w' := by
  intro n
  induction n with
  | zero =>
    intro K N S A C l I O g m F r1 r2 r3 r4 w hR hM h
    exact absurd h (by simp [xeval])
  | succ n ih =>
    intro K N S A C l I O g m F r1 r2 r3 r4 w hR hM h
    have HIH := Aside0.mk ih
    have HR := Aside0.mk hR
    have HM := Aside0.mk hM
    clear ih hR hM
    simp only [xeval] at h
    go_enter Try.func24, Try.ntmps24
    by_cases k1 : K = 1
    · rw [if_pos k1] at h
      have k1b : (K == 1) = true := beq_iff_eq.mpr k1
      clear k1
      have HE := Aside0.mk (Option.some.inj h)
      clear h
      go_wp2_with (first | ((with_reducible refine gate_dst (N := 2) rfl ?_); refine box_event ?hg (N := 2) ?hd (cs := #[.int .u8 K, .int .i64 N, .string S, .slice A l.length C, .int .i64 I, .int .i64 O]) (t := 25) ?hr ?_; (case hd => rfl); (case hg => rfl); (case hr => first | (go_simp; done) | (go_simp; rfl)); intro gx hg w1 hbox hb; have BX := Aside0.mk hbox; have HB1 := Aside0.mk hb; have HM1 := Aside0.mk (HM.out.below hb); have GX := Aside0.mk (show w.heap.size ≤ gx from by rw [hg]; exact Nat.le_refl _); clear hbox hb hg) | ((with_reducible refine gate_dst (N := 5) rfl ?_); refine box_event ?hg (N := 5) ?hd (cs := #[.int .i64 0, .int .i64 0, .int .i64 0]) (t := 29) ?hr ?_; (case hd => rfl); (case hg => rfl); (case hr => first | (go_simp; done) | (go_simp; rfl)); intro gr hg w2 hbox hb; have BR := Aside0.mk hbox; have HB2 := Aside0.mk (below_step HB1.out hb); have HM2 := Aside0.mk (HM1.out.below hb); have BX2 := Aside0.mk (blk_below BX.out hb); have GR := Aside0.mk (show w.heap.size ≤ gr from by rw [hg]; exact HB1.out.size); have NR := Aside0.mk (show gx ≠ gr from fun e => by have := blk_lt BX.out; omega); have hw0 : w2.cell? ⟨gx, 0, none⟩ = some (.int .u8 K) := (blk_cell BX2.out 0).trans rfl; have hw1 : w2.cell? ⟨gx, 1, none⟩ = some (.int .i64 N) := (blk_cell BX2.out 1).trans rfl; have hw2 : w2.cell? ⟨gx, 2, none⟩ = some (.string S) := (blk_cell BX2.out 2).trans rfl; have hw3 : w2.cell? ⟨gx, 3, none⟩ = some (.slice A l.length C) := (blk_cell BX2.out 3).trans rfl; have hw4 : w2.cell? ⟨gx, 4, none⟩ = some (.int .i64 I) := (blk_cell BX2.out 4).trans rfl; have hw5 : w2.cell? ⟨gx, 5, none⟩ = some (.int .i64 O) := (blk_cell BX2.out 5).trans rfl; clear hbox hb hg) | (refine xstore_row rfl 29 _ _ rfl gr #[.int .i64 0, .int .i64 0, .int .i64 0] rfl rfl 29 _ BR.out faultInfo rfl (xone3 _ _ _) ?_; intro w3 hbk hgr hbl; have HB3 := Aside0.mk (hbl _ _ HB2.out GR.out); have BR3 := Aside0.mk hbk; clear hbk hgr hbl))
      have hE := HE.out
      simp only [Prod.mk.injEq] at hE
      obtain ⟨rfl, rfl, rfl, rfl⟩ := hE
      refine bodyPost_ret (results_tc rfl _ _ gr 29 #[.int .i64 0, .int .i64 0, .int .i64 0] (0, 0) _ rfl BR3.out Try.underlying29 rfl faultInfo) rfl ?_
      exact ⟨rfl, HB3.out⟩
    · rw [if_neg k1] at h
      have k1b : (K == 1) = false := beq_eq_false_iff_ne.2 k1
      clear k1
      by_cases k2 : K = 2
      · rw [if_pos k2] at h
        have k2b : (K == 2) = true := beq_iff_eq.mpr k2
        clear k2
        by_cases hz : S.size ≤ 9223372036854775807
        · rw [if_pos hz] at h
          have HZ := Aside0.mk hz
          clear hz
          cases hf : (F S).isSome with
          | true =>
            rw [hf, if_pos rfl] at h
            have HF := Aside0.mk hf
            have HE := Aside0.mk (Option.some.inj h)
            clear h hf
            go_wp2_with (first | ((with_reducible refine gate_dst (N := 2) rfl ?_); refine box_event ?hg (N := 2) ?hd (cs := #[.int .u8 K, .int .i64 N, .string S, .slice A l.length C, .int .i64 I, .int .i64 O]) (t := 25) ?hr ?_; (case hd => rfl); (case hg => rfl); (case hr => first | (go_simp; done) | (go_simp; rfl)); intro gx hg w1 hbox hb; have BX := Aside0.mk hbox; have HB1 := Aside0.mk hb; have HM1 := Aside0.mk (HM.out.below hb); have GX := Aside0.mk (show w.heap.size ≤ gx from by rw [hg]; exact Nat.le_refl _); clear hbox hb hg) | ((with_reducible refine gate_dst (N := 5) rfl ?_); refine box_event ?hg (N := 5) ?hd (cs := #[.int .i64 0, .int .i64 0, .int .i64 0]) (t := 29) ?hr ?_; (case hd => rfl); (case hg => rfl); (case hr => first | (go_simp; done) | (go_simp; rfl)); intro gr hg w2 hbox hb; have BR := Aside0.mk hbox; have HB2 := Aside0.mk (below_step HB1.out hb); have HM2 := Aside0.mk (HM1.out.below hb); have BX2 := Aside0.mk (blk_below BX.out hb); have GR := Aside0.mk (show w.heap.size ≤ gr from by rw [hg]; exact HB1.out.size); have NR := Aside0.mk (show gx ≠ gr from fun e => by have := blk_lt BX.out; omega); have hw0 : w2.cell? ⟨gx, 0, none⟩ = some (.int .u8 K) := (blk_cell BX2.out 0).trans rfl; have hw1 : w2.cell? ⟨gx, 1, none⟩ = some (.int .i64 N) := (blk_cell BX2.out 1).trans rfl; have hw2 : w2.cell? ⟨gx, 2, none⟩ = some (.string S) := (blk_cell BX2.out 2).trans rfl; have hw3 : w2.cell? ⟨gx, 3, none⟩ = some (.slice A l.length C) := (blk_cell BX2.out 3).trans rfl; have hw4 : w2.cell? ⟨gx, 4, none⟩ = some (.int .i64 I) := (blk_cell BX2.out 4).trans rfl; have hw5 : w2.cell? ⟨gx, 5, none⟩ = some (.int .i64 O) := (blk_cell BX2.out 5).trans rfl; clear hbox hb hg) | (at_lookup; refine xmap_look rfl _ _ rfl rfl HM2.out S rfl HZ.out ?_; rw [HF.out]) | (refine xstore_row rfl 29 _ _ rfl gr #[.int .i64 0, .int .i64 0, .int .i64 0] rfl rfl 29 _ BR.out faultInfo rfl (xone3 _ _ _) ?_; intro w3 hbk hgr hbl; have HB3 := Aside0.mk (hbl _ _ HB2.out GR.out); have BR3 := Aside0.mk hbk; clear hbk hgr hbl))
            have hE := HE.out
            simp only [Prod.mk.injEq] at hE
            obtain ⟨rfl, rfl, rfl, rfl⟩ := hE
            refine bodyPost_ret (results_tc rfl _ _ gr 29 #[.int .i64 0, .int .i64 0, .int .i64 0] (0, 0) _ rfl BR3.out Try.underlying29 rfl faultInfo) rfl ?_
            exact ⟨rfl, HB3.out⟩
          | false =>
            rw [hf, if_neg (by simp)] at h
            have HF := Aside0.mk hf
            have HE := Aside0.mk (Option.some.inj h)
            clear h hf
            go_wp2_with (first | ((with_reducible refine gate_dst (N := 2) rfl ?_); refine box_event ?hg (N := 2) ?hd (cs := #[.int .u8 K, .int .i64 N, .string S, .slice A l.length C, .int .i64 I, .int .i64 O]) (t := 25) ?hr ?_; (case hd => rfl); (case hg => rfl); (case hr => first | (go_simp; done) | (go_simp; rfl)); intro gx hg w1 hbox hb; have BX := Aside0.mk hbox; have HB1 := Aside0.mk hb; have HM1 := Aside0.mk (HM.out.below hb); have GX := Aside0.mk (show w.heap.size ≤ gx from by rw [hg]; exact Nat.le_refl _); clear hbox hb hg) | ((with_reducible refine gate_dst (N := 5) rfl ?_); refine box_event ?hg (N := 5) ?hd (cs := #[.int .i64 0, .int .i64 0, .int .i64 0]) (t := 29) ?hr ?_; (case hd => rfl); (case hg => rfl); (case hr => first | (go_simp; done) | (go_simp; rfl)); intro gr hg w2 hbox hb; have BR := Aside0.mk hbox; have HB2 := Aside0.mk (below_step HB1.out hb); have HM2 := Aside0.mk (HM1.out.below hb); have BX2 := Aside0.mk (blk_below BX.out hb); have GR := Aside0.mk (show w.heap.size ≤ gr from by rw [hg]; exact HB1.out.size); have NR := Aside0.mk (show gx ≠ gr from fun e => by have := blk_lt BX.out; omega); have hw0 : w2.cell? ⟨gx, 0, none⟩ = some (.int .u8 K) := (blk_cell BX2.out 0).trans rfl; have hw1 : w2.cell? ⟨gx, 1, none⟩ = some (.int .i64 N) := (blk_cell BX2.out 1).trans rfl; have hw2 : w2.cell? ⟨gx, 2, none⟩ = some (.string S) := (blk_cell BX2.out 2).trans rfl; have hw3 : w2.cell? ⟨gx, 3, none⟩ = some (.slice A l.length C) := (blk_cell BX2.out 3).trans rfl; have hw4 : w2.cell? ⟨gx, 4, none⟩ = some (.int .i64 I) := (blk_cell BX2.out 4).trans rfl; have hw5 : w2.cell? ⟨gx, 5, none⟩ = some (.int .i64 O) := (blk_cell BX2.out 5).trans rfl; clear hbox hb hg) | (at_lookup; refine xmap_look rfl _ _ rfl rfl HM2.out S rfl HZ.out ?_; rw [HF.out]) | (go_at_call 40; refine (eval_fault 121 I O gx _ hw4 hw5).mono ?_; rintro e w4 ⟨rfl, hb⟩; have HB4 := Aside0.mk (below_step HB2.out hb); have BR4 := Aside0.mk (blk_below BR.out hb); clear hb) | (refine xstore_row rfl 29 _ _ rfl gr #[.int .i64 121, .int .i64 I, .int .i64 O] rfl rfl 29 _ BR4.out faultInfo rfl (xone3 _ _ _) ?_; intro w5 hbk hgr hbl; have HB5 := Aside0.mk (hbl _ _ HB4.out GR.out); have BR5 := Aside0.mk hbk; clear hbk hgr hbl))
            have hE := HE.out
            simp only [Prod.mk.injEq] at hE
            obtain ⟨rfl, rfl, rfl, rfl⟩ := hE
            refine bodyPost_ret (results_tc rfl _ _ gr 29 #[.int .i64 121, .int .i64 I, .int .i64 O] (0, 0) _ rfl BR5.out Try.underlying29 rfl faultInfo) rfl ?_
            exact ⟨rfl, HB5.out⟩
        · rw [if_neg hz] at h
          exact absurd h (by simp)
      · rw [if_neg k2] at h
        have k2b : (K == 2) = false := beq_eq_false_iff_ne.2 k2
        clear k2
        by_cases hl : l.length ≤ 2
        · rw [if_pos hl] at h
          obtain ⟨PR, hp, hq⟩ := Option.bind_eq_some_iff.1 h
          obtain ⟨⟨pa, pb⟩, pc, pl, po⟩ := PR
          have HL := Aside0.mk hl
          have HP := Aside0.mk (show xparts (xeval F n) (l.drop 0) 0 0 0 = some ((pa, pb), (pc, pl, po)) from hp)
          have HQ := Aside0.mk hq
          clear h hp hq hl
          go_upto_region 11 with (first | ((with_reducible refine gate_dst (N := 2) rfl ?_); refine box_event ?hg (N := 2) ?hd (cs := #[.int .u8 K, .int .i64 N, .string S, .slice A l.length C, .int .i64 I, .int .i64 O]) (t := 25) ?hr ?_; (case hd => rfl); (case hg => rfl); (case hr => first | (go_simp; done) | (go_simp; rfl)); intro gx hg w1 hbox hb; have BX := Aside0.mk hbox; have HB1 := Aside0.mk hb; have HM1 := Aside0.mk (HM.out.below hb); have GX := Aside0.mk (show w.heap.size ≤ gx from by rw [hg]; exact Nat.le_refl _); clear hbox hb hg) | ((with_reducible refine gate_dst (N := 5) rfl ?_); refine box_event ?hg (N := 5) ?hd (cs := #[.int .i64 0, .int .i64 0, .int .i64 0]) (t := 29) ?hr ?_; (case hd => rfl); (case hg => rfl); (case hr => first | (go_simp; done) | (go_simp; rfl)); intro gr hg w2 hbox hb; have BR := Aside0.mk hbox; have HB2 := Aside0.mk (below_step HB1.out hb); have HM2 := Aside0.mk (HM1.out.below hb); have BX2 := Aside0.mk (blk_below BX.out hb); have GR := Aside0.mk (show w.heap.size ≤ gr from by rw [hg]; exact HB1.out.size); have NR := Aside0.mk (show gx ≠ gr from fun e => by have := blk_lt BX.out; omega); have hw0 : w2.cell? ⟨gx, 0, none⟩ = some (.int .u8 K) := (blk_cell BX2.out 0).trans rfl; have hw1 : w2.cell? ⟨gx, 1, none⟩ = some (.int .i64 N) := (blk_cell BX2.out 1).trans rfl; have hw2 : w2.cell? ⟨gx, 2, none⟩ = some (.string S) := (blk_cell BX2.out 2).trans rfl; have hw3 : w2.cell? ⟨gx, 3, none⟩ = some (.slice A l.length C) := (blk_cell BX2.out 3).trans rfl; have hw4 : w2.cell? ⟨gx, 4, none⟩ = some (.int .i64 I) := (blk_cell BX2.out 4).trans rfl; have hw5 : w2.cell? ⟨gx, 5, none⟩ = some (.int .i64 O) := (blk_cell BX2.out 5).trans rfl; clear hbox hb hg) | ((with_reducible refine gate_dst (N := 9) rfl ?_); refine box_event ?hg (N := 9) ?hd (cs := #[.int .i64 0, .int .i64 0]) (t := 81) ?hr ?_; (case hd => rfl); (case hg => rfl); (case hr => first | (go_simp; done) | (go_simp; rfl)); intro ga hg w3 hbox hb; have BA := Aside0.mk hbox; have HB3 := Aside0.mk (below_step HB2.out hb); have HM3 := Aside0.mk (HM2.out.below hb); have BX3 := Aside0.mk (blk_below BX2.out hb); have BR3 := Aside0.mk (blk_below BR.out hb); have GA := Aside0.mk (show w.heap.size ≤ ga from by rw [hg]; exact HB2.out.size); have NAX := Aside0.mk (show gx ≠ ga from fun e => by have := blk_lt BX2.out; omega); have NAR := Aside0.mk (show gr ≠ ga from fun e => by have := blk_lt BR.out; omega); have NAM := Aside0.mk (show some g ≠ some ga from fun e => by cases e; exact absurd HM2.out.lt (by omega)); have hz0 : w3.cell? ⟨gx, 0, none⟩ = some (.int .u8 K) := (blk_cell BX3.out 0).trans rfl; have hz1 : w3.cell? ⟨gx, 1, none⟩ = some (.int .i64 N) := (blk_cell BX3.out 1).trans rfl; have hz2 : w3.cell? ⟨gx, 2, none⟩ = some (.string S) := (blk_cell BX3.out 2).trans rfl; have hz3 : w3.cell? ⟨gx, 3, none⟩ = some (.slice A l.length C) := (blk_cell BX3.out 3).trans rfl; have hz4 : w3.cell? ⟨gx, 4, none⟩ = some (.int .i64 I) := (blk_cell BX3.out 4).trans rfl; have hz5 : w3.cell? ⟨gx, 5, none⟩ = some (.int .i64 O) := (blk_cell BX3.out 5).trans rfl; clear hbox hb hg))
          go_wp2
          go_loopg [42] l.length (fun q v42 wx => ∃ (i : Nat) (a b : Int), i + q = l.length ∧ v42 = .int .i64 i ∧ Aside0 (xparts (xeval F n) (l.drop i) i a b = some ((pa, pb), (pc, pl, po))) ∧ Aside0 (wx.heap[ga]? = some (.cells #[.int .i64 a, .int .i64 b] 81 (0, 0))) ∧ Aside0 (wx.heap[gx]? = some (.cells #[.int .u8 K, .int .i64 N, .string S, .slice A l.length C, .int .i64 I, .int .i64 O] 25 (0, 0))) ∧ Aside0 (wx.heap[gr]? = some (.cells #[.int .i64 0, .int .i64 0, .int .i64 0] 29 (0, 0))) ∧ Aside0 (envIs wx g m F) ∧ Aside0 (Below w.heap.size w wx))
          case atStart => exact ⟨0, 0, 0, by omega, rfl, HP, BA, BX3, BR3, HM3, HB3⟩
          case round =>
            clear HP BA BX BX2 BX3 BR BR3 HM HM1 HM2 HM3 HB1 HB2 HB3 hz0 hz1 hz2 hz3 hz4 hz5 hw0 hw1 hw2 hw3 hw4 hw5
            obtain ⟨i, a, b, hi, rfl, HP, BA, BX, BR, HM, HB⟩ := hrel
            cases gk with
            | zero =>
              obtain rfl : i = l.length := by omega
              have hP := HP.out
              rw [List.drop_length] at hP
              simp only [xparts, Option.some.injEq, Prod.mk.injEq] at hP
              obtain ⟨⟨rfl, rfl⟩, rfl, rfl, rfl⟩ := hP
              have hq := HQ.out
              try dsimp only at hq
              rw [if_pos rfl] at hq
              obtain ⟨⟨q1, q2⟩, hw, hq⟩ := Option.bind_eq_some_iff.1 hq
              dsimp only at hq
              have HW := Aside0.mk hw
              clear HQ hw HP
              have hz0 : wr.cell? ⟨gx, 0, none⟩ = some (.int .u8 K) := (blk_cell BX.out 0).trans rfl; have hz1 : wr.cell? ⟨gx, 1, none⟩ = some (.int .i64 N) := (blk_cell BX.out 1).trans rfl; have hz2 : wr.cell? ⟨gx, 2, none⟩ = some (.string S) := (blk_cell BX.out 2).trans rfl; have hz3 : wr.cell? ⟨gx, 3, none⟩ = some (.slice A l.length C) := (blk_cell BX.out 3).trans rfl; have hz4 : wr.cell? ⟨gx, 4, none⟩ = some (.int .i64 I) := (blk_cell BX.out 4).trans rfl; have hz5 : wr.cell? ⟨gx, 5, none⟩ = some (.int .i64 O) := (blk_cell BX.out 5).trans rfl
              have ha0 : wr.cell? ⟨ga, 0, none⟩ = some (.int .i64 a) := (blk_cell BA.out 0).trans rfl; have ha1 : wr.cell? ⟨ga, 1, none⟩ = some (.int .i64 b) := (blk_cell BA.out 1).trans rfl
              by_cases c2 : q2 = 0
              · rw [if_pos c2] at hq
                have HE := Aside0.mk (Option.some.inj hq)
                have c2b : (q2 != 0) = false := bne_eq_false_iff_eq.mpr c2
                clear hq c2
                go_wp2_with (first | (go_at_call 19; refine (number_Work.calls K a b q1 q2 _ HW.out).mono ?_; rintro e w4 ⟨rfl, hb⟩; have HB4 := Aside0.mk (below_step HB.out hb); have BX4 := Aside0.mk (blk_below BX.out hb); have BR4 := Aside0.mk (blk_below BR.out hb); have hv0 : w4.cell? ⟨gx, 0, none⟩ = some (.int .u8 K) := (blk_cell BX4.out 0).trans rfl; have hv1 : w4.cell? ⟨gx, 1, none⟩ = some (.int .i64 N) := (blk_cell BX4.out 1).trans rfl; have hv2 : w4.cell? ⟨gx, 2, none⟩ = some (.string S) := (blk_cell BX4.out 2).trans rfl; have hv3 : w4.cell? ⟨gx, 3, none⟩ = some (.slice A l.length C) := (blk_cell BX4.out 3).trans rfl; have hv4 : w4.cell? ⟨gx, 4, none⟩ = some (.int .i64 I) := (blk_cell BX4.out 4).trans rfl; have hv5 : w4.cell? ⟨gx, 5, none⟩ = some (.int .i64 O) := (blk_cell BX4.out 5).trans rfl; clear hb) | (refine xstore_row rfl 29 _ _ rfl gr #[.int .i64 0, .int .i64 0, .int .i64 0] rfl rfl 29 _ BR4.out faultInfo rfl (xone3 _ _ _) ?_; intro w5 hbk hgr hbl; have HB5 := Aside0.mk (hbl _ _ HB4.out GR.out); have BR5 := Aside0.mk hbk; clear hbk hgr hbl))
                have hE := HE.out
                simp only [Prod.mk.injEq] at hE
                obtain ⟨rfl, rfl, rfl, rfl⟩ := hE
                refine bodyPost_ret (results_tc rfl _ _ gr 29 #[.int .i64 0, .int .i64 0, .int .i64 0] (0, 0) _ rfl BR5.out Try.underlying29 rfl faultInfo) rfl ?_
                exact ⟨rfl, HB5.out⟩
              · rw [if_neg c2] at hq
                have HE := Aside0.mk (Option.some.inj hq)
                have c2b : (q2 != 0) = true := bne_iff_ne.mpr c2
                clear hq c2
                go_wp2_with (first | (go_at_call 19; refine (number_Work.calls K a b q1 q2 _ HW.out).mono ?_; rintro e w4 ⟨rfl, hb⟩; have HB4 := Aside0.mk (below_step HB.out hb); have BX4 := Aside0.mk (blk_below BX.out hb); have BR4 := Aside0.mk (blk_below BR.out hb); have hv0 : w4.cell? ⟨gx, 0, none⟩ = some (.int .u8 K) := (blk_cell BX4.out 0).trans rfl; have hv1 : w4.cell? ⟨gx, 1, none⟩ = some (.int .i64 N) := (blk_cell BX4.out 1).trans rfl; have hv2 : w4.cell? ⟨gx, 2, none⟩ = some (.string S) := (blk_cell BX4.out 2).trans rfl; have hv3 : w4.cell? ⟨gx, 3, none⟩ = some (.slice A l.length C) := (blk_cell BX4.out 3).trans rfl; have hv4 : w4.cell? ⟨gx, 4, none⟩ = some (.int .i64 I) := (blk_cell BX4.out 4).trans rfl; have hv5 : w4.cell? ⟨gx, 5, none⟩ = some (.int .i64 O) := (blk_cell BX4.out 5).trans rfl; clear hb) | (go_at_call 40; refine (eval_fault q2 I O gx _ hv4 hv5).mono ?_; rintro e w5 ⟨rfl, hb⟩; have HB5 := Aside0.mk (below_step HB4.out hb); have BR5 := Aside0.mk (blk_below BR4.out hb); clear hb) | (refine xstore_row rfl 29 _ _ rfl gr #[.int .i64 q2, .int .i64 I, .int .i64 O] rfl rfl 29 _ BR5.out faultInfo rfl (xone3 _ _ _) ?_; intro w6 hbk hgr hbl; have HB6 := Aside0.mk (hbl _ _ HB5.out GR.out); have BR6 := Aside0.mk hbk; clear hbk hgr hbl))
                have hE := HE.out
                simp only [Prod.mk.injEq] at hE
                obtain ⟨rfl, rfl, rfl, rfl⟩ := hE
                refine bodyPost_ret (results_tc rfl _ _ gr 29 #[.int .i64 q2, .int .i64 I, .int .i64 O] (0, 0) _ rfl BR6.out Try.underlying29 rfl faultInfo) rfl ?_
                exact ⟨rfl, HB6.out⟩
            | succ q =>
              have hik : i < l.length := by omega
              have hlt : decide ((i : Int) < (l.length : Int)) = true := decide_eq_true (by omega)
              have hP := HP.out
              clear HP
              rw [rd_drop25 l i hik] at hP
              obtain ⟨ad, A3, c3, e0, hx0, hx1, hx2, hx3, hx4, hx5, hlc, hRC⟩ := at_T25 HR.out (i : Int) (by omega) (by omega)
              subst e0
              rw [Int.toNat_natCast] at hx0 hx1 hx2 hx3 hx4 hx5
              generalize rd_T25 l (i : Int) = y at hP hx0 hx1 hx2 hx3 hx4 hx5 hlc hRC
              obtain ⟨K2, N2, S2, l2, I2, O2⟩ := y
              dsimp only at hP hx0 hx1 hx2 hx3 hx4 hx5 hlc hRC
              replace hx0 := (HB.out.cell (World.block_lt_of_cell? w _ hx0)).trans hx0
              replace hx1 := (HB.out.cell (World.block_lt_of_cell? w _ hx1)).trans hx1
              replace hx2 := (HB.out.cell (World.block_lt_of_cell? w _ hx2)).trans hx2
              replace hx3 := (HB.out.cell (World.block_lt_of_cell? w _ hx3)).trans hx3
              replace hx4 := (HB.out.cell (World.block_lt_of_cell? w _ hx4)).trans hx4
              replace hx5 := (HB.out.cell (World.block_lt_of_cell? w _ hx5)).trans hx5
              have HRC := Aside0.mk hRC
              have HII := Aside0.mk (show i ≤ 1 by have := HL.out; omega)
              simp only [xparts] at hP
              clear hRC hlc
              obtain ⟨⟨y1, y2, y3, y4⟩, hy, hP⟩ := Option.bind_eq_some_iff.1 hP
              have HY := Aside0.mk hy
              clear hy
              dsimp only at hP
              by_cases c2 : y2 = 0
              · rw [if_pos c2] at hP
                have HP := Aside0.mk hP
                have c2b : (y2 != 0) = false := bne_eq_false_iff_eq.mpr c2
                have i2b : decide ((i : Int) < 2) = true := decide_eq_true (by have := HII.out; omega)
                have i2c : (i : Int) < 2 := by have := HII.out; omega
                clear hP c2
                go_wp2_with (first | ((with_reducible refine gate_dst (N := 11) rfl ?_); refine box_event ?hg (N := 11) ?hd (cs := #[.int .u8 0, .int .i64 0, .string (⟨#[]⟩ : ByteArray), .slice none 0 0, .int .i64 0, .int .i64 0]) (t := 25) ?hr ?_; (case hd => rfl); (case hg => rfl); (case hr => first | (go_simp; done) | (go_simp; rfl)); intro gp hg w3 hbox hb; have BP := Aside0.mk hbox; have BA3 := Aside0.mk (blk_below BA.out hb); have BX3 := Aside0.mk (blk_below BX.out hb); have BR3 := Aside0.mk (blk_below BR.out hb); have HM3 := Aside0.mk (HM.out.below hb); have HB3 := Aside0.mk (below_step HB.out hb); have GP := Aside0.mk (show w.heap.size ≤ gp from by rw [hg]; exact HB.out.size); have NPA := Aside0.mk (show ga ≠ gp from fun e => by have := blk_lt BA.out; omega); have NPX := Aside0.mk (show gx ≠ gp from fun e => by have := blk_lt BX.out; omega); have NPR := Aside0.mk (show gr ≠ gp from fun e => by have := blk_lt BR.out; omega); have NPM := Aside0.mk (show g ≠ gp from fun e => by have := HM.out.lt; omega); clear hbox hb hg) | (refine xstore_row rfl 25 _ _ rfl gp #[.int .u8 K2, .int .i64 N2, .string S2, .slice A3 l2.length c3, .int .i64 I2, .int .i64 O2] rfl rfl 25 _ BP.out exprInfo rfl (xone6 _ _ _ _ _ _ _ _) ?_; intro w4 hbk hgr hbl; have hp0 : w4.cell? ⟨gp, 0, none⟩ = some (.int .u8 K2) := (blk_cell hbk 0).trans rfl; have hp1 : w4.cell? ⟨gp, 1, none⟩ = some (.int .i64 N2) := (blk_cell hbk 1).trans rfl; have hp2 : w4.cell? ⟨gp, 2, none⟩ = some (.string S2) := (blk_cell hbk 2).trans rfl; have hp3 : w4.cell? ⟨gp, 3, none⟩ = some (.slice A3 l2.length c3) := (blk_cell hbk 3).trans rfl; have hp4 : w4.cell? ⟨gp, 4, none⟩ = some (.int .i64 I2) := (blk_cell hbk 4).trans rfl; have hp5 : w4.cell? ⟨gp, 5, none⟩ = some (.int .i64 O2) := (blk_cell hbk 5).trans rfl; have HB4 := Aside0.mk (hbl _ _ HB3.out GP.out); have BA4 := Aside0.mk (blk_grown BA3.out hgr (by simp only [ne_eq, Option.some.injEq]; exact NPA.out)); have BX4 := Aside0.mk (blk_grown BX3.out hgr (by simp only [ne_eq, Option.some.injEq]; exact NPX.out)); have BR4 := Aside0.mk (blk_grown BR3.out hgr (by simp only [ne_eq, Option.some.injEq]; exact NPR.out)); have HM4 := Aside0.mk (HM3.out.kept hgr (by simp only [ne_eq, Option.some.injEq]; exact NPM.out)); clear hbk hgr hbl) | (go_at_call 24; refine (HIH.out K2 N2 S2 A3 c3 l2 I2 O2 g m F y1 y2 y3 y4 _ (Kd.C_below HRC.out HB4.out) HM4.out HY.out).mono ?_; rintro e w5 ⟨rfl, hb⟩; have BA5 := Aside0.mk (blk_below BA4.out hb); have BX5 := Aside0.mk (blk_below BX4.out hb); have BR5 := Aside0.mk (blk_below BR4.out hb); have HM5 := Aside0.mk (HM4.out.below hb); have HB5 := Aside0.mk (below_step HB4.out hb); clear hb) | ((with_reducible refine gate_dst (N := 13) rfl ?_); refine box_event ?hg (N := 13) ?hd (cs := #[.int .i64 0, .int .i64 0, .int .i64 0]) (t := 29) ?hr ?_; (case hd => rfl); (case hg => rfl); (case hr => first | (go_simp; done) | (go_simp; rfl)); intro gf hg w6 hbox hb; have BF := Aside0.mk hbox; have BA6 := Aside0.mk (blk_below BA5.out hb); have BX6 := Aside0.mk (blk_below BX5.out hb); have BR6 := Aside0.mk (blk_below BR5.out hb); have HM6 := Aside0.mk (HM5.out.below hb); have HB6 := Aside0.mk (below_step HB5.out hb); have GF := Aside0.mk (show w.heap.size ≤ gf from by rw [hg]; exact HB5.out.size); have NFA := Aside0.mk (show ga ≠ gf from fun e => by have := blk_lt BA5.out; omega); have NFX := Aside0.mk (show gx ≠ gf from fun e => by have := blk_lt BX5.out; omega); have NFR := Aside0.mk (show gr ≠ gf from fun e => by have := blk_lt BR5.out; omega); have NFM := Aside0.mk (show g ≠ gf from fun e => by have := HM5.out.lt; omega); clear hbox hb hg) | (refine xstore_row rfl 29 _ _ rfl gf #[.int .i64 y2, .int .i64 y3, .int .i64 y4] rfl rfl 29 _ BF.out faultInfo rfl (xone3 _ _ _) ?_; intro w8 hbk hgr hbl; have BF8 := Aside0.mk hbk; have BA8 := Aside0.mk (blk_grown BA6.out hgr (by simp only [ne_eq, Option.some.injEq]; exact NFA.out)); have BX8 := Aside0.mk (blk_grown BX6.out hgr (by simp only [ne_eq, Option.some.injEq]; exact NFX.out)); have BR8 := Aside0.mk (blk_grown BR6.out hgr (by simp only [ne_eq, Option.some.injEq]; exact NFR.out)); have HM8 := Aside0.mk (HM6.out.kept hgr (by simp only [ne_eq, Option.some.injEq]; exact NFM.out)); have hf0 : w8.cell? ⟨gf, 0, none⟩ = some (.int .i64 y2) := (blk_cell hbk 0).trans rfl; have hf1 : w8.cell? ⟨gf, 1, none⟩ = some (.int .i64 y3) := (blk_cell hbk 1).trans rfl; have hf2 : w8.cell? ⟨gf, 2, none⟩ = some (.int .i64 y4) := (blk_cell hbk 2).trans rfl; have hai : w8.cell? ⟨ga, i, none⟩ = some (.int .i64 (if i = 0 then a else b)) := (blk_cell BA8.out i).trans (pair_at a b i HII.out); have hfi : w8.frozen? ⟨ga, i, none⟩ = false := blk_frozen BA8.out i; have HB8 := Aside0.mk (hbl _ _ HB6.out GF.out); clear hbk hgr hbl))
                go_roundg q
                case measure => omega
                case rel =>
                  refine ⟨i + 1, _, _, by omega, ?_, HP, ⟨?_⟩, ⟨?_⟩, ⟨?_⟩, ⟨?_⟩, ⟨?_⟩⟩
                  · have h2 := HII.out; first | rfl | (rw [xw64 (by omega) (by omega)]; simp)
                  · exact blk_put BA8.out i (.int .i64 y1) (pair_put a b y1 i HII.out)
                  · exact blk_far BX8.out NAX.out _
                  · exact blk_far BR8.out NAR.out _
                  · exact HM8.out.setCell (fun e => NAM.out (by rw [e])) _
                  · exact below_set HB8.out GA.out
              · rw [if_neg c2] at hP
                have HE := Aside0.mk (Option.some.inj hP)
                have c2b : (y2 != 0) = true := bne_iff_ne.mpr c2
                have HN2 := Aside0.mk c2
                clear hP c2
                go_upto_region 16 with (first | ((with_reducible refine gate_dst (N := 11) rfl ?_); refine box_event ?hg (N := 11) ?hd (cs := #[.int .u8 0, .int .i64 0, .string (⟨#[]⟩ : ByteArray), .slice none 0 0, .int .i64 0, .int .i64 0]) (t := 25) ?hr ?_; (case hd => rfl); (case hg => rfl); (case hr => first | (go_simp; done) | (go_simp; rfl)); intro gp hg w3 hbox hb; have BP := Aside0.mk hbox; have BA3 := Aside0.mk (blk_below BA.out hb); have BX3 := Aside0.mk (blk_below BX.out hb); have BR3 := Aside0.mk (blk_below BR.out hb); have HM3 := Aside0.mk (HM.out.below hb); have HB3 := Aside0.mk (below_step HB.out hb); have GP := Aside0.mk (show w.heap.size ≤ gp from by rw [hg]; exact HB.out.size); have NPA := Aside0.mk (show ga ≠ gp from fun e => by have := blk_lt BA.out; omega); have NPX := Aside0.mk (show gx ≠ gp from fun e => by have := blk_lt BX.out; omega); have NPR := Aside0.mk (show gr ≠ gp from fun e => by have := blk_lt BR.out; omega); have NPM := Aside0.mk (show g ≠ gp from fun e => by have := HM.out.lt; omega); clear hbox hb hg) | (refine xstore_row rfl 25 _ _ rfl gp #[.int .u8 K2, .int .i64 N2, .string S2, .slice A3 l2.length c3, .int .i64 I2, .int .i64 O2] rfl rfl 25 _ BP.out exprInfo rfl (xone6 _ _ _ _ _ _ _ _) ?_; intro w4 hbk hgr hbl; have hp0 : w4.cell? ⟨gp, 0, none⟩ = some (.int .u8 K2) := (blk_cell hbk 0).trans rfl; have hp1 : w4.cell? ⟨gp, 1, none⟩ = some (.int .i64 N2) := (blk_cell hbk 1).trans rfl; have hp2 : w4.cell? ⟨gp, 2, none⟩ = some (.string S2) := (blk_cell hbk 2).trans rfl; have hp3 : w4.cell? ⟨gp, 3, none⟩ = some (.slice A3 l2.length c3) := (blk_cell hbk 3).trans rfl; have hp4 : w4.cell? ⟨gp, 4, none⟩ = some (.int .i64 I2) := (blk_cell hbk 4).trans rfl; have hp5 : w4.cell? ⟨gp, 5, none⟩ = some (.int .i64 O2) := (blk_cell hbk 5).trans rfl; have HB4 := Aside0.mk (hbl _ _ HB3.out GP.out); have BA4 := Aside0.mk (blk_grown BA3.out hgr (by simp only [ne_eq, Option.some.injEq]; exact NPA.out)); have BX4 := Aside0.mk (blk_grown BX3.out hgr (by simp only [ne_eq, Option.some.injEq]; exact NPX.out)); have BR4 := Aside0.mk (blk_grown BR3.out hgr (by simp only [ne_eq, Option.some.injEq]; exact NPR.out)); have HM4 := Aside0.mk (HM3.out.kept hgr (by simp only [ne_eq, Option.some.injEq]; exact NPM.out)); clear hbk hgr hbl) | (go_at_call 24; refine (HIH.out K2 N2 S2 A3 c3 l2 I2 O2 g m F y1 y2 y3 y4 _ (Kd.C_below HRC.out HB4.out) HM4.out HY.out).mono ?_; rintro e w5 ⟨rfl, hb⟩; have BA5 := Aside0.mk (blk_below BA4.out hb); have BX5 := Aside0.mk (blk_below BX4.out hb); have BR5 := Aside0.mk (blk_below BR4.out hb); have HM5 := Aside0.mk (HM4.out.below hb); have HB5 := Aside0.mk (below_step HB4.out hb); clear hb) | ((with_reducible refine gate_dst (N := 13) rfl ?_); refine box_event ?hg (N := 13) ?hd (cs := #[.int .i64 0, .int .i64 0, .int .i64 0]) (t := 29) ?hr ?_; (case hd => rfl); (case hg => rfl); (case hr => first | (go_simp; done) | (go_simp; rfl)); intro gf hg w6 hbox hb; have BF := Aside0.mk hbox; have BA6 := Aside0.mk (blk_below BA5.out hb); have BX6 := Aside0.mk (blk_below BX5.out hb); have BR6 := Aside0.mk (blk_below BR5.out hb); have HM6 := Aside0.mk (HM5.out.below hb); have HB6 := Aside0.mk (below_step HB5.out hb); have GF := Aside0.mk (show w.heap.size ≤ gf from by rw [hg]; exact HB5.out.size); have NFA := Aside0.mk (show ga ≠ gf from fun e => by have := blk_lt BA5.out; omega); have NFX := Aside0.mk (show gx ≠ gf from fun e => by have := blk_lt BX5.out; omega); have NFR := Aside0.mk (show gr ≠ gf from fun e => by have := blk_lt BR5.out; omega); have NFM := Aside0.mk (show g ≠ gf from fun e => by have := HM5.out.lt; omega); clear hbox hb hg) | (refine xstore_row rfl 29 _ _ rfl gf #[.int .i64 y2, .int .i64 y3, .int .i64 y4] rfl rfl 29 _ BF.out faultInfo rfl (xone3 _ _ _) ?_; intro w8 hbk hgr hbl; have BF8 := Aside0.mk hbk; have BA8 := Aside0.mk (blk_grown BA6.out hgr (by simp only [ne_eq, Option.some.injEq]; exact NFA.out)); have BX8 := Aside0.mk (blk_grown BX6.out hgr (by simp only [ne_eq, Option.some.injEq]; exact NFX.out)); have BR8 := Aside0.mk (blk_grown BR6.out hgr (by simp only [ne_eq, Option.some.injEq]; exact NFR.out)); have HM8 := Aside0.mk (HM6.out.kept hgr (by simp only [ne_eq, Option.some.injEq]; exact NFM.out)); have hf0 : w8.cell? ⟨gf, 0, none⟩ = some (.int .i64 y2) := (blk_cell hbk 0).trans rfl; have hf1 : w8.cell? ⟨gf, 1, none⟩ = some (.int .i64 y3) := (blk_cell hbk 1).trans rfl; have hf2 : w8.cell? ⟨gf, 2, none⟩ = some (.int .i64 y4) := (blk_cell hbk 2).trans rfl; have hai : w8.cell? ⟨ga, i, none⟩ = some (.int .i64 (if i = 0 then a else b)) := (blk_cell BA8.out i).trans (pair_at a b i HII.out); have hfi : w8.frozen? ⟨ga, i, none⟩ = false := blk_frozen BA8.out i; have HB8 := Aside0.mk (hbl _ _ HB6.out GF.out); clear hbk hgr hbl))
                have he0 : w8.cell? ⟨gf, 0, none⟩ = some (.int .i64 y2) := (blk_cell BF8.out 0).trans rfl; have he1 : w8.cell? ⟨gf, 1, none⟩ = some (.int .i64 y3) := (blk_cell BF8.out 1).trans rfl; have he2 : w8.cell? ⟨gf, 2, none⟩ = some (.int .i64 y4) := (blk_cell BF8.out 2).trans rfl
                have hq0 : w8.cell? ⟨gr, 0, none⟩ = some (.int .i64 0) := (blk_cell BR8.out 0).trans rfl; have hq1 : w8.cell? ⟨gr, 1, none⟩ = some (.int .i64 0) := (blk_cell BR8.out 1).trans rfl; have hq2 : w8.cell? ⟨gr, 2, none⟩ = some (.int .i64 0) := (blk_cell BR8.out 2).trans rfl
                have fq0 : w8.frozen? ⟨gr, 0, none⟩ = false := blk_frozen BR8.out 0; have fq1 : w8.frozen? ⟨gr, 1, none⟩ = false := blk_frozen BR8.out 1; have fq2 : w8.frozen? ⟨gr, 2, none⟩ = false := blk_frozen BR8.out 2
                have hd0 : w8.drew.cell? ⟨gf, 0, none⟩ = some (.int .i64 y2) := (blk_cell (blk_drew BF8.out) 0).trans rfl; have hd1 : w8.drew.cell? ⟨gf, 1, none⟩ = some (.int .i64 y3) := (blk_cell (blk_drew BF8.out) 1).trans rfl; have hd2 : w8.drew.cell? ⟨gf, 2, none⟩ = some (.int .i64 y4) := (blk_cell (blk_drew BF8.out) 2).trans rfl
                have hr0 : w8.drew.cell? ⟨gr, 0, none⟩ = some (.int .i64 0) := (blk_cell (blk_drew BR8.out) 0).trans rfl; have hr1 : w8.drew.cell? ⟨gr, 1, none⟩ = some (.int .i64 0) := (blk_cell (blk_drew BR8.out) 1).trans rfl; have hr2 : w8.drew.cell? ⟨gr, 2, none⟩ = some (.int .i64 0) := (blk_cell (blk_drew BR8.out) 2).trans rfl
                have fr0 : w8.drew.frozen? ⟨gr, 0, none⟩ = false := blk_frozen (blk_drew BR8.out) 0; have fr1 : w8.drew.frozen? ⟨gr, 1, none⟩ = false := blk_frozen (blk_drew BR8.out) 1; have fr2 : w8.drew.frozen? ⟨gr, 2, none⟩ = false := blk_frozen (blk_drew BR8.out) 2
                go_region
                all_goals (try go_wp2)
                all_goals (have hE := HE.out; simp only [Prod.mk.injEq] at hE; obtain ⟨⟨rfl, rfl⟩, rfl, rfl, rfl⟩ := hE)
                all_goals (have hq := HQ.out)
                all_goals (try dsimp only at hq)
                all_goals (rw [if_neg HN2.out] at hq; simp only [Option.some.injEq, Prod.mk.injEq] at hq; obtain ⟨rfl, rfl, rfl, rfl⟩ := hq)
                all_goals (refine bodyPost_ret (results_tc rfl _ _ gr 29 #[.int .i64 y2, .int .i64 y3, .int .i64 y4] (0, 0) _ rfl (by (with_reducible repeat (first | refine blk_drewN ?_ _ | refine blk_drew ?_ | refine blk_alloc ?_ _)); refine blk_put (cs := #[.int .i64 y2, .int .i64 y3, .int .i64 0]) ?_ 2 _ rfl; (with_reducible repeat (first | refine blk_drewN ?_ _ | refine blk_drew ?_ | refine blk_alloc ?_ _)); refine blk_put (cs := #[.int .i64 y2, .int .i64 0, .int .i64 0]) ?_ 1 _ rfl; (with_reducible repeat (first | refine blk_drewN ?_ _ | refine blk_drew ?_ | refine blk_alloc ?_ _)); refine blk_put (cs := #[.int .i64 0, .int .i64 0, .int .i64 0]) ?_ 0 _ rfl; (with_reducible repeat (first | refine blk_drewN ?_ _ | refine blk_drew ?_ | refine blk_alloc ?_ _)); exact BR8.out) Try.underlying29 rfl faultInfo) rfl ?_)
                all_goals (refine ⟨rfl, ?_⟩)
                all_goals (repeat (first | (with_reducible first | exact HB8.out | apply below_alloc | apply pw_below_drewN | apply below_drew1 | refine below_set ?_ GR.out) | exact HB8.out))
        · rw [if_neg hl] at h
          exact absurd h (by simp)

end Go.Proofs.Ytnojokempdcikaa.PA
