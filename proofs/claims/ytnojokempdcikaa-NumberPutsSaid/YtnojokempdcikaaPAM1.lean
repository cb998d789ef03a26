/- Printed by a program of this repo over the kit's printer: functions of the given program as plain Lean functions, each with the proof that the call does what it says. -/
import Derived.Test.YtnojokempdcikaaPAM0
import Derived.Deep.RegionWith
import Derived.Maps.Range
import Derived.Deep.RegionLaw
namespace Go.Proofs.Ytnojokempdcikaa.PA
open Go.RowKit Go.Proofs.YtnojokempdcikaaW.PrintWords Go.Proofs.YtnojokempdcikaaW.PrintLast Go.Proofs.YtnojokempdcikaaW.PrintMore
attribute [local go_sem] max2_int min2_int max_two min_two max_three min_three max_four min_four   -- for this text's walks alone
set_option linter.unusedVariables false
set_option linter.unusedSimpArgs false

/-! ### number_eval: function 24 -/
--OWNPART Derived.Deep.RegionWith
open Go.RowKit
/-- The parts' numbers, one after the other; behind the first fault: it. -/
def xparts (f : S25 → Option (Int × Int × Int × Int)) : List S25 → Nat → Int → Int → Option ((Int × Int) × (Int × Int × Int))
  | [], _, a, b => some ((a, b), (0, 0, 0))
  | p :: ps, i, a, b => (f p).bind fun r => if r.2.1 = 0 then xparts f ps (i + 1) (if i = 0 then r.1 else a) (if i = 0 then b else r.1) else some ((0, 0), r.2)
/-- What an expression comes to: its number, and the fault's code, line and column. -/
def xeval (F : ByteArray → Option Int) : Nat → S25 → Option (Int × Int × Int × Int)
  | 0, _ => none
  | n + 1, x => if x.f0 = 1 then some (x.f1, 0, 0, 0) else if x.f0 = 2 then (if x.f2.size ≤ 9223372036854775807 then (if (F x.f2).isSome = true then some ((F x.f2).getD 0, 0, 0, 0) else some (0, 121, x.f4, x.f5)) else none)
    else if x.f3.length ≤ 2 then (xparts (xeval F n) x.f3 0 0 0).bind fun r => if r.2.1 = 0 then (number_Work.f x.f0 r.1.1 r.1.2).bind fun q => if q.2 = 0 then some (q.1, 0, 0, 0) else some (0, q.2, x.f4, x.f5) else some (0, r.2)
    else none
theorem faultInfo : (Try.prog.info? 29).map (·.size) = some 3 := by kernel_rfl
theorem xone3 (a b c : Int) : (#[.int .i64 a, .int .i64 b, .int .i64 c] : Array Value).all (·.oneCell') = true := by simp [Value.oneCell']
theorem pair_put (a b v : Int) (i : Nat) (h : i ≤ 1) : (#[.int .i64 a, .int .i64 b] : Array Value).setIfInBounds i (.int .i64 v) = #[.int .i64 (if i = 0 then v else a), .int .i64 (if i = 0 then b else v)] := by
  match i, h with
  | 0, _ => rfl
  | 1, _ => rfl
theorem pair_at (a b : Int) (i : Nat) (h : i ≤ 1) : (#[.int .i64 a, .int .i64 b] : Array Value)[i]? = some (.int .i64 (if i = 0 then a else b)) := by
  match i, h with
  | 0, _ => rfl
  | 1, _ => rfl
set_option maxHeartbeats 1000000 in
theorem eval_fault (e I O : Int) (gx : Nat) (w : World) (h4 : w.cell? ⟨gx, 4, none⟩ = some (.int .i64 I)) (h5 : w.cell? ⟨gx, 5, none⟩ = some (.int .i64 O)) :
    Calls Try.prog 40 #[.int .i64 e, .pointer (some ⟨gx, 0, none⟩)] w fun ex w' => ex = .returned (.agg #[.int .i64 e, .int .i64 I, .int .i64 O]) ∧ Below w.heap.size w w' := by
  have H4 := Aside0.mk h4
  have H5 := Aside0.mk h5
  clear h4 h5
  go_enter Try.func40, Try.ntmps40
  go_wp2_with (first | ((with_reducible refine gate_dst (N := 3) rfl ?_); refine box_event ?hg (N := 3) ?hd (cs := #[.int .i64 0, .int .i64 0, .int .i64 0]) (t := 29) ?hr ?_; (case hd => rfl); (case hg => rfl); (case hr => first | (go_simp; done) | (go_simp; rfl)); intro gr hg w1 hbox hb; have BR := Aside0.mk hbox; have HB1 := Aside0.mk hb; have GR := Aside0.mk (show w.heap.size ≤ gr from by rw [hg]; exact Nat.le_refl _); have h4 : w1.cell? ⟨gx, 4, none⟩ = some (.int .i64 I) := (hb.cell (World.block_lt_of_cell? w _ H4.out)).trans H4.out; have h5 : w1.cell? ⟨gx, 5, none⟩ = some (.int .i64 O) := (hb.cell (World.block_lt_of_cell? w _ H5.out)).trans H5.out; clear hbox hb hg) | (refine xstore_row rfl 29 _ _ rfl gr #[.int .i64 e, .int .i64 I, .int .i64 O] rfl rfl 29 _ BR.out faultInfo rfl (xone3 _ _ _) ?_; intro w2 hbk hgr hbl; have HB2 := Aside0.mk (hbl _ _ HB1.out GR.out); have BR2 := Aside0.mk hbk; clear hbk hgr hbl))
  refine bodyPost_ret (v := .agg #[.int .i64 e, .int .i64 I, .int .i64 O]) (results_cell_row rfl _ _ gr 29 #[.int .i64 e, .int .i64 I, .int .i64 O] (0, 0) _ rfl BR2.out Try.underlying29 rfl faultInfo) rfl ⟨rfl, HB2.out⟩
set_option maxHeartbeats 8000000 in
set_option maxRecDepth 100000 in
theorem number_eval.walk : ∀ (n : Nat) (K N : Int) (S : ByteArray) (A : Option Addr) (C : Nat) (l : List S25) (I O : Int) (g m : Nat) (F : ByteArray → Option Int) (r1 r2 r3 r4 : Int) (w : World), Kd.C k25 w A l.length l → envIs w g m F → xeval F n ⟨K, N, S, l, I, O⟩ = some (r1, r2, r3, r4) →
    Calls Try.prog 24 #[.agg #[.int .u8 K, .int .i64 N, .string S, .slice A l.length C, .int .i64 I, .int .i64 O], .map (some g)] w fun e w' =>
      e = .returned (.tuple #[.int .i64 r1, .agg #[.int .i64 r2, .int .i64 r3, .int .i64 r4]]) ∧ Below w.heap.size w w' := by
  intro n
  induction n with
  | zero =>
    intro K N S A C l I O g m F r1 r2 r3 r4 w hR hM h
    exact absurd h (by simp [xeval])
  | succ n ih =>
    intro K N S A C l I O g m F r1 r2 r3 r4 w hR hM h
    have HIH := Aside0.mk ih
    have HR := Aside0.mk hR
    have HM := Aside0.mk hM
    clear ih hR hM
    simp only [xeval] at h
    go_enter Try.func24, Try.ntmps24
    by_cases k1 : K = 1
    · rw [if_pos k1] at h
      have k1b : (K == 1) = true := beq_iff_eq.mpr k1
      clear k1
      have HE := Aside0.mk (Option.some.inj h)
      clear h
      go_wp2_with (first | ((with_reducible refine gate_dst (N := 2) rfl ?_); refine box_event ?hg (N := 2) ?hd (cs := #[.int .u8 K, .int .i64 N, .string S, .slice A l.length C, .int .i64 I, .int .i64 O]) (t := 25) ?hr ?_; (case hd => rfl); (case hg => rfl); (case hr => first | (go_simp; done) | (go_simp; rfl)); intro gx hg w1 hbox hb; have BX := Aside0.mk hbox; have HB1 := Aside0.mk hb; have HM1 := Aside0.mk (HM.out.below hb); have GX := Aside0.mk (show w.heap.size ≤ gx from by rw [hg]; exact Nat.le_refl _); clear hbox hb hg) | ((with_reducible refine gate_dst (N := 5) rfl ?_); refine box_event ?hg (N := 5) ?hd (cs := #[.int .i64 0, .int .i64 0, .int .i64 0]) (t := 29) ?hr ?_; (case hd => rfl); (case hg => rfl); (case hr => first | (go_simp; done) | (go_simp; rfl)); intro gr hg w2 hbox hb; have BR := Aside0.mk hbox; have HB2 := Aside0.mk (below_step HB1.out hb); have HM2 := Aside0.mk (HM1.out.below hb); have BX2 := Aside0.mk (blk_below BX.out hb); have GR := Aside0.mk (show w.heap.size ≤ gr from by rw [hg]; exact HB1.out.size); have NR := Aside0.mk (show gx ≠ gr from fun e => by have := blk_lt BX.out; omega); have hw0 : w2.cell? ⟨gx, 0, none⟩ = some (.int .u8 K) := (blk_cell BX2.out 0).trans rfl; have hw1 : w2.cell? ⟨gx, 1, none⟩ = some (.int .i64 N) := (blk_cell BX2.out 1).trans rfl; have hw2 : w2.cell? ⟨gx, 2, none⟩ = some (.string S) := (blk_cell BX2.out 2).trans rfl; have hw3 : w2.cell? ⟨gx, 3, none⟩ = some (.slice A l.length C) := (blk_cell BX2.out 3).trans rfl; have hw4 : w2.cell? ⟨gx, 4, none⟩ = some (.int .i64 I) := (blk_cell BX2.out 4).trans rfl; have hw5 : w2.cell? ⟨gx, 5, none⟩ = some (.int .i64 O) := (blk_cell BX2.out 5).trans rfl; clear hbox hb hg) | (refine xstore_row rfl 29 _ _ rfl gr #[.int .i64 0, .int .i64 0, .int .i64 0] rfl rfl 29 _ BR.out faultInfo rfl (xone3 _ _ _) ?_; intro w3 hbk hgr hbl; have HB3 := Aside0.mk (hbl _ _ HB2.out GR.out); have BR3 := Aside0.mk hbk; clear hbk hgr hbl))
      have hE := HE.out
      simp only [Prod.mk.injEq] at hE
      obtain ⟨rfl, rfl, rfl, rfl⟩ := hE
      refine bodyPost_ret (results_tc rfl _ _ gr 29 #[.int .i64 0, .int .i64 0, .int .i64 0] (0, 0) _ rfl BR3.out Try.underlying29 rfl faultInfo) rfl ?_
      exact ⟨rfl, HB3.out⟩
    · rw [if_neg k1] at h
      have k1b : (K == 1) = false := beq_eq_false_iff_ne.2 k1
      clear k1
      by_cases k2 : K = 2
      · rw [if_pos k2] at h
        have k2b : (K == 2) = true := beq_iff_eq.mpr k2
        clear k2
        by_cases hz : S.size ≤ 9223372036854775807
        · rw [if_pos hz] at h
          have HZ := Aside0.mk hz
          clear hz
          cases hf : (F S).isSome with
          | true =>
            rw [hf, if_pos rfl] at h
            have HF := Aside0.mk hf
            have HE := Aside0.mk (Option.some.inj h)
            clear h hf
            go_wp2_with (first | ((with_reducible refine gate_dst (N := 2) rfl ?_); refine box_event ?hg (N := 2) ?hd (cs := #[.int .u8 K, .int .i64 N, .string S, .slice A l.length C, .int .i64 I, .int .i64 O]) (t := 25) ?hr ?_; (case hd => rfl); (case hg => rfl); (case hr => first | (go_simp; done) | (go_simp; rfl)); intro gx hg w1 hbox hb; have BX := Aside0.mk hbox; have HB1 := Aside0.mk hb; have HM1 := Aside0.mk (HM.out.below hb); have GX := Aside0.mk (show w.heap.size ≤ gx from by rw [hg]; exact Nat.le_refl _); clear hbox hb hg) | ((with_reducible refine gate_dst (N := 5) rfl ?_); refine box_event ?hg (N := 5) ?hd (cs := #[.int .i64 0, .int .i64 0, .int .i64 0]) (t := 29) ?hr ?_; (case hd => rfl); (case hg => rfl); (case hr => first | (go_simp; done) | (go_simp; rfl)); intro gr hg w2 hbox hb; have BR := Aside0.mk hbox; have HB2 := Aside0.mk (below_step HB1.out hb); have HM2 := Aside0.mk (HM1.out.below hb); have BX2 := Aside0.mk (blk_below BX.out hb); have GR := Aside0.mk (show w.heap.size ≤ gr from by rw [hg]; exact HB1.out.size); have NR := Aside0.mk (show gx ≠ gr from fun e => by have := blk_lt BX.out; omega); have hw0 : w2.cell? ⟨gx, 0, none⟩ = some (.int .u8 K) := (blk_cell BX2.out 0).trans rfl; have hw1 : w2.cell? ⟨gx, 1, none⟩ = some (.int .i64 N) := (blk_cell BX2.out 1).trans rfl; have hw2 : w2.cell? ⟨gx, 2, none⟩ = some (.string S) := (blk_cell BX2.out 2).trans rfl; have hw3 : w2.cell? ⟨gx, 3, none⟩ = some (.slice A l.length C) := (blk_cell BX2.out 3).trans rfl; have hw4 : w2.cell? ⟨gx, 4, none⟩ = some (.int .i64 I) := (blk_cell BX2.out 4).trans rfl; have hw5 : w2.cell? ⟨gx, 5, none⟩ = some (.int .i64 O) := (blk_cell BX2.out 5).trans rfl; clear hbox hb hg) | (at_lookup; refine xmap_look rfl _ _ rfl rfl HM2.out S rfl HZ.out ?_; rw [HF.out]) | (refine xstore_row rfl 29 _ _ rfl gr #[.int .i64 0, .int .i64 0, .int .i64 0] rfl rfl 29 _ BR.out faultInfo rfl (xone3 _ _ _) ?_; intro w3 hbk hgr hbl; have HB3 := Aside0.mk (hbl _ _ HB2.out GR.out); have BR3 := Aside0.mk hbk; clear hbk hgr hbl))
            have hE := HE.out
            simp only [Prod.mk.injEq] at hE
            obtain ⟨rfl, rfl, rfl, rfl⟩ := hE
            refine bodyPost_ret (results_tc rfl _ _ gr 29 #[.int .i64 0, .int .i64 0, .int .i64 0] (0, 0) _ rfl BR3.out Try.underlying29 rfl faultInfo) rfl ?_
            exact ⟨rfl, HB3.out⟩
          | false =>
            rw [hf, if_neg (by simp)] at h
            have HF := Aside0.mk hf
            have HE := Aside0.mk (Option.some.inj h)
            clear h hf
            go_wp2_with (first | ((with_reducible refine gate_dst (N := 2) rfl ?_); refine box_event ?hg (N := 2) ?hd (cs := #[.int .u8 K, .int .i64 N, .string S, .slice A l.length C, .int .i64 I, .int .i64 O]) (t := 25) ?hr ?_; (case hd => rfl); (case hg => rfl); (case hr => first | (go_simp; done) | (go_simp; rfl)); intro gx hg w1 hbox hb; have BX := Aside0.mk hbox; have HB1 := Aside0.mk hb; have HM1 := Aside0.mk (HM.out.below hb); have GX := Aside0.mk (show w.heap.size ≤ gx from by rw [hg]; exact Nat.le_refl _); clear hbox hb hg) | ((with_reducible refine gate_dst (N := 5) rfl ?_); refine box_event ?hg (N := 5) ?hd (cs := #[.int .i64 0, .int .i64 0, .int .i64 0]) (t := 29) ?hr ?_; (case hd => rfl); (case hg => rfl); (case hr => first | (go_simp; done) | (go_simp; rfl)); intro gr hg w2 hbox hb; have BR := Aside0.mk hbox; have HB2 := Aside0.mk (below_step HB1.out hb); have HM2 := Aside0.mk (HM1.out.below hb); have BX2 := Aside0.mk (blk_below BX.out hb); have GR := Aside0.mk (show w.heap.size ≤ gr from by rw [hg]; exact HB1.out.size); have NR := Aside0.mk (show gx ≠ gr from fun e => by have := blk_lt BX.out; omega); have hw0 : w2.cell? ⟨gx, 0, none⟩ = some (.int .u8 K) := (blk_cell BX2.out 0).trans rfl; have hw1 : w2.cell? ⟨gx, 1, none⟩ = some (.int .i64 N) := (blk_cell BX2.out 1).trans rfl; have hw2 : w2.cell? ⟨gx, 2, none⟩ = some (.string S) := (blk_cell BX2.out 2).trans rfl; have hw3 : w2.cell? ⟨gx, 3, none⟩ = some (.slice A l.length C) := (blk_cell BX2.out 3).trans rfl; have hw4 : w2.cell? ⟨gx, 4, none⟩ = some (.int .i64 I) := (blk_cell BX2.out 4).trans rfl; have hw5 : w2.cell? ⟨gx, 5, none⟩ = some (.int .i64 O) := (blk_cell BX2.out 5).trans rfl; clear hbox hb hg) | (at_lookup; refine xmap_look rfl _ _ rfl rfl HM2.out S rfl HZ.out ?_; rw [HF.out]) | (go_at_call 40; refine (eval_fault 121 I O gx _ hw4 hw5).mono ?_; rintro e w4 ⟨rfl, hb⟩; have HB4 := Aside0.mk (below_step HB2.out hb); have BR4 := Aside0.mk (blk_below BR.out hb); clear hb) | (refine xstore_row rfl 29 _ _ rfl gr #[.int .i64 121, .int .i64 I, .int .i64 O] rfl rfl 29 _ BR4.out faultInfo rfl (xone3 _ _ _) ?_; intro w5 hbk hgr hbl; have HB5 := Aside0.mk (hbl _ _ HB4.out GR.out); have BR5 := Aside0.mk hbk; clear hbk hgr hbl))
            have hE := HE.out
            simp only [Prod.mk.injEq] at hE
            obtain ⟨rfl, rfl, rfl, rfl⟩ := hE
            refine bodyPost_ret (results_tc rfl _ _ gr 29 #[.int .i64 121, .int .i64 I, .int .i64 O] (0, 0) _ rfl BR5.out Try.underlying29 rfl faultInfo) rfl ?_
            exact ⟨rfl, HB5.out⟩
        · rw [if_neg hz] at h
          exact absurd h (by simp)
      · rw [if_neg k2] at h
        have k2b : (K == 2) = false := beq_eq_false_iff_ne.2 k2
        clear k2
        by_cases hl : l.length ≤ 2
        · rw [if_pos hl] at h
          obtain ⟨PR, hp, hq⟩ := Option.bind_eq_some_iff.1 h
          obtain ⟨⟨pa, pb⟩, pc, pl, po⟩ := PR
          have HL := Aside0.mk hl
          have HP := Aside0.mk (show xparts (xeval F n) (l.drop 0) 0 0 0 = some ((pa, pb), (pc, pl, po)) from hp)
          have HQ := Aside0.mk hq
          clear h hp hq hl
          go_upto_region 11 with (first | ((with_reducible refine gate_dst (N := 2) rfl ?_); refine box_event ?hg (N := 2) ?hd (cs := #[.int .u8 K, .int .i64 N, .string S, .slice A l.length C, .int .i64 I, .int .i64 O]) (t := 25) ?hr ?_; (case hd => rfl); (case hg => rfl); (case hr => first | (go_simp; done) | (go_simp; rfl)); intro gx hg w1 hbox hb; have BX := Aside0.mk hbox; have HB1 := Aside0.mk hb; have HM1 := Aside0.mk (HM.out.below hb); have GX := Aside0.mk (show w.heap.size ≤ gx from by rw [hg]; exact Nat.le_refl _); clear hbox hb hg) | ((with_reducible refine gate_dst (N := 5) rfl ?_); refine box_event ?hg (N := 5) ?hd (cs := #[.int .i64 0, .int .i64 0, .int .i64 0]) (t := 29) ?hr ?_; (case hd => rfl); (case hg => rfl); (case hr => first | (go_simp; done) | (go_simp; rfl)); intro gr hg w2 hbox hb; have BR := Aside0.mk hbox; have HB2 := Aside0.mk (below_step HB1.out hb); have HM2 := Aside0.mk (HM1.out.below hb); have BX2 := Aside0.mk (blk_below BX.out hb); have GR := Aside0.mk (show w.heap.size ≤ gr from by rw [hg]; exact HB1.out.size); have NR := Aside0.mk (show gx ≠ gr from fun e => by have := blk_lt BX.out; omega); have hw0 : w2.cell? ⟨gx, 0, none⟩ = some (.int .u8 K) := (blk_cell BX2.out 0).trans rfl; have hw1 : w2.cell? ⟨gx, 1, none⟩ = some (.int .i64 N) := (blk_cell BX2.out 1).trans rfl; have hw2 : w2.cell? ⟨gx, 2, none⟩ = some (.string S) := (blk_cell BX2.out 2).trans rfl; have hw3 : w2.cell? ⟨gx, 3, none⟩ = some (.slice A l.length C) := (blk_cell BX2.out 3).trans rfl; have hw4 : w2.cell? ⟨gx, 4, none⟩ = some (.int .i64 I) := (blk_cell BX2.out 4).trans rfl; have hw5 : w2.cell? ⟨gx, 5, none⟩ = some (.int .i64 O) := (blk_cell BX2.out 5).trans rfl; clear hbox hb hg) | ((with_reducible refine gate_dst (N := 9) rfl ?_); refine box_event ?hg (N := 9) ?hd (cs := #[.int .i64 0, .int .i64 0]) (t := 81) ?hr ?_; (case hd => rfl); (case hg => rfl); (case hr => first | (go_simp; done) | (go_simp; rfl)); intro ga hg w3 hbox hb; have BA := Aside0.mk hbox; have HB3 := Aside0.mk (below_step HB2.out hb); have HM3 := Aside0.mk (HM2.out.below hb); have BX3 := Aside0.mk (blk_below BX2.out hb); have BR3 := Aside0.mk (blk_below BR.out hb); have GA := Aside0.mk (show w.heap.size ≤ ga from by rw [hg]; exact HB2.out.size); have NAX := Aside0.mk (show gx ≠ ga from fun e => by have := blk_lt BX2.out; omega); have NAR := Aside0.mk (show gr ≠ ga from fun e => by have := blk_lt BR.out; omega); have NAM := Aside0.mk (show some g ≠ some ga from fun e => by cases e; exact absurd HM2.out.lt (by omega)); have hz0 : w3.cell? ⟨gx, 0, none⟩ = some (.int .u8 K) := (blk_cell BX3.out 0).trans rfl; have hz1 : w3.cell? ⟨gx, 1, none⟩ = some (.int .i64 N) := (blk_cell BX3.out 1).trans rfl; have hz2 : w3.cell? ⟨gx, 2, none⟩ = some (.string S) := (blk_cell BX3.out 2).trans rfl; have hz3 : w3.cell? ⟨gx, 3, none⟩ = some (.slice A l.length C) := (blk_cell BX3.out 3).trans rfl; have hz4 : w3.cell? ⟨gx, 4, none⟩ = some (.int .i64 I) := (blk_cell BX3.out 4).trans rfl; have hz5 : w3.cell? ⟨gx, 5, none⟩ = some (.int .i64 O) := (blk_cell BX3.out 5).trans rfl; clear hbox hb hg))
          go_wp2
          go_loopg [42] l.length (fun q v42 wx => ∃ (i : Nat) (a b : Int), i + q = l.length ∧ v42 = .int .i64 i ∧ Aside0 (xparts (xeval F n) (l.drop i) i a b = some ((pa, pb), (pc, pl, po))) ∧ Aside0 (wx.heap[ga]? = some (.cells #[.int .i64 a, .int .i64 b] 81 (0, 0))) ∧ Aside0 (wx.heap[gx]? = some (.cells #[.int .u8 K, .int .i64 N, .string S, .slice A l.length C, .int .i64 I, .int .i64 O] 25 (0, 0))) ∧ Aside0 (wx.heap[gr]? = some (.cells #[.int .i64 0, .int .i64 0, .int .i64 0] 29 (0, 0))) ∧ Aside0 (envIs wx g m F) ∧ Aside0 (Below w.heap.size w wx))
          case atStart => exact ⟨0, 0, 0, by omega, rfl, HP, BA, BX3, BR3, HM3, HB3⟩
          case round =>
            clear HP BA BX BX2 BX3 BR BR3 HM HM1 HM2 HM3 HB1 HB2 HB3 hz0 hz1 hz2 hz3 hz4 hz5 hw0 hw1 hw2 hw3 hw4 hw5
            obtain ⟨i, a, b, hi, rfl, HP, BA, BX, BR, HM, HB⟩ := hrel
            cases gk with
            | zero =>
              obtain rfl : i = l.length := by omega
              have hP := HP.out
              rw [List.drop_length] at hP
              simp only [xparts, Option.some.injEq, Prod.mk.injEq] at hP
              obtain ⟨⟨rfl, rfl⟩, rfl, rfl, rfl⟩ := hP
              have hq := HQ.out
              try dsimp only at hq
              rw [if_pos rfl] at hq
              obtain ⟨⟨q1, q2⟩, hw, hq⟩ := Option.bind_eq_some_iff.1 hq
              dsimp only at hq
              have HW := Aside0.mk hw
              clear HQ hw HP
              have hz0 : wr.cell? ⟨gx, 0, none⟩ = some (.int .u8 K) := (blk_cell BX.out 0).trans rfl; have hz1 : wr.cell? ⟨gx, 1, none⟩ = some (.int .i64 N) := (blk_cell BX.out 1).trans rfl; have hz2 : wr.cell? ⟨gx, 2, none⟩ = some (.string S) := (blk_cell BX.out 2).trans rfl; have hz3 : wr.cell? ⟨gx, 3, none⟩ = some (.slice A l.length C) := (blk_cell BX.out 3).trans rfl; have hz4 : wr.cell? ⟨gx, 4, none⟩ = some (.int .i64 I) := (blk_cell BX.out 4).trans rfl; have hz5 : wr.cell? ⟨gx, 5, none⟩ = some (.int .i64 O) := (blk_cell BX.out 5).trans rfl
              have ha0 : wr.cell? ⟨ga, 0, none⟩ = some (.int .i64 a) := (blk_cell BA.out 0).trans rfl; have ha1 : wr.cell? ⟨ga, 1, none⟩ = some (.int .i64 b) := (blk_cell BA.out 1).trans rfl
              by_cases c2 : q2 = 0
              · rw [if_pos c2] at hq
                have HE := Aside0.mk (Option.some.inj hq)
                have c2b : (q2 != 0) = false := bne_eq_false_iff_eq.mpr c2
                clear hq c2
                go_wp2_with (first | (go_at_call 19; refine (number_Work.calls K a b q1 q2 _ HW.out).mono ?_; rintro e w4 ⟨rfl, hb⟩; have HB4 := Aside0.mk (below_step HB.out hb); have BX4 := Aside0.mk (blk_below BX.out hb); have BR4 := Aside0.mk (blk_below BR.out hb); have hv0 : w4.cell? ⟨gx, 0, none⟩ = some (.int .u8 K) := (blk_cell BX4.out 0).trans rfl; have hv1 : w4.cell? ⟨gx, 1, none⟩ = some (.int .i64 N) := (blk_cell BX4.out 1).trans rfl; have hv2 : w4.cell? ⟨gx, 2, none⟩ = some (.string S) := (blk_cell BX4.out 2).trans rfl; have hv3 : w4.cell? ⟨gx, 3, none⟩ = some (.slice A l.length C) := (blk_cell BX4.out 3).trans rfl; have hv4 : w4.cell? ⟨gx, 4, none⟩ = some (.int .i64 I) := (blk_cell BX4.out 4).trans rfl; have hv5 : w4.cell? ⟨gx, 5, none⟩ = some (.int .i64 O) := (blk_cell BX4.out 5).trans rfl; clear hb) | (refine xstore_row rfl 29 _ _ rfl gr #[.int .i64 0, .int .i64 0, .int .i64 0] rfl rfl 29 _ BR4.out faultInfo rfl (xone3 _ _ _) ?_; intro w5 hbk hgr hbl; have HB5 := Aside0.mk (hbl _ _ HB4.out GR.out); have BR5 := Aside0.mk hbk; clear hbk hgr hbl))
                have hE := HE.out
                simp only [Prod.mk.injEq] at hE
                obtain ⟨rfl, rfl, rfl, rfl⟩ := hE
                refine bodyPost_ret (results_tc rfl _ _ gr 29 #[.int .i64 0, .int .i64 0, .int .i64 0] (0, 0) _ rfl BR5.out Try.underlying29 rfl faultInfo) rfl ?_
                exact ⟨rfl, HB5.out⟩
              · rw [if_neg c2] at hq
                have HE := Aside0.mk (Option.some.inj hq)
                have c2b : (q2 != 0) = true := bne_iff_ne.mpr c2
                clear hq c2
                go_wp2_with (first | (go_at_call 19; refine (number_Work.calls K a b q1 q2 _ HW.out).mono ?_; rintro e w4 ⟨rfl, hb⟩; have HB4 := Aside0.mk (below_step HB.out hb); have BX4 := Aside0.mk (blk_below BX.out hb); have BR4 := Aside0.mk (blk_below BR.out hb); have hv0 : w4.cell? ⟨gx, 0, none⟩ = some (.int .u8 K) := (blk_cell BX4.out 0).trans rfl; have hv1 : w4.cell? ⟨gx, 1, none⟩ = some (.int .i64 N) := (blk_cell BX4.out 1).trans rfl; have hv2 : w4.cell? ⟨gx, 2, none⟩ = some (.string S) := (blk_cell BX4.out 2).trans rfl; have hv3 : w4.cell? ⟨gx, 3, none⟩ = some (.slice A l.length C) := (blk_cell BX4.out 3).trans rfl; have hv4 : w4.cell? ⟨gx, 4, none⟩ = some (.int .i64 I) := (blk_cell BX4.out 4).trans rfl; have hv5 : w4.cell? ⟨gx, 5, none⟩ = some (.int .i64 O) := (blk_cell BX4.out 5).trans rfl; clear hb) | (go_at_call 40; refine (eval_fault q2 I O gx _ hv4 hv5).mono ?_; rintro e w5 ⟨rfl, hb⟩; have HB5 := Aside0.mk (below_step HB4.out hb); have BR5 := Aside0.mk (blk_below BR4.out hb); clear hb) | (refine xstore_row rfl 29 _ _ rfl gr #[.int .i64 q2, .int .i64 I, .int .i64 O] rfl rfl 29 _ BR5.out faultInfo rfl (xone3 _ _ _) ?_; intro w6 hbk hgr hbl; have HB6 := Aside0.mk (hbl _ _ HB5.out GR.out); have BR6 := Aside0.mk hbk; clear hbk hgr hbl))
                have hE := HE.out
                simp only [Prod.mk.injEq] at hE
                obtain ⟨rfl, rfl, rfl, rfl⟩ := hE
                refine bodyPost_ret (results_tc rfl _ _ gr 29 #[.int .i64 q2, .int .i64 I, .int .i64 O] (0, 0) _ rfl BR6.out Try.underlying29 rfl faultInfo) rfl ?_
                exact ⟨rfl, HB6.out⟩
            | succ q =>
              have hik : i < l.length := by omega
              have hlt : decide ((i : Int) < (l.length : Int)) = true := decide_eq_true (by omega)
              have hP := HP.out
              clear HP
              rw [rd_drop25 l i hik] at hP
              obtain ⟨ad, A3, c3, e0, hx0, hx1, hx2, hx3, hx4, hx5, hlc, hRC⟩ := at_T25 HR.out (i : Int) (by omega) (by omega)
              subst e0
              rw [Int.toNat_natCast] at hx0 hx1 hx2 hx3 hx4 hx5
              generalize rd_T25 l (i : Int) = y at hP hx0 hx1 hx2 hx3 hx4 hx5 hlc hRC
              obtain ⟨K2, N2, S2, l2, I2, O2⟩ := y
              dsimp only at hP hx0 hx1 hx2 hx3 hx4 hx5 hlc hRC
              replace hx0 := (HB.out.cell (World.block_lt_of_cell? w _ hx0)).trans hx0
              replace hx1 := (HB.out.cell (World.block_lt_of_cell? w _ hx1)).trans hx1
              replace hx2 := (HB.out.cell (World.block_lt_of_cell? w _ hx2)).trans hx2
              replace hx3 := (HB.out.cell (World.block_lt_of_cell? w _ hx3)).trans hx3
              replace hx4 := (HB.out.cell (World.block_lt_of_cell? w _ hx4)).trans hx4
              replace hx5 := (HB.out.cell (World.block_lt_of_cell? w _ hx5)).trans hx5
              have HRC := Aside0.mk hRC
              have HII := Aside0.mk (show i ≤ 1 by have := HL.out; omega)
              simp only [xparts] at hP
              clear hRC hlc
              obtain ⟨⟨y1, y2, y3, y4⟩, hy, hP⟩ := Option.bind_eq_some_iff.1 hP
              have HY := Aside0.mk hy
              clear hy
              dsimp only at hP
              by_cases c2 : y2 = 0
              · rw [if_pos c2] at hP
                have HP := Aside0.mk hP
                have c2b : (y2 != 0) = false := bne_eq_false_iff_eq.mpr c2
                have i2b : decide ((i : Int) < 2) = true := decide_eq_true (by have := HII.out; omega)
                have i2c : (i : Int) < 2 := by have := HII.out; omega
                clear hP c2
                go_wp2_with (first | ((with_reducible refine gate_dst (N := 11) rfl ?_); refine box_event ?hg (N := 11) ?hd (cs := #[.int .u8 0, .int .i64 0, .string (⟨#[]⟩ : ByteArray), .slice none 0 0, .int .i64 0, .int .i64 0]) (t := 25) ?hr ?_; (case hd => rfl); (case hg => rfl); (case hr => first | (go_simp; done) | (go_simp; rfl)); intro gp hg w3 hbox hb; have BP := Aside0.mk hbox; have BA3 := Aside0.mk (blk_below BA.out hb); have BX3 := Aside0.mk (blk_below BX.out hb); have BR3 := Aside0.mk (blk_below BR.out hb); have HM3 := Aside0.mk (HM.out.below hb); have HB3 := Aside0.mk (below_step HB.out hb); have GP := Aside0.mk (show w.heap.size ≤ gp from by rw [hg]; exact HB.out.size); have NPA := Aside0.mk (show ga ≠ gp from fun e => by have := blk_lt BA.out; omega); have NPX := Aside0.mk (show gx ≠ gp from fun e => by have := blk_lt BX.out; omega); have NPR := Aside0.mk (show gr ≠ gp from fun e => by have := blk_lt BR.out; omega); have NPM := Aside0.mk (show g ≠ gp from fun e => by have := HM.out.lt; omega); clear hbox hb hg) | (refine xstore_row rfl 25 _ _ rfl gp #[.int .u8 K2, .int .i64 N2, .string S2, .slice A3 l2.length c3, .int .i64 I2, .int .i64 O2] rfl rfl 25 _ BP.out exprInfo rfl (xone6 _ _ _ _ _ _ _ _) ?_; intro w4 hbk hgr hbl; have hp0 : w4.cell? ⟨gp, 0, none⟩ = some (.int .u8 K2) := (blk_cell hbk 0).trans rfl; have hp1 : w4.cell? ⟨gp, 1, none⟩ = some (.int .i64 N2) := (blk_cell hbk 1).trans rfl; have hp2 : w4.cell? ⟨gp, 2, none⟩ = some (.string S2) := (blk_cell hbk 2).trans rfl; have hp3 : w4.cell? ⟨gp, 3, none⟩ = some (.slice A3 l2.length c3) := (blk_cell hbk 3).trans rfl; have hp4 : w4.cell? ⟨gp, 4, none⟩ = some (.int .i64 I2) := (blk_cell hbk 4).trans rfl; have hp5 : w4.cell? ⟨gp, 5, none⟩ = some (.int .i64 O2) := (blk_cell hbk 5).trans rfl; have HB4 := Aside0.mk (hbl _ _ HB3.out GP.out); have BA4 := Aside0.mk (blk_grown BA3.out hgr (by simp only [ne_eq, Option.some.injEq]; exact NPA.out)); have BX4 := Aside0.mk (blk_grown BX3.out hgr (by simp only [ne_eq, Option.some.injEq]; exact NPX.out)); have BR4 := Aside0.mk (blk_grown BR3.out hgr (by simp only [ne_eq, Option.some.injEq]; exact NPR.out)); have HM4 := Aside0.mk (HM3.out.kept hgr (by simp only [ne_eq, Option.some.injEq]; exact NPM.out)); clear hbk hgr hbl) | (go_at_call 24; refine (HIH.out K2 N2 S2 A3 c3 l2 I2 O2 g m F y1 y2 y3 y4 _ (Kd.C_below HRC.out HB4.out) HM4.out HY.out).mono ?_; rintro e w5 ⟨rfl, hb⟩; have BA5 := Aside0.mk (blk_below BA4.out hb); have BX5 := Aside0.mk (blk_below BX4.out hb); have BR5 := Aside0.mk (blk_below BR4.out hb); have HM5 := Aside0.mk (HM4.out.below hb); have HB5 := Aside0.mk (below_step HB4.out hb); clear hb) | ((with_reducible refine gate_dst (N := 13) rfl ?_); refine box_event ?hg (N := 13) ?hd (cs := #[.int .i64 0, .int .i64 0, .int .i64 0]) (t := 29) ?hr ?_; (case hd => rfl); (case hg => rfl); (case hr => first | (go_simp; done) | (go_simp; rfl)); intro gf hg w6 hbox hb; have BF := Aside0.mk hbox; have BA6 := Aside0.mk (blk_below BA5.out hb); have BX6 := Aside0.mk (blk_below BX5.out hb); have BR6 := Aside0.mk (blk_below BR5.out hb); have HM6 := Aside0.mk (HM5.out.below hb); have HB6 := Aside0.mk (below_step HB5.out hb); have GF := Aside0.mk (show w.heap.size ≤ gf from by rw [hg]; exact HB5.out.size); have NFA := Aside0.mk (show ga ≠ gf from fun e => by have := blk_lt BA5.out; omega); have NFX := Aside0.mk (show gx ≠ gf from fun e => by have := blk_lt BX5.out; omega); have NFR := Aside0.mk (show gr ≠ gf from fun e => by have := blk_lt BR5.out; omega); have NFM := Aside0.mk (show g ≠ gf from fun e => by have := HM5.out.lt; omega); clear hbox hb hg) | (refine xstore_row rfl 29 _ _ rfl gf #[.int .i64 y2, .int .i64 y3, .int .i64 y4] rfl rfl 29 _ BF.out faultInfo rfl (xone3 _ _ _) ?_; intro w8 hbk hgr hbl; have BF8 := Aside0.mk hbk; have BA8 := Aside0.mk (blk_grown BA6.out hgr (by simp only [ne_eq, Option.some.injEq]; exact NFA.out)); have BX8 := Aside0.mk (blk_grown BX6.out hgr (by simp only [ne_eq, Option.some.injEq]; exact NFX.out)); have BR8 := Aside0.mk (blk_grown BR6.out hgr (by simp only [ne_eq, Option.some.injEq]; exact NFR.out)); have HM8 := Aside0.mk (HM6.out.kept hgr (by simp only [ne_eq, Option.some.injEq]; exact NFM.out)); have hf0 : w8.cell? ⟨gf, 0, none⟩ = some (.int .i64 y2) := (blk_cell hbk 0).trans rfl; have hf1 : w8.cell? ⟨gf, 1, none⟩ = some (.int .i64 y3) := (blk_cell hbk 1).trans rfl; have hf2 : w8.cell? ⟨gf, 2, none⟩ = some (.int .i64 y4) := (blk_cell hbk 2).trans rfl; have hai : w8.cell? ⟨ga, i, none⟩ = some (.int .i64 (if i = 0 then a else b)) := (blk_cell BA8.out i).trans (pair_at a b i HII.out); have hfi : w8.frozen? ⟨ga, i, none⟩ = false := blk_frozen BA8.out i; have HB8 := Aside0.mk (hbl _ _ HB6.out GF.out); clear hbk hgr hbl))
                go_roundg q
                case measure => omega
                case rel =>
                  refine ⟨i + 1, _, _, by omega, ?_, HP, ⟨?_⟩, ⟨?_⟩, ⟨?_⟩, ⟨?_⟩, ⟨?_⟩⟩
                  · have h2 := HII.out; first | rfl | (rw [xw64 (by omega) (by omega)]; simp)
                  · exact blk_put BA8.out i (.int .i64 y1) (pair_put a b y1 i HII.out)
                  · exact blk_far BX8.out NAX.out _
                  · exact blk_far BR8.out NAR.out _
                  · exact HM8.out.setCell (fun e => NAM.out (by rw [e])) _
                  · exact below_set HB8.out GA.out
              · rw [if_neg c2] at hP
                have HE := Aside0.mk (Option.some.inj hP)
                have c2b : (y2 != 0) = true := bne_iff_ne.mpr c2
                have HN2 := Aside0.mk c2
                clear hP c2
                go_upto_region 16 with (first | ((with_reducible refine gate_dst (N := 11) rfl ?_); refine box_event ?hg (N := 11) ?hd (cs := #[.int .u8 0, .int .i64 0, .string (⟨#[]⟩ : ByteArray), .slice none 0 0, .int .i64 0, .int .i64 0]) (t := 25) ?hr ?_; (case hd => rfl); (case hg => rfl); (case hr => first | (go_simp; done) | (go_simp; rfl)); intro gp hg w3 hbox hb; have BP := Aside0.mk hbox; have BA3 := Aside0.mk (blk_below BA.out hb); have BX3 := Aside0.mk (blk_below BX.out hb); have BR3 := Aside0.mk (blk_below BR.out hb); have HM3 := Aside0.mk (HM.out.below hb); have HB3 := Aside0.mk (below_step HB.out hb); have GP := Aside0.mk (show w.heap.size ≤ gp from by rw [hg]; exact HB.out.size); have NPA := Aside0.mk (show ga ≠ gp from fun e => by have := blk_lt BA.out; omega); have NPX := Aside0.mk (show gx ≠ gp from fun e => by have := blk_lt BX.out; omega); have NPR := Aside0.mk (show gr ≠ gp from fun e => by have := blk_lt BR.out; omega); have NPM := Aside0.mk (show g ≠ gp from fun e => by have := HM.out.lt; omega); clear hbox hb hg) | (refine xstore_row rfl 25 _ _ rfl gp #[.int .u8 K2, .int .i64 N2, .string S2, .slice A3 l2.length c3, .int .i64 I2, .int .i64 O2] rfl rfl 25 _ BP.out exprInfo rfl (xone6 _ _ _ _ _ _ _ _) ?_; intro w4 hbk hgr hbl; have hp0 : w4.cell? ⟨gp, 0, none⟩ = some (.int .u8 K2) := (blk_cell hbk 0).trans rfl; have hp1 : w4.cell? ⟨gp, 1, none⟩ = some (.int .i64 N2) := (blk_cell hbk 1).trans rfl; have hp2 : w4.cell? ⟨gp, 2, none⟩ = some (.string S2) := (blk_cell hbk 2).trans rfl; have hp3 : w4.cell? ⟨gp, 3, none⟩ = some (.slice A3 l2.length c3) := (blk_cell hbk 3).trans rfl; have hp4 : w4.cell? ⟨gp, 4, none⟩ = some (.int .i64 I2) := (blk_cell hbk 4).trans rfl; have hp5 : w4.cell? ⟨gp, 5, none⟩ = some (.int .i64 O2) := (blk_cell hbk 5).trans rfl; have HB4 := Aside0.mk (hbl _ _ HB3.out GP.out); have BA4 := Aside0.mk (blk_grown BA3.out hgr (by simp only [ne_eq, Option.some.injEq]; exact NPA.out)); have BX4 := Aside0.mk (blk_grown BX3.out hgr (by simp only [ne_eq, Option.some.injEq]; exact NPX.out)); have BR4 := Aside0.mk (blk_grown BR3.out hgr (by simp only [ne_eq, Option.some.injEq]; exact NPR.out)); have HM4 := Aside0.mk (HM3.out.kept hgr (by simp only [ne_eq, Option.some.injEq]; exact NPM.out)); clear hbk hgr hbl) | (go_at_call 24; refine (HIH.out K2 N2 S2 A3 c3 l2 I2 O2 g m F y1 y2 y3 y4 _ (Kd.C_below HRC.out HB4.out) HM4.out HY.out).mono ?_; rintro e w5 ⟨rfl, hb⟩; have BA5 := Aside0.mk (blk_below BA4.out hb); have BX5 := Aside0.mk (blk_below BX4.out hb); have BR5 := Aside0.mk (blk_below BR4.out hb); have HM5 := Aside0.mk (HM4.out.below hb); have HB5 := Aside0.mk (below_step HB4.out hb); clear hb) | ((with_reducible refine gate_dst (N := 13) rfl ?_); refine box_event ?hg (N := 13) ?hd (cs := #[.int .i64 0, .int .i64 0, .int .i64 0]) (t := 29) ?hr ?_; (case hd => rfl); (case hg => rfl); (case hr => first | (go_simp; done) | (go_simp; rfl)); intro gf hg w6 hbox hb; have BF := Aside0.mk hbox; have BA6 := Aside0.mk (blk_below BA5.out hb); have BX6 := Aside0.mk (blk_below BX5.out hb); have BR6 := Aside0.mk (blk_below BR5.out hb); have HM6 := Aside0.mk (HM5.out.below hb); have HB6 := Aside0.mk (below_step HB5.out hb); have GF := Aside0.mk (show w.heap.size ≤ gf from by rw [hg]; exact HB5.out.size); have NFA := Aside0.mk (show ga ≠ gf from fun e => by have := blk_lt BA5.out; omega); have NFX := Aside0.mk (show gx ≠ gf from fun e => by have := blk_lt BX5.out; omega); have NFR := Aside0.mk (show gr ≠ gf from fun e => by have := blk_lt BR5.out; omega); have NFM := Aside0.mk (show g ≠ gf from fun e => by have := HM5.out.lt; omega); clear hbox hb hg) | (refine xstore_row rfl 29 _ _ rfl gf #[.int .i64 y2, .int .i64 y3, .int .i64 y4] rfl rfl 29 _ BF.out faultInfo rfl (xone3 _ _ _) ?_; intro w8 hbk hgr hbl; have BF8 := Aside0.mk hbk; have BA8 := Aside0.mk (blk_grown BA6.out hgr (by simp only [ne_eq, Option.some.injEq]; exact NFA.out)); have BX8 := Aside0.mk (blk_grown BX6.out hgr (by simp only [ne_eq, Option.some.injEq]; exact NFX.out)); have BR8 := Aside0.mk (blk_grown BR6.out hgr (by simp only [ne_eq, Option.some.injEq]; exact NFR.out)); have HM8 := Aside0.mk (HM6.out.kept hgr (by simp only [ne_eq, Option.some.injEq]; exact NFM.out)); have hf0 : w8.cell? ⟨gf, 0, none⟩ = some (.int .i64 y2) := (blk_cell hbk 0).trans rfl; have hf1 : w8.cell? ⟨gf, 1, none⟩ = some (.int .i64 y3) := (blk_cell hbk 1).trans rfl; have hf2 : w8.cell? ⟨gf, 2, none⟩ = some (.int .i64 y4) := (blk_cell hbk 2).trans rfl; have hai : w8.cell? ⟨ga, i, none⟩ = some (.int .i64 (if i = 0 then a else b)) := (blk_cell BA8.out i).trans (pair_at a b i HII.out); have hfi : w8.frozen? ⟨ga, i, none⟩ = false := blk_frozen BA8.out i; have HB8 := Aside0.mk (hbl _ _ HB6.out GF.out); clear hbk hgr hbl))
                have he0 : w8.cell? ⟨gf, 0, none⟩ = some (.int .i64 y2) := (blk_cell BF8.out 0).trans rfl; have he1 : w8.cell? ⟨gf, 1, none⟩ = some (.int .i64 y3) := (blk_cell BF8.out 1).trans rfl; have he2 : w8.cell? ⟨gf, 2, none⟩ = some (.int .i64 y4) := (blk_cell BF8.out 2).trans rfl
                have hq0 : w8.cell? ⟨gr, 0, none⟩ = some (.int .i64 0) := (blk_cell BR8.out 0).trans rfl; have hq1 : w8.cell? ⟨gr, 1, none⟩ = some (.int .i64 0) := (blk_cell BR8.out 1).trans rfl; have hq2 : w8.cell? ⟨gr, 2, none⟩ = some (.int .i64 0) := (blk_cell BR8.out 2).trans rfl
                have fq0 : w8.frozen? ⟨gr, 0, none⟩ = false := blk_frozen BR8.out 0; have fq1 : w8.frozen? ⟨gr, 1, none⟩ = false := blk_frozen BR8.out 1; have fq2 : w8.frozen? ⟨gr, 2, none⟩ = false := blk_frozen BR8.out 2
                have hd0 : w8.drew.cell? ⟨gf, 0, none⟩ = some (.int .i64 y2) := (blk_cell (blk_drew BF8.out) 0).trans rfl; have hd1 : w8.drew.cell? ⟨gf, 1, none⟩ = some (.int .i64 y3) := (blk_cell (blk_drew BF8.out) 1).trans rfl; have hd2 : w8.drew.cell? ⟨gf, 2, none⟩ = some (.int .i64 y4) := (blk_cell (blk_drew BF8.out) 2).trans rfl
                have hr0 : w8.drew.cell? ⟨gr, 0, none⟩ = some (.int .i64 0) := (blk_cell (blk_drew BR8.out) 0).trans rfl; have hr1 : w8.drew.cell? ⟨gr, 1, none⟩ = some (.int .i64 0) := (blk_cell (blk_drew BR8.out) 1).trans rfl; have hr2 : w8.drew.cell? ⟨gr, 2, none⟩ = some (.int .i64 0) := (blk_cell (blk_drew BR8.out) 2).trans rfl
                have fr0 : w8.drew.frozen? ⟨gr, 0, none⟩ = false := blk_frozen (blk_drew BR8.out) 0; have fr1 : w8.drew.frozen? ⟨gr, 1, none⟩ = false := blk_frozen (blk_drew BR8.out) 1; have fr2 : w8.drew.frozen? ⟨gr, 2, none⟩ = false := blk_frozen (blk_drew BR8.out) 2
                go_region
                all_goals (try go_wp2)
                all_goals (have hE := HE.out; simp only [Prod.mk.injEq] at hE; obtain ⟨⟨rfl, rfl⟩, rfl, rfl, rfl⟩ := hE)
                all_goals (have hq := HQ.out)
                all_goals (try dsimp only at hq)
                all_goals (rw [if_neg HN2.out] at hq; simp only [Option.some.injEq, Prod.mk.injEq] at hq; obtain ⟨rfl, rfl, rfl, rfl⟩ := hq)
                all_goals (refine bodyPost_ret (results_tc rfl _ _ gr 29 #[.int .i64 y2, .int .i64 y3, .int .i64 y4] (0, 0) _ rfl (by (with_reducible repeat (first | refine blk_drewN ?_ _ | refine blk_drew ?_ | refine blk_alloc ?_ _)); refine blk_put (cs := #[.int .i64 y2, .int .i64 y3, .int .i64 0]) ?_ 2 _ rfl; (with_reducible repeat (first | refine blk_drewN ?_ _ | refine blk_drew ?_ | refine blk_alloc ?_ _)); refine blk_put (cs := #[.int .i64 y2, .int .i64 0, .int .i64 0]) ?_ 1 _ rfl; (with_reducible repeat (first | refine blk_drewN ?_ _ | refine blk_drew ?_ | refine blk_alloc ?_ _)); refine blk_put (cs := #[.int .i64 0, .int .i64 0, .int .i64 0]) ?_ 0 _ rfl; (with_reducible repeat (first | refine blk_drewN ?_ _ | refine blk_drew ?_ | refine blk_alloc ?_ _)); exact BR8.out) Try.underlying29 rfl faultInfo) rfl ?_)
                all_goals (refine ⟨rfl, ?_⟩)
                all_goals (repeat (first | (with_reducible first | exact HB8.out | apply below_alloc | apply pw_below_drewN | apply below_drew1 | refine below_set ?_ GR.out) | exact HB8.out))
        · rw [if_neg hl] at h
          exact absurd h (by simp)

end Go.Proofs.Ytnojokempdcikaa.PA

namespace Go.Proofs.Ytnojokempdcikaa.PA
open Go.RowKit Go.Proofs.YtnojokempdcikaaW.PrintWords Go.Proofs.YtnojokempdcikaaW.PrintLast Go.Proofs.YtnojokempdcikaaW.PrintMore
attribute [local go_sem] max2_int min2_int max_two min_two max_three min_three max_four min_four   -- for this text's walks alone
set_option linter.unusedVariables false
set_option linter.unusedSimpArgs false

/-! ### number_Eval: function 8 -/
--OWNPART 
open Go.RowKit
/-- What Eval tells: the number and the fault's code, line and column. -/
def number_Eval.f (a0_0 a0_1 : Int) (a0_2 : ByteArray) (l0_3 : List S25) (a0_4 a0_5 : Int) (l1 : List S54) : Option (Int × Int × Int × Int) :=
  if l1.length ≤ 4611686018427387903 then (knownGo l1 []).bind fun b => if b = true then (tree_MayExpr.f a0_0 a0_1 a0_2 l0_3 a0_4 a0_5).bind fun m => if m = true then xeval (envGet l1) 16 ⟨a0_0, a0_1, a0_2, l0_3, a0_4, a0_5⟩ else some (0, 2, 0, 0) else some (0, 2, 0, 0)
  else none
set_option maxHeartbeats 8000000 in
set_option maxRecDepth 100000 in
theorem number_Eval.calls (a0_0 a0_1 : Int) (a0_2 : ByteArray) (A0_3 : Option Addr) (c0_3 : Nat) (l0_3 : List S25) (a0_4 a0_5 : Int) (A1 : Option Addr) (c1 : Nat) (l1 : List S54) (r1 r2 r3 r4 : Int) (w : World) (hr0_3 : Kd.C k25 w A0_3 l0_3.length l0_3) (hc0_3 : l0_3.length ≤ c0_3) (hr1 : Kd.C k54 w A1 l1.length l1) (hc1 : l1.length ≤ c1) (h : number_Eval.f a0_0 a0_1 a0_2 l0_3 a0_4 a0_5 l1 = some (r1, r2, r3, r4)) :
    Calls Try.prog 8 #[.agg #[.int .u8 a0_0, .int .i64 a0_1, .string a0_2, .slice A0_3 l0_3.length c0_3, .int .i64 a0_4, .int .i64 a0_5], .slice A1 l1.length c1] w fun e w' => e = .returned (.tuple #[.int .i64 r1, .agg #[.int .i64 r2, .int .i64 r3, .int .i64 r4]]) ∧ Below w.heap.size w w' := by
  unfold number_Eval.f at h
  by_cases hl : l1.length ≤ 4611686018427387903
  · rw [if_pos hl] at h
    obtain ⟨b, hk, h⟩ := Option.bind_eq_some_iff.1 h
    have HL := Aside0.mk hl
    have HK := Aside0.mk hk
    have HR0 := Aside0.mk hr0_3
    have HR1 := Aside0.mk hr1
    have HC0 := Aside0.mk hc0_3
    clear hl hk hr0_3 hr1 hc0_3 hc1
    go_enter Try.func8, Try.ntmps8
    cases b with
    | false =>
      rw [if_neg (by simp)] at h
      have HE := Aside0.mk (Option.some.inj h)
      clear h
      go_wp2_with (first | ((with_reducible refine gate_dst (N := 2) rfl ?_); refine box_event ?hg (N := 2) ?hd (cs := #[.int .u8 a0_0, .int .i64 a0_1, .string a0_2, .slice A0_3 l0_3.length c0_3, .int .i64 a0_4, .int .i64 a0_5]) (t := 25) ?hr ?_; (case hd => rfl); (case hg => rfl); (case hr => first | (go_simp; done) | (go_simp; rfl)); intro gx hg w1 hbox hb; have BX := Aside0.mk hbox; have HB1 := Aside0.mk hb; clear hbox hb hg) | ((with_reducible refine gate_dst (N := 5) rfl ?_); refine box_event ?hg (N := 5) ?hd (cs := #[.int .i64 0, .int .i64 0, .int .i64 0]) (t := 29) ?hr ?_; (case hd => rfl); (case hg => rfl); (case hr => first | (go_simp; done) | (go_simp; rfl)); intro gr hg w2 hbox hb; have BR := Aside0.mk hbox; have HB2 := Aside0.mk (below_step HB1.out hb); have BX2 := Aside0.mk (blk_below BX.out hb); have GR := Aside0.mk (show w.heap.size ≤ gr from by rw [hg]; exact HB1.out.size); have hw0 : w2.cell? ⟨gx, 0, none⟩ = some (.int .u8 a0_0) := (blk_cell BX2.out 0).trans rfl; have hw1 : w2.cell? ⟨gx, 1, none⟩ = some (.int .i64 a0_1) := (blk_cell BX2.out 1).trans rfl; have hw2 : w2.cell? ⟨gx, 2, none⟩ = some (.string a0_2) := (blk_cell BX2.out 2).trans rfl; have hw3 : w2.cell? ⟨gx, 3, none⟩ = some (.slice A0_3 l0_3.length c0_3) := (blk_cell BX2.out 3).trans rfl; have hw4 : w2.cell? ⟨gx, 4, none⟩ = some (.int .i64 a0_4) := (blk_cell BX2.out 4).trans rfl; have hw5 : w2.cell? ⟨gx, 5, none⟩ = some (.int .i64 a0_5) := (blk_cell BX2.out 5).trans rfl; clear hbox hb hg) | (go_at_call 22; refine (number_known.walk A1 c1 l1 false _ (Kd.C_below HR1.out HB2.out) HL.out HK.out).mono ?_; rintro e w3 ⟨mv, rfl, hb, hm⟩; have HB3 := Aside0.mk (below_step HB2.out hb); have BX3 := Aside0.mk (blk_below BX2.out hb); have BR3 := Aside0.mk (blk_below BR.out hb); have hk0 : w3.cell? ⟨gx, 0, none⟩ = some (.int .u8 a0_0) := (blk_cell BX3.out 0).trans rfl; have hk1 : w3.cell? ⟨gx, 1, none⟩ = some (.int .i64 a0_1) := (blk_cell BX3.out 1).trans rfl; have hk2 : w3.cell? ⟨gx, 2, none⟩ = some (.string a0_2) := (blk_cell BX3.out 2).trans rfl; have hk3 : w3.cell? ⟨gx, 3, none⟩ = some (.slice A0_3 l0_3.length c0_3) := (blk_cell BX3.out 3).trans rfl; have hk4 : w3.cell? ⟨gx, 4, none⟩ = some (.int .i64 a0_4) := (blk_cell BX3.out 4).trans rfl; have hk5 : w3.cell? ⟨gx, 5, none⟩ = some (.int .i64 a0_5) := (blk_cell BX3.out 5).trans rfl; clear hb hm) | (refine xstore_row rfl 29 _ _ rfl gr #[.int .i64 2, .int .i64 0, .int .i64 0] rfl rfl 29 _ BR3.out faultInfo rfl (xone3 _ _ _) ?_; intro w6 hbk hgr hbl; have HB6 := Aside0.mk (hbl _ _ HB3.out GR.out); have BR6 := Aside0.mk hbk; clear hbk hgr hbl))
      have hE := HE.out
      simp only [Prod.mk.injEq] at hE
      obtain ⟨rfl, rfl, rfl, rfl⟩ := hE
      refine bodyPost_ret (results_tc rfl _ _ gr 29 #[.int .i64 2, .int .i64 0, .int .i64 0] (0, 0) _ rfl BR6.out Try.underlying29 rfl faultInfo) rfl ?_
      exact ⟨rfl, HB6.out⟩
    | true =>
      rw [if_pos rfl] at h
      obtain ⟨m, hx, h⟩ := Option.bind_eq_some_iff.1 h
      have HX := Aside0.mk hx
      clear hx
      cases m with
      | false =>
        rw [if_neg (by simp)] at h
        have HE := Aside0.mk (Option.some.inj h)
        clear h
        go_wp2_with (first | ((with_reducible refine gate_dst (N := 2) rfl ?_); refine box_event ?hg (N := 2) ?hd (cs := #[.int .u8 a0_0, .int .i64 a0_1, .string a0_2, .slice A0_3 l0_3.length c0_3, .int .i64 a0_4, .int .i64 a0_5]) (t := 25) ?hr ?_; (case hd => rfl); (case hg => rfl); (case hr => first | (go_simp; done) | (go_simp; rfl)); intro gx hg w1 hbox hb; have BX := Aside0.mk hbox; have HB1 := Aside0.mk hb; clear hbox hb hg) | ((with_reducible refine gate_dst (N := 5) rfl ?_); refine box_event ?hg (N := 5) ?hd (cs := #[.int .i64 0, .int .i64 0, .int .i64 0]) (t := 29) ?hr ?_; (case hd => rfl); (case hg => rfl); (case hr => first | (go_simp; done) | (go_simp; rfl)); intro gr hg w2 hbox hb; have BR := Aside0.mk hbox; have HB2 := Aside0.mk (below_step HB1.out hb); have BX2 := Aside0.mk (blk_below BX.out hb); have GR := Aside0.mk (show w.heap.size ≤ gr from by rw [hg]; exact HB1.out.size); have hw0 : w2.cell? ⟨gx, 0, none⟩ = some (.int .u8 a0_0) := (blk_cell BX2.out 0).trans rfl; have hw1 : w2.cell? ⟨gx, 1, none⟩ = some (.int .i64 a0_1) := (blk_cell BX2.out 1).trans rfl; have hw2 : w2.cell? ⟨gx, 2, none⟩ = some (.string a0_2) := (blk_cell BX2.out 2).trans rfl; have hw3 : w2.cell? ⟨gx, 3, none⟩ = some (.slice A0_3 l0_3.length c0_3) := (blk_cell BX2.out 3).trans rfl; have hw4 : w2.cell? ⟨gx, 4, none⟩ = some (.int .i64 a0_4) := (blk_cell BX2.out 4).trans rfl; have hw5 : w2.cell? ⟨gx, 5, none⟩ = some (.int .i64 a0_5) := (blk_cell BX2.out 5).trans rfl; clear hbox hb hg) | (go_at_call 22; refine (number_known.walk A1 c1 l1 true _ (Kd.C_below HR1.out HB2.out) HL.out HK.out).mono ?_; rintro e w3 ⟨mv, rfl, hb, hm⟩; have HB3 := Aside0.mk (below_step HB2.out hb); have BX3 := Aside0.mk (blk_below BX2.out hb); have BR3 := Aside0.mk (blk_below BR.out hb); have hk0 : w3.cell? ⟨gx, 0, none⟩ = some (.int .u8 a0_0) := (blk_cell BX3.out 0).trans rfl; have hk1 : w3.cell? ⟨gx, 1, none⟩ = some (.int .i64 a0_1) := (blk_cell BX3.out 1).trans rfl; have hk2 : w3.cell? ⟨gx, 2, none⟩ = some (.string a0_2) := (blk_cell BX3.out 2).trans rfl; have hk3 : w3.cell? ⟨gx, 3, none⟩ = some (.slice A0_3 l0_3.length c0_3) := (blk_cell BX3.out 3).trans rfl; have hk4 : w3.cell? ⟨gx, 4, none⟩ = some (.int .i64 a0_4) := (blk_cell BX3.out 4).trans rfl; have hk5 : w3.cell? ⟨gx, 5, none⟩ = some (.int .i64 a0_5) := (blk_cell BX3.out 5).trans rfl; obtain ⟨gm, rfl, hme⟩ := hm rfl; have HM3 := Aside0.mk hme; clear hme; clear hb) | (go_at_call 23; refine (tree_MayExpr.calls a0_0 a0_1 a0_2 A0_3 c0_3 l0_3 a0_4 a0_5 false _ (Kd.C_below HR0.out HB3.out) HC0.out HX.out).mono ?_; rintro e w4 ⟨rfl, hb⟩; have HB4 := Aside0.mk (below_step HB3.out hb); have BX4 := Aside0.mk (blk_below BX3.out hb); have BR4 := Aside0.mk (blk_below BR3.out hb); have hm0 : w4.cell? ⟨gx, 0, none⟩ = some (.int .u8 a0_0) := (blk_cell BX4.out 0).trans rfl; have hm1 : w4.cell? ⟨gx, 1, none⟩ = some (.int .i64 a0_1) := (blk_cell BX4.out 1).trans rfl; have hm2 : w4.cell? ⟨gx, 2, none⟩ = some (.string a0_2) := (blk_cell BX4.out 2).trans rfl; have hm3 : w4.cell? ⟨gx, 3, none⟩ = some (.slice A0_3 l0_3.length c0_3) := (blk_cell BX4.out 3).trans rfl; have hm4 : w4.cell? ⟨gx, 4, none⟩ = some (.int .i64 a0_4) := (blk_cell BX4.out 4).trans rfl; have hm5 : w4.cell? ⟨gx, 5, none⟩ = some (.int .i64 a0_5) := (blk_cell BX4.out 5).trans rfl; clear hb) | (refine xstore_row rfl 29 _ _ rfl gr #[.int .i64 2, .int .i64 0, .int .i64 0] rfl rfl 29 _ BR4.out faultInfo rfl (xone3 _ _ _) ?_; intro w6 hbk hgr hbl; have HB6 := Aside0.mk (hbl _ _ HB4.out GR.out); have BR6 := Aside0.mk hbk; clear hbk hgr hbl))
        have hE := HE.out
        simp only [Prod.mk.injEq] at hE
        obtain ⟨rfl, rfl, rfl, rfl⟩ := hE
        refine bodyPost_ret (results_tc rfl _ _ gr 29 #[.int .i64 2, .int .i64 0, .int .i64 0] (0, 0) _ rfl BR6.out Try.underlying29 rfl faultInfo) rfl ?_
        exact ⟨rfl, HB6.out⟩
      | true =>
        rw [if_pos rfl] at h
        have HE := Aside0.mk h
        clear h
        go_wp2_with (first | ((with_reducible refine gate_dst (N := 2) rfl ?_); refine box_event ?hg (N := 2) ?hd (cs := #[.int .u8 a0_0, .int .i64 a0_1, .string a0_2, .slice A0_3 l0_3.length c0_3, .int .i64 a0_4, .int .i64 a0_5]) (t := 25) ?hr ?_; (case hd => rfl); (case hg => rfl); (case hr => first | (go_simp; done) | (go_simp; rfl)); intro gx hg w1 hbox hb; have BX := Aside0.mk hbox; have HB1 := Aside0.mk hb; clear hbox hb hg) | ((with_reducible refine gate_dst (N := 5) rfl ?_); refine box_event ?hg (N := 5) ?hd (cs := #[.int .i64 0, .int .i64 0, .int .i64 0]) (t := 29) ?hr ?_; (case hd => rfl); (case hg => rfl); (case hr => first | (go_simp; done) | (go_simp; rfl)); intro gr hg w2 hbox hb; have BR := Aside0.mk hbox; have HB2 := Aside0.mk (below_step HB1.out hb); have BX2 := Aside0.mk (blk_below BX.out hb); have GR := Aside0.mk (show w.heap.size ≤ gr from by rw [hg]; exact HB1.out.size); have hw0 : w2.cell? ⟨gx, 0, none⟩ = some (.int .u8 a0_0) := (blk_cell BX2.out 0).trans rfl; have hw1 : w2.cell? ⟨gx, 1, none⟩ = some (.int .i64 a0_1) := (blk_cell BX2.out 1).trans rfl; have hw2 : w2.cell? ⟨gx, 2, none⟩ = some (.string a0_2) := (blk_cell BX2.out 2).trans rfl; have hw3 : w2.cell? ⟨gx, 3, none⟩ = some (.slice A0_3 l0_3.length c0_3) := (blk_cell BX2.out 3).trans rfl; have hw4 : w2.cell? ⟨gx, 4, none⟩ = some (.int .i64 a0_4) := (blk_cell BX2.out 4).trans rfl; have hw5 : w2.cell? ⟨gx, 5, none⟩ = some (.int .i64 a0_5) := (blk_cell BX2.out 5).trans rfl; clear hbox hb hg) | (go_at_call 22; refine (number_known.walk A1 c1 l1 true _ (Kd.C_below HR1.out HB2.out) HL.out HK.out).mono ?_; rintro e w3 ⟨mv, rfl, hb, hm⟩; have HB3 := Aside0.mk (below_step HB2.out hb); have BX3 := Aside0.mk (blk_below BX2.out hb); have BR3 := Aside0.mk (blk_below BR.out hb); have hk0 : w3.cell? ⟨gx, 0, none⟩ = some (.int .u8 a0_0) := (blk_cell BX3.out 0).trans rfl; have hk1 : w3.cell? ⟨gx, 1, none⟩ = some (.int .i64 a0_1) := (blk_cell BX3.out 1).trans rfl; have hk2 : w3.cell? ⟨gx, 2, none⟩ = some (.string a0_2) := (blk_cell BX3.out 2).trans rfl; have hk3 : w3.cell? ⟨gx, 3, none⟩ = some (.slice A0_3 l0_3.length c0_3) := (blk_cell BX3.out 3).trans rfl; have hk4 : w3.cell? ⟨gx, 4, none⟩ = some (.int .i64 a0_4) := (blk_cell BX3.out 4).trans rfl; have hk5 : w3.cell? ⟨gx, 5, none⟩ = some (.int .i64 a0_5) := (blk_cell BX3.out 5).trans rfl; obtain ⟨gm, rfl, hme⟩ := hm rfl; have HM3 := Aside0.mk hme; clear hme; clear hb) | (go_at_call 23; refine (tree_MayExpr.calls a0_0 a0_1 a0_2 A0_3 c0_3 l0_3 a0_4 a0_5 true _ (Kd.C_below HR0.out HB3.out) HC0.out HX.out).mono ?_; rintro e w4 ⟨rfl, hb⟩; have HB4 := Aside0.mk (below_step HB3.out hb); have BX4 := Aside0.mk (blk_below BX3.out hb); have BR4 := Aside0.mk (blk_below BR3.out hb); have HM4 := Aside0.mk (HM3.out.below hb); have hm0 : w4.cell? ⟨gx, 0, none⟩ = some (.int .u8 a0_0) := (blk_cell BX4.out 0).trans rfl; have hm1 : w4.cell? ⟨gx, 1, none⟩ = some (.int .i64 a0_1) := (blk_cell BX4.out 1).trans rfl; have hm2 : w4.cell? ⟨gx, 2, none⟩ = some (.string a0_2) := (blk_cell BX4.out 2).trans rfl; have hm3 : w4.cell? ⟨gx, 3, none⟩ = some (.slice A0_3 l0_3.length c0_3) := (blk_cell BX4.out 3).trans rfl; have hm4 : w4.cell? ⟨gx, 4, none⟩ = some (.int .i64 a0_4) := (blk_cell BX4.out 4).trans rfl; have hm5 : w4.cell? ⟨gx, 5, none⟩ = some (.int .i64 a0_5) := (blk_cell BX4.out 5).trans rfl; clear hb) | (go_at_call 24; refine (number_eval.walk 16 a0_0 a0_1 a0_2 A0_3 c0_3 l0_3 a0_4 a0_5 gm _ _ r1 r2 r3 r4 _ (Kd.C_below HR0.out HB4.out) HM4.out HE.out).mono ?_; rintro e w5 ⟨rfl, hb⟩; have HB5 := Aside0.mk (below_step HB4.out hb); have BR5 := Aside0.mk (blk_below BR4.out hb); clear hb) | (refine xstore_row rfl 29 _ _ rfl gr #[.int .i64 r2, .int .i64 r3, .int .i64 r4] rfl rfl 29 _ BR5.out faultInfo rfl (xone3 _ _ _) ?_; intro w6 hbk hgr hbl; have HB6 := Aside0.mk (hbl _ _ HB5.out GR.out); have BR6 := Aside0.mk hbk; clear hbk hgr hbl))
        refine bodyPost_ret (results_tc rfl _ _ gr 29 #[.int .i64 r2, .int .i64 r3, .int .i64 r4] (0, 0) _ rfl BR6.out Try.underlying29 rfl faultInfo) rfl ?_
        exact ⟨rfl, HB6.out⟩
  · rw [if_neg hl] at h
    exact absurd h (by simp)

end Go.Proofs.Ytnojokempdcikaa.PA

namespace Go.Proofs.Ytnojokempdcikaa.PA
open Go.RowKit Go.Proofs.YtnojokempdcikaaW.PrintWords Go.Proofs.YtnojokempdcikaaW.PrintLast Go.Proofs.YtnojokempdcikaaW.PrintMore
attribute [local go_sem] max2_int min2_int max_two min_two max_three min_three max_four min_four   -- for this text's walks alone
set_option linter.unusedVariables false
set_option linter.unusedSimpArgs false

/-! ### number_gather: function 26 -/
--OWNPART Derived.Maps.Range
open Go.RowKit Go.Maps
theorem wf_wrap64 (n : Int) : (Lit.int .i64 (wrap64 n)).wf = true := WalkArith.wf_i64 (by unfold wrap64; omega)
theorem xbelow_base2 {w0 w w1 : World} {g : Nat} (h : Below w0.heap.size w0 w) (hg : w.grownBy w1 (some g)) (hge : w0.heap.size ≤ g) : Below w0.heap.size w0 w1 :=
  h.trans ⟨hg.os, hg.tape, hg.output, hg.size, fun k hk => hg.block k (Nat.lt_of_lt_of_le hk h.size) (fun e => by cases e; omega)⟩
def xgathers (f : S25 → (ByteArray → Option Int) → (ByteArray → Option Int)) : List S25 → (ByteArray → Option Int) → (ByteArray → Option Int)
  | [], F => F
  | p :: ps, F => xgathers f ps (f p F)
/-- An expression's names are counted into F. -/
def xgather : Nat → S25 → (ByteArray → Option Int) → (ByteArray → Option Int)
  | 0, _, F => F
  | n + 1, x, F => xgathers (xgather n) x.f3 (if x.f0 = 2 then envPut F x.f2 (wrap64 ((F x.f2).getD 0 + 1)) else F)
def xcounts (f : S25 → Nat) : List S25 → Nat
  | [] => 0
  | p :: ps => f p + xcounts f ps
def xcount : Nat → S25 → Nat
  | 0, _ => 0
  | n + 1, x => (if x.f0 = 2 then 1 else 0) + xcounts (xcount n) x.f3
/-- No deeper than n, all names and lists short. -/
def deepB : Nat → S25 → Bool
  | 0, _ => false
  | n + 1, x => decide (x.f2.size ≤ 9223372036854775807) && (decide (x.f3.length ≤ 4611686018427387903) && x.f3.all (deepB n))
set_option maxHeartbeats 3000000 in
set_option maxRecDepth 100000 in
theorem number_gather.walk : ∀ (n : Nat) (K N : Int) (S : ByteArray) (A : Option Addr) (C : Nat) (l : List S25) (I O : Int) (g m : Nat) (F : ByteArray → Option Int) (w0 w : World), Below w0.heap.size w0 w → w0.heap.size ≤ g → envIs w g m F → Kd.C k25 w0 A l.length l → deepB n ⟨K, N, S, l, I, O⟩ = true → m + xcount n ⟨K, N, S, l, I, O⟩ ≤ 4611686018427387903 →
    Calls Try.prog 26 #[.agg #[.int .u8 K, .int .i64 N, .string S, .slice A l.length C, .int .i64 I, .int .i64 O], .map (some g)] w fun e w' =>
      e = .returned (.tuple #[]) ∧ envIs w' g (m + xcount n ⟨K, N, S, l, I, O⟩) (xgather n ⟨K, N, S, l, I, O⟩ F) ∧ Below w0.heap.size w0 w' ∧ w.grownBy w' (some g) := by
  intro n
  induction n with
  | zero =>
    intro K N S A C l I O g m F w0 w hB hge hM hR hd hm
    exact absurd hd (by simp [deepB])
  | succ n ih =>
    intro K N S A C l I O g m F w0 w hB hge hM hR hd hm
    have HIH := Aside0.mk ih
    have HB := Aside0.mk hB
    have HGE := Aside0.mk hge
    have HM := Aside0.mk hM
    have HR := Aside0.mk hR
    simp only [deepB, Bool.and_eq_true, decide_eq_true_iff, List.all_eq_true] at hd
    have HZ := Aside0.mk hd.1
    have HLL := Aside0.mk hd.2.1
    have HOKL := Aside0.mk hd.2.2
    simp only [xgather, xcount] at hm ⊢
    clear ih hB hge hM hR hd
    obtain ⟨M, hMM⟩ : ∃ M, m + ((if K = 2 then 1 else 0) + xcounts (xcount n) l) = M := ⟨_, rfl⟩
    rw [hMM] at hm ⊢
    have HMM := Aside0.mk hm
    have HME := Aside0.mk hMM
    clear hm hMM
    go_enter Try.func26, Try.ntmps26
    by_cases k2 : K = 2
    · obtain ⟨FR, hFR⟩ : ∃ FR, xgathers (xgather n) l (if K = 2 then envPut F S (wrap64 ((F S).getD 0 + 1)) else F) = FR := ⟨_, rfl⟩
      rw [hFR]
      have HFR := Aside0.mk hFR
      have HMB := Aside0.mk (show m < 9223372036854775807 by have := HMM.out; have h := HME.out; rw [if_pos k2] at h; omega)
      have HCs := Aside0.mk (show (m + 1) + xcounts (xcount n) (l.drop 0) = M by have h := HME.out; rw [if_pos k2] at h; rw [List.drop_zero]; omega)
      have HFs := Aside0.mk (show xgathers (xgather n) (l.drop 0) (envPut F S (wrap64 ((F S).getD 0 + 1))) = FR by rw [if_pos k2] at hFR; rw [List.drop_zero]; exact hFR)
      have k2b : (K == 2) = true := beq_iff_eq.mpr k2
      clear k2 hFR
      go_wp2_with (first | ((with_reducible refine gate_dst (N := 2) rfl ?_); refine box_event ?hg (N := 2) ?hd (cs := #[.int .u8 K, .int .i64 N, .string S, .slice A l.length C, .int .i64 I, .int .i64 O]) (t := 25) ?hr ?_; (case hd => rfl); (case hg => rfl); (case hr => first | (go_simp; done) | (go_simp; rfl)); intro gx hg w1 hbox hb; have BX := Aside0.mk hbox; have HB1 := Aside0.mk (xbelow_base HB.out hb); have HM1 := Aside0.mk (HM.out.below hb); have HG1 := Aside0.mk (grown_of_below hb (some g)); have GX := Aside0.mk (show w.heap.size ≤ gx from by rw [hg]; exact Nat.le_refl _); have NX := Aside0.mk (show g ≠ gx from fun e => by have := HM.out.lt; omega); have hw0 : w1.cell? ⟨gx, 0, none⟩ = some (.int .u8 K) := (blk_cell hbox 0).trans rfl; have hw1 : w1.cell? ⟨gx, 1, none⟩ = some (.int .i64 N) := (blk_cell hbox 1).trans rfl; have hw2 : w1.cell? ⟨gx, 2, none⟩ = some (.string S) := (blk_cell hbox 2).trans rfl; have hw3 : w1.cell? ⟨gx, 3, none⟩ = some (.slice A l.length C) := (blk_cell hbox 3).trans rfl; have hw4 : w1.cell? ⟨gx, 4, none⟩ = some (.int .i64 I) := (blk_cell hbox 4).trans rfl; have hw5 : w1.cell? ⟨gx, 5, none⟩ = some (.int .i64 O) := (blk_cell hbox 5).trans rfl; clear hbox hb hg) | (at_lookup; refine xmap_look1 rfl _ _ rfl rfl HM1.out S rfl HZ.out ?_) | (at_mapUpdate; refine xmap_put rfl _ _ _ rfl rfl HM1.out HMB.out S _ rfl rfl HZ.out (wf_wrap64 _) ?_; intro w2 hm2 hgr2; have HM2 := Aside0.mk hm2; have HB2 := Aside0.mk (xbelow_base2 HB1.out hgr2 HGE.out); have HG2 := Aside0.mk (HG1.out.andThen hgr2 (fun j hj => .inr hj)); have BX2 := Aside0.mk (blk_grown BX.out hgr2 (by simpa using NX.out.symm)); have hv0 : w2.cell? ⟨gx, 0, none⟩ = some (.int .u8 K) := (blk_cell BX2.out 0).trans rfl; have hv1 : w2.cell? ⟨gx, 1, none⟩ = some (.int .i64 N) := (blk_cell BX2.out 1).trans rfl; have hv2 : w2.cell? ⟨gx, 2, none⟩ = some (.string S) := (blk_cell BX2.out 2).trans rfl; have hv3 : w2.cell? ⟨gx, 3, none⟩ = some (.slice A l.length C) := (blk_cell BX2.out 3).trans rfl; have hv4 : w2.cell? ⟨gx, 4, none⟩ = some (.int .i64 I) := (blk_cell BX2.out 4).trans rfl; have hv5 : w2.cell? ⟨gx, 5, none⟩ = some (.int .i64 O) := (blk_cell BX2.out 5).trans rfl; clear hm2 hgr2))
      have HMs := HM2
      have HBs := HB2
      have HGs := HG2
      go_loopg [17] l.length (fun q v17 wx => ∃ (i m' : Nat) (F' : ByteArray → Option Int), i + q = l.length ∧ v17 = .int .i64 i ∧ Aside0 (envIs wx g m' F') ∧ Aside0 (m' + xcounts (xcount n) (l.drop i) = M) ∧ Aside0 (xgathers (xgather n) (l.drop i) F' = FR) ∧ Aside0 (Below w0.heap.size w0 wx) ∧ Aside0 (w.grownBy wx (some g)))
      case atStart => exact ⟨0, _, _, by omega, rfl, HMs, HCs, HFs, HBs, HGs⟩
      case round =>
        clear HMs HCs HFs HBs HGs BX BX2 HM HM1 HM2 HB HB1 HB2 HG1 HG2 HMB k2b hw0 hw1 hw2 hw3 hw4 hw5 hv0 hv1 hv2 hv3 hv4 hv5
        obtain ⟨i, m', F', hi, rfl, HM, HC, HF, HB, HG⟩ := hrel
        cases gk with
        | zero =>
          obtain rfl : i = l.length := by omega
          have hF := HF.out
          have hC := HC.out
          rw [List.drop_length] at hF hC
          simp only [xgathers, xcounts] at hF hC
          have HF2 := Aside0.mk hF
          have HC2 := Aside0.mk hC
          clear hF hC HF HC
          go_wp2
          go_end0
          have hF := HF2.out
          have hC := HC2.out
          subst hF
          exact ⟨rfl, by rw [← hC]; exact HM.out, HB.out, HG.out⟩
        | succ q =>
          have hik : i < l.length := by omega
          have hlt : decide ((i : Int) < (l.length : Int)) = true := decide_eq_true (by omega)
          have hF := HF.out
          have hC := HC.out
          clear HF HC
          rw [rd_drop25 l i hik] at hF hC
          have hmem := rd_mem25 l i hik
          obtain ⟨ad, A3, c3, e0, hx0, hx1, hx2, hx3, hx4, hx5, hlc, hRC⟩ := at_T25 HR.out (i : Int) (by omega) (by omega)
          subst e0
          rw [Int.toNat_natCast] at hx0 hx1 hx2 hx3 hx4 hx5
          generalize rd_T25 l (i : Int) = y at hF hC hmem hx0 hx1 hx2 hx3 hx4 hx5 hlc hRC
          obtain ⟨K2, N2, S2, l2, I2, O2⟩ := y
          dsimp only at hF hC hmem hx0 hx1 hx2 hx3 hx4 hx5 hlc hRC
          replace hx0 := (HB.out.cell (World.block_lt_of_cell? w0 _ hx0)).trans hx0
          replace hx1 := (HB.out.cell (World.block_lt_of_cell? w0 _ hx1)).trans hx1
          replace hx2 := (HB.out.cell (World.block_lt_of_cell? w0 _ hx2)).trans hx2
          replace hx3 := (HB.out.cell (World.block_lt_of_cell? w0 _ hx3)).trans hx3
          replace hx4 := (HB.out.cell (World.block_lt_of_cell? w0 _ hx4)).trans hx4
          replace hx5 := (HB.out.cell (World.block_lt_of_cell? w0 _ hx5)).trans hx5
          have HRC := Aside0.mk hRC
          have HY := Aside0.mk (HOKL.out _ hmem)
          simp only [xgathers, xcounts] at hF hC
          have HF2 := Aside0.mk hF
          have HC2 := Aside0.mk hC
          have HLE := Aside0.mk (show i + 1 ≤ l.length from hik)
          clear hRC hlc hmem hF hC
          go_wp2_with (first | ((with_reducible refine gate_dst (N := 5) rfl ?_); refine box_event ?hg (N := 5) ?hd (cs := #[.int .u8 0, .int .i64 0, .string (⟨#[]⟩ : ByteArray), .slice none 0 0, .int .i64 0, .int .i64 0]) (t := 25) ?hr ?_; (case hd => rfl); (case hg => rfl); (case hr => first | (go_simp; done) | (go_simp; rfl)); intro gp hg w3 hbox hb; have BP := Aside0.mk hbox; have HB3 := Aside0.mk (xbelow_base HB.out hb); have HM3 := Aside0.mk (HM.out.below hb); have HG3 := Aside0.mk (HG.out.andThen (grown_of_below hb (some g)) (fun j hj => .inr hj)); have GP := Aside0.mk (show w.heap.size ≤ gp ∧ w0.heap.size ≤ gp from by rw [hg]; exact ⟨HG.out.size, HB.out.size⟩); have NP := Aside0.mk (show g ≠ gp from fun e => by have := HM.out.lt; omega); clear hbox hb hg) | (refine xstore_row rfl 25 _ _ rfl gp #[.int .u8 K2, .int .i64 N2, .string S2, .slice A3 l2.length c3, .int .i64 I2, .int .i64 O2] rfl rfl 25 _ BP.out exprInfo rfl (xone6 _ _ _ _ _ _ _ _) ?_; intro w4 hbk hgr hbl; have hp0 : w4.cell? ⟨gp, 0, none⟩ = some (.int .u8 K2) := (blk_cell hbk 0).trans rfl; have hp1 : w4.cell? ⟨gp, 1, none⟩ = some (.int .i64 N2) := (blk_cell hbk 1).trans rfl; have hp2 : w4.cell? ⟨gp, 2, none⟩ = some (.string S2) := (blk_cell hbk 2).trans rfl; have hp3 : w4.cell? ⟨gp, 3, none⟩ = some (.slice A3 l2.length c3) := (blk_cell hbk 3).trans rfl; have hp4 : w4.cell? ⟨gp, 4, none⟩ = some (.int .i64 I2) := (blk_cell hbk 4).trans rfl; have hp5 : w4.cell? ⟨gp, 5, none⟩ = some (.int .i64 O2) := (blk_cell hbk 5).trans rfl; have HB4 := Aside0.mk (hbl _ _ HB3.out GP.out.2); have HM4 := Aside0.mk (HM3.out.kept hgr (by simpa using NP.out)); have HG4 := Aside0.mk (HG3.out.andThen hgr (fun j hj => by cases hj; exact .inl GP.out.1)); clear hbk hgr hbl) | (go_at_call 26; refine (HIH.out K2 N2 S2 A3 c3 l2 I2 O2 g m' F' w0 _ HB4.out HGE.out HM4.out HRC.out HY.out (by have := HC2.out; have := HMM.out; omega)).mono ?_; rintro e5 w5 ⟨rfl, hm5, hb5, hg5⟩; have HM5 := Aside0.mk hm5; have HB5 := Aside0.mk hb5; have HG5 := Aside0.mk (HG4.out.andThen hg5 (fun j hj => .inr hj)); clear hm5 hb5 hg5))
          go_roundg q
          case measure => omega
          case rel => exact ⟨i + 1, _, _, by omega, (by have h1 := HLE.out; have h2 := HLL.out; first | rfl | (rw [xw64 (by omega) (by omega)]; simp) | simp), HM5, ⟨by have := HC2.out; omega⟩, HF2, HB5, HG5⟩
    · obtain ⟨FR, hFR⟩ : ∃ FR, xgathers (xgather n) l (if K = 2 then envPut F S (wrap64 ((F S).getD 0 + 1)) else F) = FR := ⟨_, rfl⟩
      rw [hFR]
      have HFR := Aside0.mk hFR
      have HCs := Aside0.mk (show m + xcounts (xcount n) (l.drop 0) = M by have h := HME.out; rw [if_neg k2] at h; rw [List.drop_zero]; omega)
      have HFs := Aside0.mk (show xgathers (xgather n) (l.drop 0) F = FR by rw [if_neg k2] at hFR; rw [List.drop_zero]; exact hFR)
      have k2b : (K == 2) = false := beq_eq_false_iff_ne.2 k2
      clear k2 hFR
      go_wp2_with (first | ((with_reducible refine gate_dst (N := 2) rfl ?_); refine box_event ?hg (N := 2) ?hd (cs := #[.int .u8 K, .int .i64 N, .string S, .slice A l.length C, .int .i64 I, .int .i64 O]) (t := 25) ?hr ?_; (case hd => rfl); (case hg => rfl); (case hr => first | (go_simp; done) | (go_simp; rfl)); intro gx hg w1 hbox hb; have BX := Aside0.mk hbox; have HB1 := Aside0.mk (xbelow_base HB.out hb); have HM1 := Aside0.mk (HM.out.below hb); have HG1 := Aside0.mk (grown_of_below hb (some g)); have GX := Aside0.mk (show w.heap.size ≤ gx from by rw [hg]; exact Nat.le_refl _); have NX := Aside0.mk (show g ≠ gx from fun e => by have := HM.out.lt; omega); have hw0 : w1.cell? ⟨gx, 0, none⟩ = some (.int .u8 K) := (blk_cell hbox 0).trans rfl; have hw1 : w1.cell? ⟨gx, 1, none⟩ = some (.int .i64 N) := (blk_cell hbox 1).trans rfl; have hw2 : w1.cell? ⟨gx, 2, none⟩ = some (.string S) := (blk_cell hbox 2).trans rfl; have hw3 : w1.cell? ⟨gx, 3, none⟩ = some (.slice A l.length C) := (blk_cell hbox 3).trans rfl; have hw4 : w1.cell? ⟨gx, 4, none⟩ = some (.int .i64 I) := (blk_cell hbox 4).trans rfl; have hw5 : w1.cell? ⟨gx, 5, none⟩ = some (.int .i64 O) := (blk_cell hbox 5).trans rfl; clear hbox hb hg))
      have HMs := HM1
      have HBs := HB1
      have HGs := HG1
      go_loopg [17] l.length (fun q v17 wx => ∃ (i m' : Nat) (F' : ByteArray → Option Int), i + q = l.length ∧ v17 = .int .i64 i ∧ Aside0 (envIs wx g m' F') ∧ Aside0 (m' + xcounts (xcount n) (l.drop i) = M) ∧ Aside0 (xgathers (xgather n) (l.drop i) F' = FR) ∧ Aside0 (Below w0.heap.size w0 wx) ∧ Aside0 (w.grownBy wx (some g)))
      case atStart => exact ⟨0, _, _, by omega, rfl, HMs, HCs, HFs, HBs, HGs⟩
      case round =>
        clear HMs HCs HFs HBs HGs BX HM HM1 HB HB1 HG1 k2b hw0 hw1 hw2 hw3 hw4 hw5
        obtain ⟨i, m', F', hi, rfl, HM, HC, HF, HB, HG⟩ := hrel
        cases gk with
        | zero =>
          obtain rfl : i = l.length := by omega
          have hF := HF.out
          have hC := HC.out
          rw [List.drop_length] at hF hC
          simp only [xgathers, xcounts] at hF hC
          have HF2 := Aside0.mk hF
          have HC2 := Aside0.mk hC
          clear hF hC HF HC
          go_wp2
          go_end0
          have hF := HF2.out
          have hC := HC2.out
          subst hF
          exact ⟨rfl, by rw [← hC]; exact HM.out, HB.out, HG.out⟩
        | succ q =>
          have hik : i < l.length := by omega
          have hlt : decide ((i : Int) < (l.length : Int)) = true := decide_eq_true (by omega)
          have hF := HF.out
          have hC := HC.out
          clear HF HC
          rw [rd_drop25 l i hik] at hF hC
          have hmem := rd_mem25 l i hik
          obtain ⟨ad, A3, c3, e0, hx0, hx1, hx2, hx3, hx4, hx5, hlc, hRC⟩ := at_T25 HR.out (i : Int) (by omega) (by omega)
          subst e0
          rw [Int.toNat_natCast] at hx0 hx1 hx2 hx3 hx4 hx5
          generalize rd_T25 l (i : Int) = y at hF hC hmem hx0 hx1 hx2 hx3 hx4 hx5 hlc hRC
          obtain ⟨K2, N2, S2, l2, I2, O2⟩ := y
          dsimp only at hF hC hmem hx0 hx1 hx2 hx3 hx4 hx5 hlc hRC
          replace hx0 := (HB.out.cell (World.block_lt_of_cell? w0 _ hx0)).trans hx0
          replace hx1 := (HB.out.cell (World.block_lt_of_cell? w0 _ hx1)).trans hx1
          replace hx2 := (HB.out.cell (World.block_lt_of_cell? w0 _ hx2)).trans hx2
          replace hx3 := (HB.out.cell (World.block_lt_of_cell? w0 _ hx3)).trans hx3
          replace hx4 := (HB.out.cell (World.block_lt_of_cell? w0 _ hx4)).trans hx4
          replace hx5 := (HB.out.cell (World.block_lt_of_cell? w0 _ hx5)).trans hx5
          have HRC := Aside0.mk hRC
          have HY := Aside0.mk (HOKL.out _ hmem)
          simp only [xgathers, xcounts] at hF hC
          have HF2 := Aside0.mk hF
          have HC2 := Aside0.mk hC
          have HLE := Aside0.mk (show i + 1 ≤ l.length from hik)
          clear hRC hlc hmem hF hC
          go_wp2_with (first | ((with_reducible refine gate_dst (N := 5) rfl ?_); refine box_event ?hg (N := 5) ?hd (cs := #[.int .u8 0, .int .i64 0, .string (⟨#[]⟩ : ByteArray), .slice none 0 0, .int .i64 0, .int .i64 0]) (t := 25) ?hr ?_; (case hd => rfl); (case hg => rfl); (case hr => first | (go_simp; done) | (go_simp; rfl)); intro gp hg w3 hbox hb; have BP := Aside0.mk hbox; have HB3 := Aside0.mk (xbelow_base HB.out hb); have HM3 := Aside0.mk (HM.out.below hb); have HG3 := Aside0.mk (HG.out.andThen (grown_of_below hb (some g)) (fun j hj => .inr hj)); have GP := Aside0.mk (show w.heap.size ≤ gp ∧ w0.heap.size ≤ gp from by rw [hg]; exact ⟨HG.out.size, HB.out.size⟩); have NP := Aside0.mk (show g ≠ gp from fun e => by have := HM.out.lt; omega); clear hbox hb hg) | (refine xstore_row rfl 25 _ _ rfl gp #[.int .u8 K2, .int .i64 N2, .string S2, .slice A3 l2.length c3, .int .i64 I2, .int .i64 O2] rfl rfl 25 _ BP.out exprInfo rfl (xone6 _ _ _ _ _ _ _ _) ?_; intro w4 hbk hgr hbl; have hp0 : w4.cell? ⟨gp, 0, none⟩ = some (.int .u8 K2) := (blk_cell hbk 0).trans rfl; have hp1 : w4.cell? ⟨gp, 1, none⟩ = some (.int .i64 N2) := (blk_cell hbk 1).trans rfl; have hp2 : w4.cell? ⟨gp, 2, none⟩ = some (.string S2) := (blk_cell hbk 2).trans rfl; have hp3 : w4.cell? ⟨gp, 3, none⟩ = some (.slice A3 l2.length c3) := (blk_cell hbk 3).trans rfl; have hp4 : w4.cell? ⟨gp, 4, none⟩ = some (.int .i64 I2) := (blk_cell hbk 4).trans rfl; have hp5 : w4.cell? ⟨gp, 5, none⟩ = some (.int .i64 O2) := (blk_cell hbk 5).trans rfl; have HB4 := Aside0.mk (hbl _ _ HB3.out GP.out.2); have HM4 := Aside0.mk (HM3.out.kept hgr (by simpa using NP.out)); have HG4 := Aside0.mk (HG3.out.andThen hgr (fun j hj => by cases hj; exact .inl GP.out.1)); clear hbk hgr hbl) | (go_at_call 26; refine (HIH.out K2 N2 S2 A3 c3 l2 I2 O2 g m' F' w0 _ HB4.out HGE.out HM4.out HRC.out HY.out (by have := HC2.out; have := HMM.out; omega)).mono ?_; rintro e5 w5 ⟨rfl, hm5, hb5, hg5⟩; have HM5 := Aside0.mk hm5; have HB5 := Aside0.mk hb5; have HG5 := Aside0.mk (HG4.out.andThen hg5 (fun j hj => .inr hj)); clear hm5 hb5 hg5))
          go_roundg q
          case measure => omega
          case rel => exact ⟨i + 1, _, _, by omega, (by have h1 := HLE.out; have h2 := HLL.out; first | rfl | (rw [xw64 (by omega) (by omega)]; simp) | simp), HM5, ⟨by have := HC2.out; omega⟩, HF2, HB5, HG5⟩

end Go.Proofs.Ytnojokempdcikaa.PA

namespace Go.Proofs.Ytnojokempdcikaa.PA
open Go.RowKit Go.Proofs.YtnojokempdcikaaW.PrintWords Go.Proofs.YtnojokempdcikaaW.PrintLast Go.Proofs.YtnojokempdcikaaW.PrintMore
attribute [local go_sem] max2_int min2_int max_two min_two max_three min_three max_four min_four   -- for this text's walks alone
set_option linter.unusedVariables false
set_option linter.unusedSimpArgs false

-- NOT PRINTED: function 76 (slices_partitionOrdered_string)

-- NOT PRINTED: function 60 (slices_pdqsortOrdered_string)

-- NOT PRINTED: function 43 (slices_Sort_string_string)

-- NOT PRINTED: function 27 (slices_Sorted_string)

-- NOT PRINTED: function 28 (maps_Keys_map_string_int_string_int)

-- NOT PRINTED: function 10 (number_Names)

/-! ### number_size: function 31 -/
mutual
def number_size.l0 : Nat → Int → List (S25) → Int → Int → Option (Int)
  | 0, _, _, _, _ => none
  | k + 1, x3, x7, x8, x9 => if x9 < x8 then (if 0 ≤ x9 then (if x9 < (x7.length : Int) then ((number_size.f k ((rd_T25 x7 x9).f0) ((rd_T25 x7 x9).f1) ((rd_T25 x7 x9).f2) ((rd_T25 x7 x9).f3) ((rd_T25 x7 x9).f4) ((rd_T25 x7 x9).f5)).bind fun t320 => (number_size.l0 k (wrap64 (x3 + t320)) x7 x8 (wrap64 (x9 + 1)))) else (none)) else (none)) else (some x3)
def number_size.f : Nat → Int → Int → ByteArray → List (S25) → Int → Int → Option (Int)
  | 0, _, _, _, _, _, _ => none
  | k + 1, a0_0, a0_1, a0_2, l0_3, a0_4, a0_5 => number_size.l0 k 1 l0_3 (l0_3.length : Int) 0
end
theorem number_size.mono_l : ∀ k, (∀ y0 y1 y2 y3 y4 y5, LeO (number_size.f k y0 y1 y2 y3 y4 y5) (number_size.f (k + 1) y0 y1 y2 y3 y4 y5)) ∧ (∀ y0 y1 y2 y3, LeO (number_size.l0 k y0 y1 y2 y3) (number_size.l0 (k + 1) y0 y1 y2 y3))
  | 0 => ⟨fun _ _ _ _ _ _ r h => by simp [number_size.f] at h, fun _ _ _ _ r h => by simp [number_size.l0] at h⟩
  | k + 1 => by
    obtain ⟨ih0, ih1⟩ := number_size.mono_l k
    refine ⟨?_, ?_⟩
    · intro y0 y1 y2 y3 y4 y5
      unfold number_size.f
      repeat' first
      | (with_reducible exact ih0 _ _ _ _ _ _)
      | (with_reducible exact ih1 _ _ _ _)
      | (with_reducible exact LeO.refl _)
      | (with_reducible exact LeO.none _)
      | (with_reducible refine LeO.ite ?_ ?_)
      | (with_reducible refine LeO.bind ?_ (fun _ => ?_))
      | exact ih0 _ _ _ _ _ _
      | exact ih1 _ _ _ _
      | exact LeO.none _
      | refine LeO.ite ?_ ?_
      | refine LeO.bind ?_ (fun _ => ?_)
    · intro y0 y1 y2 y3
      unfold number_size.l0
      repeat' first
      | (with_reducible exact ih0 _ _ _ _ _ _)
      | (with_reducible exact ih1 _ _ _ _)
      | (with_reducible exact LeO.refl _)
      | (with_reducible exact LeO.none _)
      | (with_reducible refine LeO.ite ?_ ?_)
      | (with_reducible refine LeO.bind ?_ (fun _ => ?_))
      | exact ih0 _ _ _ _ _ _
      | exact ih1 _ _ _ _
      | exact LeO.none _
      | refine LeO.ite ?_ ?_
      | refine LeO.bind ?_ (fun _ => ?_)
theorem number_size.mono : ∀ a0 a1 a2 a3 a4 a5 k, LeO (number_size.f k a0 a1 a2 a3 a4 a5) (number_size.f (k + 1) a0 a1 a2 a3 a4 a5) := by
  intro a0 a1 a2 a3 a4 a5 k
  obtain ⟨ih0, ih1⟩ := number_size.mono_l k
  exact ih0 a0 a1 a2 a3 a4 a5
set_option maxHeartbeats 8000000 in
set_option maxRecDepth 100000 in
theorem number_size.calls (k : Nat) : ∀ (a0_0 : Int) (a0_1 : Int) (a0_2 : ByteArray) (A0_3 : Option Addr) (c0_3 : Nat) (l0_3 : List (S25)) (a0_4 : Int) (a0_5 : Int) (r : Int) (w : World) (hr0_3 : Kd.C k25 w A0_3 l0_3.length l0_3) (hc0_3 : l0_3.length ≤ c0_3) (h : number_size.f k a0_0 a0_1 a0_2 l0_3 a0_4 a0_5 = some r),
    Calls Try.prog 31 #[.agg #[.int .u8 a0_0, .int .i64 a0_1, .string a0_2, .slice A0_3 l0_3.length c0_3, .int .i64 a0_4, .int .i64 a0_5]] w fun e w' => e = .returned (.int .i64 r) ∧ Below w.heap.size w w' := by
  induction k using Nat.strongRecOn with
  | _ k ih =>
  intro a0_0 a0_1 a0_2 A0_3 c0_3 l0_3 a0_4 a0_5 r w hr0_3 hc0_3 h
  cases k with
  | zero => exact absurd h (by simp [number_size.f])
  | succ k =>
  simp only [number_size.f] at h
  have hu25 := Try.underlying25
  have HR0_3 := Aside0.mk hr0_3
  have HC0_3 := Aside0.mk hc0_3
  clear hr0_3 hc0_3
  have HB := Aside0.mk (Below.refl w.heap.size w)
  have H : (number_size.l0 k 1 l0_3 (l0_3.length : Int) 0) = some r := h
  clear h
  have H' := Aside0.mk H
  clear H
  go_enter Try.func31, Try.ntmps31
  go_wp2_with (first | ((with_reducible refine gate_dst (N := 1) rfl ?_); refine box_event ?hg (N := 1) ?hd (cs := #[.int .u8 a0_0, .int .i64 a0_1, .string a0_2, .slice A0_3 l0_3.length c0_3, .int .i64 a0_4, .int .i64 a0_5]) (t := 25) ?hr ?_; (case hd => rfl); (case hg => rfl); (case hr => first | (go_simp; done) | (go_simp; rfl)); intro gb317 hg w2 hbox hb; have n0_ := Aside0.mk (below_step (by repeat (first | (with_reducible first | exact HB.out | apply below_alloc | apply pw_below_drewN | apply below_drew1) | exact HB.out)) hb); have n1_ := Aside0.mk (hbox); have n2_ := Aside0.mk ((by rw [hg]; exact (below_size (by repeat (first | (with_reducible first | exact HB.out | apply below_alloc | apply pw_below_drewN | apply below_drew1) | exact HB.out))) : w.heap.size ≤ gb317)); have n3_ := Aside0.mk ((by rw [hg]; exact (below_size (by repeat (first | (with_reducible first | exact HB.out | apply below_alloc | apply pw_below_drewN | apply below_drew1) | exact HB.out))) : w.heap.size ≤ gb317)); clear HB; have HB := n0_; have BK317 := n1_; have GW317 := n2_; have GE317 := n3_; clear n0_ n1_ n2_ n3_; clear hb hbox hg; have hcz3_0 : w2.cell? ⟨gb317, 0, none⟩ = some (.int .u8 a0_0) := (blk_cell BK317.out 0).trans rfl; have hcz3_1 : w2.cell? ⟨gb317, 1, none⟩ = some (.int .i64 a0_1) := (blk_cell BK317.out 1).trans rfl; have hcz3_2 : w2.cell? ⟨gb317, 2, none⟩ = some (.string a0_2) := (blk_cell BK317.out 2).trans rfl; have hcz3_3 : w2.cell? ⟨gb317, 3, none⟩ = some (.slice A0_3 l0_3.length c0_3) := (blk_cell BK317.out 3).trans rfl; have hcz3_4 : w2.cell? ⟨gb317, 4, none⟩ = some (.int .i64 a0_4) := (blk_cell BK317.out 4).trans rfl; have hcz3_5 : w2.cell? ⟨gb317, 5, none⟩ = some (.int .i64 a0_5) := (blk_cell BK317.out 5).trans rfl; have hfz3_0 := blk_frozen BK317.out 0; have hfz3_1 := blk_frozen BK317.out 1; have hfz3_2 := blk_frozen BK317.out 2; have hfz3_3 := blk_frozen BK317.out 3; have hfz3_4 := blk_frozen BK317.out 4; have hfz3_5 := blk_frozen BK317.out 5))
  go_loopg [3, 9] k (fun kq v3 v9 w' => ∃ (x3_1 : Int) (x9_1 : Int), v3 = .int .i64 x3_1 ∧ v9 = .int .i64 x9_1 ∧ Aside0 (number_size.l0 kq x3_1 l0_3 (l0_3.length : Int) x9_1 = some r) ∧ Aside0 (kq ≤ k) ∧ Aside0 (w'.heap[gb317]? = some (.cells #[.int .u8 a0_0, .int .i64 a0_1, .string a0_2, (.slice A0_3 l0_3.length c0_3), .int .i64 a0_4, .int .i64 a0_5] 25 (0, 0))) ∧ Aside0 (Below w.heap.size w w'))
  case atStart => exact ⟨(1), (0), (by first | rfl | (simp; done) | (simp [*]; done) | (simp [xbne_nil]; done)), (by first | rfl | (simp; done) | (simp [*]; done) | (simp [xbne_nil]; done)), H', ⟨Nat.le_refl _⟩, ⟨by (with_reducible repeat (first | refine blk_drewN ?_ _ | refine blk_drew ?_ | refine blk_alloc ?_ _)); exact BK317.out⟩, ⟨by repeat (first | (with_reducible first | exact HB.out | apply below_alloc | apply pw_below_drewN | apply below_drew1 | refine below_set ?_ GE317.out) | exact HB.out)⟩⟩
  case round =>
    clear H'
    try clear p2
    try clear c3
    try clear hcz3_0
    try clear hcz3_1
    try clear hcz3_2
    try clear hcz3_3
    try clear hcz3_4
    try clear hcz3_5
    try clear hfz3_0
    try clear hfz3_1
    try clear hfz3_2
    try clear hfz3_3
    try clear hfz3_4
    try clear hfz3_5
    obtain ⟨x3_1, x9_1, rfl, rfl, HA, HK1, BK317, HB⟩ := hrel
    cases gk with
    | zero => exact absurd HA.out (by simp [number_size.l0])
    | succ k1 =>
      have H := HA.out
      clear HA
      simp only [number_size.l0] at H
      by_cases c4 : x9_1 < (l0_3.length : Int)
      · rw [if_pos c4] at H
        have c4b0 : decide (x9_1 < (l0_3.length : Int)) = true := decide_eq_true c4
        clear c4
        by_cases c5 : 0 ≤ x9_1
        · rw [if_pos c5] at H
          have c5b0 : decide (0 ≤ x9_1) = true := decide_eq_true c5
          clear c5
          by_cases c6 : x9_1 < (l0_3.length : Int)
          · rw [if_pos c6] at H
            have c6b0 : decide (x9_1 < (l0_3.length : Int)) = true := decide_eq_true c6
            clear c6
            replace H := Option.bind_eq_some_iff.mp H
            obtain ⟨t320, A70, H⟩ := H
            replace H : (number_size.l0 k1 (wrap64 (x3_1 + t320)) l0_3 (l0_3.length : Int) (wrap64 (x9_1 + 1))) = some r := H
            have A7 := Aside0.mk A70
            clear A70
            have H' := Aside0.mk H
            clear H
            have p318 : 0 ≤ (x9_1 : Int) := of_decide_eq_true (by first | (with_reducible assumption) | assumption)
            have q318 : x9_1 < (l0_3.length : Int) := of_decide_eq_true (by first | (with_reducible assumption) | assumption)
            obtain ⟨ad318, A318_3, c318_3, e318, hx318_0, hx318_1, hx318_2, hx318_3, hx318_4, hx318_5, hl318_3, hi318_3⟩ := at_T25 HR0_3.out x9_1 p318 q318
            cases e318
            replace hx318_0 := (HB.out.cell (World.block_lt_of_cell? w _ hx318_0)).trans hx318_0
            replace hx318_1 := (HB.out.cell (World.block_lt_of_cell? w _ hx318_1)).trans hx318_1
            replace hx318_2 := (HB.out.cell (World.block_lt_of_cell? w _ hx318_2)).trans hx318_2
            replace hx318_3 := (HB.out.cell (World.block_lt_of_cell? w _ hx318_3)).trans hx318_3
            replace hx318_4 := (HB.out.cell (World.block_lt_of_cell? w _ hx318_4)).trans hx318_4
            replace hx318_5 := (HB.out.cell (World.block_lt_of_cell? w _ hx318_5)).trans hx318_5
            have HR318_3 := Aside0.mk hi318_3
            have HC318_3 := Aside0.mk hl318_3
            clear hi318_3 hl318_3
            replace p318 := eq_true p318
            replace q318 := eq_true q318
            go_wp2_with (first | ((with_reducible refine gate_dst (N := 5) rfl ?_); refine box_event ?hg (N := 5) ?hd (cs := #[.int .u8 0, .int .i64 0, .string (⟨#[]⟩ : ByteArray), .slice none 0 0, .int .i64 0, .int .i64 0]) (t := 25) ?hr ?_; (case hd => rfl); (case hg => rfl); (case hr => first | (go_simp; done) | (go_simp; rfl)); intro gb319 hg w8 hbox hb; have n0_ := Aside0.mk (blk_below (g := gb317) (o := .cells #[.int .u8 a0_0, .int .i64 a0_1, .string a0_2, .slice (some ad318) l0_3.length c0_3, .int .i64 a0_4, .int .i64 a0_5] 25 (0, 0)) (by (with_reducible repeat (first | refine blk_drewN ?_ _ | refine blk_drew ?_ | refine blk_alloc ?_ _)); exact BK317.out) hb); have n1_ := Aside0.mk (below_step (by repeat (first | (with_reducible first | exact HB.out | apply below_alloc | apply pw_below_drewN | apply below_drew1 | refine below_set ?_ GE317.out) | exact HB.out)) hb); have n2_ := Aside0.mk (hbox); have n3_ := Aside0.mk ((by rw [hg]; exact (below_size (by repeat (first | (with_reducible first | exact HB.out | apply below_alloc | apply pw_below_drewN | apply below_drew1 | refine below_set ?_ GE317.out) | exact HB.out))) : w.heap.size ≤ gb319)); have n4_ := Aside0.mk ((by rw [hg]; exact (below_size (by repeat (first | (with_reducible first | exact HB.out | apply below_alloc | apply pw_below_drewN | apply below_drew1 | refine below_set ?_ GE317.out) | exact HB.out))) : w.heap.size ≤ gb319)); have n5_ := Aside0.mk ((by rw [hg]; exact Nat.ne_of_lt (blk_lt (g := gb317) (o := .cells #[.int .u8 a0_0, .int .i64 a0_1, .string a0_2, .slice (some ad318) l0_3.length c0_3, .int .i64 a0_4, .int .i64 a0_5] 25 (0, 0)) (by (with_reducible repeat (first | refine blk_drewN ?_ _ | refine blk_drew ?_ | refine blk_alloc ?_ _)); exact BK317.out)) : gb317 ≠ gb319)); have n6_ := Aside0.mk ((by rw [hg]; exact Nat.ne_of_gt (blk_lt (g := gb317) (o := .cells #[.int .u8 a0_0, .int .i64 a0_1, .string a0_2, .slice (some ad318) l0_3.length c0_3, .int .i64 a0_4, .int .i64 a0_5] 25 (0, 0)) (by (with_reducible repeat (first | refine blk_drewN ?_ _ | refine blk_drew ?_ | refine blk_alloc ?_ _)); exact BK317.out)) : gb319 ≠ gb317)); clear BK317; clear HB; have BK317 := n0_; have HB := n1_; have BK319 := n2_; have GW319 := n3_; have GE319 := n4_; have NB317_319 := n5_; have NB319_317 := n6_; clear n0_ n1_ n2_ n3_ n4_ n5_ n6_; clear hb hbox hg; have hnb9 := NB319_317.out; have hnc9 := NB317_319.out; have hcz10_0 : w8.cell? ⟨gb319, 0, none⟩ = some (.int .u8 0) := (blk_cell BK319.out 0).trans rfl; have hcz10_1 : w8.cell? ⟨gb319, 1, none⟩ = some (.int .i64 0) := (blk_cell BK319.out 1).trans rfl; have hcz10_2 : w8.cell? ⟨gb319, 2, none⟩ = some (.string (⟨#[]⟩ : ByteArray)) := (blk_cell BK319.out 2).trans rfl; have hcz10_3 : w8.cell? ⟨gb319, 3, none⟩ = some (.slice none 0 0) := (blk_cell BK319.out 3).trans rfl; have hcz10_4 : w8.cell? ⟨gb319, 4, none⟩ = some (.int .i64 0) := (blk_cell BK319.out 4).trans rfl; have hcz10_5 : w8.cell? ⟨gb319, 5, none⟩ = some (.int .i64 0) := (blk_cell BK319.out 5).trans rfl; have hfz10_0 := blk_frozen BK319.out 0; have hfz10_1 := blk_frozen BK319.out 1; have hfz10_2 := blk_frozen BK319.out 2; have hfz10_3 := blk_frozen BK319.out 3; have hfz10_4 := blk_frozen BK319.out 4; have hfz10_5 := blk_frozen BK319.out 5) | ((with_reducible refine gate_callee (f := 31) rfl ?_); refine goesL_ (some 15) rfl rfl Try.func31 (by kernel_rfl) rfl #[.agg #[.int .u8 ((rd_T25 l0_3 x9_1).f0), .int .i64 ((rd_T25 l0_3 x9_1).f1), .string ((rd_T25 l0_3 x9_1).f2), .slice A318_3 ((rd_T25 l0_3 x9_1).f3).length c318_3, .int .i64 ((rd_T25 l0_3 x9_1).f4), .int .i64 ((rd_T25 l0_3 x9_1).f5)]] rfl (by (try simp only [List.map_toArray, List.map_cons, List.map_nil]); first | done | rfl | (simp only [List.length_drop, List.length_take]; rfl)) ?_; (with_reducible refine (ih k1 (by have := HK1.out; omega) ((rd_T25 l0_3 x9_1).f0) ((rd_T25 l0_3 x9_1).f1) ((rd_T25 l0_3 x9_1).f2) _ _ ((rd_T25 l0_3 x9_1).f3) ((rd_T25 l0_3 x9_1).f4) ((rd_T25 l0_3 x9_1).f5) t320 _ ?side1 ?side2 A7.out).mono ?_); (case side1 => exact Kd.C_below HR318_3.out (by repeat (first | (with_reducible first | exact HB.out | apply below_alloc | apply pw_below_drewN | apply below_drew1 | refine below_set ?_ GE317.out | refine below_set ?_ GE319.out) | exact HB.out))); (case side2 => exact HC318_3.out); rintro e w11 ⟨rfl, hb⟩; refine ⟨_, rfl, ?_⟩; have n0_ := Aside0.mk (blk_below (g := gb317) (o := .cells #[.int .u8 a0_0, .int .i64 a0_1, .string a0_2, .slice (some ad318) l0_3.length c0_3, .int .i64 a0_4, .int .i64 a0_5] 25 (0, 0)) (by (with_reducible repeat (first | refine blk_drewN ?_ _ | refine blk_drew ?_ | refine blk_alloc ?_ _)); refine blk_far ?_ NB317_319.out _; (with_reducible repeat (first | refine blk_drewN ?_ _ | refine blk_drew ?_ | refine blk_alloc ?_ _)); refine blk_far ?_ NB317_319.out _; (with_reducible repeat (first | refine blk_drewN ?_ _ | refine blk_drew ?_ | refine blk_alloc ?_ _)); refine blk_far ?_ NB317_319.out _; (with_reducible repeat (first | refine blk_drewN ?_ _ | refine blk_drew ?_ | refine blk_alloc ?_ _)); refine blk_far ?_ NB317_319.out _; (with_reducible repeat (first | refine blk_drewN ?_ _ | refine blk_drew ?_ | refine blk_alloc ?_ _)); refine blk_far ?_ NB317_319.out _; (with_reducible repeat (first | refine blk_drewN ?_ _ | refine blk_drew ?_ | refine blk_alloc ?_ _)); refine blk_far ?_ NB317_319.out _; (with_reducible repeat (first | refine blk_drewN ?_ _ | refine blk_drew ?_ | refine blk_alloc ?_ _)); exact BK317.out) hb); have n1_ := Aside0.mk (blk_below (g := gb319) (o := .cells #[.int .u8 ((rd_T25 l0_3 x9_1).f0), .int .i64 ((rd_T25 l0_3 x9_1).f1), .string ((rd_T25 l0_3 x9_1).f2), .slice A318_3 ((rd_T25 l0_3 x9_1).f3).length c318_3, .int .i64 ((rd_T25 l0_3 x9_1).f4), .int .i64 ((rd_T25 l0_3 x9_1).f5)] 25 (0, 0)) (by (with_reducible repeat (first | refine blk_drewN ?_ _ | refine blk_drew ?_ | refine blk_alloc ?_ _)); refine blk_put (cs := #[.int .u8 ((rd_T25 l0_3 x9_1).f0), .int .i64 ((rd_T25 l0_3 x9_1).f1), .string ((rd_T25 l0_3 x9_1).f2), .slice A318_3 ((rd_T25 l0_3 x9_1).f3).length c318_3, .int .i64 ((rd_T25 l0_3 x9_1).f4), .int .i64 0]) ?_ 5 _ rfl; (with_reducible repeat (first | refine blk_drewN ?_ _ | refine blk_drew ?_ | refine blk_alloc ?_ _)); refine blk_put (cs := #[.int .u8 ((rd_T25 l0_3 x9_1).f0), .int .i64 ((rd_T25 l0_3 x9_1).f1), .string ((rd_T25 l0_3 x9_1).f2), .slice A318_3 ((rd_T25 l0_3 x9_1).f3).length c318_3, .int .i64 0, .int .i64 0]) ?_ 4 _ rfl; (with_reducible repeat (first | refine blk_drewN ?_ _ | refine blk_drew ?_ | refine blk_alloc ?_ _)); refine blk_put (cs := #[.int .u8 ((rd_T25 l0_3 x9_1).f0), .int .i64 ((rd_T25 l0_3 x9_1).f1), .string ((rd_T25 l0_3 x9_1).f2), .slice none 0 0, .int .i64 0, .int .i64 0]) ?_ 3 _ rfl; (with_reducible repeat (first | refine blk_drewN ?_ _ | refine blk_drew ?_ | refine blk_alloc ?_ _)); refine blk_put (cs := #[.int .u8 ((rd_T25 l0_3 x9_1).f0), .int .i64 ((rd_T25 l0_3 x9_1).f1), .string (⟨#[]⟩ : ByteArray), .slice none 0 0, .int .i64 0, .int .i64 0]) ?_ 2 _ rfl; (with_reducible repeat (first | refine blk_drewN ?_ _ | refine blk_drew ?_ | refine blk_alloc ?_ _)); refine blk_put (cs := #[.int .u8 ((rd_T25 l0_3 x9_1).f0), .int .i64 0, .string (⟨#[]⟩ : ByteArray), .slice none 0 0, .int .i64 0, .int .i64 0]) ?_ 1 _ rfl; (with_reducible repeat (first | refine blk_drewN ?_ _ | refine blk_drew ?_ | refine blk_alloc ?_ _)); refine blk_put (cs := #[.int .u8 0, .int .i64 0, .string (⟨#[]⟩ : ByteArray), .slice none 0 0, .int .i64 0, .int .i64 0]) ?_ 0 _ rfl; (with_reducible repeat (first | refine blk_drewN ?_ _ | refine blk_drew ?_ | refine blk_alloc ?_ _)); exact BK319.out) hb); have n2_ := Aside0.mk (below_step (by repeat (first | (with_reducible first | exact HB.out | apply below_alloc | apply pw_below_drewN | apply below_drew1 | refine below_set ?_ GE317.out | refine below_set ?_ GE319.out) | exact HB.out)) hb); clear BK317; clear BK319; clear HB; have BK317 := n0_; have BK319 := n1_; have HB := n2_; clear n0_ n1_ n2_; (try clear hb); (try clear hb2); (try clear hk); (try clear hi)))
            go_roundg k1
            case measure => have := HK1.out; omega
            case rel => exact ⟨(wrap64 (x3_1 + t320)), (wrap64 (x9_1 + 1)), (by first | rfl | (simp; done) | (simp [*]; done) | (simp [xbne_nil]; done)), (by first | rfl | (simp; done) | (simp [*]; done) | (simp [xbne_nil]; done)), H', ⟨by have := HK1.out; omega⟩, ⟨by (with_reducible repeat (first | refine blk_drewN ?_ _ | refine blk_drew ?_ | refine blk_alloc ?_ _)); exact BK317.out⟩, ⟨by repeat (first | (with_reducible first | exact HB.out | apply below_alloc | apply pw_below_drewN | apply below_drew1 | refine below_set ?_ GE317.out | refine below_set ?_ GE319.out) | exact HB.out)⟩⟩
          · rw [if_neg c6] at H
            exact absurd H (by simp)
        · rw [if_neg c5] at H
          exact absurd H (by simp)
      · rw [if_neg c4] at H
        have c4b0 : decide (x9_1 < (l0_3.length : Int)) = false := decide_eq_false c4
        clear c4
        obtain rfl := Option.some.inj H
        go_wp2
        go_ret
        exact ⟨by first | rfl | (simp [errW_none, errW_some] <;> rfl) | (simp [*, errW_none, errW_some] <;> rfl), by repeat (first | (with_reducible first | exact HB.out | apply below_alloc | apply pw_below_drewN | apply below_drew1 | refine below_set ?_ GE317.out) | exact HB.out)⟩

end Go.Proofs.Ytnojokempdcikaa.PA

namespace Go.Proofs.Ytnojokempdcikaa.PA
open Go.RowKit Go.Proofs.YtnojokempdcikaaW.PrintWords Go.Proofs.YtnojokempdcikaaW.PrintLast Go.Proofs.YtnojokempdcikaaW.PrintMore
attribute [local go_sem] max2_int min2_int max_two min_two max_three min_three max_four min_four   -- for this text's walks alone
set_option linter.unusedVariables false
set_option linter.unusedSimpArgs false

/-! ### number_put: function 32 -/
--OWNPART Derived.Deep.RegionLaw
open Go.RowKit
theorem xbytes_toList (a b : ByteArray) : a.toList = b.toList ↔ a = b := ⟨fun h => by rw [Go.ByteArray.toList_eq, Go.ByteArray.toList_eq] at h; exact ByteArray.ext (Array.toList_inj.mp h), fun h => by rw [h]⟩
theorem below_base3 {w0 w w1 : World} (h : Below w0.heap.size w0 w) (k : Below w.heap.size w w1) : Below w0.heap.size w0 w1 := h.trans (k.mono h.size)
/-- No deeper than n, at most two parts each. -/
def fewB : Nat → S25 → Bool
  | 0, _ => false
  | n + 1, x => decide (x.f3.length ≤ 2) && x.f3.all (fewB n)
/-- What a call of put leaves: an expression in new memory. -/
def PutIs (w0 : World) (s : ByteArray) (Y : Value) (n : Nat) (f : S25 → S25) : Prop := ∀ (K N : Int) (S : ByteArray) (A : Option Addr) (C : Nat) (l : List S25) (I O : Int) (w : World), Below w0.heap.size w0 w → Kd.C k25 w0 A l.length l → fewB n ⟨K, N, S, l, I, O⟩ = true →
  Calls Try.prog 32 #[.agg #[.int .u8 K, .int .i64 N, .string S, .slice A l.length C, .int .i64 I, .int .i64 O], .string s, Y] w fun e w' => ∃ (A' : Option Addr) (c' : Nat), e = .returned (.agg #[.int .u8 (f ⟨K, N, S, l, I, O⟩).f0, .int .i64 (f ⟨K, N, S, l, I, O⟩).f1, .string (f ⟨K, N, S, l, I, O⟩).f2, .slice A' (f ⟨K, N, S, l, I, O⟩).f3.length c', .int .i64 (f ⟨K, N, S, l, I, O⟩).f4, .int .i64 (f ⟨K, N, S, l, I, O⟩).f5]) ∧ k25.R 25 w' w.heap.size (fun k => w.heap.size ≤ k) (.slice A' (f ⟨K, N, S, l, I, O⟩).f3.length c') (f ⟨K, N, S, l, I, O⟩).f3 ∧ Below w.heap.size w w'
set_option maxHeartbeats 8000000 in
set_option maxRecDepth 100000 in
theorem put_copy (w0 : World) (s : ByteArray) (n : Nat) (f : S25 → S25) (hf : PutIs w0 s (.pointer none) n f) (K N : Int) (S : ByteArray) (A : Option Addr) (C : Nat) (l : List S25) (I O : Int) (w : World) (hBB : Below w0.heap.size w0 w) (hR : Kd.C k25 w0 A l.length l) (hd : fewB (n + 1) ⟨K, N, S, l, I, O⟩ = true) :
    Calls Try.prog 32 #[.agg #[.int .u8 K, .int .i64 N, .string S, .slice A l.length C, .int .i64 I, .int .i64 O], .string s, .pointer none] w fun e w' => ∃ (A' : Option Addr) (c' : Nat), e = .returned (.agg #[.int .u8 K, .int .i64 N, .string S, .slice A' (l.map f).length c', .int .i64 I, .int .i64 O]) ∧ k25.R 25 w' w.heap.size (fun k => w.heap.size ≤ k) (.slice A' (l.map f).length c') (l.map f) ∧ Below w.heap.size w w' := by
  have HIH := Aside0.mk hf
  have HBB := Aside0.mk hBB
  have HR := Aside0.mk hR
  simp only [fewB, Bool.and_eq_true, decide_eq_true_iff, List.all_eq_true] at hd
  have HLE := Aside0.mk hd.1
  have HOKL := Aside0.mk hd.2
  clear hf hBB hR hd
  go_enter Try.func32, Try.ntmps32
  go_wp2_with (first | ((with_reducible refine gate_dst (N := 3) rfl ?_); refine box_event ?hg (N := 3) ?hd (cs := #[.int .u8 K, .int .i64 N, .string S, .slice A l.length C, .int .i64 I, .int .i64 O]) (t := 25) ?hr ?_; (case hd => rfl); (case hg => rfl); (case hr => first | (go_simp; done) | (go_simp; rfl)); intro gx hg w1 hbox hb; have BX := Aside0.mk hbox; have HB1 := Aside0.mk hb; have GX := Aside0.mk (show w.heap.size ≤ gx from by rw [hg]; exact Nat.le_refl _); clear hbox hb hg) | ((with_reducible refine gate_dst (N := 6) rfl ?_); refine box_event ?hg (N := 6) ?hd (cs := #[.int .u8 0, .int .i64 0, .string (⟨#[]⟩ : ByteArray), .slice none 0 0, .int .i64 0, .int .i64 0]) (t := 25) ?hr ?_; (case hd => rfl); (case hg => rfl); (case hr => first | (go_simp; done) | (go_simp; rfl)); intro gr hg w2 hbox hb; have BR := Aside0.mk hbox; have HB2 := Aside0.mk (below_step HB1.out hb); have BX2 := Aside0.mk (blk_below BX.out hb); have GR := Aside0.mk (show gx < gr from by have := blk_lt BX.out; rw [hg]; exact this); have hw0 : w2.cell? ⟨gx, 0, none⟩ = some (.int .u8 K) := (blk_cell BX2.out 0).trans rfl; have hw1 : w2.cell? ⟨gx, 1, none⟩ = some (.int .i64 N) := (blk_cell BX2.out 1).trans rfl; have hw2 : w2.cell? ⟨gx, 2, none⟩ = some (.string S) := (blk_cell BX2.out 2).trans rfl; have hw3 : w2.cell? ⟨gx, 3, none⟩ = some (.slice A l.length C) := (blk_cell BX2.out 3).trans rfl; have hw4 : w2.cell? ⟨gx, 4, none⟩ = some (.int .i64 I) := (blk_cell BX2.out 4).trans rfl; have hw5 : w2.cell? ⟨gx, 5, none⟩ = some (.int .i64 O) := (blk_cell BX2.out 5).trans rfl; have hf0 : w2.frozen? ⟨gx, 0, none⟩ = false := blk_frozen BX2.out 0; have hf1 : w2.frozen? ⟨gx, 1, none⟩ = false := blk_frozen BX2.out 1; have hf2 : w2.frozen? ⟨gx, 2, none⟩ = false := blk_frozen BX2.out 2; have hf3 : w2.frozen? ⟨gx, 3, none⟩ = false := blk_frozen BX2.out 3; have hf4 : w2.frozen? ⟨gx, 4, none⟩ = false := blk_frozen BX2.out 4; have hf5 : w2.frozen? ⟨gx, 5, none⟩ = false := blk_frozen BX2.out 5; clear hbox hb hg))
  go_loopg [32] l.length (fun q v32 wx => ∃ (i : Nat) (A3 : Option Addr) (c3 : Nat), i + q = l.length ∧ v32 = .int .i64 i ∧ Aside0 (wx.heap[gx]? = some (.cells #[.int .u8 K, .int .i64 N, .string S, .slice A3 i c3, .int .i64 I, .int .i64 O] 25 (0, 0))) ∧ Aside0 (k25.R 25 wx w.heap.size (fun k => gr < k) (.slice A3 i c3) ((l.take i).map f)) ∧ Aside0 (wx.heap[gr]? = some (.cells #[.int .u8 0, .int .i64 0, .string (⟨#[]⟩ : ByteArray), .slice none 0 0, .int .i64 0, .int .i64 0] 25 (0, 0))) ∧ Aside0 (Below w.heap.size w wx))
  case atStart => exact ⟨0, none, 0, by omega, rfl, ⟨blk_set BX2.out 3 (.slice none 0 0)⟩, ⟨Kd.R_nil _ _ _ _ _⟩, ⟨blk_far BR.out (by have := GR.out; simp; omega) _⟩, ⟨below_set HB2.out GX.out⟩⟩
  case round =>
    clear BX BX2 BR HB1 HB2 hw0 hw1 hw2 hw3 hw4 hw5 hf0 hf1 hf2 hf3 hf4 hf5
    obtain ⟨i, A3, c3, hi, rfl, BX, HO, BR, HB⟩ := hrel
    have hv0 : wr.cell? ⟨gx, 0, none⟩ = some (.int .u8 K) := (blk_cell BX.out 0).trans rfl; have hv1 : wr.cell? ⟨gx, 1, none⟩ = some (.int .i64 N) := (blk_cell BX.out 1).trans rfl; have hv2 : wr.cell? ⟨gx, 2, none⟩ = some (.string S) := (blk_cell BX.out 2).trans rfl; have hv3 : wr.cell? ⟨gx, 3, none⟩ = some (.slice A3 i c3) := (blk_cell BX.out 3).trans rfl; have hv4 : wr.cell? ⟨gx, 4, none⟩ = some (.int .i64 I) := (blk_cell BX.out 4).trans rfl; have hv5 : wr.cell? ⟨gx, 5, none⟩ = some (.int .i64 O) := (blk_cell BX.out 5).trans rfl
    cases gk with
    | zero =>
      obtain rfl : i = l.length := by omega
      have HO2 := Aside0.mk HO.out
      go_wp2_with (first | (refine xstore_row rfl 25 _ _ rfl gr #[.int .u8 K, .int .i64 N, .string S, .slice A3 l.length c3, .int .i64 I, .int .i64 O] rfl rfl 25 _ BR.out exprInfo rfl (xone6 _ _ _ _ _ _ _ _) ?_; intro w2 hbk hgr hbl; have BR2 := Aside0.mk hbk; have HB2 := Aside0.mk (hbl _ _ HB.out (by have := GR.out; have := GX.out; omega)); have HK2 := Aside0.mk hgr; clear hbk hgr hbl))
      refine bodyPost_ret (results_cell_row rfl _ _ gr 25 #[.int .u8 K, .int .i64 N, .string S, .slice A3 l.length c3, .int .i64 I, .int .i64 O] (0, 0) _ rfl BR2.out Try.underlying25 rfl exprInfo) rfl ?_
      have hO := HO2.out
      rw [List.take_length] at hO
      refine ⟨A3, c3, (by rw [List.length_map]), ?_, HB2.out⟩
      rw [List.length_map]
      exact Kd.R_mono (Kd.R_grown hO HK2.out (fun k hk e => by have hk : gr < k := hk; injection e with e; omega)) (fun k hk => by have := GR.out; have := GX.out; have hk : gr < k := hk; omega)
    | succ q =>
      have hik : i < l.length := by omega
      have hlt : decide ((i : Int) < (l.length : Int)) = true := decide_eq_true (by omega)
      have hmem := rd_mem25 l i hik
      have htk : l.take (i + 1) = l.take i ++ [rd_T25 l (i : Int)] := by rw [← List.take_append_getElem hik]; unfold rd_T25; rw [Int.toNat_natCast, List.getD_eq_getElem?_getD, List.getElem?_eq_getElem hik]; rfl
      obtain ⟨ad, A4, c4, e0, hx0, hx1, hx2, hx3, hx4, hx5, hlc, hRC⟩ := at_T25 HR.out (i : Int) (by omega) (by omega)
      subst e0
      rw [Int.toNat_natCast] at hx0 hx1 hx2 hx3 hx4 hx5
      generalize rd_T25 l (i : Int) = y at htk hmem hx0 hx1 hx2 hx3 hx4 hx5 hlc hRC
      obtain ⟨K2, N2, S2, l2, I2, O2⟩ := y
      dsimp only at hmem hx0 hx1 hx2 hx3 hx4 hx5 hlc hRC
      have hBB := below_base3 HBB.out HB.out
      replace hx0 := (hBB.cell (World.block_lt_of_cell? w0 _ hx0)).trans hx0
      replace hx1 := (hBB.cell (World.block_lt_of_cell? w0 _ hx1)).trans hx1
      replace hx2 := (hBB.cell (World.block_lt_of_cell? w0 _ hx2)).trans hx2
      replace hx3 := (hBB.cell (World.block_lt_of_cell? w0 _ hx3)).trans hx3
      replace hx4 := (hBB.cell (World.block_lt_of_cell? w0 _ hx4)).trans hx4
      replace hx5 := (hBB.cell (World.block_lt_of_cell? w0 _ hx5)).trans hx5
      have HRC := Aside0.mk hRC
      have HY := Aside0.mk (HOKL.out _ hmem)
      have HTK := Aside0.mk htk
      have HII := Aside0.mk hik
      clear hRC hlc hmem htk hBB
      go_upto_region 8 with (first | ((with_reducible refine gate_dst (N := 9) rfl ?_); refine box_event ?hg (N := 9) ?hd (cs := #[.int .u8 0, .int .i64 0, .string (⟨#[]⟩ : ByteArray), .slice none 0 0, .int .i64 0, .int .i64 0]) (t := 25) ?hr ?_; (case hd => rfl); (case hg => rfl); (case hr => first | (go_simp; done) | (go_simp; rfl)); intro gp hg w3 hbox hb; have BP := Aside0.mk hbox; have HB3 := Aside0.mk hb; have GP := Aside0.mk (show wr.heap.size ≤ gp from by rw [hg]; exact Nat.le_refl _); clear hbox hb hg) | (refine xstore_row rfl 25 _ _ rfl gp #[.int .u8 K2, .int .i64 N2, .string S2, .slice A4 l2.length c4, .int .i64 I2, .int .i64 O2] rfl rfl 25 _ BP.out exprInfo rfl (xone6 _ _ _ _ _ _ _ _) ?_; intro w4 hbk hgr hbl; have BP4 := Aside0.mk hbk; have HB4 := Aside0.mk (hbl _ _ HB3.out GP.out); clear hbk hgr hbl))
      clear hx0 hx1 hx2 hx3 hx4 hx5
      have HB4x := Aside0.mk (below_base3 HBB.out (below_step HB.out HB4.out))
      have HB4w := Aside0.mk (below_step HB.out HB4.out)
      have BX4 := Aside0.mk (blk_below BX.out HB4.out)
      have BR4 := Aside0.mk (blk_below BR.out HB4.out)
      have HO4 := Aside0.mk (Kd.R_below HO.out HB4.out)
      have HGR4 := Aside0.mk (blk_lt BR4.out)
      have HSZ := Aside0.mk (show w.heap.size ≤ w4.drew.heap.size from HB4w.out.size)
      have hp0 : w4.drew.cell? ⟨gp, 0, none⟩ = some (.int .u8 K2) := (blk_cell (blk_drew BP4.out) 0).trans rfl; have hp1 : w4.drew.cell? ⟨gp, 1, none⟩ = some (.int .i64 N2) := (blk_cell (blk_drew BP4.out) 1).trans rfl; have hp2 : w4.drew.cell? ⟨gp, 2, none⟩ = some (.string S2) := (blk_cell (blk_drew BP4.out) 2).trans rfl; have hp3 : w4.drew.cell? ⟨gp, 3, none⟩ = some (.slice A4 l2.length c4) := (blk_cell (blk_drew BP4.out) 3).trans rfl; have hp4 : w4.drew.cell? ⟨gp, 4, none⟩ = some (.int .i64 I2) := (blk_cell (blk_drew BP4.out) 4).trans rfl; have hp5 : w4.drew.cell? ⟨gp, 5, none⟩ = some (.int .i64 O2) := (blk_cell (blk_drew BP4.out) 5).trans rfl
      have hv0 : w4.drew.cell? ⟨gx, 0, none⟩ = some (.int .u8 K) := (blk_cell (blk_drew BX4.out) 0).trans rfl; have hv1 : w4.drew.cell? ⟨gx, 1, none⟩ = some (.int .i64 N) := (blk_cell (blk_drew BX4.out) 1).trans rfl; have hv2 : w4.drew.cell? ⟨gx, 2, none⟩ = some (.string S) := (blk_cell (blk_drew BX4.out) 2).trans rfl; have hv3 : w4.drew.cell? ⟨gx, 3, none⟩ = some (.slice A3 i c3) := (blk_cell (blk_drew BX4.out) 3).trans rfl; have hv4 : w4.drew.cell? ⟨gx, 4, none⟩ = some (.int .i64 I) := (blk_cell (blk_drew BX4.out) 4).trans rfl; have hv5 : w4.drew.cell? ⟨gx, 5, none⟩ = some (.int .i64 O) := (blk_cell (blk_drew BX4.out) 5).trans rfl; have hg0 : w4.drew.frozen? ⟨gx, 0, none⟩ = false := blk_frozen (blk_drew BX4.out) 0; have hg1 : w4.drew.frozen? ⟨gx, 1, none⟩ = false := blk_frozen (blk_drew BX4.out) 1; have hg2 : w4.drew.frozen? ⟨gx, 2, none⟩ = false := blk_frozen (blk_drew BX4.out) 2; have hg3 : w4.drew.frozen? ⟨gx, 3, none⟩ = false := blk_frozen (blk_drew BX4.out) 3; have hg4 : w4.drew.frozen? ⟨gx, 4, none⟩ = false := blk_frozen (blk_drew BX4.out) 4; have hg5 : w4.drew.frozen? ⟨gx, 5, none⟩ = false := blk_frozen (blk_drew BX4.out) 5
      go_region_law (first | (go_simp; go_at_call 32; refine (HIH.out K2 N2 S2 A4 c4 l2 I2 O2 _ (below_drew1 (HB4x.out)) HRC.out HY.out).mono ?_; rintro e w5 ⟨A5, c5, rfl, hr5, hb5⟩; have HR5 := Aside0.mk hr5; have HB5 := Aside0.mk hb5; have BX5 := Aside0.mk (blk_below (w := w4.drew) (blk_drew BX4.out) hb5); have hn0 : w5.cell? ⟨gx, 0, none⟩ = some (.int .u8 K) := (blk_cell BX5.out 0).trans rfl; have hn1 : w5.cell? ⟨gx, 1, none⟩ = some (.int .i64 N) := (blk_cell BX5.out 1).trans rfl; have hn2 : w5.cell? ⟨gx, 2, none⟩ = some (.string S) := (blk_cell BX5.out 2).trans rfl; have hn3 : w5.cell? ⟨gx, 3, none⟩ = some (.slice A3 i c3) := (blk_cell BX5.out 3).trans rfl; have hn4 : w5.cell? ⟨gx, 4, none⟩ = some (.int .i64 I) := (blk_cell BX5.out 4).trans rfl; have hn5 : w5.cell? ⟨gx, 5, none⟩ = some (.int .i64 O) := (blk_cell BX5.out 5).trans rfl; have hz0 : w5.frozen? ⟨gx, 0, none⟩ = false := blk_frozen BX5.out 0; have hz1 : w5.frozen? ⟨gx, 1, none⟩ = false := blk_frozen BX5.out 1; have hz2 : w5.frozen? ⟨gx, 2, none⟩ = false := blk_frozen BX5.out 2; have hz3 : w5.frozen? ⟨gx, 3, none⟩ = false := blk_frozen BX5.out 3; have hz4 : w5.frozen? ⟨gx, 4, none⟩ = false := blk_frozen BX5.out 4; have hz5 : w5.frozen? ⟨gx, 5, none⟩ = false := blk_frozen BX5.out 5; have hna : ∀ o, (w5.alloc o).cell? ⟨gx, 3, none⟩ = some (.slice A3 i c3) := fun o => (blk_cell (blk_alloc BX5.out o) 3).trans rfl; clear hr5 hb5) | (refine Kd.R_append_step k25 (w0 := w) w.heap.size (by rfl) (.tmp 37) (.tmp 42) 23 25 (.agg #[.int .u8 0, .int .i64 0, .string (⟨#[]⟩ : ByteArray), .slice none 0 0, .int .i64 0, .int .i64 0]) 72 rfl Try.underlying23 info25 rfl (by decide) (by omega) (.slice A3 i c3) ((l.take i).map f) (f ⟨K2, N2, S2, l2, I2, O2⟩) _ (fun k => gr < k) (fun k => w4.heap.size ≤ k) rfl rfl ?aP ?aK ?aF ?aO ?aB ?aS ?aL ?_; (case aP => exact k25_mkM _ _ _ (f ⟨K2, N2, S2, l2, I2, O2⟩) (Kd.R_lower HR5.out HSZ.out)); (case aK => exact fun k hk => ⟨by have := HGR4.out; omega, fun e => by have := Kd.R_lt HO4.out k e.symm; omega⟩); (case aF => exact fun k hk => by have := HGR4.out; have := HB5.out.size; have : w4.drew.heap.size = w4.heap.size := rfl; omega); (case aO => exact Kd.R_below (w := w4.drew) (Kd.R_drew HO4.out) HB5.out); (case aB => exact below_step (below_drew1 HB4w.out) HB5.out); (case aS => exact (below_step (below_drew1 HB4w.out) HB5.out).size); (case aL => have := HLE.out; have := HII.out; simp only [List.length_map, List.length_take]; omega); intro v6 w6 ho6 hb6 hg6 hat6; obtain ⟨A6, c6, he6⟩ := Kd.R_slice ho6; rw [(show (List.map f (List.take i l) ++ [f ⟨K2, N2, S2, l2, I2, O2⟩]).length = i + 1 from by have := HII.out; simp only [List.length_append, List.length_map, List.length_take, List.length_singleton]; omega)] at he6; subst he6; rw [(show List.map f (List.take i l) ++ [f ⟨K2, N2, S2, l2, I2, O2⟩] = List.map f (List.take (i + 1) l) from by rw [HTK.out, List.map_append]; rfl)] at ho6; have HO6 := Aside0.mk ho6; have HB6 := Aside0.mk hb6; have BX6 := Aside0.mk (blk_grown BX5.out hg6 (fun e => by have h : gr < gx := HO4.out.1 _ e.symm; have := GR.out; omega)); have BR6 := Aside0.mk (blk_grown (blk_below (w := w4.drew) (blk_drew BR4.out) HB5.out) hg6 (fun e => by have h : gr < gr := HO4.out.1 _ e.symm; omega)); have hm0 : w6.cell? ⟨gx, 0, none⟩ = some (.int .u8 K) := (blk_cell BX6.out 0).trans rfl; have hm1 : w6.cell? ⟨gx, 1, none⟩ = some (.int .i64 N) := (blk_cell BX6.out 1).trans rfl; have hm2 : w6.cell? ⟨gx, 2, none⟩ = some (.string S) := (blk_cell BX6.out 2).trans rfl; have hm3 : w6.cell? ⟨gx, 3, none⟩ = some (.slice A3 i c3) := (blk_cell BX6.out 3).trans rfl; have hm4 : w6.cell? ⟨gx, 4, none⟩ = some (.int .i64 I) := (blk_cell BX6.out 4).trans rfl; have hm5 : w6.cell? ⟨gx, 5, none⟩ = some (.int .i64 O) := (blk_cell BX6.out 5).trans rfl; have hy0 : w6.frozen? ⟨gx, 0, none⟩ = false := blk_frozen BX6.out 0; have hy1 : w6.frozen? ⟨gx, 1, none⟩ = false := blk_frozen BX6.out 1; have hy2 : w6.frozen? ⟨gx, 2, none⟩ = false := blk_frozen BX6.out 2; have hy3 : w6.frozen? ⟨gx, 3, none⟩ = false := blk_frozen BX6.out 3; have hy4 : w6.frozen? ⟨gx, 4, none⟩ = false := blk_frozen BX6.out 4; have hy5 : w6.frozen? ⟨gx, 5, none⟩ = false := blk_frozen BX6.out 5; clear ho6 hb6 hg6 hat6))
      all_goals (try go_wp2)
      all_goals go_roundg q
      all_goals first | (case measure => omega) | skip
      all_goals exact ⟨i + 1, A6, c6, by omega, (by have h1 := HLE.out; have h2 := HII.out; first | rfl | (rw [xw64 (by omega) (by omega)]; simp) | simp), ⟨blk_set BX6.out 3 _⟩, ⟨Kd.R_far HO6.out (fun k hk => by have hk : gr < k := hk; have := GR.out; simp only; omega) _⟩, ⟨blk_far BR6.out (by have := GR.out; simp only; omega) _⟩, ⟨below_set HB6.out GX.out⟩⟩
/-- Without a name: the expression itself, in new memory. -/
theorem put_copies (w0 : World) (s : ByteArray) : ∀ n, PutIs w0 s (.pointer none) n (fun x => x)
  | 0 => fun K N S A C l I O w _ _ h => absurd h (by simp [fewB])
  | n + 1 => fun K N S A C l I O w hB hR hd => by
    have h := put_copy w0 s n (fun x => x) (put_copies w0 s n) K N S A C l I O w hB hR hd
    rw [List.map_id'] at h
    exact h
/-- y in the place of the name s. -/
def xput (s : ByteArray) (y : S25) : Nat → S25 → S25
  | 0, x => x
  | n + 1, x => if x.f0 = 2 ∧ x.f2 = s then y else ⟨x.f0, x.f1, x.f2, x.f3.map (xput s y n), x.f4, x.f5⟩
set_option maxHeartbeats 8000000 in
set_option maxRecDepth 100000 in
theorem put_other (w0 : World) (s : ByteArray) (n : Nat) (f : S25 → S25) (gy : Nat) (hf : PutIs w0 s (.pointer (some ⟨gy, 0, none⟩)) n f) (K N : Int) (S : ByteArray) (A : Option Addr) (C : Nat) (l : List S25) (I O : Int) (w : World) (hBB : Below w0.heap.size w0 w) (hR : Kd.C k25 w0 A l.length l) (hd : fewB (n + 1) ⟨K, N, S, l, I, O⟩ = true) (hno : K = 2 → S ≠ s) :
    Calls Try.prog 32 #[.agg #[.int .u8 K, .int .i64 N, .string S, .slice A l.length C, .int .i64 I, .int .i64 O], .string s, .pointer (some ⟨gy, 0, none⟩)] w fun e w' => ∃ (A' : Option Addr) (c' : Nat), e = .returned (.agg #[.int .u8 K, .int .i64 N, .string S, .slice A' (l.map f).length c', .int .i64 I, .int .i64 O]) ∧ k25.R 25 w' w.heap.size (fun k => w.heap.size ≤ k) (.slice A' (l.map f).length c') (l.map f) ∧ Below w.heap.size w w' := by
  have HIH := Aside0.mk hf
  have HBB := Aside0.mk hBB
  have HR := Aside0.mk hR
  simp only [fewB, Bool.and_eq_true, decide_eq_true_iff, List.all_eq_true] at hd
  have HLE := Aside0.mk hd.1
  have HOKL := Aside0.mk hd.2
  clear hf hBB hR hd
  go_enter Try.func32, Try.ntmps32
  by_cases k2 : K = 2
  · have k2b : (K == 2) = true := beq_iff_eq.mpr k2
    have hss : S ≠ s := hno k2
    have hsb : (S.toList == s.toList) = false := beq_eq_false_iff_ne.2 (fun h => hss ((xbytes_toList _ _).1 h))
    clear k2 hno
    go_wp2_with (first | ((with_reducible refine gate_dst (N := 3) rfl ?_); refine box_event ?hg (N := 3) ?hd (cs := #[.int .u8 K, .int .i64 N, .string S, .slice A l.length C, .int .i64 I, .int .i64 O]) (t := 25) ?hr ?_; (case hd => rfl); (case hg => rfl); (case hr => first | (go_simp; done) | (go_simp; rfl)); intro gx hg w1 hbox hb; have BX := Aside0.mk hbox; have HB1 := Aside0.mk hb; have GX := Aside0.mk (show w.heap.size ≤ gx from by rw [hg]; exact Nat.le_refl _); clear hbox hb hg) | ((with_reducible refine gate_dst (N := 6) rfl ?_); refine box_event ?hg (N := 6) ?hd (cs := #[.int .u8 0, .int .i64 0, .string (⟨#[]⟩ : ByteArray), .slice none 0 0, .int .i64 0, .int .i64 0]) (t := 25) ?hr ?_; (case hd => rfl); (case hg => rfl); (case hr => first | (go_simp; done) | (go_simp; rfl)); intro gr hg w2 hbox hb; have BR := Aside0.mk hbox; have HB2 := Aside0.mk (below_step HB1.out hb); have BX2 := Aside0.mk (blk_below BX.out hb); have GR := Aside0.mk (show gx < gr from by have := blk_lt BX.out; rw [hg]; exact this); have hw0 : w2.cell? ⟨gx, 0, none⟩ = some (.int .u8 K) := (blk_cell BX2.out 0).trans rfl; have hw1 : w2.cell? ⟨gx, 1, none⟩ = some (.int .i64 N) := (blk_cell BX2.out 1).trans rfl; have hw2 : w2.cell? ⟨gx, 2, none⟩ = some (.string S) := (blk_cell BX2.out 2).trans rfl; have hw3 : w2.cell? ⟨gx, 3, none⟩ = some (.slice A l.length C) := (blk_cell BX2.out 3).trans rfl; have hw4 : w2.cell? ⟨gx, 4, none⟩ = some (.int .i64 I) := (blk_cell BX2.out 4).trans rfl; have hw5 : w2.cell? ⟨gx, 5, none⟩ = some (.int .i64 O) := (blk_cell BX2.out 5).trans rfl; have hf0 : w2.frozen? ⟨gx, 0, none⟩ = false := blk_frozen BX2.out 0; have hf1 : w2.frozen? ⟨gx, 1, none⟩ = false := blk_frozen BX2.out 1; have hf2 : w2.frozen? ⟨gx, 2, none⟩ = false := blk_frozen BX2.out 2; have hf3 : w2.frozen? ⟨gx, 3, none⟩ = false := blk_frozen BX2.out 3; have hf4 : w2.frozen? ⟨gx, 4, none⟩ = false := blk_frozen BX2.out 4; have hf5 : w2.frozen? ⟨gx, 5, none⟩ = false := blk_frozen BX2.out 5; clear hbox hb hg))
    go_loopg [32] l.length (fun q v32 wx => ∃ (i : Nat) (A3 : Option Addr) (c3 : Nat), i + q = l.length ∧ v32 = .int .i64 i ∧ Aside0 (wx.heap[gx]? = some (.cells #[.int .u8 K, .int .i64 N, .string S, .slice A3 i c3, .int .i64 I, .int .i64 O] 25 (0, 0))) ∧ Aside0 (k25.R 25 wx w.heap.size (fun k => gr < k) (.slice A3 i c3) ((l.take i).map f)) ∧ Aside0 (wx.heap[gr]? = some (.cells #[.int .u8 0, .int .i64 0, .string (⟨#[]⟩ : ByteArray), .slice none 0 0, .int .i64 0, .int .i64 0] 25 (0, 0))) ∧ Aside0 (Below w.heap.size w wx))
    case atStart => exact ⟨0, none, 0, by omega, rfl, ⟨blk_set BX2.out 3 (.slice none 0 0)⟩, ⟨Kd.R_nil _ _ _ _ _⟩, ⟨blk_far BR.out (by have := GR.out; simp; omega) _⟩, ⟨below_set HB2.out GX.out⟩⟩
    case round =>
      clear BX BX2 BR HB1 HB2 k2b hss hsb hw0 hw1 hw2 hw3 hw4 hw5 hf0 hf1 hf2 hf3 hf4 hf5
      obtain ⟨i, A3, c3, hi, rfl, BX, HO, BR, HB⟩ := hrel
      have hv0 : wr.cell? ⟨gx, 0, none⟩ = some (.int .u8 K) := (blk_cell BX.out 0).trans rfl; have hv1 : wr.cell? ⟨gx, 1, none⟩ = some (.int .i64 N) := (blk_cell BX.out 1).trans rfl; have hv2 : wr.cell? ⟨gx, 2, none⟩ = some (.string S) := (blk_cell BX.out 2).trans rfl; have hv3 : wr.cell? ⟨gx, 3, none⟩ = some (.slice A3 i c3) := (blk_cell BX.out 3).trans rfl; have hv4 : wr.cell? ⟨gx, 4, none⟩ = some (.int .i64 I) := (blk_cell BX.out 4).trans rfl; have hv5 : wr.cell? ⟨gx, 5, none⟩ = some (.int .i64 O) := (blk_cell BX.out 5).trans rfl
      cases gk with
      | zero =>
        obtain rfl : i = l.length := by omega
        have HO2 := Aside0.mk HO.out
        go_wp2_with (first | (refine xstore_row rfl 25 _ _ rfl gr #[.int .u8 K, .int .i64 N, .string S, .slice A3 l.length c3, .int .i64 I, .int .i64 O] rfl rfl 25 _ BR.out exprInfo rfl (xone6 _ _ _ _ _ _ _ _) ?_; intro w2 hbk hgr hbl; have BR2 := Aside0.mk hbk; have HB2 := Aside0.mk (hbl _ _ HB.out (by have := GR.out; have := GX.out; omega)); have HK2 := Aside0.mk hgr; clear hbk hgr hbl))
        refine bodyPost_ret (results_cell_row rfl _ _ gr 25 #[.int .u8 K, .int .i64 N, .string S, .slice A3 l.length c3, .int .i64 I, .int .i64 O] (0, 0) _ rfl BR2.out Try.underlying25 rfl exprInfo) rfl ?_
        have hO := HO2.out
        rw [List.take_length] at hO
        refine ⟨A3, c3, (by rw [List.length_map]), ?_, HB2.out⟩
        rw [List.length_map]
        exact Kd.R_mono (Kd.R_grown hO HK2.out (fun k hk e => by have hk : gr < k := hk; injection e with e; omega)) (fun k hk => by have := GR.out; have := GX.out; have hk : gr < k := hk; omega)
      | succ q =>
        have hik : i < l.length := by omega
        have hlt : decide ((i : Int) < (l.length : Int)) = true := decide_eq_true (by omega)
        have hmem := rd_mem25 l i hik
        have htk : l.take (i + 1) = l.take i ++ [rd_T25 l (i : Int)] := by rw [← List.take_append_getElem hik]; unfold rd_T25; rw [Int.toNat_natCast, List.getD_eq_getElem?_getD, List.getElem?_eq_getElem hik]; rfl
        obtain ⟨ad, A4, c4, e0, hx0, hx1, hx2, hx3, hx4, hx5, hlc, hRC⟩ := at_T25 HR.out (i : Int) (by omega) (by omega)
        subst e0
        rw [Int.toNat_natCast] at hx0 hx1 hx2 hx3 hx4 hx5
        generalize rd_T25 l (i : Int) = y at htk hmem hx0 hx1 hx2 hx3 hx4 hx5 hlc hRC
        obtain ⟨K2, N2, S2, l2, I2, O2⟩ := y
        dsimp only at hmem hx0 hx1 hx2 hx3 hx4 hx5 hlc hRC
        have hBB := below_base3 HBB.out HB.out
        replace hx0 := (hBB.cell (World.block_lt_of_cell? w0 _ hx0)).trans hx0
        replace hx1 := (hBB.cell (World.block_lt_of_cell? w0 _ hx1)).trans hx1
        replace hx2 := (hBB.cell (World.block_lt_of_cell? w0 _ hx2)).trans hx2
        replace hx3 := (hBB.cell (World.block_lt_of_cell? w0 _ hx3)).trans hx3
        replace hx4 := (hBB.cell (World.block_lt_of_cell? w0 _ hx4)).trans hx4
        replace hx5 := (hBB.cell (World.block_lt_of_cell? w0 _ hx5)).trans hx5
        have HRC := Aside0.mk hRC
        have HY := Aside0.mk (HOKL.out _ hmem)
        have HTK := Aside0.mk htk
        have HII := Aside0.mk hik
        clear hRC hlc hmem htk hBB
        go_upto_region 8 with (first | ((with_reducible refine gate_dst (N := 9) rfl ?_); refine box_event ?hg (N := 9) ?hd (cs := #[.int .u8 0, .int .i64 0, .string (⟨#[]⟩ : ByteArray), .slice none 0 0, .int .i64 0, .int .i64 0]) (t := 25) ?hr ?_; (case hd => rfl); (case hg => rfl); (case hr => first | (go_simp; done) | (go_simp; rfl)); intro gp hg w3 hbox hb; have BP := Aside0.mk hbox; have HB3 := Aside0.mk hb; have GP := Aside0.mk (show wr.heap.size ≤ gp from by rw [hg]; exact Nat.le_refl _); clear hbox hb hg) | (refine xstore_row rfl 25 _ _ rfl gp #[.int .u8 K2, .int .i64 N2, .string S2, .slice A4 l2.length c4, .int .i64 I2, .int .i64 O2] rfl rfl 25 _ BP.out exprInfo rfl (xone6 _ _ _ _ _ _ _ _) ?_; intro w4 hbk hgr hbl; have BP4 := Aside0.mk hbk; have HB4 := Aside0.mk (hbl _ _ HB3.out GP.out); clear hbk hgr hbl))
        clear hx0 hx1 hx2 hx3 hx4 hx5
        have HB4x := Aside0.mk (below_base3 HBB.out (below_step HB.out HB4.out))
        have HB4w := Aside0.mk (below_step HB.out HB4.out)
        have BX4 := Aside0.mk (blk_below BX.out HB4.out)
        have BR4 := Aside0.mk (blk_below BR.out HB4.out)
        have HO4 := Aside0.mk (Kd.R_below HO.out HB4.out)
        have HGR4 := Aside0.mk (blk_lt BR4.out)
        have HSZ := Aside0.mk (show w.heap.size ≤ w4.drew.heap.size from HB4w.out.size)
        have hp0 : w4.drew.cell? ⟨gp, 0, none⟩ = some (.int .u8 K2) := (blk_cell (blk_drew BP4.out) 0).trans rfl; have hp1 : w4.drew.cell? ⟨gp, 1, none⟩ = some (.int .i64 N2) := (blk_cell (blk_drew BP4.out) 1).trans rfl; have hp2 : w4.drew.cell? ⟨gp, 2, none⟩ = some (.string S2) := (blk_cell (blk_drew BP4.out) 2).trans rfl; have hp3 : w4.drew.cell? ⟨gp, 3, none⟩ = some (.slice A4 l2.length c4) := (blk_cell (blk_drew BP4.out) 3).trans rfl; have hp4 : w4.drew.cell? ⟨gp, 4, none⟩ = some (.int .i64 I2) := (blk_cell (blk_drew BP4.out) 4).trans rfl; have hp5 : w4.drew.cell? ⟨gp, 5, none⟩ = some (.int .i64 O2) := (blk_cell (blk_drew BP4.out) 5).trans rfl
        have hv0 : w4.drew.cell? ⟨gx, 0, none⟩ = some (.int .u8 K) := (blk_cell (blk_drew BX4.out) 0).trans rfl; have hv1 : w4.drew.cell? ⟨gx, 1, none⟩ = some (.int .i64 N) := (blk_cell (blk_drew BX4.out) 1).trans rfl; have hv2 : w4.drew.cell? ⟨gx, 2, none⟩ = some (.string S) := (blk_cell (blk_drew BX4.out) 2).trans rfl; have hv3 : w4.drew.cell? ⟨gx, 3, none⟩ = some (.slice A3 i c3) := (blk_cell (blk_drew BX4.out) 3).trans rfl; have hv4 : w4.drew.cell? ⟨gx, 4, none⟩ = some (.int .i64 I) := (blk_cell (blk_drew BX4.out) 4).trans rfl; have hv5 : w4.drew.cell? ⟨gx, 5, none⟩ = some (.int .i64 O) := (blk_cell (blk_drew BX4.out) 5).trans rfl; have hg0 : w4.drew.frozen? ⟨gx, 0, none⟩ = false := blk_frozen (blk_drew BX4.out) 0; have hg1 : w4.drew.frozen? ⟨gx, 1, none⟩ = false := blk_frozen (blk_drew BX4.out) 1; have hg2 : w4.drew.frozen? ⟨gx, 2, none⟩ = false := blk_frozen (blk_drew BX4.out) 2; have hg3 : w4.drew.frozen? ⟨gx, 3, none⟩ = false := blk_frozen (blk_drew BX4.out) 3; have hg4 : w4.drew.frozen? ⟨gx, 4, none⟩ = false := blk_frozen (blk_drew BX4.out) 4; have hg5 : w4.drew.frozen? ⟨gx, 5, none⟩ = false := blk_frozen (blk_drew BX4.out) 5
        go_region_law (first | (go_simp; go_at_call 32; refine (HIH.out K2 N2 S2 A4 c4 l2 I2 O2 _ (below_drew1 (HB4x.out)) HRC.out HY.out).mono ?_; rintro e w5 ⟨A5, c5, rfl, hr5, hb5⟩; have HR5 := Aside0.mk hr5; have HB5 := Aside0.mk hb5; have BX5 := Aside0.mk (blk_below (w := w4.drew) (blk_drew BX4.out) hb5); have hn0 : w5.cell? ⟨gx, 0, none⟩ = some (.int .u8 K) := (blk_cell BX5.out 0).trans rfl; have hn1 : w5.cell? ⟨gx, 1, none⟩ = some (.int .i64 N) := (blk_cell BX5.out 1).trans rfl; have hn2 : w5.cell? ⟨gx, 2, none⟩ = some (.string S) := (blk_cell BX5.out 2).trans rfl; have hn3 : w5.cell? ⟨gx, 3, none⟩ = some (.slice A3 i c3) := (blk_cell BX5.out 3).trans rfl; have hn4 : w5.cell? ⟨gx, 4, none⟩ = some (.int .i64 I) := (blk_cell BX5.out 4).trans rfl; have hn5 : w5.cell? ⟨gx, 5, none⟩ = some (.int .i64 O) := (blk_cell BX5.out 5).trans rfl; have hz0 : w5.frozen? ⟨gx, 0, none⟩ = false := blk_frozen BX5.out 0; have hz1 : w5.frozen? ⟨gx, 1, none⟩ = false := blk_frozen BX5.out 1; have hz2 : w5.frozen? ⟨gx, 2, none⟩ = false := blk_frozen BX5.out 2; have hz3 : w5.frozen? ⟨gx, 3, none⟩ = false := blk_frozen BX5.out 3; have hz4 : w5.frozen? ⟨gx, 4, none⟩ = false := blk_frozen BX5.out 4; have hz5 : w5.frozen? ⟨gx, 5, none⟩ = false := blk_frozen BX5.out 5; have hna : ∀ o, (w5.alloc o).cell? ⟨gx, 3, none⟩ = some (.slice A3 i c3) := fun o => (blk_cell (blk_alloc BX5.out o) 3).trans rfl; clear hr5 hb5) | (refine Kd.R_append_step k25 (w0 := w) w.heap.size (by rfl) (.tmp 37) (.tmp 42) 23 25 (.agg #[.int .u8 0, .int .i64 0, .string (⟨#[]⟩ : ByteArray), .slice none 0 0, .int .i64 0, .int .i64 0]) 72 rfl Try.underlying23 info25 rfl (by decide) (by omega) (.slice A3 i c3) ((l.take i).map f) (f ⟨K2, N2, S2, l2, I2, O2⟩) _ (fun k => gr < k) (fun k => w4.heap.size ≤ k) rfl rfl ?aP ?aK ?aF ?aO ?aB ?aS ?aL ?_; (case aP => exact k25_mkM _ _ _ (f ⟨K2, N2, S2, l2, I2, O2⟩) (Kd.R_lower HR5.out HSZ.out)); (case aK => exact fun k hk => ⟨by have := HGR4.out; omega, fun e => by have := Kd.R_lt HO4.out k e.symm; omega⟩); (case aF => exact fun k hk => by have := HGR4.out; have := HB5.out.size; have : w4.drew.heap.size = w4.heap.size := rfl; omega); (case aO => exact Kd.R_below (w := w4.drew) (Kd.R_drew HO4.out) HB5.out); (case aB => exact below_step (below_drew1 HB4w.out) HB5.out); (case aS => exact (below_step (below_drew1 HB4w.out) HB5.out).size); (case aL => have := HLE.out; have := HII.out; simp only [List.length_map, List.length_take]; omega); intro v6 w6 ho6 hb6 hg6 hat6; obtain ⟨A6, c6, he6⟩ := Kd.R_slice ho6; rw [(show (List.map f (List.take i l) ++ [f ⟨K2, N2, S2, l2, I2, O2⟩]).length = i + 1 from by have := HII.out; simp only [List.length_append, List.length_map, List.length_take, List.length_singleton]; omega)] at he6; subst he6; rw [(show List.map f (List.take i l) ++ [f ⟨K2, N2, S2, l2, I2, O2⟩] = List.map f (List.take (i + 1) l) from by rw [HTK.out, List.map_append]; rfl)] at ho6; have HO6 := Aside0.mk ho6; have HB6 := Aside0.mk hb6; have BX6 := Aside0.mk (blk_grown BX5.out hg6 (fun e => by have h : gr < gx := HO4.out.1 _ e.symm; have := GR.out; omega)); have BR6 := Aside0.mk (blk_grown (blk_below (w := w4.drew) (blk_drew BR4.out) HB5.out) hg6 (fun e => by have h : gr < gr := HO4.out.1 _ e.symm; omega)); have hm0 : w6.cell? ⟨gx, 0, none⟩ = some (.int .u8 K) := (blk_cell BX6.out 0).trans rfl; have hm1 : w6.cell? ⟨gx, 1, none⟩ = some (.int .i64 N) := (blk_cell BX6.out 1).trans rfl; have hm2 : w6.cell? ⟨gx, 2, none⟩ = some (.string S) := (blk_cell BX6.out 2).trans rfl; have hm3 : w6.cell? ⟨gx, 3, none⟩ = some (.slice A3 i c3) := (blk_cell BX6.out 3).trans rfl; have hm4 : w6.cell? ⟨gx, 4, none⟩ = some (.int .i64 I) := (blk_cell BX6.out 4).trans rfl; have hm5 : w6.cell? ⟨gx, 5, none⟩ = some (.int .i64 O) := (blk_cell BX6.out 5).trans rfl; have hy0 : w6.frozen? ⟨gx, 0, none⟩ = false := blk_frozen BX6.out 0; have hy1 : w6.frozen? ⟨gx, 1, none⟩ = false := blk_frozen BX6.out 1; have hy2 : w6.frozen? ⟨gx, 2, none⟩ = false := blk_frozen BX6.out 2; have hy3 : w6.frozen? ⟨gx, 3, none⟩ = false := blk_frozen BX6.out 3; have hy4 : w6.frozen? ⟨gx, 4, none⟩ = false := blk_frozen BX6.out 4; have hy5 : w6.frozen? ⟨gx, 5, none⟩ = false := blk_frozen BX6.out 5; clear ho6 hb6 hg6 hat6))
        all_goals (try go_wp2)
        all_goals go_roundg q
        all_goals first | (case measure => omega) | skip
        all_goals exact ⟨i + 1, A6, c6, by omega, (by have h1 := HLE.out; have h2 := HII.out; first | rfl | (rw [xw64 (by omega) (by omega)]; simp) | simp), ⟨blk_set BX6.out 3 _⟩, ⟨Kd.R_far HO6.out (fun k hk => by have hk : gr < k := hk; have := GR.out; simp only; omega) _⟩, ⟨blk_far BR6.out (by have := GR.out; simp only; omega) _⟩, ⟨below_set HB6.out GX.out⟩⟩
  · have k2b : (K == 2) = false := beq_eq_false_iff_ne.2 k2
    clear k2 hno
    go_wp2_with (first | ((with_reducible refine gate_dst (N := 3) rfl ?_); refine box_event ?hg (N := 3) ?hd (cs := #[.int .u8 K, .int .i64 N, .string S, .slice A l.length C, .int .i64 I, .int .i64 O]) (t := 25) ?hr ?_; (case hd => rfl); (case hg => rfl); (case hr => first | (go_simp; done) | (go_simp; rfl)); intro gx hg w1 hbox hb; have BX := Aside0.mk hbox; have HB1 := Aside0.mk hb; have GX := Aside0.mk (show w.heap.size ≤ gx from by rw [hg]; exact Nat.le_refl _); clear hbox hb hg) | ((with_reducible refine gate_dst (N := 6) rfl ?_); refine box_event ?hg (N := 6) ?hd (cs := #[.int .u8 0, .int .i64 0, .string (⟨#[]⟩ : ByteArray), .slice none 0 0, .int .i64 0, .int .i64 0]) (t := 25) ?hr ?_; (case hd => rfl); (case hg => rfl); (case hr => first | (go_simp; done) | (go_simp; rfl)); intro gr hg w2 hbox hb; have BR := Aside0.mk hbox; have HB2 := Aside0.mk (below_step HB1.out hb); have BX2 := Aside0.mk (blk_below BX.out hb); have GR := Aside0.mk (show gx < gr from by have := blk_lt BX.out; rw [hg]; exact this); have hw0 : w2.cell? ⟨gx, 0, none⟩ = some (.int .u8 K) := (blk_cell BX2.out 0).trans rfl; have hw1 : w2.cell? ⟨gx, 1, none⟩ = some (.int .i64 N) := (blk_cell BX2.out 1).trans rfl; have hw2 : w2.cell? ⟨gx, 2, none⟩ = some (.string S) := (blk_cell BX2.out 2).trans rfl; have hw3 : w2.cell? ⟨gx, 3, none⟩ = some (.slice A l.length C) := (blk_cell BX2.out 3).trans rfl; have hw4 : w2.cell? ⟨gx, 4, none⟩ = some (.int .i64 I) := (blk_cell BX2.out 4).trans rfl; have hw5 : w2.cell? ⟨gx, 5, none⟩ = some (.int .i64 O) := (blk_cell BX2.out 5).trans rfl; have hf0 : w2.frozen? ⟨gx, 0, none⟩ = false := blk_frozen BX2.out 0; have hf1 : w2.frozen? ⟨gx, 1, none⟩ = false := blk_frozen BX2.out 1; have hf2 : w2.frozen? ⟨gx, 2, none⟩ = false := blk_frozen BX2.out 2; have hf3 : w2.frozen? ⟨gx, 3, none⟩ = false := blk_frozen BX2.out 3; have hf4 : w2.frozen? ⟨gx, 4, none⟩ = false := blk_frozen BX2.out 4; have hf5 : w2.frozen? ⟨gx, 5, none⟩ = false := blk_frozen BX2.out 5; clear hbox hb hg))
    go_loopg [32] l.length (fun q v32 wx => ∃ (i : Nat) (A3 : Option Addr) (c3 : Nat), i + q = l.length ∧ v32 = .int .i64 i ∧ Aside0 (wx.heap[gx]? = some (.cells #[.int .u8 K, .int .i64 N, .string S, .slice A3 i c3, .int .i64 I, .int .i64 O] 25 (0, 0))) ∧ Aside0 (k25.R 25 wx w.heap.size (fun k => gr < k) (.slice A3 i c3) ((l.take i).map f)) ∧ Aside0 (wx.heap[gr]? = some (.cells #[.int .u8 0, .int .i64 0, .string (⟨#[]⟩ : ByteArray), .slice none 0 0, .int .i64 0, .int .i64 0] 25 (0, 0))) ∧ Aside0 (Below w.heap.size w wx))
    case atStart => exact ⟨0, none, 0, by omega, rfl, ⟨blk_set BX2.out 3 (.slice none 0 0)⟩, ⟨Kd.R_nil _ _ _ _ _⟩, ⟨blk_far BR.out (by have := GR.out; simp; omega) _⟩, ⟨below_set HB2.out GX.out⟩⟩
    case round =>
      clear BX BX2 BR HB1 HB2 k2b hw0 hw1 hw2 hw3 hw4 hw5 hf0 hf1 hf2 hf3 hf4 hf5
      obtain ⟨i, A3, c3, hi, rfl, BX, HO, BR, HB⟩ := hrel
      have hv0 : wr.cell? ⟨gx, 0, none⟩ = some (.int .u8 K) := (blk_cell BX.out 0).trans rfl; have hv1 : wr.cell? ⟨gx, 1, none⟩ = some (.int .i64 N) := (blk_cell BX.out 1).trans rfl; have hv2 : wr.cell? ⟨gx, 2, none⟩ = some (.string S) := (blk_cell BX.out 2).trans rfl; have hv3 : wr.cell? ⟨gx, 3, none⟩ = some (.slice A3 i c3) := (blk_cell BX.out 3).trans rfl; have hv4 : wr.cell? ⟨gx, 4, none⟩ = some (.int .i64 I) := (blk_cell BX.out 4).trans rfl; have hv5 : wr.cell? ⟨gx, 5, none⟩ = some (.int .i64 O) := (blk_cell BX.out 5).trans rfl
      cases gk with
      | zero =>
        obtain rfl : i = l.length := by omega
        have HO2 := Aside0.mk HO.out
        go_wp2_with (first | (refine xstore_row rfl 25 _ _ rfl gr #[.int .u8 K, .int .i64 N, .string S, .slice A3 l.length c3, .int .i64 I, .int .i64 O] rfl rfl 25 _ BR.out exprInfo rfl (xone6 _ _ _ _ _ _ _ _) ?_; intro w2 hbk hgr hbl; have BR2 := Aside0.mk hbk; have HB2 := Aside0.mk (hbl _ _ HB.out (by have := GR.out; have := GX.out; omega)); have HK2 := Aside0.mk hgr; clear hbk hgr hbl))
        refine bodyPost_ret (results_cell_row rfl _ _ gr 25 #[.int .u8 K, .int .i64 N, .string S, .slice A3 l.length c3, .int .i64 I, .int .i64 O] (0, 0) _ rfl BR2.out Try.underlying25 rfl exprInfo) rfl ?_
        have hO := HO2.out
        rw [List.take_length] at hO
        refine ⟨A3, c3, (by rw [List.length_map]), ?_, HB2.out⟩
        rw [List.length_map]
        exact Kd.R_mono (Kd.R_grown hO HK2.out (fun k hk e => by have hk : gr < k := hk; injection e with e; omega)) (fun k hk => by have := GR.out; have := GX.out; have hk : gr < k := hk; omega)
      | succ q =>
        have hik : i < l.length := by omega
        have hlt : decide ((i : Int) < (l.length : Int)) = true := decide_eq_true (by omega)
        have hmem := rd_mem25 l i hik
        have htk : l.take (i + 1) = l.take i ++ [rd_T25 l (i : Int)] := by rw [← List.take_append_getElem hik]; unfold rd_T25; rw [Int.toNat_natCast, List.getD_eq_getElem?_getD, List.getElem?_eq_getElem hik]; rfl
        obtain ⟨ad, A4, c4, e0, hx0, hx1, hx2, hx3, hx4, hx5, hlc, hRC⟩ := at_T25 HR.out (i : Int) (by omega) (by omega)
        subst e0
        rw [Int.toNat_natCast] at hx0 hx1 hx2 hx3 hx4 hx5
        generalize rd_T25 l (i : Int) = y at htk hmem hx0 hx1 hx2 hx3 hx4 hx5 hlc hRC
        obtain ⟨K2, N2, S2, l2, I2, O2⟩ := y
        dsimp only at hmem hx0 hx1 hx2 hx3 hx4 hx5 hlc hRC
        have hBB := below_base3 HBB.out HB.out
        replace hx0 := (hBB.cell (World.block_lt_of_cell? w0 _ hx0)).trans hx0
        replace hx1 := (hBB.cell (World.block_lt_of_cell? w0 _ hx1)).trans hx1
        replace hx2 := (hBB.cell (World.block_lt_of_cell? w0 _ hx2)).trans hx2
        replace hx3 := (hBB.cell (World.block_lt_of_cell? w0 _ hx3)).trans hx3
        replace hx4 := (hBB.cell (World.block_lt_of_cell? w0 _ hx4)).trans hx4
        replace hx5 := (hBB.cell (World.block_lt_of_cell? w0 _ hx5)).trans hx5
        have HRC := Aside0.mk hRC
        have HY := Aside0.mk (HOKL.out _ hmem)
        have HTK := Aside0.mk htk
        have HII := Aside0.mk hik
        clear hRC hlc hmem htk hBB
        go_upto_region 8 with (first | ((with_reducible refine gate_dst (N := 9) rfl ?_); refine box_event ?hg (N := 9) ?hd (cs := #[.int .u8 0, .int .i64 0, .string (⟨#[]⟩ : ByteArray), .slice none 0 0, .int .i64 0, .int .i64 0]) (t := 25) ?hr ?_; (case hd => rfl); (case hg => rfl); (case hr => first | (go_simp; done) | (go_simp; rfl)); intro gp hg w3 hbox hb; have BP := Aside0.mk hbox; have HB3 := Aside0.mk hb; have GP := Aside0.mk (show wr.heap.size ≤ gp from by rw [hg]; exact Nat.le_refl _); clear hbox hb hg) | (refine xstore_row rfl 25 _ _ rfl gp #[.int .u8 K2, .int .i64 N2, .string S2, .slice A4 l2.length c4, .int .i64 I2, .int .i64 O2] rfl rfl 25 _ BP.out exprInfo rfl (xone6 _ _ _ _ _ _ _ _) ?_; intro w4 hbk hgr hbl; have BP4 := Aside0.mk hbk; have HB4 := Aside0.mk (hbl _ _ HB3.out GP.out); clear hbk hgr hbl))
        clear hx0 hx1 hx2 hx3 hx4 hx5
        have HB4x := Aside0.mk (below_base3 HBB.out (below_step HB.out HB4.out))
        have HB4w := Aside0.mk (below_step HB.out HB4.out)
        have BX4 := Aside0.mk (blk_below BX.out HB4.out)
        have BR4 := Aside0.mk (blk_below BR.out HB4.out)
        have HO4 := Aside0.mk (Kd.R_below HO.out HB4.out)
        have HGR4 := Aside0.mk (blk_lt BR4.out)
        have HSZ := Aside0.mk (show w.heap.size ≤ w4.drew.heap.size from HB4w.out.size)
        have hp0 : w4.drew.cell? ⟨gp, 0, none⟩ = some (.int .u8 K2) := (blk_cell (blk_drew BP4.out) 0).trans rfl; have hp1 : w4.drew.cell? ⟨gp, 1, none⟩ = some (.int .i64 N2) := (blk_cell (blk_drew BP4.out) 1).trans rfl; have hp2 : w4.drew.cell? ⟨gp, 2, none⟩ = some (.string S2) := (blk_cell (blk_drew BP4.out) 2).trans rfl; have hp3 : w4.drew.cell? ⟨gp, 3, none⟩ = some (.slice A4 l2.length c4) := (blk_cell (blk_drew BP4.out) 3).trans rfl; have hp4 : w4.drew.cell? ⟨gp, 4, none⟩ = some (.int .i64 I2) := (blk_cell (blk_drew BP4.out) 4).trans rfl; have hp5 : w4.drew.cell? ⟨gp, 5, none⟩ = some (.int .i64 O2) := (blk_cell (blk_drew BP4.out) 5).trans rfl
        have hv0 : w4.drew.cell? ⟨gx, 0, none⟩ = some (.int .u8 K) := (blk_cell (blk_drew BX4.out) 0).trans rfl; have hv1 : w4.drew.cell? ⟨gx, 1, none⟩ = some (.int .i64 N) := (blk_cell (blk_drew BX4.out) 1).trans rfl; have hv2 : w4.drew.cell? ⟨gx, 2, none⟩ = some (.string S) := (blk_cell (blk_drew BX4.out) 2).trans rfl; have hv3 : w4.drew.cell? ⟨gx, 3, none⟩ = some (.slice A3 i c3) := (blk_cell (blk_drew BX4.out) 3).trans rfl; have hv4 : w4.drew.cell? ⟨gx, 4, none⟩ = some (.int .i64 I) := (blk_cell (blk_drew BX4.out) 4).trans rfl; have hv5 : w4.drew.cell? ⟨gx, 5, none⟩ = some (.int .i64 O) := (blk_cell (blk_drew BX4.out) 5).trans rfl; have hg0 : w4.drew.frozen? ⟨gx, 0, none⟩ = false := blk_frozen (blk_drew BX4.out) 0; have hg1 : w4.drew.frozen? ⟨gx, 1, none⟩ = false := blk_frozen (blk_drew BX4.out) 1; have hg2 : w4.drew.frozen? ⟨gx, 2, none⟩ = false := blk_frozen (blk_drew BX4.out) 2; have hg3 : w4.drew.frozen? ⟨gx, 3, none⟩ = false := blk_frozen (blk_drew BX4.out) 3; have hg4 : w4.drew.frozen? ⟨gx, 4, none⟩ = false := blk_frozen (blk_drew BX4.out) 4; have hg5 : w4.drew.frozen? ⟨gx, 5, none⟩ = false := blk_frozen (blk_drew BX4.out) 5
        go_region_law (first | (go_simp; go_at_call 32; refine (HIH.out K2 N2 S2 A4 c4 l2 I2 O2 _ (below_drew1 (HB4x.out)) HRC.out HY.out).mono ?_; rintro e w5 ⟨A5, c5, rfl, hr5, hb5⟩; have HR5 := Aside0.mk hr5; have HB5 := Aside0.mk hb5; have BX5 := Aside0.mk (blk_below (w := w4.drew) (blk_drew BX4.out) hb5); have hn0 : w5.cell? ⟨gx, 0, none⟩ = some (.int .u8 K) := (blk_cell BX5.out 0).trans rfl; have hn1 : w5.cell? ⟨gx, 1, none⟩ = some (.int .i64 N) := (blk_cell BX5.out 1).trans rfl; have hn2 : w5.cell? ⟨gx, 2, none⟩ = some (.string S) := (blk_cell BX5.out 2).trans rfl; have hn3 : w5.cell? ⟨gx, 3, none⟩ = some (.slice A3 i c3) := (blk_cell BX5.out 3).trans rfl; have hn4 : w5.cell? ⟨gx, 4, none⟩ = some (.int .i64 I) := (blk_cell BX5.out 4).trans rfl; have hn5 : w5.cell? ⟨gx, 5, none⟩ = some (.int .i64 O) := (blk_cell BX5.out 5).trans rfl; have hz0 : w5.frozen? ⟨gx, 0, none⟩ = false := blk_frozen BX5.out 0; have hz1 : w5.frozen? ⟨gx, 1, none⟩ = false := blk_frozen BX5.out 1; have hz2 : w5.frozen? ⟨gx, 2, none⟩ = false := blk_frozen BX5.out 2; have hz3 : w5.frozen? ⟨gx, 3, none⟩ = false := blk_frozen BX5.out 3; have hz4 : w5.frozen? ⟨gx, 4, none⟩ = false := blk_frozen BX5.out 4; have hz5 : w5.frozen? ⟨gx, 5, none⟩ = false := blk_frozen BX5.out 5; have hna : ∀ o, (w5.alloc o).cell? ⟨gx, 3, none⟩ = some (.slice A3 i c3) := fun o => (blk_cell (blk_alloc BX5.out o) 3).trans rfl; clear hr5 hb5) | (refine Kd.R_append_step k25 (w0 := w) w.heap.size (by rfl) (.tmp 37) (.tmp 42) 23 25 (.agg #[.int .u8 0, .int .i64 0, .string (⟨#[]⟩ : ByteArray), .slice none 0 0, .int .i64 0, .int .i64 0]) 72 rfl Try.underlying23 info25 rfl (by decide) (by omega) (.slice A3 i c3) ((l.take i).map f) (f ⟨K2, N2, S2, l2, I2, O2⟩) _ (fun k => gr < k) (fun k => w4.heap.size ≤ k) rfl rfl ?aP ?aK ?aF ?aO ?aB ?aS ?aL ?_; (case aP => exact k25_mkM _ _ _ (f ⟨K2, N2, S2, l2, I2, O2⟩) (Kd.R_lower HR5.out HSZ.out)); (case aK => exact fun k hk => ⟨by have := HGR4.out; omega, fun e => by have := Kd.R_lt HO4.out k e.symm; omega⟩); (case aF => exact fun k hk => by have := HGR4.out; have := HB5.out.size; have : w4.drew.heap.size = w4.heap.size := rfl; omega); (case aO => exact Kd.R_below (w := w4.drew) (Kd.R_drew HO4.out) HB5.out); (case aB => exact below_step (below_drew1 HB4w.out) HB5.out); (case aS => exact (below_step (below_drew1 HB4w.out) HB5.out).size); (case aL => have := HLE.out; have := HII.out; simp only [List.length_map, List.length_take]; omega); intro v6 w6 ho6 hb6 hg6 hat6; obtain ⟨A6, c6, he6⟩ := Kd.R_slice ho6; rw [(show (List.map f (List.take i l) ++ [f ⟨K2, N2, S2, l2, I2, O2⟩]).length = i + 1 from by have := HII.out; simp only [List.length_append, List.length_map, List.length_take, List.length_singleton]; omega)] at he6; subst he6; rw [(show List.map f (List.take i l) ++ [f ⟨K2, N2, S2, l2, I2, O2⟩] = List.map f (List.take (i + 1) l) from by rw [HTK.out, List.map_append]; rfl)] at ho6; have HO6 := Aside0.mk ho6; have HB6 := Aside0.mk hb6; have BX6 := Aside0.mk (blk_grown BX5.out hg6 (fun e => by have h : gr < gx := HO4.out.1 _ e.symm; have := GR.out; omega)); have BR6 := Aside0.mk (blk_grown (blk_below (w := w4.drew) (blk_drew BR4.out) HB5.out) hg6 (fun e => by have h : gr < gr := HO4.out.1 _ e.symm; omega)); have hm0 : w6.cell? ⟨gx, 0, none⟩ = some (.int .u8 K) := (blk_cell BX6.out 0).trans rfl; have hm1 : w6.cell? ⟨gx, 1, none⟩ = some (.int .i64 N) := (blk_cell BX6.out 1).trans rfl; have hm2 : w6.cell? ⟨gx, 2, none⟩ = some (.string S) := (blk_cell BX6.out 2).trans rfl; have hm3 : w6.cell? ⟨gx, 3, none⟩ = some (.slice A3 i c3) := (blk_cell BX6.out 3).trans rfl; have hm4 : w6.cell? ⟨gx, 4, none⟩ = some (.int .i64 I) := (blk_cell BX6.out 4).trans rfl; have hm5 : w6.cell? ⟨gx, 5, none⟩ = some (.int .i64 O) := (blk_cell BX6.out 5).trans rfl; have hy0 : w6.frozen? ⟨gx, 0, none⟩ = false := blk_frozen BX6.out 0; have hy1 : w6.frozen? ⟨gx, 1, none⟩ = false := blk_frozen BX6.out 1; have hy2 : w6.frozen? ⟨gx, 2, none⟩ = false := blk_frozen BX6.out 2; have hy3 : w6.frozen? ⟨gx, 3, none⟩ = false := blk_frozen BX6.out 3; have hy4 : w6.frozen? ⟨gx, 4, none⟩ = false := blk_frozen BX6.out 4; have hy5 : w6.frozen? ⟨gx, 5, none⟩ = false := blk_frozen BX6.out 5; clear ho6 hb6 hg6 hat6))
        all_goals (try go_wp2)
        all_goals go_roundg q
        all_goals first | (case measure => omega) | skip
        all_goals exact ⟨i + 1, A6, c6, by omega, (by have h1 := HLE.out; have h2 := HII.out; first | rfl | (rw [xw64 (by omega) (by omega)]; simp) | simp), ⟨blk_set BX6.out 3 _⟩, ⟨Kd.R_far HO6.out (fun k hk => by have hk : gr < k := hk; have := GR.out; simp only; omega) _⟩, ⟨blk_far BR6.out (by have := GR.out; simp only; omega) _⟩, ⟨below_set HB6.out GX.out⟩⟩
set_option maxHeartbeats 8000000 in
set_option maxRecDepth 100000 in
theorem put_here (w0 : World) (s : ByteArray) (m gy : Nat) (K1 N1 : Int) (S1 : ByteArray) (A1 : Option Addr) (C1 : Nat) (l1 : List S25) (I1 O1 : Int) (hY : w0.heap[gy]? = some (.cells #[.int .u8 K1, .int .i64 N1, .string S1, .slice A1 l1.length C1, .int .i64 I1, .int .i64 O1] 25 (0, 0))) (hR1 : Kd.C k25 w0 A1 l1.length l1) (hd1 : fewB m ⟨K1, N1, S1, l1, I1, O1⟩ = true) (N : Int) (A : Option Addr) (C : Nat) (l : List S25) (I O : Int) (w : World) (hBB : Below w0.heap.size w0 w) :
    Calls Try.prog 32 #[.agg #[.int .u8 2, .int .i64 N, .string s, .slice A l.length C, .int .i64 I, .int .i64 O], .string s, .pointer (some ⟨gy, 0, none⟩)] w fun e w' => ∃ (A' : Option Addr) (c' : Nat), e = .returned (.agg #[.int .u8 K1, .int .i64 N1, .string S1, .slice A' l1.length c', .int .i64 I1, .int .i64 O1]) ∧ k25.R 25 w' w.heap.size (fun k => w.heap.size ≤ k) (.slice A' l1.length c') l1 ∧ Below w.heap.size w w' := by
  have HBB := Aside0.mk hBB
  have HY := Aside0.mk hY
  have HR1 := Aside0.mk hR1
  have HD1 := Aside0.mk hd1
  clear hBB hY hR1 hd1
  go_enter Try.func32, Try.ntmps32
  go_wp2_with (first | ((with_reducible refine gate_dst (N := 3) rfl ?_); refine box_event ?hg (N := 3) ?hd (cs := #[.int .u8 2, .int .i64 N, .string s, .slice A l.length C, .int .i64 I, .int .i64 O]) (t := 25) ?hr ?_; (case hd => rfl); (case hg => rfl); (case hr => first | (go_simp; done) | (go_simp; rfl)); intro gx hg w1 hbox hb; have BX := Aside0.mk hbox; have HB1 := Aside0.mk hb; have GX := Aside0.mk (show w.heap.size ≤ gx from by rw [hg]; exact Nat.le_refl _); clear hbox hb hg) | ((with_reducible refine gate_dst (N := 6) rfl ?_); refine box_event ?hg (N := 6) ?hd (cs := #[.int .u8 0, .int .i64 0, .string (⟨#[]⟩ : ByteArray), .slice none 0 0, .int .i64 0, .int .i64 0]) (t := 25) ?hr ?_; (case hd => rfl); (case hg => rfl); (case hr => first | (go_simp; done) | (go_simp; rfl)); intro gr hg w2 hbox hb; have BR := Aside0.mk hbox; have HB2 := Aside0.mk (below_step HB1.out hb); have BX2 := Aside0.mk (blk_below BX.out hb); have GR := Aside0.mk (show w.heap.size ≤ gr from by rw [hg]; exact HB1.out.size); have hw0 : w2.cell? ⟨gx, 0, none⟩ = some (.int .u8 2) := (blk_cell BX2.out 0).trans rfl; have hw1 : w2.cell? ⟨gx, 1, none⟩ = some (.int .i64 N) := (blk_cell BX2.out 1).trans rfl; have hw2 : w2.cell? ⟨gx, 2, none⟩ = some (.string s) := (blk_cell BX2.out 2).trans rfl; have hw3 : w2.cell? ⟨gx, 3, none⟩ = some (.slice A l.length C) := (blk_cell BX2.out 3).trans rfl; have hw4 : w2.cell? ⟨gx, 4, none⟩ = some (.int .i64 I) := (blk_cell BX2.out 4).trans rfl; have hw5 : w2.cell? ⟨gx, 5, none⟩ = some (.int .i64 O) := (blk_cell BX2.out 5).trans rfl; have BY := Aside0.mk (blk_below HY.out (below_base3 HBB.out HB2.out)); have hy0 : w2.cell? ⟨gy, 0, none⟩ = some (.int .u8 K1) := (blk_cell BY.out 0).trans rfl; have hy1 : w2.cell? ⟨gy, 1, none⟩ = some (.int .i64 N1) := (blk_cell BY.out 1).trans rfl; have hy2 : w2.cell? ⟨gy, 2, none⟩ = some (.string S1) := (blk_cell BY.out 2).trans rfl; have hy3 : w2.cell? ⟨gy, 3, none⟩ = some (.slice A1 l1.length C1) := (blk_cell BY.out 3).trans rfl; have hy4 : w2.cell? ⟨gy, 4, none⟩ = some (.int .i64 I1) := (blk_cell BY.out 4).trans rfl; have hy5 : w2.cell? ⟨gy, 5, none⟩ = some (.int .i64 O1) := (blk_cell BY.out 5).trans rfl; clear hbox hb hg) | (go_at_call 32; refine (put_copies w0 _ m K1 N1 S1 A1 C1 l1 I1 O1 _ (below_base3 HBB.out HB2.out) HR1.out HD1.out).mono ?_; rintro e w3 ⟨A5, c5, rfl, hr3, hb3⟩; have HR3 := Aside0.mk hr3; have HB3 := Aside0.mk (below_step HB2.out hb3); have BR3 := Aside0.mk (blk_below BR.out hb3); have GR3 := Aside0.mk (show w.heap.size ≤ w2.heap.size ∧ gr < w2.heap.size from ⟨HB2.out.size, blk_lt BR.out⟩); clear hr3 hb3) | (refine xstore_row rfl 25 _ _ rfl gr #[.int .u8 K1, .int .i64 N1, .string S1, .slice A5 l1.length c5, .int .i64 I1, .int .i64 O1] rfl rfl 25 _ BR3.out exprInfo rfl (xone6 _ _ _ _ _ _ _ _) ?_; intro w4 hbk hgr hbl; have BR4 := Aside0.mk hbk; have HB4 := Aside0.mk (hbl _ _ HB3.out GR.out); have HK4 := Aside0.mk hgr; clear hbk hgr hbl))
  refine bodyPost_ret (results_cell_row rfl _ _ gr 25 #[.int .u8 K1, .int .i64 N1, .string S1, .slice A5 l1.length c5, .int .i64 I1, .int .i64 O1] (0, 0) _ rfl BR4.out Try.underlying25 rfl exprInfo) rfl ?_
  exact ⟨A5, c5, rfl, Kd.R_mono (Kd.R_lower (Kd.R_grown HR3.out HK4.out (fun k hk e => by have := GR3.out; have hk : w2.heap.size ≤ k := hk; injection e with e; omega)) GR3.out.1) (fun k hk => by have := GR3.out; have hk : w2.heap.size ≤ k := hk; omega), HB4.out⟩
/-- An expression with another one in the place of a name. -/
theorem put_puts (w0 : World) (s : ByteArray) (m gy : Nat) (y : S25) (A1 : Option Addr) (C1 : Nat) (hY : w0.heap[gy]? = some (.cells #[.int .u8 y.f0, .int .i64 y.f1, .string y.f2, .slice A1 y.f3.length C1, .int .i64 y.f4, .int .i64 y.f5] 25 (0, 0))) (hR1 : Kd.C k25 w0 A1 y.f3.length y.f3) (hd1 : fewB m y = true) : ∀ n, PutIs w0 s (.pointer (some ⟨gy, 0, none⟩)) n (xput s y n)
  | 0 => fun K N S A C l I O w _ _ h => absurd h (by simp [fewB])
  | n + 1 => fun K N S A C l I O w hB hR hd => by
    simp only [xput]
    by_cases c : K = 2 ∧ S = s
    · obtain ⟨rfl, rfl⟩ := c
      rw [if_pos ⟨rfl, rfl⟩]
      obtain ⟨K1, N1, S1, l1, I1, O1⟩ := y
      exact put_here w0 S m gy K1 N1 S1 A1 C1 l1 I1 O1 hY hR1 hd1 N A C l I O w hB
    · rw [if_neg c]
      exact put_other w0 s n (xput s y n) gy (put_puts w0 s m gy y A1 C1 hY hR1 hd1 n) K N S A C l I O w hB hR hd (fun h1 h2 => c ⟨h1, h2⟩)

end Go.Proofs.Ytnojokempdcikaa.PA

namespace Go.Proofs.Ytnojokempdcikaa.PA
open Go.RowKit Go.Proofs.YtnojokempdcikaaW.PrintWords Go.Proofs.YtnojokempdcikaaW.PrintLast Go.Proofs.YtnojokempdcikaaW.PrintMore
attribute [local go_sem] max2_int min2_int max_two min_two max_three min_three max_four min_four   -- for this text's walks alone
set_option linter.unusedVariables false
set_option linter.unusedSimpArgs false

/-! ### number_Put: function 12 -/
--OWNPART Derived.Deep.RegionWith Derived.Maps.Range
open Go.RowKit Go.Maps
set_option maxRecDepth 100000 in
theorem env_lookup {w : World} {b n : Nat} {F : ByteArray → Option Int} (henv : envIs w b n F) (s : ByteArray) (hs : s.size ≤ 9223372036854775807) : (Instr.lookup 57 (.map (some b)) (.string s) false).run Try.prog w = .ok (.int .i64 ((F s).getD 0)) w := by
  obtain ⟨D, hown, hF⟩ := henv
  obtain ⟨c, hrun, hat, _⟩ := hown.lookup_int (q := .i64) (string_keyed Try.underlying9) Try.underlying57 Try.underlying3 (zeroInt _) (Go.WideMaps.keyOf_string_mk Try.underlying9 hs)
  rw [hrun]
  cases hFs : F s with
  | none =>
    have h1 := (hF s).1
    rw [hFs] at h1
    rw [atKey_of_not_has h1] at hat
    injection hat with e; injection e with e1 e2
    subst e2; rfl
  | some v =>
    have h1 := (hF s).2 v hFs
    rw [h1] at hat
    injection hat with e; injection e with e1 e2
    subst e2; rfl
/-- How many expressions stand in one. -/
def xsize : Nat → S25 → Int
  | 0, _ => 0
  | n + 1, x => x.f3.foldl (fun a p => wrap64 (a + xsize n p)) 1
theorem size_ok : ∀ (n : Nat) (x : S25) (k : Nat), 4 * n ≤ k → fewB n x = true → number_size.f k x.f0 x.f1 x.f2 x.f3 x.f4 x.f5 = some (xsize n x)
  | 0, _, _, _, h => absurd h (by simp [fewB])
  | n + 1, ⟨K, N, S, l, I, O⟩, k, hk, h => by
    obtain ⟨k, rfl⟩ : ∃ k', k = k' + 4 := ⟨k - 4, by omega⟩
    simp only [fewB, Bool.and_eq_true, decide_eq_true_iff, List.all_eq_true] at h
    obtain ⟨hl, ha⟩ := h
    match l, hl, ha with
    | [], _, _ =>
      show number_size.l0 (k + 3) 1 [] 0 0 = some 1
      rw [number_size.l0]
      simp
    | [p], _, ha =>
      have h0 := size_ok n p (k + 2) (by omega) (ha p (by simp))
      show number_size.l0 (k + 3) 1 [p] 1 0 = some (wrap64 (1 + xsize n p))
      rw [number_size.l0]
      simp only [rd_T25, Int.toNat_zero, List.getD_cons_zero, h0, Option.bind_some]
      rw [if_pos (by omega), if_pos (by omega), if_pos (by simp), show wrap64 (0 + 1) = 1 from (xw64 (by omega) (by omega)).trans (by omega), number_size.l0]
      simp
    | [p, q], _, ha =>
      have h0 := size_ok n p (k + 2) (by omega) (ha p (by simp))
      have h1 := size_ok n q (k + 1) (by omega) (ha q (by simp))
      show number_size.l0 (k + 3) 1 [p, q] 2 0 = some (wrap64 (wrap64 (1 + xsize n p) + xsize n q))
      rw [number_size.l0]
      simp only [rd_T25, Int.toNat_zero, List.getD_cons_zero, h0, Option.bind_some]
      rw [if_pos (by omega), if_pos (by omega), if_pos (by simp), show wrap64 (0 + 1) = 1 from (xw64 (by omega) (by omega)).trans (by omega), number_size.l0]
      simp only [rd_T25, show (1 : Int).toNat = 1 from rfl, List.getD_cons_succ, List.getD_cons_zero, h1, Option.bind_some]
      rw [if_pos (by omega), if_pos (by omega), if_pos (by simp), show wrap64 (1 + 1) = 2 from (xw64 (by omega) (by omega)).trans (by omega), number_size.l0]
      simp
    | _ :: _ :: _ :: _, hl, _ => simp at hl
theorem few_parts (f : S25 → Int → Int × Int) : ∀ (l : List S25) (d left : Int), (xexprs f l d left).1 ≠ 0 → ∀ p ∈ l, ∃ lf, (f p lf).1 ≠ 0
  | [], _, _, _, _, hp => absurd hp (by simp)
  | q :: l, d, left, h, p, hp => by
    simp only [xexprs] at h
    split at h
    · exact absurd rfl h
    · rename_i hne
      rcases List.mem_cons.1 hp with rfl | hp
      · exact ⟨left, hne⟩
      · exact few_parts f l _ _ h p hp
theorem few_one : ∀ (n : Nat) (x : S25) (left : Int), (xexpr n x left).1 ≠ 0 → fewB n x = true
  | 0, _, _, h => absurd rfl h
  | n + 1, x, left, h => by
    simp only [xexpr] at h
    split at h
    · exact absurd rfl h
    · cases hp : exprParts x with
      | none => rw [hp] at h; exact absurd rfl h
      | some p =>
        rw [hp] at h
        dsimp only at h
        split at h
        · rename_i hl
          simp only [fewB, Bool.and_eq_true, decide_eq_true_iff, List.all_eq_true]
          refine ⟨by have := exprParts_le _ _ hp; omega, fun y hy => ?_⟩
          obtain ⟨lf, h1⟩ := few_parts (xexpr n) _ _ _ h y hy
          exact few_one n y lf h1
        · exact absurd rfl h
theorem deep_one : ∀ (n : Nat) (x : S25), fewB n x = true → smallB n x = true → deepB n x = true
  | 0, _, h, _ => absurd h (by simp [fewB])
  | n + 1, x, h, hs => by
    simp only [fewB, smallB, deepB, Bool.and_eq_true, decide_eq_true_iff, List.all_eq_true] at h hs ⊢
    exact ⟨hs.1, by have := h.1; omega, fun y hy => deep_one n y (h.2 y hy) (hs.2 y hy)⟩
theorem count_le : ∀ (n : Nat) (x : S25), fewB n x = true → xcount n x + 1 ≤ 2 ^ n
  | 0, _, h => absurd h (by simp [fewB])
  | n + 1, ⟨K, N, S, l, I, O⟩, h => by
    simp only [fewB, Bool.and_eq_true, decide_eq_true_iff, List.all_eq_true] at h
    obtain ⟨hl, ha⟩ := h
    have h2 : 2 ^ (n + 1) = 2 ^ n + 2 ^ n := by rw [Nat.pow_succ]; omega
    have h3 : 0 < 2 ^ n := Nat.two_pow_pos n
    simp only [xcount]
    have h4 : (if K = 2 then 1 else 0) ≤ 1 := by split <;> omega
    match l, hl, ha with
    | [], _, _ => simp only [xcounts]; omega
    | [p], _, ha =>
      have h0 := count_le n p (ha p (by simp))
      simp only [xcounts]; omega
    | [p, q], _, ha =>
      have h0 := count_le n p (ha p (by simp))
      have h1 := count_le n q (ha q (by simp))
      simp only [xcounts]; omega
    | _ :: _ :: _ :: _, hl, _ => simp at hl
/-- What may be is small and has few parts. -/
theorem may_few : ∀ (x : S25) (h : tree_MayExpr.f x.f0 x.f1 x.f2 x.f3 x.f4 x.f5 = some true), fewB 16 x = true ∧ smallB 16 x = true := by
  rintro ⟨K, N, S, l, I, O⟩ h
  dsimp only at h
  unfold tree_MayExpr.f at h
  split at h
  · rename_i hs
    have h := Option.some.inj h
    have h := of_decide_eq_true h
    exact ⟨few_one 16 _ 8192 (by omega), hs⟩
  · exact absurd h (by simp)
/-- What Put tells. -/
def number_Put.f (a0_0 a0_1 : Int) (a0_2 : ByteArray) (l0_3 : List S25) (a0_4 a0_5 : Int) (a1 : ByteArray) (a2_0 a2_1 : Int) (a2_2 : ByteArray) (l2_3 : List S25) (a2_4 a2_5 : Int) : Option (Int × Int × ByteArray × List S25 × Int × Int × Int) :=
  (tree_MayExpr.f a0_0 a0_1 a0_2 l0_3 a0_4 a0_5).bind fun m => if m = true then (tree_MayExpr.f a2_0 a2_1 a2_2 l2_3 a2_4 a2_5).bind fun m2 => if m2 = true then (if a1.size ≤ 9223372036854775807 then (if nameOk a1 = true then (if wrap64 (xsize 16 ⟨a0_0, a0_1, a0_2, l0_3, a0_4, a0_5⟩ + wrap64 ((xgather 16 ⟨a0_0, a0_1, a0_2, l0_3, a0_4, a0_5⟩ (fun _ => none) a1).getD 0 * wrap64 (xsize 16 ⟨a2_0, a2_1, a2_2, l2_3, a2_4, a2_5⟩ - 1))) > 8192 then some (0, 0, ⟨#[]⟩, [], 0, 0, 4) else
    (tree_MayExpr.f (xput a1 ⟨a2_0, a2_1, a2_2, l2_3, a2_4, a2_5⟩ 16 ⟨a0_0, a0_1, a0_2, l0_3, a0_4, a0_5⟩).f0 (xput a1 ⟨a2_0, a2_1, a2_2, l2_3, a2_4, a2_5⟩ 16 ⟨a0_0, a0_1, a0_2, l0_3, a0_4, a0_5⟩).f1 (xput a1 ⟨a2_0, a2_1, a2_2, l2_3, a2_4, a2_5⟩ 16 ⟨a0_0, a0_1, a0_2, l0_3, a0_4, a0_5⟩).f2 (xput a1 ⟨a2_0, a2_1, a2_2, l2_3, a2_4, a2_5⟩ 16 ⟨a0_0, a0_1, a0_2, l0_3, a0_4, a0_5⟩).f3 (xput a1 ⟨a2_0, a2_1, a2_2, l2_3, a2_4, a2_5⟩ 16 ⟨a0_0, a0_1, a0_2, l0_3, a0_4, a0_5⟩).f4 (xput a1 ⟨a2_0, a2_1, a2_2, l2_3, a2_4, a2_5⟩ 16 ⟨a0_0, a0_1, a0_2, l0_3, a0_4, a0_5⟩).f5).bind fun m3 => if m3 = true then some ((xput a1 ⟨a2_0, a2_1, a2_2, l2_3, a2_4, a2_5⟩ 16 ⟨a0_0, a0_1, a0_2, l0_3, a0_4, a0_5⟩).f0, (xput a1 ⟨a2_0, a2_1, a2_2, l2_3, a2_4, a2_5⟩ 16 ⟨a0_0, a0_1, a0_2, l0_3, a0_4, a0_5⟩).f1, (xput a1 ⟨a2_0, a2_1, a2_2, l2_3, a2_4, a2_5⟩ 16 ⟨a0_0, a0_1, a0_2, l0_3, a0_4, a0_5⟩).f2, (xput a1 ⟨a2_0, a2_1, a2_2, l2_3, a2_4, a2_5⟩ 16 ⟨a0_0, a0_1, a0_2, l0_3, a0_4, a0_5⟩).f3, (xput a1 ⟨a2_0, a2_1, a2_2, l2_3, a2_4, a2_5⟩ 16 ⟨a0_0, a0_1, a0_2, l0_3, a0_4, a0_5⟩).f4, (xput a1 ⟨a2_0, a2_1, a2_2, l2_3, a2_4, a2_5⟩ 16 ⟨a0_0, a0_1, a0_2, l0_3, a0_4, a0_5⟩).f5, 0) else some (0, 0, ⟨#[]⟩, [], 0, 0, 4)) else some (0, 0, ⟨#[]⟩, [], 0, 0, 2)) else none) else some (0, 0, ⟨#[]⟩, [], 0, 0, 2) else some (0, 0, ⟨#[]⟩, [], 0, 0, 2)
set_option maxHeartbeats 2000000 in
set_option maxRecDepth 100000 in
theorem number_Put.calls (a0_0 a0_1 : Int) (a0_2 : ByteArray) (A0_3 : Option Addr) (c0_3 : Nat) (l0_3 : List S25) (a0_4 a0_5 : Int) (a1 : ByteArray) (a2_0 a2_1 : Int) (a2_2 : ByteArray) (A2_3 : Option Addr) (c2_3 : Nat) (l2_3 : List S25) (a2_4 a2_5 : Int) (r1 r2 : Int) (r3 : ByteArray) (r4 : List S25) (r5 r6 r7 : Int) (w : World) (hr0 : Kd.C k25 w A0_3 l0_3.length l0_3) (hc0 : l0_3.length ≤ c0_3) (hr2 : Kd.C k25 w A2_3 l2_3.length l2_3) (hc2 : l2_3.length ≤ c2_3) (h : number_Put.f a0_0 a0_1 a0_2 l0_3 a0_4 a0_5 a1 a2_0 a2_1 a2_2 l2_3 a2_4 a2_5 = some (r1, r2, r3, r4, r5, r6, r7)) :
    Calls Try.prog 12 #[.agg #[.int .u8 a0_0, .int .i64 a0_1, .string a0_2, .slice A0_3 l0_3.length c0_3, .int .i64 a0_4, .int .i64 a0_5], .string a1, .agg #[.int .u8 a2_0, .int .i64 a2_1, .string a2_2, .slice A2_3 l2_3.length c2_3, .int .i64 a2_4, .int .i64 a2_5]] w fun e w' => ∃ v3_ : Value, e = .returned (.tuple #[.agg #[.int .u8 r1, .int .i64 r2, .string r3, v3_, .int .i64 r5, .int .i64 r6], .int .i64 r7]) ∧ Kd.R k25 25 w' w.heap.size (fun _ => True) v3_ r4 ∧ Below w.heap.size w w' := by
  unfold number_Put.f at h
  obtain ⟨m, hx, h⟩ := Option.bind_eq_some_iff.1 h
  have HX := Aside0.mk hx
  have HR0 := Aside0.mk hr0
  have HC0 := Aside0.mk hc0
  have HR2 := Aside0.mk hr2
  have HC2 := Aside0.mk hc2
  have tok1 : True := trivial
  clear hr0 hc0 hr2 hc2
  cases m with
  | false =>
    rw [if_neg (by simp)] at h
    have HE := Aside0.mk (Option.some.inj h)
    clear h hx
    go_enter Try.func12, Try.ntmps12
    go_wp2_with (first | ((with_reducible refine gate_dst (N := 3) rfl ?_); refine box_event ?hg (N := 3) ?hd (cs := #[.int .u8 a0_0, .int .i64 a0_1, .string a0_2, .slice A0_3 l0_3.length c0_3, .int .i64 a0_4, .int .i64 a0_5]) (t := 25) ?hr ?_; (case hd => rfl); (case hg => rfl); (case hr => first | (go_simp; done) | (go_simp; rfl)); intro gx hg w1 hbox hb; have BX1 := Aside0.mk hbox; have HB1 := Aside0.mk hb; have GX := Aside0.mk (show w.heap.size ≤ gx from by rw [hg]; exact Nat.le_refl _); clear hbox hb hg) | ((with_reducible refine gate_dst (N := 5) rfl ?_); refine box_event ?hg (N := 5) ?hd (cs := #[.int .u8 a2_0, .int .i64 a2_1, .string a2_2, .slice A2_3 l2_3.length c2_3, .int .i64 a2_4, .int .i64 a2_5]) (t := 25) ?hr ?_; (case hd => rfl); (case hg => rfl); (case hr => first | (go_simp; done) | (go_simp; rfl)); intro gy hg w2 hbox hb; have BY2 := Aside0.mk hbox; have HB2 := Aside0.mk (below_step HB1.out hb); have BX2 := Aside0.mk (blk_below BX1.out hb); clear hbox hb hg) | ((with_reducible refine gate_dst (N := 6) rfl ?_); refine box_event ?hg (N := 6) ?hd (cs := #[.int .u8 0, .int .i64 0, .string (⟨#[]⟩ : ByteArray), .slice none 0 0, .int .i64 0, .int .i64 0]) (t := 25) ?hr ?_; (case hd => rfl); (case hg => rfl); (case hr => first | (go_simp; done) | (go_simp; rfl)); intro gr hg w3 hbox hb; have BR3 := Aside0.mk hbox; have HB3 := Aside0.mk (below_step HB2.out hb); have BX3 := Aside0.mk (blk_below BX2.out hb); have BY3 := Aside0.mk (blk_below BY2.out hb); have GR := Aside0.mk (show w.heap.size ≤ gr from by rw [hg]; exact HB2.out.size); have hw0 : w3.cell? ⟨gx, 0, none⟩ = some (.int .u8 a0_0) := (blk_cell BX3.out 0).trans rfl; have hw1 : w3.cell? ⟨gx, 1, none⟩ = some (.int .i64 a0_1) := (blk_cell BX3.out 1).trans rfl; have hw2 : w3.cell? ⟨gx, 2, none⟩ = some (.string a0_2) := (blk_cell BX3.out 2).trans rfl; have hw3 : w3.cell? ⟨gx, 3, none⟩ = some (.slice A0_3 l0_3.length c0_3) := (blk_cell BX3.out 3).trans rfl; have hw4 : w3.cell? ⟨gx, 4, none⟩ = some (.int .i64 a0_4) := (blk_cell BX3.out 4).trans rfl; have hw5 : w3.cell? ⟨gx, 5, none⟩ = some (.int .i64 a0_5) := (blk_cell BX3.out 5).trans rfl; clear hbox hb hg) | (have _t := tok1; go_at_call 23; refine (tree_MayExpr.calls a0_0 a0_1 a0_2 A0_3 c0_3 l0_3 a0_4 a0_5 false _ (Kd.C_below HR0.out HB3.out) HC0.out HX.out).mono ?_; rintro e w4 ⟨rfl, hb⟩; have HB4 := Aside0.mk (below_step HB3.out hb); have BX4 := Aside0.mk (blk_below BX3.out hb); have BY4 := Aside0.mk (blk_below BY3.out hb); have BR4 := Aside0.mk (blk_below BR3.out hb); have hk0 : w4.cell? ⟨gy, 0, none⟩ = some (.int .u8 a2_0) := (blk_cell BY4.out 0).trans rfl; have hk1 : w4.cell? ⟨gy, 1, none⟩ = some (.int .i64 a2_1) := (blk_cell BY4.out 1).trans rfl; have hk2 : w4.cell? ⟨gy, 2, none⟩ = some (.string a2_2) := (blk_cell BY4.out 2).trans rfl; have hk3 : w4.cell? ⟨gy, 3, none⟩ = some (.slice A2_3 l2_3.length c2_3) := (blk_cell BY4.out 3).trans rfl; have hk4 : w4.cell? ⟨gy, 4, none⟩ = some (.int .i64 a2_4) := (blk_cell BY4.out 4).trans rfl; have hk5 : w4.cell? ⟨gy, 5, none⟩ = some (.int .i64 a2_5) := (blk_cell BY4.out 5).trans rfl; have tok2 : True := trivial; clear hb tok1) | (refine xstore_row rfl 25 _ _ rfl gr #[.int .u8 0, .int .i64 0, .string (⟨#[]⟩ : ByteArray), .slice none 0 0, .int .i64 0, .int .i64 0] rfl rfl 25 _ BR4.out exprInfo rfl (xone6 _ _ _ _ _ _ _ _) ?_; intro wz hbk hgr hbl; have BRZ := Aside0.mk hbk; have HBZ := Aside0.mk (hbl _ _ HB4.out GR.out); clear hbk hgr hbl))
    have hE := HE.out
    simp only [Prod.mk.injEq] at hE
    obtain ⟨rfl, rfl, rfl, rfl, rfl, rfl, rfl⟩ := hE
    refine bodyPost_ret (results_ct rfl _ _ gr 25 #[.int .u8 0, .int .i64 0, .string (⟨#[]⟩ : ByteArray), .slice none 0 0, .int .i64 0, .int .i64 0] (0, 0) _ rfl BRZ.out Try.underlying25 rfl exprInfo) rfl ?_
    exact ⟨.slice none 0 0, rfl, Kd.R_nil _ _ _ _ _, HBZ.out⟩
  | true =>
    rw [if_pos rfl] at h
    obtain ⟨m2, hy, h⟩ := Option.bind_eq_some_iff.1 h
    have HY := Aside0.mk hy
    cases m2 with
    | false =>
      rw [if_neg (by simp)] at h
      have HE := Aside0.mk (Option.some.inj h)
      clear h hx hy
      go_enter Try.func12, Try.ntmps12
      go_wp2_with (first | ((with_reducible refine gate_dst (N := 3) rfl ?_); refine box_event ?hg (N := 3) ?hd (cs := #[.int .u8 a0_0, .int .i64 a0_1, .string a0_2, .slice A0_3 l0_3.length c0_3, .int .i64 a0_4, .int .i64 a0_5]) (t := 25) ?hr ?_; (case hd => rfl); (case hg => rfl); (case hr => first | (go_simp; done) | (go_simp; rfl)); intro gx hg w1 hbox hb; have BX1 := Aside0.mk hbox; have HB1 := Aside0.mk hb; have GX := Aside0.mk (show w.heap.size ≤ gx from by rw [hg]; exact Nat.le_refl _); clear hbox hb hg) | ((with_reducible refine gate_dst (N := 5) rfl ?_); refine box_event ?hg (N := 5) ?hd (cs := #[.int .u8 a2_0, .int .i64 a2_1, .string a2_2, .slice A2_3 l2_3.length c2_3, .int .i64 a2_4, .int .i64 a2_5]) (t := 25) ?hr ?_; (case hd => rfl); (case hg => rfl); (case hr => first | (go_simp; done) | (go_simp; rfl)); intro gy hg w2 hbox hb; have BY2 := Aside0.mk hbox; have HB2 := Aside0.mk (below_step HB1.out hb); have BX2 := Aside0.mk (blk_below BX1.out hb); clear hbox hb hg) | ((with_reducible refine gate_dst (N := 6) rfl ?_); refine box_event ?hg (N := 6) ?hd (cs := #[.int .u8 0, .int .i64 0, .string (⟨#[]⟩ : ByteArray), .slice none 0 0, .int .i64 0, .int .i64 0]) (t := 25) ?hr ?_; (case hd => rfl); (case hg => rfl); (case hr => first | (go_simp; done) | (go_simp; rfl)); intro gr hg w3 hbox hb; have BR3 := Aside0.mk hbox; have HB3 := Aside0.mk (below_step HB2.out hb); have BX3 := Aside0.mk (blk_below BX2.out hb); have BY3 := Aside0.mk (blk_below BY2.out hb); have GR := Aside0.mk (show w.heap.size ≤ gr from by rw [hg]; exact HB2.out.size); have hw0 : w3.cell? ⟨gx, 0, none⟩ = some (.int .u8 a0_0) := (blk_cell BX3.out 0).trans rfl; have hw1 : w3.cell? ⟨gx, 1, none⟩ = some (.int .i64 a0_1) := (blk_cell BX3.out 1).trans rfl; have hw2 : w3.cell? ⟨gx, 2, none⟩ = some (.string a0_2) := (blk_cell BX3.out 2).trans rfl; have hw3 : w3.cell? ⟨gx, 3, none⟩ = some (.slice A0_3 l0_3.length c0_3) := (blk_cell BX3.out 3).trans rfl; have hw4 : w3.cell? ⟨gx, 4, none⟩ = some (.int .i64 a0_4) := (blk_cell BX3.out 4).trans rfl; have hw5 : w3.cell? ⟨gx, 5, none⟩ = some (.int .i64 a0_5) := (blk_cell BX3.out 5).trans rfl; clear hbox hb hg) | (have _t := tok1; go_at_call 23; refine (tree_MayExpr.calls a0_0 a0_1 a0_2 A0_3 c0_3 l0_3 a0_4 a0_5 true _ (Kd.C_below HR0.out HB3.out) HC0.out HX.out).mono ?_; rintro e w4 ⟨rfl, hb⟩; have HB4 := Aside0.mk (below_step HB3.out hb); have BX4 := Aside0.mk (blk_below BX3.out hb); have BY4 := Aside0.mk (blk_below BY3.out hb); have BR4 := Aside0.mk (blk_below BR3.out hb); have hk0 : w4.cell? ⟨gy, 0, none⟩ = some (.int .u8 a2_0) := (blk_cell BY4.out 0).trans rfl; have hk1 : w4.cell? ⟨gy, 1, none⟩ = some (.int .i64 a2_1) := (blk_cell BY4.out 1).trans rfl; have hk2 : w4.cell? ⟨gy, 2, none⟩ = some (.string a2_2) := (blk_cell BY4.out 2).trans rfl; have hk3 : w4.cell? ⟨gy, 3, none⟩ = some (.slice A2_3 l2_3.length c2_3) := (blk_cell BY4.out 3).trans rfl; have hk4 : w4.cell? ⟨gy, 4, none⟩ = some (.int .i64 a2_4) := (blk_cell BY4.out 4).trans rfl; have hk5 : w4.cell? ⟨gy, 5, none⟩ = some (.int .i64 a2_5) := (blk_cell BY4.out 5).trans rfl; have tok2 : True := trivial; clear hb tok1) | (have _t := tok2; go_at_call 23; refine (tree_MayExpr.calls a2_0 a2_1 a2_2 A2_3 c2_3 l2_3 a2_4 a2_5 false _ (Kd.C_below HR2.out HB4.out) HC2.out HY.out).mono ?_; rintro e w5 ⟨rfl, hb⟩; have HB5 := Aside0.mk (below_step HB4.out hb); have BX5 := Aside0.mk (blk_below BX4.out hb); have BY5 := Aside0.mk (blk_below BY4.out hb); have BR5 := Aside0.mk (blk_below BR4.out hb); clear hb tok2) | (refine xstore_row rfl 25 _ _ rfl gr #[.int .u8 0, .int .i64 0, .string (⟨#[]⟩ : ByteArray), .slice none 0 0, .int .i64 0, .int .i64 0] rfl rfl 25 _ BR5.out exprInfo rfl (xone6 _ _ _ _ _ _ _ _) ?_; intro wz hbk hgr hbl; have BRZ := Aside0.mk hbk; have HBZ := Aside0.mk (hbl _ _ HB5.out GR.out); clear hbk hgr hbl))
      have hE := HE.out
      simp only [Prod.mk.injEq] at hE
      obtain ⟨rfl, rfl, rfl, rfl, rfl, rfl, rfl⟩ := hE
      refine bodyPost_ret (results_ct rfl _ _ gr 25 #[.int .u8 0, .int .i64 0, .string (⟨#[]⟩ : ByteArray), .slice none 0 0, .int .i64 0, .int .i64 0] (0, 0) _ rfl BRZ.out Try.underlying25 rfl exprInfo) rfl ?_
      exact ⟨.slice none 0 0, rfl, Kd.R_nil _ _ _ _ _, HBZ.out⟩
    | true =>
      rw [if_pos rfl] at h
      by_cases hz : a1.size ≤ 9223372036854775807
      · rw [if_pos hz] at h
        have HZ := Aside0.mk hz
        have hnm := nnamed_ok a1 hz
        clear hz
        cases hn : nameOk a1 with
        | false =>
          rw [hn] at hnm
          have HNM := Aside0.mk hnm
          rw [hn, if_neg (by simp)] at h
          have HE := Aside0.mk (Option.some.inj h)
          clear h hx hy hnm hn
          go_enter Try.func12, Try.ntmps12
          go_wp2_with (first | ((with_reducible refine gate_dst (N := 3) rfl ?_); refine box_event ?hg (N := 3) ?hd (cs := #[.int .u8 a0_0, .int .i64 a0_1, .string a0_2, .slice A0_3 l0_3.length c0_3, .int .i64 a0_4, .int .i64 a0_5]) (t := 25) ?hr ?_; (case hd => rfl); (case hg => rfl); (case hr => first | (go_simp; done) | (go_simp; rfl)); intro gx hg w1 hbox hb; have BX1 := Aside0.mk hbox; have HB1 := Aside0.mk hb; have GX := Aside0.mk (show w.heap.size ≤ gx from by rw [hg]; exact Nat.le_refl _); clear hbox hb hg) | ((with_reducible refine gate_dst (N := 5) rfl ?_); refine box_event ?hg (N := 5) ?hd (cs := #[.int .u8 a2_0, .int .i64 a2_1, .string a2_2, .slice A2_3 l2_3.length c2_3, .int .i64 a2_4, .int .i64 a2_5]) (t := 25) ?hr ?_; (case hd => rfl); (case hg => rfl); (case hr => first | (go_simp; done) | (go_simp; rfl)); intro gy hg w2 hbox hb; have BY2 := Aside0.mk hbox; have HB2 := Aside0.mk (below_step HB1.out hb); have BX2 := Aside0.mk (blk_below BX1.out hb); clear hbox hb hg) | ((with_reducible refine gate_dst (N := 6) rfl ?_); refine box_event ?hg (N := 6) ?hd (cs := #[.int .u8 0, .int .i64 0, .string (⟨#[]⟩ : ByteArray), .slice none 0 0, .int .i64 0, .int .i64 0]) (t := 25) ?hr ?_; (case hd => rfl); (case hg => rfl); (case hr => first | (go_simp; done) | (go_simp; rfl)); intro gr hg w3 hbox hb; have BR3 := Aside0.mk hbox; have HB3 := Aside0.mk (below_step HB2.out hb); have BX3 := Aside0.mk (blk_below BX2.out hb); have BY3 := Aside0.mk (blk_below BY2.out hb); have GR := Aside0.mk (show w.heap.size ≤ gr from by rw [hg]; exact HB2.out.size); have hw0 : w3.cell? ⟨gx, 0, none⟩ = some (.int .u8 a0_0) := (blk_cell BX3.out 0).trans rfl; have hw1 : w3.cell? ⟨gx, 1, none⟩ = some (.int .i64 a0_1) := (blk_cell BX3.out 1).trans rfl; have hw2 : w3.cell? ⟨gx, 2, none⟩ = some (.string a0_2) := (blk_cell BX3.out 2).trans rfl; have hw3 : w3.cell? ⟨gx, 3, none⟩ = some (.slice A0_3 l0_3.length c0_3) := (blk_cell BX3.out 3).trans rfl; have hw4 : w3.cell? ⟨gx, 4, none⟩ = some (.int .i64 a0_4) := (blk_cell BX3.out 4).trans rfl; have hw5 : w3.cell? ⟨gx, 5, none⟩ = some (.int .i64 a0_5) := (blk_cell BX3.out 5).trans rfl; clear hbox hb hg) | (have _t := tok1; go_at_call 23; refine (tree_MayExpr.calls a0_0 a0_1 a0_2 A0_3 c0_3 l0_3 a0_4 a0_5 true _ (Kd.C_below HR0.out HB3.out) HC0.out HX.out).mono ?_; rintro e w4 ⟨rfl, hb⟩; have HB4 := Aside0.mk (below_step HB3.out hb); have BX4 := Aside0.mk (blk_below BX3.out hb); have BY4 := Aside0.mk (blk_below BY3.out hb); have BR4 := Aside0.mk (blk_below BR3.out hb); have hk0 : w4.cell? ⟨gy, 0, none⟩ = some (.int .u8 a2_0) := (blk_cell BY4.out 0).trans rfl; have hk1 : w4.cell? ⟨gy, 1, none⟩ = some (.int .i64 a2_1) := (blk_cell BY4.out 1).trans rfl; have hk2 : w4.cell? ⟨gy, 2, none⟩ = some (.string a2_2) := (blk_cell BY4.out 2).trans rfl; have hk3 : w4.cell? ⟨gy, 3, none⟩ = some (.slice A2_3 l2_3.length c2_3) := (blk_cell BY4.out 3).trans rfl; have hk4 : w4.cell? ⟨gy, 4, none⟩ = some (.int .i64 a2_4) := (blk_cell BY4.out 4).trans rfl; have hk5 : w4.cell? ⟨gy, 5, none⟩ = some (.int .i64 a2_5) := (blk_cell BY4.out 5).trans rfl; have tok2 : True := trivial; clear hb tok1) | (have _t := tok2; go_at_call 23; refine (tree_MayExpr.calls a2_0 a2_1 a2_2 A2_3 c2_3 l2_3 a2_4 a2_5 true _ (Kd.C_below HR2.out HB4.out) HC2.out HY.out).mono ?_; rintro e w5 ⟨rfl, hb⟩; have HB5 := Aside0.mk (below_step HB4.out hb); have BX5 := Aside0.mk (blk_below BX4.out hb); have BY5 := Aside0.mk (blk_below BY4.out hb); have BR5 := Aside0.mk (blk_below BR4.out hb); clear hb tok2) | (go_at_call 30; refine (number_named.calls (a1.size + 3) a1 false _ HNM.out).mono ?_; rintro e w6 ⟨rfl, hb⟩; have HB6 := Aside0.mk (below_step HB5.out hb); have BX6 := Aside0.mk (blk_below BX5.out hb); have BY6 := Aside0.mk (blk_below BY5.out hb); have BR6 := Aside0.mk (blk_below BR5.out hb); have hn0 : w6.cell? ⟨gx, 0, none⟩ = some (.int .u8 a0_0) := (blk_cell BX6.out 0).trans rfl; have hn1 : w6.cell? ⟨gx, 1, none⟩ = some (.int .i64 a0_1) := (blk_cell BX6.out 1).trans rfl; have hn2 : w6.cell? ⟨gx, 2, none⟩ = some (.string a0_2) := (blk_cell BX6.out 2).trans rfl; have hn3 : w6.cell? ⟨gx, 3, none⟩ = some (.slice A0_3 l0_3.length c0_3) := (blk_cell BX6.out 3).trans rfl; have hn4 : w6.cell? ⟨gx, 4, none⟩ = some (.int .i64 a0_4) := (blk_cell BX6.out 4).trans rfl; have hn5 : w6.cell? ⟨gx, 5, none⟩ = some (.int .i64 a0_5) := (blk_cell BX6.out 5).trans rfl; have hna0 : ∀ o, (w6.alloc o).cell? ⟨gx, 0, none⟩ = some (.int .u8 a0_0) := fun o => (blk_cell (blk_alloc BX6.out o) 0).trans rfl; have hna1 : ∀ o, (w6.alloc o).cell? ⟨gx, 1, none⟩ = some (.int .i64 a0_1) := fun o => (blk_cell (blk_alloc BX6.out o) 1).trans rfl; have hna2 : ∀ o, (w6.alloc o).cell? ⟨gx, 2, none⟩ = some (.string a0_2) := fun o => (blk_cell (blk_alloc BX6.out o) 2).trans rfl; have hna3 : ∀ o, (w6.alloc o).cell? ⟨gx, 3, none⟩ = some (.slice A0_3 l0_3.length c0_3) := fun o => (blk_cell (blk_alloc BX6.out o) 3).trans rfl; have hna4 : ∀ o, (w6.alloc o).cell? ⟨gx, 4, none⟩ = some (.int .i64 a0_4) := fun o => (blk_cell (blk_alloc BX6.out o) 4).trans rfl; have hna5 : ∀ o, (w6.alloc o).cell? ⟨gx, 5, none⟩ = some (.int .i64 a0_5) := fun o => (blk_cell (blk_alloc BX6.out o) 5).trans rfl; clear hb) | (refine xstore_row rfl 25 _ _ rfl gr #[.int .u8 0, .int .i64 0, .string (⟨#[]⟩ : ByteArray), .slice none 0 0, .int .i64 0, .int .i64 0] rfl rfl 25 _ BR6.out exprInfo rfl (xone6 _ _ _ _ _ _ _ _) ?_; intro wz hbk hgr hbl; have BRZ := Aside0.mk hbk; have HBZ := Aside0.mk (hbl _ _ HB6.out GR.out); clear hbk hgr hbl))
          have hE := HE.out
          simp only [Prod.mk.injEq] at hE
          obtain ⟨rfl, rfl, rfl, rfl, rfl, rfl, rfl⟩ := hE
          refine bodyPost_ret (results_ct rfl _ _ gr 25 #[.int .u8 0, .int .i64 0, .string (⟨#[]⟩ : ByteArray), .slice none 0 0, .int .i64 0, .int .i64 0] (0, 0) _ rfl BRZ.out Try.underlying25 rfl exprInfo) rfl ?_
          exact ⟨.slice none 0 0, rfl, Kd.R_nil _ _ _ _ _, HBZ.out⟩
        | true =>
          rw [hn] at hnm
          have HNM := Aside0.mk hnm
          rw [hn, if_pos rfl] at h
          have HFX := Aside0.mk (may_few ⟨a0_0, a0_1, a0_2, l0_3, a0_4, a0_5⟩ hx).1
          have HFY := Aside0.mk (may_few ⟨a2_0, a2_1, a2_2, l2_3, a2_4, a2_5⟩ hy).1
          have HDX := Aside0.mk (deep_one 16 ⟨a0_0, a0_1, a0_2, l0_3, a0_4, a0_5⟩ HFX.out (may_few ⟨a0_0, a0_1, a0_2, l0_3, a0_4, a0_5⟩ hx).2)
          have HCX := Aside0.mk (show xcount 16 ⟨a0_0, a0_1, a0_2, l0_3, a0_4, a0_5⟩ ≤ 4611686018427387903 by have := count_le 16 ⟨a0_0, a0_1, a0_2, l0_3, a0_4, a0_5⟩ HFX.out; omega)
          have HSX := Aside0.mk (size_ok 16 ⟨a0_0, a0_1, a0_2, l0_3, a0_4, a0_5⟩ 100 (by omega) HFX.out)
          have HSY := Aside0.mk (size_ok 16 ⟨a2_0, a2_1, a2_2, l2_3, a2_4, a2_5⟩ 100 (by omega) HFY.out)
          obtain ⟨F, hF⟩ : ∃ F, xgather 16 ⟨a0_0, a0_1, a0_2, l0_3, a0_4, a0_5⟩ (fun _ => none) = F := ⟨_, rfl⟩
          have HFN := Aside0.mk hF
          rw [hF] at h
          obtain ⟨ks, hks⟩ : ∃ ks, ks = 100 := ⟨_, rfl⟩
          have hsx := HSX.out
          have hsy := HSY.out
          clear HSX HSY
          rw [← hks] at hsx hsy
          generalize xsize 16 ⟨a0_0, a0_1, a0_2, l0_3, a0_4, a0_5⟩ = sx at h hsx
          generalize xsize 16 ⟨a2_0, a2_1, a2_2, l2_3, a2_4, a2_5⟩ = sy at h hsy
          have HSX := Aside0.mk (show number_size.f ks a0_0 a0_1 a0_2 l0_3 a0_4 a0_5 = some sx from hsx)
          have HSY := Aside0.mk (show number_size.f ks a2_0 a2_1 a2_2 l2_3 a2_4 a2_5 = some sy from hsy)
          have HE := Aside0.mk h
          clear h hx hy hnm hn hF hks hsx hsy
          have hmm := @run_makeMap Try.prog
          go_enter Try.func12, Try.ntmps12
          go_upto_region 5 with (first | ((with_reducible refine gate_dst (N := 3) rfl ?_); refine box_event ?hg (N := 3) ?hd (cs := #[.int .u8 a0_0, .int .i64 a0_1, .string a0_2, .slice A0_3 l0_3.length c0_3, .int .i64 a0_4, .int .i64 a0_5]) (t := 25) ?hr ?_; (case hd => rfl); (case hg => rfl); (case hr => first | (go_simp; done) | (go_simp; rfl)); intro gx hg w1 hbox hb; have BX1 := Aside0.mk hbox; have HB1 := Aside0.mk hb; have GX := Aside0.mk (show w.heap.size ≤ gx from by rw [hg]; exact Nat.le_refl _); clear hbox hb hg) | ((with_reducible refine gate_dst (N := 5) rfl ?_); refine box_event ?hg (N := 5) ?hd (cs := #[.int .u8 a2_0, .int .i64 a2_1, .string a2_2, .slice A2_3 l2_3.length c2_3, .int .i64 a2_4, .int .i64 a2_5]) (t := 25) ?hr ?_; (case hd => rfl); (case hg => rfl); (case hr => first | (go_simp; done) | (go_simp; rfl)); intro gy hg w2 hbox hb; have BY2 := Aside0.mk hbox; have HB2 := Aside0.mk (below_step HB1.out hb); have BX2 := Aside0.mk (blk_below BX1.out hb); clear hbox hb hg) | ((with_reducible refine gate_dst (N := 6) rfl ?_); refine box_event ?hg (N := 6) ?hd (cs := #[.int .u8 0, .int .i64 0, .string (⟨#[]⟩ : ByteArray), .slice none 0 0, .int .i64 0, .int .i64 0]) (t := 25) ?hr ?_; (case hd => rfl); (case hg => rfl); (case hr => first | (go_simp; done) | (go_simp; rfl)); intro gr hg w3 hbox hb; have BR3 := Aside0.mk hbox; have HB3 := Aside0.mk (below_step HB2.out hb); have BX3 := Aside0.mk (blk_below BX2.out hb); have BY3 := Aside0.mk (blk_below BY2.out hb); have GR := Aside0.mk (show w.heap.size ≤ gr from by rw [hg]; exact HB2.out.size); have hw0 : w3.cell? ⟨gx, 0, none⟩ = some (.int .u8 a0_0) := (blk_cell BX3.out 0).trans rfl; have hw1 : w3.cell? ⟨gx, 1, none⟩ = some (.int .i64 a0_1) := (blk_cell BX3.out 1).trans rfl; have hw2 : w3.cell? ⟨gx, 2, none⟩ = some (.string a0_2) := (blk_cell BX3.out 2).trans rfl; have hw3 : w3.cell? ⟨gx, 3, none⟩ = some (.slice A0_3 l0_3.length c0_3) := (blk_cell BX3.out 3).trans rfl; have hw4 : w3.cell? ⟨gx, 4, none⟩ = some (.int .i64 a0_4) := (blk_cell BX3.out 4).trans rfl; have hw5 : w3.cell? ⟨gx, 5, none⟩ = some (.int .i64 a0_5) := (blk_cell BX3.out 5).trans rfl; clear hbox hb hg) | (have _t := tok1; go_at_call 23; refine (tree_MayExpr.calls a0_0 a0_1 a0_2 A0_3 c0_3 l0_3 a0_4 a0_5 true _ (Kd.C_below HR0.out HB3.out) HC0.out HX.out).mono ?_; rintro e w4 ⟨rfl, hb⟩; have HB4 := Aside0.mk (below_step HB3.out hb); have BX4 := Aside0.mk (blk_below BX3.out hb); have BY4 := Aside0.mk (blk_below BY3.out hb); have BR4 := Aside0.mk (blk_below BR3.out hb); have hk0 : w4.cell? ⟨gy, 0, none⟩ = some (.int .u8 a2_0) := (blk_cell BY4.out 0).trans rfl; have hk1 : w4.cell? ⟨gy, 1, none⟩ = some (.int .i64 a2_1) := (blk_cell BY4.out 1).trans rfl; have hk2 : w4.cell? ⟨gy, 2, none⟩ = some (.string a2_2) := (blk_cell BY4.out 2).trans rfl; have hk3 : w4.cell? ⟨gy, 3, none⟩ = some (.slice A2_3 l2_3.length c2_3) := (blk_cell BY4.out 3).trans rfl; have hk4 : w4.cell? ⟨gy, 4, none⟩ = some (.int .i64 a2_4) := (blk_cell BY4.out 4).trans rfl; have hk5 : w4.cell? ⟨gy, 5, none⟩ = some (.int .i64 a2_5) := (blk_cell BY4.out 5).trans rfl; have tok2 : True := trivial; clear hb tok1) | (have _t := tok2; go_at_call 23; refine (tree_MayExpr.calls a2_0 a2_1 a2_2 A2_3 c2_3 l2_3 a2_4 a2_5 true _ (Kd.C_below HR2.out HB4.out) HC2.out HY.out).mono ?_; rintro e w5 ⟨rfl, hb⟩; have HB5 := Aside0.mk (below_step HB4.out hb); have BX5 := Aside0.mk (blk_below BX4.out hb); have BY5 := Aside0.mk (blk_below BY4.out hb); have BR5 := Aside0.mk (blk_below BR4.out hb); clear hb tok2) | (go_at_call 30; refine (number_named.calls (a1.size + 3) a1 true _ HNM.out).mono ?_; rintro e w6 ⟨rfl, hb⟩; have HB6 := Aside0.mk (below_step HB5.out hb); have BX6 := Aside0.mk (blk_below BX5.out hb); have BY6 := Aside0.mk (blk_below BY5.out hb); have BR6 := Aside0.mk (blk_below BR5.out hb); have hn0 : w6.cell? ⟨gx, 0, none⟩ = some (.int .u8 a0_0) := (blk_cell BX6.out 0).trans rfl; have hn1 : w6.cell? ⟨gx, 1, none⟩ = some (.int .i64 a0_1) := (blk_cell BX6.out 1).trans rfl; have hn2 : w6.cell? ⟨gx, 2, none⟩ = some (.string a0_2) := (blk_cell BX6.out 2).trans rfl; have hn3 : w6.cell? ⟨gx, 3, none⟩ = some (.slice A0_3 l0_3.length c0_3) := (blk_cell BX6.out 3).trans rfl; have hn4 : w6.cell? ⟨gx, 4, none⟩ = some (.int .i64 a0_4) := (blk_cell BX6.out 4).trans rfl; have hn5 : w6.cell? ⟨gx, 5, none⟩ = some (.int .i64 a0_5) := (blk_cell BX6.out 5).trans rfl; have hna0 : ∀ o, (w6.alloc o).cell? ⟨gx, 0, none⟩ = some (.int .u8 a0_0) := fun o => (blk_cell (blk_alloc BX6.out o) 0).trans rfl; have hna1 : ∀ o, (w6.alloc o).cell? ⟨gx, 1, none⟩ = some (.int .i64 a0_1) := fun o => (blk_cell (blk_alloc BX6.out o) 1).trans rfl; have hna2 : ∀ o, (w6.alloc o).cell? ⟨gx, 2, none⟩ = some (.string a0_2) := fun o => (blk_cell (blk_alloc BX6.out o) 2).trans rfl; have hna3 : ∀ o, (w6.alloc o).cell? ⟨gx, 3, none⟩ = some (.slice A0_3 l0_3.length c0_3) := fun o => (blk_cell (blk_alloc BX6.out o) 3).trans rfl; have hna4 : ∀ o, (w6.alloc o).cell? ⟨gx, 4, none⟩ = some (.int .i64 a0_4) := fun o => (blk_cell (blk_alloc BX6.out o) 4).trans rfl; have hna5 : ∀ o, (w6.alloc o).cell? ⟨gx, 5, none⟩ = some (.int .i64 a0_5) := fun o => (blk_cell (blk_alloc BX6.out o) 5).trans rfl; clear hb) | (go_at_call 26; refine (number_gather.walk 16 a0_0 a0_1 a0_2 A0_3 c0_3 l0_3 a0_4 a0_5 _ 0 _ w _ (below_alloc HB6.out _) HB6.out.size (envIs_made _) HR0.out HDX.out (by rw [Nat.zero_add]; exact HCX.out)).mono ?_; rintro e w7 ⟨rfl, hm, hb, hg⟩; rw [HFN.out] at hm; have HM7 := Aside0.mk hm; have HB7 := Aside0.mk hb; have BX7 := Aside0.mk (blk_grown (blk_alloc BX6.out _) hg (fun e => by injection e with e; have := blk_lt BX6.out; omega)); have BY7 := Aside0.mk (blk_grown (blk_alloc BY6.out _) hg (fun e => by injection e with e; have := blk_lt BY6.out; omega)); have BR7 := Aside0.mk (blk_grown (blk_alloc BR6.out _) hg (fun e => by injection e with e; have := blk_lt BR6.out; omega)); clear hm hb hg))
          have HBQ := Aside0.mk (below_drew1 HB7.out)
          have BXQ := Aside0.mk (blk_drew BX7.out)
          have BYQ := Aside0.mk (blk_drew BY7.out)
          have BRQ := Aside0.mk (blk_drew BR7.out)
          have HMQ := Aside0.mk (envIs.below HM7.out (below_drew1 (Below.refl _ _)))
          have hq0 : w7.drew.cell? ⟨gx, 0, none⟩ = some (.int .u8 a0_0) := (blk_cell BXQ.out 0).trans rfl; have hq1 : w7.drew.cell? ⟨gx, 1, none⟩ = some (.int .i64 a0_1) := (blk_cell BXQ.out 1).trans rfl; have hq2 : w7.drew.cell? ⟨gx, 2, none⟩ = some (.string a0_2) := (blk_cell BXQ.out 2).trans rfl; have hq3 : w7.drew.cell? ⟨gx, 3, none⟩ = some (.slice A0_3 l0_3.length c0_3) := (blk_cell BXQ.out 3).trans rfl; have hq4 : w7.drew.cell? ⟨gx, 4, none⟩ = some (.int .i64 a0_4) := (blk_cell BXQ.out 4).trans rfl; have hq5 : w7.drew.cell? ⟨gx, 5, none⟩ = some (.int .i64 a0_5) := (blk_cell BXQ.out 5).trans rfl; have hs0 : w7.drew.cell? ⟨gy, 0, none⟩ = some (.int .u8 a2_0) := (blk_cell BYQ.out 0).trans rfl; have hs1 : w7.drew.cell? ⟨gy, 1, none⟩ = some (.int .i64 a2_1) := (blk_cell BYQ.out 1).trans rfl; have hs2 : w7.drew.cell? ⟨gy, 2, none⟩ = some (.string a2_2) := (blk_cell BYQ.out 2).trans rfl; have hs3 : w7.drew.cell? ⟨gy, 3, none⟩ = some (.slice A2_3 l2_3.length c2_3) := (blk_cell BYQ.out 3).trans rfl; have hs4 : w7.drew.cell? ⟨gy, 4, none⟩ = some (.int .i64 a2_4) := (blk_cell BYQ.out 4).trans rfl; have hs5 : w7.drew.cell? ⟨gy, 5, none⟩ = some (.int .i64 a2_5) := (blk_cell BYQ.out 5).trans rfl; have hlk : (Instr.lookup 57 (.map (some w6.heap.size)) (.string a1) false).run Try.prog w7.drew = .ok (.int .i64 ((F a1).getD 0)) w7.drew := env_lookup HMQ.out a1 HZ.out
          go_cut [38] (fun v38 wc => v38 = .bool (decide (wrap64 (sx + wrap64 ((F a1).getD 0 * wrap64 (sy - 1))) > 8192)) ∧ Aside0 (Below w.heap.size w wc) ∧ Aside0 (wc.heap[gx]? = some (.cells #[.int .u8 a0_0, .int .i64 a0_1, .string a0_2, .slice A0_3 l0_3.length c0_3, .int .i64 a0_4, .int .i64 a0_5] 25 (0, 0))) ∧ Aside0 (wc.heap[gy]? = some (.cells #[.int .u8 a2_0, .int .i64 a2_1, .string a2_2, .slice A2_3 l2_3.length c2_3, .int .i64 a2_4, .int .i64 a2_5] 25 (0, 0))) ∧ Aside0 (wc.heap[gr]? = some (.cells #[.int .u8 0, .int .i64 0, .string (⟨#[]⟩ : ByteArray), .slice none 0 0, .int .i64 0, .int .i64 0] 25 (0, 0))))
          case first =>
            go_region_with (first | (go_at_call 31; (first | with_reducible refine (number_size.calls ks a0_0 a0_1 a0_2 A0_3 c0_3 l0_3 a0_4 a0_5 sx _ (Kd.C_below HR0.out HBQ.out) HC0.out HSX.out).mono ?_ | with_reducible refine (number_size.calls ks a2_0 a2_1 a2_2 A2_3 c2_3 l2_3 a2_4 a2_5 sy _ (Kd.C_below HR2.out HBQ.out) HC2.out HSY.out).mono ?_); rintro e wq ⟨rfl, hb⟩; have HBQ := Aside0.mk (below_step HBQ.out hb); have BXQ := Aside0.mk (blk_below BXQ.out hb); have BYQ := Aside0.mk (blk_below BYQ.out hb); have BRQ := Aside0.mk (blk_below BRQ.out hb); have HMQ := Aside0.mk (envIs.below HMQ.out hb); have hq0 : wq.cell? ⟨gx, 0, none⟩ = some (.int .u8 a0_0) := (blk_cell BXQ.out 0).trans rfl; have hq1 : wq.cell? ⟨gx, 1, none⟩ = some (.int .i64 a0_1) := (blk_cell BXQ.out 1).trans rfl; have hq2 : wq.cell? ⟨gx, 2, none⟩ = some (.string a0_2) := (blk_cell BXQ.out 2).trans rfl; have hq3 : wq.cell? ⟨gx, 3, none⟩ = some (.slice A0_3 l0_3.length c0_3) := (blk_cell BXQ.out 3).trans rfl; have hq4 : wq.cell? ⟨gx, 4, none⟩ = some (.int .i64 a0_4) := (blk_cell BXQ.out 4).trans rfl; have hq5 : wq.cell? ⟨gx, 5, none⟩ = some (.int .i64 a0_5) := (blk_cell BXQ.out 5).trans rfl; have hs0 : wq.cell? ⟨gy, 0, none⟩ = some (.int .u8 a2_0) := (blk_cell BYQ.out 0).trans rfl; have hs1 : wq.cell? ⟨gy, 1, none⟩ = some (.int .i64 a2_1) := (blk_cell BYQ.out 1).trans rfl; have hs2 : wq.cell? ⟨gy, 2, none⟩ = some (.string a2_2) := (blk_cell BYQ.out 2).trans rfl; have hs3 : wq.cell? ⟨gy, 3, none⟩ = some (.slice A2_3 l2_3.length c2_3) := (blk_cell BYQ.out 3).trans rfl; have hs4 : wq.cell? ⟨gy, 4, none⟩ = some (.int .i64 a2_4) := (blk_cell BYQ.out 4).trans rfl; have hs5 : wq.cell? ⟨gy, 5, none⟩ = some (.int .i64 a2_5) := (blk_cell BYQ.out 5).trans rfl; have hlk : (Instr.lookup 57 (.map (some w6.heap.size)) (.string a1) false).run Try.prog wq = .ok (.int .i64 ((F a1).getD 0)) wq := env_lookup HMQ.out a1 HZ.out; clear hb))
            all_goals (try go_wp2)
            all_goals go_meet
            all_goals (case rel => exact ⟨by first | (simp only [i64_w]; done) | (simp only [i64_w]; rfl), HBQ, BXQ, BYQ, BRQ⟩)
          case rest =>
            clear BX1 BX2 BX3 BX4 BX5 BX6 BX7 BXQ BY2 BY3 BY4 BY5 BY6 BY7 BYQ BR3 BR4 BR5 BR6 BR7 BRQ HB1 HB2 HB3 HB4 HB5 HB6 HB7 HBQ HM7 HMQ HNM hlk hw0 hw1 hw2 hw3 hw4 hw5 hk0 hk1 hk2 hk3 hk4 hk5 hn0 hn1 hn2 hn3 hn4 hn5 hna0 hna1 hna2 hna3 hna4 hna5 hq0 hq1 hq2 hq3 hq4 hq5 hs0 hs1 hs2 hs3 hs4 hs5
            obtain ⟨rfl, HBC, BXC, BYC, BRC⟩ := hcut
            have hE := HE.out
            clear HE
            have hq0 : wc.cell? ⟨gx, 0, none⟩ = some (.int .u8 a0_0) := (blk_cell BXC.out 0).trans rfl; have hq1 : wc.cell? ⟨gx, 1, none⟩ = some (.int .i64 a0_1) := (blk_cell BXC.out 1).trans rfl; have hq2 : wc.cell? ⟨gx, 2, none⟩ = some (.string a0_2) := (blk_cell BXC.out 2).trans rfl; have hq3 : wc.cell? ⟨gx, 3, none⟩ = some (.slice A0_3 l0_3.length c0_3) := (blk_cell BXC.out 3).trans rfl; have hq4 : wc.cell? ⟨gx, 4, none⟩ = some (.int .i64 a0_4) := (blk_cell BXC.out 4).trans rfl; have hq5 : wc.cell? ⟨gx, 5, none⟩ = some (.int .i64 a0_5) := (blk_cell BXC.out 5).trans rfl
            by_cases hbig : wrap64 (sx + wrap64 ((F a1).getD 0 * wrap64 (sy - 1))) > 8192
            · rw [if_pos hbig] at hE
              have hbb : decide (wrap64 (sx + wrap64 ((F a1).getD 0 * wrap64 (sy - 1))) > 8192) = true := decide_eq_true hbig
              rw [hbb]
              have HE := Aside0.mk (Option.some.inj hE)
              clear hE hbig hbb
              go_wp2_with (first | (refine xstore_row rfl 25 _ _ rfl gr #[.int .u8 0, .int .i64 0, .string (⟨#[]⟩ : ByteArray), .slice none 0 0, .int .i64 0, .int .i64 0] rfl rfl 25 _ BRC.out exprInfo rfl (xone6 _ _ _ _ _ _ _ _) ?_; intro wz hbk hgr hbl; have BRZ := Aside0.mk hbk; have HBZ := Aside0.mk (hbl _ _ HBC.out GR.out); clear hbk hgr hbl))
              have hE := HE.out
              simp only [Prod.mk.injEq] at hE
              obtain ⟨rfl, rfl, rfl, rfl, rfl, rfl, rfl⟩ := hE
              refine bodyPost_ret (results_ct rfl _ _ gr 25 #[.int .u8 0, .int .i64 0, .string (⟨#[]⟩ : ByteArray), .slice none 0 0, .int .i64 0, .int .i64 0] (0, 0) _ rfl BRZ.out Try.underlying25 rfl exprInfo) rfl ?_
              exact ⟨.slice none 0 0, rfl, Kd.R_nil _ _ _ _ _, HBZ.out⟩
            · rw [if_neg hbig] at hE
              have hbb : decide (wrap64 (sx + wrap64 ((F a1).getD 0 * wrap64 (sy - 1))) > 8192) = false := decide_eq_false hbig
              rw [hbb]
              clear hbig hbb
              have hput := put_puts wc a1 16 gy ⟨a2_0, a2_1, a2_2, l2_3, a2_4, a2_5⟩ A2_3 c2_3 BYC.out (Kd.C_below HR2.out HBC.out) HFY.out 16 a0_0 a0_1 a0_2 A0_3 c0_3 l0_3 a0_4 a0_5 wc (Below.refl _ _) (Kd.C_below HR0.out HBC.out) HFX.out
              generalize xput a1 ⟨a2_0, a2_1, a2_2, l2_3, a2_4, a2_5⟩ 16 ⟨a0_0, a0_1, a0_2, l0_3, a0_4, a0_5⟩ = z at hput hE
              obtain ⟨Z0, Z1, Z2, ZL, Z4, Z5⟩ := z
              dsimp only at hput hE
              have HPUT := Aside0.mk hput
              obtain ⟨m3, hzm, hE⟩ := Option.bind_eq_some_iff.1 hE
              have HZM := Aside0.mk hzm
              clear hput hzm
              cases m3 with
              | false =>
                rw [if_neg (by simp)] at hE
                have HE := Aside0.mk (Option.some.inj hE)
                clear hE
                go_wp2_with (first | (go_at_call 32; refine (HPUT.out).mono ?_; rintro e w10 ⟨A5, c5, rfl, hr, hb⟩; have HR10 := Aside0.mk hr; have HBD := Aside0.mk (below_step HBC.out hb); have BRD := Aside0.mk (blk_below BRC.out hb); have HGZ := Aside0.mk (show w.heap.size ≤ wc.heap.size ∧ gr < wc.heap.size from ⟨HBC.out.size, blk_lt BRC.out⟩); clear hr hb) | ((with_reducible refine gate_dst (N := 9) rfl ?_); refine box_event ?hg (N := 9) ?hd (cs := #[.int .u8 0, .int .i64 0, .string (⟨#[]⟩ : ByteArray), .slice none 0 0, .int .i64 0, .int .i64 0]) (t := 25) ?hr ?_; (case hd => rfl); (case hg => rfl); (case hr => first | (go_simp; done) | (go_simp; rfl)); intro gp hg w11 hbox hb; have BP := Aside0.mk hbox; have HBE := Aside0.mk (below_step HBD.out hb); have BRE := Aside0.mk (blk_below BRD.out hb); have GP := Aside0.mk (show w10.heap.size ≤ gp from by rw [hg]; exact Nat.le_refl _); have HBP := Aside0.mk hb; clear hbox hb hg) | (refine xstore_row rfl 25 _ _ rfl gp #[.int .u8 Z0, .int .i64 Z1, .string Z2, .slice A5 ZL.length c5, .int .i64 Z4, .int .i64 Z5] rfl rfl 25 _ BP.out exprInfo rfl (xone6 _ _ _ _ _ _ _ _) ?_; intro w12 hbk hgr hbl; have BP12 := Aside0.mk hbk; have HBF := Aside0.mk (hbl _ _ HBE.out (by have := GP.out; have := HBD.out.size; omega)); have HBP2 := Aside0.mk (hbl _ _ HBP.out GP.out); have BRF := Aside0.mk (blk_below BRD.out HBP2.out); have HR12 := Aside0.mk (Kd.R_below HR10.out HBP2.out); have hp0 : w12.cell? ⟨gp, 0, none⟩ = some (.int .u8 Z0) := (blk_cell BP12.out 0).trans rfl; have hp1 : w12.cell? ⟨gp, 1, none⟩ = some (.int .i64 Z1) := (blk_cell BP12.out 1).trans rfl; have hp2 : w12.cell? ⟨gp, 2, none⟩ = some (.string Z2) := (blk_cell BP12.out 2).trans rfl; have hp3 : w12.cell? ⟨gp, 3, none⟩ = some (.slice A5 ZL.length c5) := (blk_cell BP12.out 3).trans rfl; have hp4 : w12.cell? ⟨gp, 4, none⟩ = some (.int .i64 Z4) := (blk_cell BP12.out 4).trans rfl; have hp5 : w12.cell? ⟨gp, 5, none⟩ = some (.int .i64 Z5) := (blk_cell BP12.out 5).trans rfl; clear hbk hgr hbl) | (go_at_call 23; refine (tree_MayExpr.calls Z0 Z1 Z2 A5 c5 ZL Z4 Z5 false _ (Kd.R_reads' HR12.out).2.2 (Kd.R_reads' HR12.out).2.1 HZM.out).mono ?_; rintro e w13 ⟨rfl, hb⟩; have HBG := Aside0.mk (below_step HBF.out hb); have BRG := Aside0.mk (blk_below BRF.out hb); have BPG := Aside0.mk (blk_below BP12.out hb); have HR13 := Aside0.mk (Kd.R_below HR12.out hb); have ht0 : w13.cell? ⟨gp, 0, none⟩ = some (.int .u8 Z0) := (blk_cell BPG.out 0).trans rfl; have ht1 : w13.cell? ⟨gp, 1, none⟩ = some (.int .i64 Z1) := (blk_cell BPG.out 1).trans rfl; have ht2 : w13.cell? ⟨gp, 2, none⟩ = some (.string Z2) := (blk_cell BPG.out 2).trans rfl; have ht3 : w13.cell? ⟨gp, 3, none⟩ = some (.slice A5 ZL.length c5) := (blk_cell BPG.out 3).trans rfl; have ht4 : w13.cell? ⟨gp, 4, none⟩ = some (.int .i64 Z4) := (blk_cell BPG.out 4).trans rfl; have ht5 : w13.cell? ⟨gp, 5, none⟩ = some (.int .i64 Z5) := (blk_cell BPG.out 5).trans rfl; clear hb) | (refine xstore_row rfl 25 _ _ rfl gr #[.int .u8 0, .int .i64 0, .string (⟨#[]⟩ : ByteArray), .slice none 0 0, .int .i64 0, .int .i64 0] rfl rfl 25 _ BRG.out exprInfo rfl (xone6 _ _ _ _ _ _ _ _) ?_; intro wz hbk hgr hbl; have BRZ := Aside0.mk hbk; have HBZ := Aside0.mk (hbl _ _ HBG.out GR.out); clear hbk hgr hbl))
                have hE := HE.out
                simp only [Prod.mk.injEq] at hE
                obtain ⟨rfl, rfl, rfl, rfl, rfl, rfl, rfl⟩ := hE
                refine bodyPost_ret (results_ct rfl _ _ gr 25 #[.int .u8 0, .int .i64 0, .string (⟨#[]⟩ : ByteArray), .slice none 0 0, .int .i64 0, .int .i64 0] (0, 0) _ rfl BRZ.out Try.underlying25 rfl exprInfo) rfl ?_
                exact ⟨.slice none 0 0, rfl, Kd.R_nil _ _ _ _ _, HBZ.out⟩
              | true =>
                rw [if_pos rfl] at hE
                have HE := Aside0.mk (Option.some.inj hE)
                clear hE
                go_wp2_with (first | (go_at_call 32; refine (HPUT.out).mono ?_; rintro e w10 ⟨A5, c5, rfl, hr, hb⟩; have HR10 := Aside0.mk hr; have HBD := Aside0.mk (below_step HBC.out hb); have BRD := Aside0.mk (blk_below BRC.out hb); have HGZ := Aside0.mk (show w.heap.size ≤ wc.heap.size ∧ gr < wc.heap.size from ⟨HBC.out.size, blk_lt BRC.out⟩); clear hr hb) | ((with_reducible refine gate_dst (N := 9) rfl ?_); refine box_event ?hg (N := 9) ?hd (cs := #[.int .u8 0, .int .i64 0, .string (⟨#[]⟩ : ByteArray), .slice none 0 0, .int .i64 0, .int .i64 0]) (t := 25) ?hr ?_; (case hd => rfl); (case hg => rfl); (case hr => first | (go_simp; done) | (go_simp; rfl)); intro gp hg w11 hbox hb; have BP := Aside0.mk hbox; have HBE := Aside0.mk (below_step HBD.out hb); have BRE := Aside0.mk (blk_below BRD.out hb); have GP := Aside0.mk (show w10.heap.size ≤ gp from by rw [hg]; exact Nat.le_refl _); have HBP := Aside0.mk hb; clear hbox hb hg) | (refine xstore_row rfl 25 _ _ rfl gp #[.int .u8 Z0, .int .i64 Z1, .string Z2, .slice A5 ZL.length c5, .int .i64 Z4, .int .i64 Z5] rfl rfl 25 _ BP.out exprInfo rfl (xone6 _ _ _ _ _ _ _ _) ?_; intro w12 hbk hgr hbl; have BP12 := Aside0.mk hbk; have HBF := Aside0.mk (hbl _ _ HBE.out (by have := GP.out; have := HBD.out.size; omega)); have HBP2 := Aside0.mk (hbl _ _ HBP.out GP.out); have BRF := Aside0.mk (blk_below BRD.out HBP2.out); have HR12 := Aside0.mk (Kd.R_below HR10.out HBP2.out); have hp0 : w12.cell? ⟨gp, 0, none⟩ = some (.int .u8 Z0) := (blk_cell BP12.out 0).trans rfl; have hp1 : w12.cell? ⟨gp, 1, none⟩ = some (.int .i64 Z1) := (blk_cell BP12.out 1).trans rfl; have hp2 : w12.cell? ⟨gp, 2, none⟩ = some (.string Z2) := (blk_cell BP12.out 2).trans rfl; have hp3 : w12.cell? ⟨gp, 3, none⟩ = some (.slice A5 ZL.length c5) := (blk_cell BP12.out 3).trans rfl; have hp4 : w12.cell? ⟨gp, 4, none⟩ = some (.int .i64 Z4) := (blk_cell BP12.out 4).trans rfl; have hp5 : w12.cell? ⟨gp, 5, none⟩ = some (.int .i64 Z5) := (blk_cell BP12.out 5).trans rfl; clear hbk hgr hbl) | (go_at_call 23; refine (tree_MayExpr.calls Z0 Z1 Z2 A5 c5 ZL Z4 Z5 true _ (Kd.R_reads' HR12.out).2.2 (Kd.R_reads' HR12.out).2.1 HZM.out).mono ?_; rintro e w13 ⟨rfl, hb⟩; have HBG := Aside0.mk (below_step HBF.out hb); have BRG := Aside0.mk (blk_below BRF.out hb); have BPG := Aside0.mk (blk_below BP12.out hb); have HR13 := Aside0.mk (Kd.R_below HR12.out hb); have ht0 : w13.cell? ⟨gp, 0, none⟩ = some (.int .u8 Z0) := (blk_cell BPG.out 0).trans rfl; have ht1 : w13.cell? ⟨gp, 1, none⟩ = some (.int .i64 Z1) := (blk_cell BPG.out 1).trans rfl; have ht2 : w13.cell? ⟨gp, 2, none⟩ = some (.string Z2) := (blk_cell BPG.out 2).trans rfl; have ht3 : w13.cell? ⟨gp, 3, none⟩ = some (.slice A5 ZL.length c5) := (blk_cell BPG.out 3).trans rfl; have ht4 : w13.cell? ⟨gp, 4, none⟩ = some (.int .i64 Z4) := (blk_cell BPG.out 4).trans rfl; have ht5 : w13.cell? ⟨gp, 5, none⟩ = some (.int .i64 Z5) := (blk_cell BPG.out 5).trans rfl; clear hb) | (refine xstore_row rfl 25 _ _ rfl gr #[.int .u8 Z0, .int .i64 Z1, .string Z2, .slice A5 ZL.length c5, .int .i64 Z4, .int .i64 Z5] rfl rfl 25 _ BRG.out exprInfo rfl (xone6 _ _ _ _ _ _ _ _) ?_; intro wz hbk hgr hbl; have BRZ := Aside0.mk hbk; have HBZ := Aside0.mk (hbl _ _ HBG.out GR.out); have HRZ := Aside0.mk (Kd.R_grown HR13.out hgr (fun k hk e => by have hk : wc.heap.size ≤ k := hk; have := HGZ.out; injection e with e; omega)); clear hbk hgr hbl))
                have hE := HE.out
                simp only [Prod.mk.injEq] at hE
                obtain ⟨rfl, rfl, rfl, rfl, rfl, rfl, rfl⟩ := hE
                refine bodyPost_ret (results_ct rfl _ _ gr 25 #[.int .u8 Z0, .int .i64 Z1, .string Z2, .slice A5 ZL.length c5, .int .i64 Z4, .int .i64 Z5] (0, 0) _ rfl BRZ.out Try.underlying25 rfl exprInfo) rfl ?_
                exact ⟨.slice A5 ZL.length c5, rfl, Kd.R_mono (Kd.R_lower HRZ.out HGZ.out.1) (fun _ _ => trivial), HBZ.out⟩
      · rw [if_neg hz] at h
        exact absurd h (by simp)

end Go.Proofs.Ytnojokempdcikaa.PA

namespace Go.Proofs.Ytnojokempdcikaa.PA
open Go.RowKit Go.Proofs.YtnojokempdcikaaW.PrintWords Go.Proofs.YtnojokempdcikaaW.PrintLast Go.Proofs.YtnojokempdcikaaW.PrintMore
attribute [local go_sem] max2_int min2_int max_two min_two max_three min_three max_four min_four   -- for this text's walks alone
set_option linter.unusedVariables false
set_option linter.unusedSimpArgs false

theorem eqA29 (d : Nat) (w : World) (x0 y0 : Int) (x1 y1 : Int) (x2 y2 : Int) :
    (Op.equalIn (d + 2) 29 (.agg #[.int .i64 x0, .int .i64 x1, .int .i64 x2]) (.agg #[.int .i64 y0, .int .i64 y1, .int .i64 y2])).run Try.prog w = .ok (x0 == y0 && (x1 == y1 && (x2 == y2))) w := by
  refine eqA_of Try.underlying29 (by kernel_rfl) ?_
  refine eqf_cons (by rfl) (by go_simp; rfl) (by go_simp; rfl) (by go_simp) ?_
  refine eqf_cons (by rfl) (by go_simp; rfl) (by go_simp; rfl) (by go_simp) ?_
  exact eqf_last (by rfl) (by go_simp; rfl) (by go_simp; rfl) (by go_simp)
end Go.Proofs.Ytnojokempdcikaa.PA

namespace Go.Proofs.Ytnojokempdcikaa.PA
open Go.RowKit Go.Proofs.YtnojokempdcikaaW.PrintWords Go.Proofs.YtnojokempdcikaaW.PrintLast Go.Proofs.YtnojokempdcikaaW.PrintMore
attribute [local go_sem] max2_int min2_int max_two min_two max_three min_three max_four min_four   -- for this text's walks alone
set_option linter.unusedVariables false
set_option linter.unusedSimpArgs false

attribute [local go_sem high] eqA29
/-! ### recouplaw12_anchored: function 17 -/
def recouplaw12_anchored.f  : Option (Bool) := (number_Work.f 7 (-7) 2).bind fun bt358 => ((number_Eval.f 2 0 (⟨#[97]⟩ : ByteArray) ([] : List (S25)) 0 0 (([(⟨(⟨#[97]⟩ : ByteArray), 9⟩ : S54)] : List (S54)))).bind fun bt363 => (if bt358.2 = 0 then (if bt358.1 = (-3) then (if (bt363.2.1 == 0 && (bt363.2.2.1 == 0 && (bt363.2.2.2 == 0))) = true then (some (bt363.1 == 9)) else (some false)) else (some false)) else (some false)))
set_option maxHeartbeats 8000000 in
set_option maxRecDepth 100000 in
theorem recouplaw12_anchored.calls  (r : Bool) (w : World) (h : recouplaw12_anchored.f  = some r) :
    Calls Try.prog 17 #[] w fun e w' => e = .returned (.bool r) ∧ Below w.heap.size w w' := by
  have hu25 := Try.underlying25
  have hu54 := Try.underlying54
  have hu29 := Try.underlying29
  have HB := Aside0.mk (Below.refl w.heap.size w)
  have H : ((number_Work.f 7 (-7) 2).bind fun bt358 => ((number_Eval.f 2 0 (⟨#[97]⟩ : ByteArray) ([] : List (S25)) 0 0 (([(⟨(⟨#[97]⟩ : ByteArray), 9⟩ : S54)] : List (S54)))).bind fun bt363 => (if bt358.2 = 0 then (if bt358.1 = (-3) then (if (bt363.2.1 == 0 && (bt363.2.2.1 == 0 && (bt363.2.2.2 == 0))) = true then (some (bt363.1 == 9)) else (some false)) else (some false)) else (some false)))) = some r := h
  clear h
  replace H := Option.bind_eq_some_iff.mp H
  obtain ⟨⟨t358, t359⟩, A10, H⟩ := H
  replace H : ((number_Eval.f 2 0 (⟨#[97]⟩ : ByteArray) ([] : List (S25)) 0 0 (([(⟨(⟨#[97]⟩ : ByteArray), 9⟩ : S54)] : List (S54)))).bind fun bt363 => (if t359 = 0 then (if t358 = (-3) then (if (bt363.2.1 == 0 && (bt363.2.2.1 == 0 && (bt363.2.2.2 == 0))) = true then (some (bt363.1 == 9)) else (some false)) else (some false)) else (some false))) = some r := H
  have A1 := Aside0.mk A10
  clear A10
  obtain ⟨y360, hy360⟩ : ∃ y_ : List (S54), y_ = (([(⟨(⟨#[97]⟩ : ByteArray), 9⟩ : S54)] : List (S54))) := ⟨_, rfl⟩
  replace H : ((number_Eval.f 2 0 (⟨#[97]⟩ : ByteArray) ([] : List (S25)) 0 0 y360).bind fun bt363 => (if t359 = 0 then (if t358 = (-3) then (if (bt363.2.1 == 0 && (bt363.2.2.1 == 0 && (bt363.2.2.2 == 0))) = true then (some (bt363.1 == 9)) else (some false)) else (some false)) else (some false))) = some r := by first | (rw [hy360]; with_reducible exact H) | (have H2_ := (Option.bind_some _ _).symm.trans H; rw [hy360]; with_reducible exact H2_) | (have H2_ := (Option.bind_some _ _).symm.trans H; with_reducible exact H2_) | with_reducible exact H | (rw [hy360]; exact H) | exact H
  have Ny360 := Aside0.mk hy360
  clear hy360
  replace H := Option.bind_eq_some_iff.mp H
  obtain ⟨⟨t363, t364, t365, t366⟩, A20, H⟩ := H
  replace H : (if t359 = 0 then (if t358 = (-3) then (if (t364 == 0 && (t365 == 0 && (t366 == 0))) = true then (some (t363 == 9)) else (some false)) else (some false)) else (some false)) = some r := H
  have A2 := Aside0.mk A20
  clear A20
  by_cases c3 : t359 = 0
  · rw [if_pos c3] at H
    have c3b0 : (t359 == 0) = true := beq_iff_eq.mpr c3
    have c3b1 : (t359 != 0) = false := bne_eq_false_iff_eq.mpr c3
    clear c3
    by_cases c4 : t358 = (-3)
    · rw [if_pos c4] at H
      have c4b0 : (t358 == (-3)) = true := beq_iff_eq.mpr c4
      have c4b1 : (t358 != (-3)) = false := bne_eq_false_iff_eq.mpr c4
      clear c4
      by_cases c5 : (t364 == 0 && (t365 == 0 && (t366 == 0))) = true
      · rw [if_pos c5] at H
        have c5b0 : (t364 == 0 && (t365 == 0 && (t366 == 0))) = true := c5
        (try (have c5b1 : decide (t364 = 0 && (t365 == 0 && (t366 == 0))) = true := by simpa using c5))
        (try (have c5b2 : (t364 == 0 && (t365 == 0 && (t366 == 0))) = true := by simpa using c5))
        clear c5
        obtain rfl := Option.some.inj H
        go_enter Try.func17, Try.ntmps17
        go_wp2_with (first | ((with_reducible refine gate_callee (f := 19) rfl ?_); refine goesL_ (some 6) rfl rfl Try.func19 (by kernel_rfl) rfl #[.int .u8 7, .int .i64 (-7), .int .i64 2] rfl (by (try simp only [List.map_toArray, List.map_cons, List.map_nil]); first | done | rfl | (simp only [List.length_drop, List.length_take]; rfl)) ?_; (with_reducible refine (number_Work.calls 7 (-7) 2 t358 t359 _ A1.out).mono ?_); rintro e w6 ⟨rfl, hb⟩; refine ⟨_, rfl, ?_⟩; have n0_ := Aside0.mk (below_step (by repeat (first | (with_reducible first | exact HB.out | apply below_alloc | apply pw_below_drewN | apply below_drew1) | exact HB.out)) hb); clear HB; have HB := n0_; clear n0_; (try clear hb); (try clear hb2); (try clear hk); (try clear hi)) | ((with_reducible refine gate_dst (N := 12) rfl ?_); refine Kd.R_lit k54 _ 54 ?hg (N := 12) ?hd (xs := ([(⟨(⟨#[97]⟩ : ByteArray), 9⟩ : S54)] : List (S54))) (inner := [.string (⟨#[97]⟩ : ByteArray), .int .i64 9]) (ok := fun _ => True) (okp := fun _ => True) ?hr ?hp (fun _ hk => hk) trivial (Below.refl _ _) (Nat.le_refl _) (by simp) ?_; (case hd => rfl); (case hg => rfl); (case hr => first | (go_simp; done) | (go_simp; rfl)); (case hp => exact (Reps.c2 (show Kd.M k54 _ _ _ (⟨(⟨#[97]⟩ : ByteArray), 9⟩ : S54) [.string (⟨#[97]⟩ : ByteArray), .int .i64 9] from (k54_mkM _ _ _ (⟨(⟨#[97]⟩ : ByteArray), 9⟩ : S54) )) (Reps.none _ _))); intro v361 w7 ho8 hb hg_ hnew_; clear hg_ hnew_; (first | rw [← Ny360.out] at ho8 | (simp only [Int.reduceToNat] at ho8; rw [← Ny360.out] at ho8)); have n0_ := Aside0.mk (Kd.R_lower ho8 (below_size (by repeat (first | (with_reducible first | exact HB.out | apply below_alloc | apply pw_below_drewN | apply below_drew1) | exact HB.out)))); have n1_ := Aside0.mk (below_step (by repeat (first | (with_reducible first | exact HB.out | apply below_alloc | apply pw_below_drewN | apply below_drew1) | exact HB.out)) hb); clear HB; have HO362 := n0_; have HB := n1_; clear n0_ n1_; clear hb ho8; obtain ⟨Ao9, co9, eo9⟩ := Kd.R_slice HO362.out; subst eo9) | ((with_reducible refine gate_callee (f := 8) rfl ?_); refine goesL_ (some 13) rfl rfl Try.func8 (by kernel_rfl) rfl #[.agg #[.int .u8 2, .int .i64 0, .string (⟨#[97]⟩ : ByteArray), .slice none 0 0, .int .i64 0, .int .i64 0], .slice Ao9 y360.length co9] rfl (by (try simp only [List.map_toArray, List.map_cons, List.map_nil]); first | done | rfl | (simp only [List.length_drop, List.length_take]; rfl)) ?_; (refine (number_Eval.calls 2 0 (⟨#[97]⟩ : ByteArray) _ _ ([] : List (S25)) 0 0 _ _ y360 t363 t364 t365 t366 _ ?side1 ?side2 ?side3 ?side4 A2.out).mono ?_); (case side1 => exact Kd.C_nil _ _); (case side2 => exact Nat.le_refl _); (case side3 => repeat (first | exact (Kd.R_reads' HO362.out).2.2 | (with_reducible refine Kd.C_alloc ?_ _) | (with_reducible refine Kd.C_drewN ?_ _) | (with_reducible refine Kd.C_drew ?_))); (case side4 => exact (Kd.R_reads' HO362.out).2.1); rintro e w10 ⟨rfl, hb⟩; refine ⟨_, rfl, ?_⟩; have n0_ := Aside0.mk (Kd.R_below (by (with_reducible repeat (first | apply Kd.R_alloc | apply Kd.R_drewN | apply Kd.R_drew)); exact HO362.out) hb); have n1_ := Aside0.mk (below_step (by repeat (first | (with_reducible first | exact HB.out | apply below_alloc | apply pw_below_drewN | apply below_drew1) | exact HB.out)) hb); clear HO362; clear HB; have HO362 := n0_; have HB := n1_; clear n0_ n1_; (try clear hb); (try clear hb2); (try clear hk); (try clear hi)) | ((with_reducible refine gate_dst (N := 4) rfl ?_); refine box_event ?hg (N := 4) ?hd (cs := #[.int .i64 0, .int .i64 0, .int .i64 0]) (t := 29) ?hr ?_; (case hd => rfl); (case hg => rfl); (case hr => first | (go_simp; done) | (go_simp; rfl)); intro gb367 hg w11 hbox hb; have n0_ := Aside0.mk (Kd.R_below (by (with_reducible repeat (first | apply Kd.R_alloc | apply Kd.R_drewN | apply Kd.R_drew)); exact HO362.out) hb); have n1_ := Aside0.mk (below_step (by repeat (first | (with_reducible first | exact HB.out | apply below_alloc | apply pw_below_drewN | apply below_drew1) | exact HB.out)) hb); have n2_ := Aside0.mk (hbox); have n3_ := Aside0.mk ((by rw [hg]; exact (below_size (by repeat (first | (with_reducible first | exact HB.out | apply below_alloc | apply pw_below_drewN | apply below_drew1) | exact HB.out))) : w.heap.size ≤ gb367)); have n4_ := Aside0.mk ((by rw [hg]; exact (below_size (by repeat (first | (with_reducible first | exact HB.out | apply below_alloc | apply pw_below_drewN | apply below_drew1) | exact HB.out))) : w.heap.size ≤ gb367)); clear HO362; clear HB; have HO362 := n0_; have HB := n1_; have BK367 := n2_; have GW367 := n3_; have GE367 := n4_; clear n0_ n1_ n2_ n3_ n4_; clear hb hbox hg; have hcz12_0 : w11.cell? ⟨gb367, 0, none⟩ = some (.int .i64 0) := (blk_cell BK367.out 0).trans rfl; have hcz12_1 : w11.cell? ⟨gb367, 1, none⟩ = some (.int .i64 0) := (blk_cell BK367.out 1).trans rfl; have hcz12_2 : w11.cell? ⟨gb367, 2, none⟩ = some (.int .i64 0) := (blk_cell BK367.out 2).trans rfl; have hfz12_0 := blk_frozen BK367.out 0; have hfz12_1 := blk_frozen BK367.out 1; have hfz12_2 := blk_frozen BK367.out 2))
        go_ret
        exact ⟨by first | rfl | (simp [errW_none, errW_some] <;> rfl) | (simp [*, errW_none, errW_some] <;> rfl), by repeat (first | (with_reducible first | exact HB.out | apply below_alloc | apply pw_below_drewN | apply below_drew1 | refine below_set ?_ GE367.out) | exact HB.out)⟩
      · rw [if_neg c5] at H
        have c5b0 : (t364 == 0 && (t365 == 0 && (t366 == 0))) = false := by simpa using c5
        (try (have c5b1 : decide (t364 = 0 && (t365 == 0 && (t366 == 0))) = false := by simpa using c5))
        (try (have c5b2 : (t364 == 0 && (t365 == 0 && (t366 == 0))) = false := by simpa using c5))
        (try (have c5b3 : ¬ (t364 = 0 && (t365 == 0 && (t366 == 0))) := by simpa using c5))
        clear c5
        obtain rfl := Option.some.inj H
        go_enter Try.func17, Try.ntmps17
        go_wp2_with (first | ((with_reducible refine gate_callee (f := 19) rfl ?_); refine goesL_ (some 6) rfl rfl Try.func19 (by kernel_rfl) rfl #[.int .u8 7, .int .i64 (-7), .int .i64 2] rfl (by (try simp only [List.map_toArray, List.map_cons, List.map_nil]); first | done | rfl | (simp only [List.length_drop, List.length_take]; rfl)) ?_; (with_reducible refine (number_Work.calls 7 (-7) 2 t358 t359 _ A1.out).mono ?_); rintro e w13 ⟨rfl, hb⟩; refine ⟨_, rfl, ?_⟩; have n0_ := Aside0.mk (below_step (by repeat (first | (with_reducible first | exact HB.out | apply below_alloc | apply pw_below_drewN | apply below_drew1) | exact HB.out)) hb); clear HB; have HB := n0_; clear n0_; (try clear hb); (try clear hb2); (try clear hk); (try clear hi)) | ((with_reducible refine gate_dst (N := 12) rfl ?_); refine Kd.R_lit k54 _ 54 ?hg (N := 12) ?hd (xs := ([(⟨(⟨#[97]⟩ : ByteArray), 9⟩ : S54)] : List (S54))) (inner := [.string (⟨#[97]⟩ : ByteArray), .int .i64 9]) (ok := fun _ => True) (okp := fun _ => True) ?hr ?hp (fun _ hk => hk) trivial (Below.refl _ _) (Nat.le_refl _) (by simp) ?_; (case hd => rfl); (case hg => rfl); (case hr => first | (go_simp; done) | (go_simp; rfl)); (case hp => exact (Reps.c2 (show Kd.M k54 _ _ _ (⟨(⟨#[97]⟩ : ByteArray), 9⟩ : S54) [.string (⟨#[97]⟩ : ByteArray), .int .i64 9] from (k54_mkM _ _ _ (⟨(⟨#[97]⟩ : ByteArray), 9⟩ : S54) )) (Reps.none _ _))); intro v361 w14 ho15 hb hg_ hnew_; clear hg_ hnew_; (first | rw [← Ny360.out] at ho15 | (simp only [Int.reduceToNat] at ho15; rw [← Ny360.out] at ho15)); have n0_ := Aside0.mk (Kd.R_lower ho15 (below_size (by repeat (first | (with_reducible first | exact HB.out | apply below_alloc | apply pw_below_drewN | apply below_drew1) | exact HB.out)))); have n1_ := Aside0.mk (below_step (by repeat (first | (with_reducible first | exact HB.out | apply below_alloc | apply pw_below_drewN | apply below_drew1) | exact HB.out)) hb); clear HB; have HO362 := n0_; have HB := n1_; clear n0_ n1_; clear hb ho15; obtain ⟨Ao16, co16, eo16⟩ := Kd.R_slice HO362.out; subst eo16) | ((with_reducible refine gate_callee (f := 8) rfl ?_); refine goesL_ (some 13) rfl rfl Try.func8 (by kernel_rfl) rfl #[.agg #[.int .u8 2, .int .i64 0, .string (⟨#[97]⟩ : ByteArray), .slice none 0 0, .int .i64 0, .int .i64 0], .slice Ao16 y360.length co16] rfl (by (try simp only [List.map_toArray, List.map_cons, List.map_nil]); first | done | rfl | (simp only [List.length_drop, List.length_take]; rfl)) ?_; (refine (number_Eval.calls 2 0 (⟨#[97]⟩ : ByteArray) _ _ ([] : List (S25)) 0 0 _ _ y360 t363 t364 t365 t366 _ ?side1 ?side2 ?side3 ?side4 A2.out).mono ?_); (case side1 => exact Kd.C_nil _ _); (case side2 => exact Nat.le_refl _); (case side3 => repeat (first | exact (Kd.R_reads' HO362.out).2.2 | (with_reducible refine Kd.C_alloc ?_ _) | (with_reducible refine Kd.C_drewN ?_ _) | (with_reducible refine Kd.C_drew ?_))); (case side4 => exact (Kd.R_reads' HO362.out).2.1); rintro e w17 ⟨rfl, hb⟩; refine ⟨_, rfl, ?_⟩; have n0_ := Aside0.mk (Kd.R_below (by (with_reducible repeat (first | apply Kd.R_alloc | apply Kd.R_drewN | apply Kd.R_drew)); exact HO362.out) hb); have n1_ := Aside0.mk (below_step (by repeat (first | (with_reducible first | exact HB.out | apply below_alloc | apply pw_below_drewN | apply below_drew1) | exact HB.out)) hb); clear HO362; clear HB; have HO362 := n0_; have HB := n1_; clear n0_ n1_; (try clear hb); (try clear hb2); (try clear hk); (try clear hi)) | ((with_reducible refine gate_dst (N := 4) rfl ?_); refine box_event ?hg (N := 4) ?hd (cs := #[.int .i64 0, .int .i64 0, .int .i64 0]) (t := 29) ?hr ?_; (case hd => rfl); (case hg => rfl); (case hr => first | (go_simp; done) | (go_simp; rfl)); intro gb367 hg w18 hbox hb; have n0_ := Aside0.mk (Kd.R_below (by (with_reducible repeat (first | apply Kd.R_alloc | apply Kd.R_drewN | apply Kd.R_drew)); exact HO362.out) hb); have n1_ := Aside0.mk (below_step (by repeat (first | (with_reducible first | exact HB.out | apply below_alloc | apply pw_below_drewN | apply below_drew1) | exact HB.out)) hb); have n2_ := Aside0.mk (hbox); have n3_ := Aside0.mk ((by rw [hg]; exact (below_size (by repeat (first | (with_reducible first | exact HB.out | apply below_alloc | apply pw_below_drewN | apply below_drew1) | exact HB.out))) : w.heap.size ≤ gb367)); have n4_ := Aside0.mk ((by rw [hg]; exact (below_size (by repeat (first | (with_reducible first | exact HB.out | apply below_alloc | apply pw_below_drewN | apply below_drew1) | exact HB.out))) : w.heap.size ≤ gb367)); clear HO362; clear HB; have HO362 := n0_; have HB := n1_; have BK367 := n2_; have GW367 := n3_; have GE367 := n4_; clear n0_ n1_ n2_ n3_ n4_; clear hb hbox hg; have hcz19_0 : w18.cell? ⟨gb367, 0, none⟩ = some (.int .i64 0) := (blk_cell BK367.out 0).trans rfl; have hcz19_1 : w18.cell? ⟨gb367, 1, none⟩ = some (.int .i64 0) := (blk_cell BK367.out 1).trans rfl; have hcz19_2 : w18.cell? ⟨gb367, 2, none⟩ = some (.int .i64 0) := (blk_cell BK367.out 2).trans rfl; have hfz19_0 := blk_frozen BK367.out 0; have hfz19_1 := blk_frozen BK367.out 1; have hfz19_2 := blk_frozen BK367.out 2))
        go_ret
        exact ⟨by first | rfl | (simp [errW_none, errW_some] <;> rfl) | (simp [*, errW_none, errW_some] <;> rfl), by repeat (first | (with_reducible first | exact HB.out | apply below_alloc | apply pw_below_drewN | apply below_drew1 | refine below_set ?_ GE367.out) | exact HB.out)⟩
    · rw [if_neg c4] at H
      have c4b0 : (t358 == (-3)) = false := beq_eq_false_iff_ne.mpr c4
      have c4b1 : (t358 != (-3)) = true := bne_iff_ne.mpr c4
      obtain rfl := Option.some.inj H
      go_enter Try.func17, Try.ntmps17
      go_wp2_with (first | ((with_reducible refine gate_callee (f := 19) rfl ?_); refine goesL_ (some 6) rfl rfl Try.func19 (by kernel_rfl) rfl #[.int .u8 7, .int .i64 (-7), .int .i64 2] rfl (by (try simp only [List.map_toArray, List.map_cons, List.map_nil]); first | done | rfl | (simp only [List.length_drop, List.length_take]; rfl)) ?_; (with_reducible refine (number_Work.calls 7 (-7) 2 t358 t359 _ A1.out).mono ?_); rintro e w20 ⟨rfl, hb⟩; refine ⟨_, rfl, ?_⟩; have n0_ := Aside0.mk (below_step (by repeat (first | (with_reducible first | exact HB.out | apply below_alloc | apply pw_below_drewN | apply below_drew1) | exact HB.out)) hb); clear HB; have HB := n0_; clear n0_; (try clear hb); (try clear hb2); (try clear hk); (try clear hi)) | ((with_reducible refine gate_dst (N := 12) rfl ?_); refine Kd.R_lit k54 _ 54 ?hg (N := 12) ?hd (xs := ([(⟨(⟨#[97]⟩ : ByteArray), 9⟩ : S54)] : List (S54))) (inner := [.string (⟨#[97]⟩ : ByteArray), .int .i64 9]) (ok := fun _ => True) (okp := fun _ => True) ?hr ?hp (fun _ hk => hk) trivial (Below.refl _ _) (Nat.le_refl _) (by simp) ?_; (case hd => rfl); (case hg => rfl); (case hr => first | (go_simp; done) | (go_simp; rfl)); (case hp => exact (Reps.c2 (show Kd.M k54 _ _ _ (⟨(⟨#[97]⟩ : ByteArray), 9⟩ : S54) [.string (⟨#[97]⟩ : ByteArray), .int .i64 9] from (k54_mkM _ _ _ (⟨(⟨#[97]⟩ : ByteArray), 9⟩ : S54) )) (Reps.none _ _))); intro v361 w21 ho22 hb hg_ hnew_; clear hg_ hnew_; (first | rw [← Ny360.out] at ho22 | (simp only [Int.reduceToNat] at ho22; rw [← Ny360.out] at ho22)); have n0_ := Aside0.mk (Kd.R_lower ho22 (below_size (by repeat (first | (with_reducible first | exact HB.out | apply below_alloc | apply pw_below_drewN | apply below_drew1) | exact HB.out)))); have n1_ := Aside0.mk (below_step (by repeat (first | (with_reducible first | exact HB.out | apply below_alloc | apply pw_below_drewN | apply below_drew1) | exact HB.out)) hb); clear HB; have HO362 := n0_; have HB := n1_; clear n0_ n1_; clear hb ho22; obtain ⟨Ao23, co23, eo23⟩ := Kd.R_slice HO362.out; subst eo23) | ((with_reducible refine gate_callee (f := 8) rfl ?_); refine goesL_ (some 13) rfl rfl Try.func8 (by kernel_rfl) rfl #[.agg #[.int .u8 2, .int .i64 0, .string (⟨#[97]⟩ : ByteArray), .slice none 0 0, .int .i64 0, .int .i64 0], .slice Ao23 y360.length co23] rfl (by (try simp only [List.map_toArray, List.map_cons, List.map_nil]); first | done | rfl | (simp only [List.length_drop, List.length_take]; rfl)) ?_; (refine (number_Eval.calls 2 0 (⟨#[97]⟩ : ByteArray) _ _ ([] : List (S25)) 0 0 _ _ y360 t363 t364 t365 t366 _ ?side1 ?side2 ?side3 ?side4 A2.out).mono ?_); (case side1 => exact Kd.C_nil _ _); (case side2 => exact Nat.le_refl _); (case side3 => repeat (first | exact (Kd.R_reads' HO362.out).2.2 | (with_reducible refine Kd.C_alloc ?_ _) | (with_reducible refine Kd.C_drewN ?_ _) | (with_reducible refine Kd.C_drew ?_))); (case side4 => exact (Kd.R_reads' HO362.out).2.1); rintro e w24 ⟨rfl, hb⟩; refine ⟨_, rfl, ?_⟩; have n0_ := Aside0.mk (Kd.R_below (by (with_reducible repeat (first | apply Kd.R_alloc | apply Kd.R_drewN | apply Kd.R_drew)); exact HO362.out) hb); have n1_ := Aside0.mk (below_step (by repeat (first | (with_reducible first | exact HB.out | apply below_alloc | apply pw_below_drewN | apply below_drew1) | exact HB.out)) hb); clear HO362; clear HB; have HO362 := n0_; have HB := n1_; clear n0_ n1_; (try clear hb); (try clear hb2); (try clear hk); (try clear hi)) | ((with_reducible refine gate_dst (N := 4) rfl ?_); refine box_event ?hg (N := 4) ?hd (cs := #[.int .i64 0, .int .i64 0, .int .i64 0]) (t := 29) ?hr ?_; (case hd => rfl); (case hg => rfl); (case hr => first | (go_simp; done) | (go_simp; rfl)); intro gb367 hg w25 hbox hb; have n0_ := Aside0.mk (Kd.R_below (by (with_reducible repeat (first | apply Kd.R_alloc | apply Kd.R_drewN | apply Kd.R_drew)); exact HO362.out) hb); have n1_ := Aside0.mk (below_step (by repeat (first | (with_reducible first | exact HB.out | apply below_alloc | apply pw_below_drewN | apply below_drew1) | exact HB.out)) hb); have n2_ := Aside0.mk (hbox); have n3_ := Aside0.mk ((by rw [hg]; exact (below_size (by repeat (first | (with_reducible first | exact HB.out | apply below_alloc | apply pw_below_drewN | apply below_drew1) | exact HB.out))) : w.heap.size ≤ gb367)); have n4_ := Aside0.mk ((by rw [hg]; exact (below_size (by repeat (first | (with_reducible first | exact HB.out | apply below_alloc | apply pw_below_drewN | apply below_drew1) | exact HB.out))) : w.heap.size ≤ gb367)); clear HO362; clear HB; have HO362 := n0_; have HB := n1_; have BK367 := n2_; have GW367 := n3_; have GE367 := n4_; clear n0_ n1_ n2_ n3_ n4_; clear hb hbox hg; have hcz26_0 : w25.cell? ⟨gb367, 0, none⟩ = some (.int .i64 0) := (blk_cell BK367.out 0).trans rfl; have hcz26_1 : w25.cell? ⟨gb367, 1, none⟩ = some (.int .i64 0) := (blk_cell BK367.out 1).trans rfl; have hcz26_2 : w25.cell? ⟨gb367, 2, none⟩ = some (.int .i64 0) := (blk_cell BK367.out 2).trans rfl; have hfz26_0 := blk_frozen BK367.out 0; have hfz26_1 := blk_frozen BK367.out 1; have hfz26_2 := blk_frozen BK367.out 2))
      go_ret
      exact ⟨by first | rfl | (simp [errW_none, errW_some] <;> rfl) | (simp [*, errW_none, errW_some] <;> rfl), by repeat (first | (with_reducible first | exact HB.out | apply below_alloc | apply pw_below_drewN | apply below_drew1 | refine below_set ?_ GE367.out) | exact HB.out)⟩
  · rw [if_neg c3] at H
    have c3b0 : (t359 == 0) = false := beq_eq_false_iff_ne.mpr c3
    have c3b1 : (t359 != 0) = true := bne_iff_ne.mpr c3
    obtain rfl := Option.some.inj H
    go_enter Try.func17, Try.ntmps17
    go_wp2_with (first | ((with_reducible refine gate_callee (f := 19) rfl ?_); refine goesL_ (some 6) rfl rfl Try.func19 (by kernel_rfl) rfl #[.int .u8 7, .int .i64 (-7), .int .i64 2] rfl (by (try simp only [List.map_toArray, List.map_cons, List.map_nil]); first | done | rfl | (simp only [List.length_drop, List.length_take]; rfl)) ?_; (with_reducible refine (number_Work.calls 7 (-7) 2 t358 t359 _ A1.out).mono ?_); rintro e w27 ⟨rfl, hb⟩; refine ⟨_, rfl, ?_⟩; have n0_ := Aside0.mk (below_step (by repeat (first | (with_reducible first | exact HB.out | apply below_alloc | apply pw_below_drewN | apply below_drew1) | exact HB.out)) hb); clear HB; have HB := n0_; clear n0_; (try clear hb); (try clear hb2); (try clear hk); (try clear hi)) | ((with_reducible refine gate_dst (N := 12) rfl ?_); refine Kd.R_lit k54 _ 54 ?hg (N := 12) ?hd (xs := ([(⟨(⟨#[97]⟩ : ByteArray), 9⟩ : S54)] : List (S54))) (inner := [.string (⟨#[97]⟩ : ByteArray), .int .i64 9]) (ok := fun _ => True) (okp := fun _ => True) ?hr ?hp (fun _ hk => hk) trivial (Below.refl _ _) (Nat.le_refl _) (by simp) ?_; (case hd => rfl); (case hg => rfl); (case hr => first | (go_simp; done) | (go_simp; rfl)); (case hp => exact (Reps.c2 (show Kd.M k54 _ _ _ (⟨(⟨#[97]⟩ : ByteArray), 9⟩ : S54) [.string (⟨#[97]⟩ : ByteArray), .int .i64 9] from (k54_mkM _ _ _ (⟨(⟨#[97]⟩ : ByteArray), 9⟩ : S54) )) (Reps.none _ _))); intro v361 w28 ho29 hb hg_ hnew_; clear hg_ hnew_; (first | rw [← Ny360.out] at ho29 | (simp only [Int.reduceToNat] at ho29; rw [← Ny360.out] at ho29)); have n0_ := Aside0.mk (Kd.R_lower ho29 (below_size (by repeat (first | (with_reducible first | exact HB.out | apply below_alloc | apply pw_below_drewN | apply below_drew1) | exact HB.out)))); have n1_ := Aside0.mk (below_step (by repeat (first | (with_reducible first | exact HB.out | apply below_alloc | apply pw_below_drewN | apply below_drew1) | exact HB.out)) hb); clear HB; have HO362 := n0_; have HB := n1_; clear n0_ n1_; clear hb ho29; obtain ⟨Ao30, co30, eo30⟩ := Kd.R_slice HO362.out; subst eo30) | ((with_reducible refine gate_callee (f := 8) rfl ?_); refine goesL_ (some 13) rfl rfl Try.func8 (by kernel_rfl) rfl #[.agg #[.int .u8 2, .int .i64 0, .string (⟨#[97]⟩ : ByteArray), .slice none 0 0, .int .i64 0, .int .i64 0], .slice Ao30 y360.length co30] rfl (by (try simp only [List.map_toArray, List.map_cons, List.map_nil]); first | done | rfl | (simp only [List.length_drop, List.length_take]; rfl)) ?_; (refine (number_Eval.calls 2 0 (⟨#[97]⟩ : ByteArray) _ _ ([] : List (S25)) 0 0 _ _ y360 t363 t364 t365 t366 _ ?side1 ?side2 ?side3 ?side4 A2.out).mono ?_); (case side1 => exact Kd.C_nil _ _); (case side2 => exact Nat.le_refl _); (case side3 => repeat (first | exact (Kd.R_reads' HO362.out).2.2 | (with_reducible refine Kd.C_alloc ?_ _) | (with_reducible refine Kd.C_drewN ?_ _) | (with_reducible refine Kd.C_drew ?_))); (case side4 => exact (Kd.R_reads' HO362.out).2.1); rintro e w31 ⟨rfl, hb⟩; refine ⟨_, rfl, ?_⟩; have n0_ := Aside0.mk (Kd.R_below (by (with_reducible repeat (first | apply Kd.R_alloc | apply Kd.R_drewN | apply Kd.R_drew)); exact HO362.out) hb); have n1_ := Aside0.mk (below_step (by repeat (first | (with_reducible first | exact HB.out | apply below_alloc | apply pw_below_drewN | apply below_drew1) | exact HB.out)) hb); clear HO362; clear HB; have HO362 := n0_; have HB := n1_; clear n0_ n1_; (try clear hb); (try clear hb2); (try clear hk); (try clear hi)) | ((with_reducible refine gate_dst (N := 4) rfl ?_); refine box_event ?hg (N := 4) ?hd (cs := #[.int .i64 0, .int .i64 0, .int .i64 0]) (t := 29) ?hr ?_; (case hd => rfl); (case hg => rfl); (case hr => first | (go_simp; done) | (go_simp; rfl)); intro gb367 hg w32 hbox hb; have n0_ := Aside0.mk (Kd.R_below (by (with_reducible repeat (first | apply Kd.R_alloc | apply Kd.R_drewN | apply Kd.R_drew)); exact HO362.out) hb); have n1_ := Aside0.mk (below_step (by repeat (first | (with_reducible first | exact HB.out | apply below_alloc | apply pw_below_drewN | apply below_drew1) | exact HB.out)) hb); have n2_ := Aside0.mk (hbox); have n3_ := Aside0.mk ((by rw [hg]; exact (below_size (by repeat (first | (with_reducible first | exact HB.out | apply below_alloc | apply pw_below_drewN | apply below_drew1) | exact HB.out))) : w.heap.size ≤ gb367)); have n4_ := Aside0.mk ((by rw [hg]; exact (below_size (by repeat (first | (with_reducible first | exact HB.out | apply below_alloc | apply pw_below_drewN | apply below_drew1) | exact HB.out))) : w.heap.size ≤ gb367)); clear HO362; clear HB; have HO362 := n0_; have HB := n1_; have BK367 := n2_; have GW367 := n3_; have GE367 := n4_; clear n0_ n1_ n2_ n3_ n4_; clear hb hbox hg; have hcz33_0 : w32.cell? ⟨gb367, 0, none⟩ = some (.int .i64 0) := (blk_cell BK367.out 0).trans rfl; have hcz33_1 : w32.cell? ⟨gb367, 1, none⟩ = some (.int .i64 0) := (blk_cell BK367.out 1).trans rfl; have hcz33_2 : w32.cell? ⟨gb367, 2, none⟩ = some (.int .i64 0) := (blk_cell BK367.out 2).trans rfl; have hfz33_0 := blk_frozen BK367.out 0; have hfz33_1 := blk_frozen BK367.out 1; have hfz33_2 := blk_frozen BK367.out 2))
    go_ret
    exact ⟨by first | rfl | (simp [errW_none, errW_some] <;> rfl) | (simp [*, errW_none, errW_some] <;> rfl), by repeat (first | (with_reducible first | exact HB.out | apply below_alloc | apply pw_below_drewN | apply below_drew1 | refine below_set ?_ GE367.out) | exact HB.out)⟩

-- NOT PRINTED: function 4 (recouplaw12_NumberNames)


end Go.Proofs.Ytnojokempdcikaa.PA
