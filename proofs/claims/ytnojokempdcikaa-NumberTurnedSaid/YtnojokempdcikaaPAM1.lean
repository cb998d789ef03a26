/- Printed by a program of this repo over the kit's printer: functions of the given program as plain Lean functions, each with the proof that the call does what it says. -/
import Derived.Test.YtnojokempdcikaaPAM0
import Derived.Deep.RegionWith
namespace Go.Proofs.Ytnojokempdcikaa.PA
open Go.RowKit Go.Proofs.YtnojokempdcikaaW.PrintWords Go.Proofs.YtnojokempdcikaaW.PrintLast Go.Proofs.YtnojokempdcikaaW.PrintMore
attribute [local go_sem] max2_int min2_int max_two min_two max_three min_three max_four min_four   -- for this text's walks alone
set_option linter.unusedVariables false
set_option linter.unusedSimpArgs false

/-! ### number_eval: function 24 -/
--OWNPART Derived.Deep.RegionWith
open Go.RowKit
/-- The parts' numbers, one after the other; behind the first fault: it. -/
def xparts (f : S25 → Option (Int × Int × Int × Int)) : List S25 → Nat → Int → Int → Option ((Int × Int) × (Int × Int × Int))
  | [], _, a, b => some ((a, b), (0, 0, 0))
  | p :: ps, i, a, b => (f p).bind fun r => if r.2.1 = 0 then xparts f ps (i + 1) (if i = 0 then r.1 else a) (if i = 0 then b else r.1) else some ((0, 0), r.2)
/-- What an expression comes to: its number, and the fault's code, line and column. -/
def xeval (F : ByteArray → Option Int) : Nat → S25 → Option (Int × Int × Int × Int)
  | 0, _ => none
  | n + 1, x => if x.f0 = 1 then some (x.f1, 0, 0, 0) else if x.f0 = 2 then (if x.f2.size ≤ 9223372036854775807 then (if (F x.f2).isSome = true then some ((F x.f2).getD 0, 0, 0, 0) else some (0, 121, x.f4, x.f5)) else none)
    else if x.f3.length ≤ 2 then (xparts (xeval F n) x.f3 0 0 0).bind fun r => if r.2.1 = 0 then (number_Work.f x.f0 r.1.1 r.1.2).bind fun q => if q.2 = 0 then some (q.1, 0, 0, 0) else some (0, q.2, x.f4, x.f5) else some (0, r.2)
    else none
theorem faultInfo : (Try.prog.info? 29).map (·.size) = some 3 := by kernel_rfl
theorem xone3 (a b c : Int) : (#[.int .i64 a, .int .i64 b, .int .i64 c] : Array Value).all (·.oneCell') = true := by simp [Value.oneCell']
theorem pair_put (a b v : Int) (i : Nat) (h : i ≤ 1) : (#[.int .i64 a, .int .i64 b] : Array Value).setIfInBounds i (.int .i64 v) = #[.int .i64 (if i = 0 then v else a), .int .i64 (if i = 0 then b else v)] := by
  match i, h with
  | 0, _ => rfl
  | 1, _ => rfl
theorem pair_at (a b : Int) (i : Nat) (h : i ≤ 1) : (#[.int .i64 a, .int .i64 b] : Array Value)[i]? = some (.int .i64 (if i = 0 then a else b)) := by
  match i, h with
  | 0, _ => rfl
  | 1, _ => rfl
set_option maxHeartbeats 1000000 in
theorem eval_fault (e I O : Int) (gx : Nat) (w : World) (h4 : w.cell? ⟨gx, 4, none⟩ = some (.int .i64 I)) (h5 : w.cell? ⟨gx, 5, none⟩ = some (.int .i64 O)) :
    Calls Try.prog 40 #[.int .i64 e, .pointer (some ⟨gx, 0, none⟩)] w fun ex w' => ex = .returned (.agg #[.int .i64 e, .int .i64 I, .int .i64 O]) ∧ Below w.heap.size w w' := by
  have H4 := Aside0.mk h4
  have H5 := Aside0.mk h5
  clear h4 h5
  go_enter Try.func40, Try.ntmps40
  go_wp2_with (first | ((with_reducible refine gate_dst (N := 3) rfl ?_); refine box_event ?hg (N := 3) ?hd (cs := #[.int .i64 0, .int .i64 0, .int .i64 0]) (t := 29) ?hr ?_; (case hd => rfl); (case hg => rfl); (case hr => first | (go_simp; done) | (go_simp; rfl)); intro gr hg w1 hbox hb; have BR := Aside0.mk hbox; have HB1 := Aside0.mk hb; have GR := Aside0.mk (show w.heap.size ≤ gr from by rw [hg]; exact Nat.le_refl _); have h4 : w1.cell? ⟨gx, 4, none⟩ = some (.int .i64 I) := (hb.cell (World.block_lt_of_cell? w _ H4.out)).trans H4.out; have h5 : w1.cell? ⟨gx, 5, none⟩ = some (.int .i64 O) := (hb.cell (World.block_lt_of_cell? w _ H5.out)).trans H5.out; clear hbox hb hg) | (refine xstore_row rfl 29 _ _ rfl gr #[.int .i64 e, .int .i64 I, .int .i64 O] rfl rfl 29 _ BR.out faultInfo rfl (xone3 _ _ _) ?_; intro w2 hbk hgr hbl; have HB2 := Aside0.mk (hbl _ _ HB1.out GR.out); have BR2 := Aside0.mk hbk; clear hbk hgr hbl))
  refine bodyPost_ret (v := .agg #[.int .i64 e, .int .i64 I, .int .i64 O]) (results_cell_row rfl _ _ gr 29 #[.int .i64 e, .int .i64 I, .int .i64 O] (0, 0) _ rfl BR2.out Try.underlying29 rfl faultInfo) rfl ⟨rfl, HB2.out⟩
set_option maxHeartbeats 8000000 in
set_option maxRecDepth 100000 in
theorem number_eval.walk : ∀ (n : Nat) (K N : Int) (S : ByteArray) (A : Option Addr) (C : Nat) (l : List S25) (I O : Int) (g m : Nat) (F : ByteArray → Option Int) (r1 r2 r3 r4 : Int) (w : World), Kd.C k25 w A l.length l → envIs w g m F → xeval F n ⟨K, N, S, l, I, O⟩ = some (r1, r2, r3, r4) →
    Calls Try.prog 24 #[.agg #[.int .u8 K, .int .i64 N, .string S, .slice A l.length C, .int .i64 I, .int .i64 O], .map (some g)] w fun e w' =>
      e = .returned (.tuple #[.int .i64 r1, .agg #[.int .i64 r2, .int .i64 r3, .int .i64 r4]]) ∧ Below w.heap.size w w' := by
  intro n
  induction n with
  | zero =>
    intro K N S A C l I O g m F r1 r2 r3 r4 w hR hM h
    exact absurd h (by simp [xeval])
  | succ n ih =>
    intro K N S A C l I O g m F r1 r2 r3 r4 w hR hM h
    have HIH := Aside0.mk ih
    have HR := Aside0.mk hR
    have HM := Aside0.mk hM
    clear ih hR hM
    simp only [xeval] at h
    go_enter Try.func24, Try.ntmps24
    by_cases k1 : K = 1
    · rw [if_pos k1] at h
      have k1b : (K == 1) = true := beq_iff_eq.mpr k1
      clear k1
      have HE := Aside0.mk (Option.some.inj h)
      clear h
      go_wp2_with (first | ((with_reducible refine gate_dst (N := 2) rfl ?_); refine box_event ?hg (N := 2) ?hd (cs := #[.int .u8 K, .int .i64 N, .string S, .slice A l.length C, .int .i64 I, .int .i64 O]) (t := 25) ?hr ?_; (case hd => rfl); (case hg => rfl); (case hr => first | (go_simp; done) | (go_simp; rfl)); intro gx hg w1 hbox hb; have BX := Aside0.mk hbox; have HB1 := Aside0.mk hb; have HM1 := Aside0.mk (HM.out.below hb); have GX := Aside0.mk (show w.heap.size ≤ gx from by rw [hg]; exact Nat.le_refl _); clear hbox hb hg) | ((with_reducible refine gate_dst (N := 5) rfl ?_); refine box_event ?hg (N := 5) ?hd (cs := #[.int .i64 0, .int .i64 0, .int .i64 0]) (t := 29) ?hr ?_; (case hd => rfl); (case hg => rfl); (case hr => first | (go_simp; done) | (go_simp; rfl)); intro gr hg w2 hbox hb; have BR := Aside0.mk hbox; have HB2 := Aside0.mk (below_step HB1.out hb); have HM2 := Aside0.mk (HM1.out.below hb); have BX2 := Aside0.mk (blk_below BX.out hb); have GR := Aside0.mk (show w.heap.size ≤ gr from by rw [hg]; exact HB1.out.size); have NR := Aside0.mk (show gx ≠ gr from fun e => by have := blk_lt BX.out; omega); have hw0 : w2.cell? ⟨gx, 0, none⟩ = some (.int .u8 K) := (blk_cell BX2.out 0).trans rfl; have hw1 : w2.cell? ⟨gx, 1, none⟩ = some (.int .i64 N) := (blk_cell BX2.out 1).trans rfl; have hw2 : w2.cell? ⟨gx, 2, none⟩ = some (.string S) := (blk_cell BX2.out 2).trans rfl; have hw3 : w2.cell? ⟨gx, 3, none⟩ = some (.slice A l.length C) := (blk_cell BX2.out 3).trans rfl; have hw4 : w2.cell? ⟨gx, 4, none⟩ = some (.int .i64 I) := (blk_cell BX2.out 4).trans rfl; have hw5 : w2.cell? ⟨gx, 5, none⟩ = some (.int .i64 O) := (blk_cell BX2.out 5).trans rfl; clear hbox hb hg) | (refine xstore_row rfl 29 _ _ rfl gr #[.int .i64 0, .int .i64 0, .int .i64 0] rfl rfl 29 _ BR.out faultInfo rfl (xone3 _ _ _) ?_; intro w3 hbk hgr hbl; have HB3 := Aside0.mk (hbl _ _ HB2.out GR.out); have BR3 := Aside0.mk hbk; clear hbk hgr hbl))
      have hE := HE.out
      simp only [Prod.mk.injEq] at hE
      obtain ⟨rfl, rfl, rfl, rfl⟩ := hE
      refine bodyPost_ret (results_tc rfl _ _ gr 29 #[.int .i64 0, .int .i64 0, .int .i64 0] (0, 0) _ rfl BR3.out Try.underlying29 rfl faultInfo) rfl ?_
      exact ⟨rfl, HB3.out⟩
    · rw [if_neg k1] at h
      have k1b : (K == 1) = false := beq_eq_false_iff_ne.2 k1
      clear k1
      by_cases k2 : K = 2
      · rw [if_pos k2] at h
        have k2b : (K == 2) = true := beq_iff_eq.mpr k2
        clear k2
        by_cases hz : S.size ≤ 9223372036854775807
        · rw [if_pos hz] at h
          have HZ := Aside0.mk hz
          clear hz
          cases hf : (F S).isSome with
          | true =>
            rw [hf, if_pos rfl] at h
            have HF := Aside0.mk hf
            have HE := Aside0.mk (Option.some.inj h)
            clear h hf
            go_wp2_with (first | ((with_reducible refine gate_dst (N := 2) rfl ?_); refine box_event ?hg (N := 2) ?hd (cs := #[.int .u8 K, .int .i64 N, .string S, .slice A l.length C, .int .i64 I, .int .i64 O]) (t := 25) ?hr ?_; (case hd => rfl); (case hg => rfl); (case hr => first | (go_simp; done) | (go_simp; rfl)); intro gx hg w1 hbox hb; have BX := Aside0.mk hbox; have HB1 := Aside0.mk hb; have HM1 := Aside0.mk (HM.out.below hb); have GX := Aside0.mk (show w.heap.size ≤ gx from by rw [hg]; exact Nat.le_refl _); clear hbox hb hg) | ((with_reducible refine gate_dst (N := 5) rfl ?_); refine box_event ?hg (N := 5) ?hd (cs := #[.int .i64 0, .int .i64 0, .int .i64 0]) (t := 29) ?hr ?_; (case hd => rfl); (case hg => rfl); (case hr => first | (go_simp; done) | (go_simp; rfl)); intro gr hg w2 hbox hb; have BR := Aside0.mk hbox; have HB2 := Aside0.mk (below_step HB1.out hb); have HM2 := Aside0.mk (HM1.out.below hb); have BX2 := Aside0.mk (blk_below BX.out hb); have GR := Aside0.mk (show w.heap.size ≤ gr from by rw [hg]; exact HB1.out.size); have NR := Aside0.mk (show gx ≠ gr from fun e => by have := blk_lt BX.out; omega); have hw0 : w2.cell? ⟨gx, 0, none⟩ = some (.int .u8 K) := (blk_cell BX2.out 0).trans rfl; have hw1 : w2.cell? ⟨gx, 1, none⟩ = some (.int .i64 N) := (blk_cell BX2.out 1).trans rfl; have hw2 : w2.cell? ⟨gx, 2, none⟩ = some (.string S) := (blk_cell BX2.out 2).trans rfl; have hw3 : w2.cell? ⟨gx, 3, none⟩ = some (.slice A l.length C) := (blk_cell BX2.out 3).trans rfl; have hw4 : w2.cell? ⟨gx, 4, none⟩ = some (.int .i64 I) := (blk_cell BX2.out 4).trans rfl; have hw5 : w2.cell? ⟨gx, 5, none⟩ = some (.int .i64 O) := (blk_cell BX2.out 5).trans rfl; clear hbox hb hg) | (at_lookup; refine xmap_look rfl _ _ rfl rfl HM2.out S rfl HZ.out ?_; rw [HF.out]) | (refine xstore_row rfl 29 _ _ rfl gr #[.int .i64 0, .int .i64 0, .int .i64 0] rfl rfl 29 _ BR.out faultInfo rfl (xone3 _ _ _) ?_; intro w3 hbk hgr hbl; have HB3 := Aside0.mk (hbl _ _ HB2.out GR.out); have BR3 := Aside0.mk hbk; clear hbk hgr hbl))
            have hE := HE.out
            simp only [Prod.mk.injEq] at hE
            obtain ⟨rfl, rfl, rfl, rfl⟩ := hE
            refine bodyPost_ret (results_tc rfl _ _ gr 29 #[.int .i64 0, .int .i64 0, .int .i64 0] (0, 0) _ rfl BR3.out Try.underlying29 rfl faultInfo) rfl ?_
            exact ⟨rfl, HB3.out⟩
          | false =>
            rw [hf, if_neg (by simp)] at h
            have HF := Aside0.mk hf
            have HE := Aside0.mk (Option.some.inj h)
            clear h hf
            go_wp2_with (first | ((with_reducible refine gate_dst (N := 2) rfl ?_); refine box_event ?hg (N := 2) ?hd (cs := #[.int .u8 K, .int .i64 N, .string S, .slice A l.length C, .int .i64 I, .int .i64 O]) (t := 25) ?hr ?_; (case hd => rfl); (case hg => rfl); (case hr => first | (go_simp; done) | (go_simp; rfl)); intro gx hg w1 hbox hb; have BX := Aside0.mk hbox; have HB1 := Aside0.mk hb; have HM1 := Aside0.mk (HM.out.below hb); have GX := Aside0.mk (show w.heap.size ≤ gx from by rw [hg]; exact Nat.le_refl _); clear hbox hb hg) | ((with_reducible refine gate_dst (N := 5) rfl ?_); refine box_event ?hg (N := 5) ?hd (cs := #[.int .i64 0, .int .i64 0, .int .i64 0]) (t := 29) ?hr ?_; (case hd => rfl); (case hg => rfl); (case hr => first | (go_simp; done) | (go_simp; rfl)); intro gr hg w2 hbox hb; have BR := Aside0.mk hbox; have HB2 := Aside0.mk (below_step HB1.out hb); have HM2 := Aside0.mk (HM1.out.below hb); have BX2 := Aside0.mk (blk_below BX.out hb); have GR := Aside0.mk (show w.heap.size ≤ gr from by rw [hg]; exact HB1.out.size); have NR := Aside0.mk (show gx ≠ gr from fun e => by have := blk_lt BX.out; omega); have hw0 : w2.cell? ⟨gx, 0, none⟩ = some (.int .u8 K) := (blk_cell BX2.out 0).trans rfl; have hw1 : w2.cell? ⟨gx, 1, none⟩ = some (.int .i64 N) := (blk_cell BX2.out 1).trans rfl; have hw2 : w2.cell? ⟨gx, 2, none⟩ = some (.string S) := (blk_cell BX2.out 2).trans rfl; have hw3 : w2.cell? ⟨gx, 3, none⟩ = some (.slice A l.length C) := (blk_cell BX2.out 3).trans rfl; have hw4 : w2.cell? ⟨gx, 4, none⟩ = some (.int .i64 I) := (blk_cell BX2.out 4).trans rfl; have hw5 : w2.cell? ⟨gx, 5, none⟩ = some (.int .i64 O) := (blk_cell BX2.out 5).trans rfl; clear hbox hb hg) | (at_lookup; refine xmap_look rfl _ _ rfl rfl HM2.out S rfl HZ.out ?_; rw [HF.out]) | (go_at_call 40; refine (eval_fault 121 I O gx _ hw4 hw5).mono ?_; rintro e w4 ⟨rfl, hb⟩; have HB4 := Aside0.mk (below_step HB2.out hb); have BR4 := Aside0.mk (blk_below BR.out hb); clear hb) | (refine xstore_row rfl 29 _ _ rfl gr #[.int .i64 121, .int .i64 I, .int .i64 O] rfl rfl 29 _ BR4.out faultInfo rfl (xone3 _ _ _) ?_; intro w5 hbk hgr hbl; have HB5 := Aside0.mk (hbl _ _ HB4.out GR.out); have BR5 := Aside0.mk hbk; clear hbk hgr hbl))
            have hE := HE.out
            simp only [Prod.mk.injEq] at hE
            obtain ⟨rfl, rfl, rfl, rfl⟩ := hE
            refine bodyPost_ret (results_tc rfl _ _ gr 29 #[.int .i64 121, .int .i64 I, .int .i64 O] (0, 0) _ rfl BR5.out Try.underlying29 rfl faultInfo) rfl ?_
            exact ⟨rfl, HB5.out⟩
        · rw [if_neg hz] at h
          exact absurd h (by simp)
      · rw [if_neg k2] at h
        have k2b : (K == 2) = false := beq_eq_false_iff_ne.2 k2
        clear k2
        by_cases hl : l.length ≤ 2
        · rw [if_pos hl] at h
          obtain ⟨PR, hp, hq⟩ := Option.bind_eq_some_iff.1 h
          obtain ⟨⟨pa, pb⟩, pc, pl, po⟩ := PR
          have HL := Aside0.mk hl
          have HP := Aside0.mk (show xparts (xeval F n) (l.drop 0) 0 0 0 = some ((pa, pb), (pc, pl, po)) from hp)
          have HQ := Aside0.mk hq
          clear h hp hq hl
          go_upto_region 11 with (first | ((with_reducible refine gate_dst (N := 2) rfl ?_); refine box_event ?hg (N := 2) ?hd (cs := #[.int .u8 K, .int .i64 N, .string S, .slice A l.length C, .int .i64 I, .int .i64 O]) (t := 25) ?hr ?_; (case hd => rfl); (case hg => rfl); (case hr => first | (go_simp; done) | (go_simp; rfl)); intro gx hg w1 hbox hb; have BX := Aside0.mk hbox; have HB1 := Aside0.mk hb; have HM1 := Aside0.mk (HM.out.below hb); have GX := Aside0.mk (show w.heap.size ≤ gx from by rw [hg]; exact Nat.le_refl _); clear hbox hb hg) | ((with_reducible refine gate_dst (N := 5) rfl ?_); refine box_event ?hg (N := 5) ?hd (cs := #[.int .i64 0, .int .i64 0, .int .i64 0]) (t := 29) ?hr ?_; (case hd => rfl); (case hg => rfl); (case hr => first | (go_simp; done) | (go_simp; rfl)); intro gr hg w2 hbox hb; have BR := Aside0.mk hbox; have HB2 := Aside0.mk (below_step HB1.out hb); have HM2 := Aside0.mk (HM1.out.below hb); have BX2 := Aside0.mk (blk_below BX.out hb); have GR := Aside0.mk (show w.heap.size ≤ gr from by rw [hg]; exact HB1.out.size); have NR := Aside0.mk (show gx ≠ gr from fun e => by have := blk_lt BX.out; omega); have hw0 : w2.cell? ⟨gx, 0, none⟩ = some (.int .u8 K) := (blk_cell BX2.out 0).trans rfl; have hw1 : w2.cell? ⟨gx, 1, none⟩ = some (.int .i64 N) := (blk_cell BX2.out 1).trans rfl; have hw2 : w2.cell? ⟨gx, 2, none⟩ = some (.string S) := (blk_cell BX2.out 2).trans rfl; have hw3 : w2.cell? ⟨gx, 3, none⟩ = some (.slice A l.length C) := (blk_cell BX2.out 3).trans rfl; have hw4 : w2.cell? ⟨gx, 4, none⟩ = some (.int .i64 I) := (blk_cell BX2.out 4).trans rfl; have hw5 : w2.cell? ⟨gx, 5, none⟩ = some (.int .i64 O) := (blk_cell BX2.out 5).trans rfl; clear hbox hb hg) | ((with_reducible refine gate_dst (N := 9) rfl ?_); refine box_event ?hg (N := 9) ?hd (cs := #[.int .i64 0, .int .i64 0]) (t := 81) ?hr ?_; (case hd => rfl); (case hg => rfl); (case hr => first | (go_simp; done) | (go_simp; rfl)); intro ga hg w3 hbox hb; have BA := Aside0.mk hbox; have HB3 := Aside0.mk (below_step HB2.out hb); have HM3 := Aside0.mk (HM2.out.below hb); have BX3 := Aside0.mk (blk_below BX2.out hb); have BR3 := Aside0.mk (blk_below BR.out hb); have GA := Aside0.mk (show w.heap.size ≤ ga from by rw [hg]; exact HB2.out.size); have NAX := Aside0.mk (show gx ≠ ga from fun e => by have := blk_lt BX2.out; omega); have NAR := Aside0.mk (show gr ≠ ga from fun e => by have := blk_lt BR.out; omega); have NAM := Aside0.mk (show some g ≠ some ga from fun e => by cases e; exact absurd HM2.out.lt (by omega)); have hz0 : w3.cell? ⟨gx, 0, none⟩ = some (.int .u8 K) := (blk_cell BX3.out 0).trans rfl; have hz1 : w3.cell? ⟨gx, 1, none⟩ = some (.int .i64 N) := (blk_cell BX3.out 1).trans rfl; have hz2 : w3.cell? ⟨gx, 2, none⟩ = some (.string S) := (blk_cell BX3.out 2).trans rfl; have hz3 : w3.cell? ⟨gx, 3, none⟩ = some (.slice A l.length C) := (blk_cell BX3.out 3).trans rfl; have hz4 : w3.cell? ⟨gx, 4, none⟩ = some (.int .i64 I) := (blk_cell BX3.out 4).trans rfl; have hz5 : w3.cell? ⟨gx, 5, none⟩ = some (.int .i64 O) := (blk_cell BX3.out 5).trans rfl; clear hbox hb hg))
          go_wp2
          go_loopg [42] l.length (fun q v42 wx => ∃ (i : Nat) (a b : Int), i + q = l.length ∧ v42 = .int .i64 i ∧ Aside0 (xparts (xeval F n) (l.drop i) i a b = some ((pa, pb), (pc, pl, po))) ∧ Aside0 (wx.heap[ga]? = some (.cells #[.int .i64 a, .int .i64 b] 81 (0, 0))) ∧ Aside0 (wx.heap[gx]? = some (.cells #[.int .u8 K, .int .i64 N, .string S, .slice A l.length C, .int .i64 I, .int .i64 O] 25 (0, 0))) ∧ Aside0 (wx.heap[gr]? = some (.cells #[.int .i64 0, .int .i64 0, .int .i64 0] 29 (0, 0))) ∧ Aside0 (envIs wx g m F) ∧ Aside0 (Below w.heap.size w wx))
          case atStart => exact ⟨0, 0, 0, by omega, rfl, HP, BA, BX3, BR3, HM3, HB3⟩
          case round =>
            clear HP BA BX BX2 BX3 BR BR3 HM HM1 HM2 HM3 HB1 HB2 HB3 hz0 hz1 hz2 hz3 hz4 hz5 hw0 hw1 hw2 hw3 hw4 hw5
            obtain ⟨i, a, b, hi, rfl, HP, BA, BX, BR, HM, HB⟩ := hrel
            cases gk with
            | zero =>
              obtain rfl : i = l.length := by omega
              have hP := HP.out
              rw [List.drop_length] at hP
              simp only [xparts, Option.some.injEq, Prod.mk.injEq] at hP
              obtain ⟨⟨rfl, rfl⟩, rfl, rfl, rfl⟩ := hP
              have hq := HQ.out
              try dsimp only at hq
              rw [if_pos rfl] at hq
              obtain ⟨⟨q1, q2⟩, hw, hq⟩ := Option.bind_eq_some_iff.1 hq
              dsimp only at hq
              have HW := Aside0.mk hw
              clear HQ hw HP
              have hz0 : wr.cell? ⟨gx, 0, none⟩ = some (.int .u8 K) := (blk_cell BX.out 0).trans rfl; have hz1 : wr.cell? ⟨gx, 1, none⟩ = some (.int .i64 N) := (blk_cell BX.out 1).trans rfl; have hz2 : wr.cell? ⟨gx, 2, none⟩ = some (.string S) := (blk_cell BX.out 2).trans rfl; have hz3 : wr.cell? ⟨gx, 3, none⟩ = some (.slice A l.length C) := (blk_cell BX.out 3).trans rfl; have hz4 : wr.cell? ⟨gx, 4, none⟩ = some (.int .i64 I) := (blk_cell BX.out 4).trans rfl; have hz5 : wr.cell? ⟨gx, 5, none⟩ = some (.int .i64 O) := (blk_cell BX.out 5).trans rfl
              have ha0 : wr.cell? ⟨ga, 0, none⟩ = some (.int .i64 a) := (blk_cell BA.out 0).trans rfl; have ha1 : wr.cell? ⟨ga, 1, none⟩ = some (.int .i64 b) := (blk_cell BA.out 1).trans rfl
              by_cases c2 : q2 = 0
              · rw [if_pos c2] at hq
                have HE := Aside0.mk (Option.some.inj hq)
                have c2b : (q2 != 0) = false := bne_eq_false_iff_eq.mpr c2
                clear hq c2
                go_wp2_with (first | (go_at_call 19; refine (number_Work.calls K a b q1 q2 _ HW.out).mono ?_; rintro e w4 ⟨rfl, hb⟩; have HB4 := Aside0.mk (below_step HB.out hb); have BX4 := Aside0.mk (blk_below BX.out hb); have BR4 := Aside0.mk (blk_below BR.out hb); have hv0 : w4.cell? ⟨gx, 0, none⟩ = some (.int .u8 K) := (blk_cell BX4.out 0).trans rfl; have hv1 : w4.cell? ⟨gx, 1, none⟩ = some (.int .i64 N) := (blk_cell BX4.out 1).trans rfl; have hv2 : w4.cell? ⟨gx, 2, none⟩ = some (.string S) := (blk_cell BX4.out 2).trans rfl; have hv3 : w4.cell? ⟨gx, 3, none⟩ = some (.slice A l.length C) := (blk_cell BX4.out 3).trans rfl; have hv4 : w4.cell? ⟨gx, 4, none⟩ = some (.int .i64 I) := (blk_cell BX4.out 4).trans rfl; have hv5 : w4.cell? ⟨gx, 5, none⟩ = some (.int .i64 O) := (blk_cell BX4.out 5).trans rfl; clear hb) | (refine xstore_row rfl 29 _ _ rfl gr #[.int .i64 0, .int .i64 0, .int .i64 0] rfl rfl 29 _ BR4.out faultInfo rfl (xone3 _ _ _) ?_; intro w5 hbk hgr hbl; have HB5 := Aside0.mk (hbl _ _ HB4.out GR.out); have BR5 := Aside0.mk hbk; clear hbk hgr hbl))
                have hE := HE.out
                simp only [Prod.mk.injEq] at hE
                obtain ⟨rfl, rfl, rfl, rfl⟩ := hE
                refine bodyPost_ret (results_tc rfl _ _ gr 29 #[.int .i64 0, .int .i64 0, .int .i64 0] (0, 0) _ rfl BR5.out Try.underlying29 rfl faultInfo) rfl ?_
                exact ⟨rfl, HB5.out⟩
              · rw [if_neg c2] at hq
                have HE := Aside0.mk (Option.some.inj hq)
                have c2b : (q2 != 0) = true := bne_iff_ne.mpr c2
                clear hq c2
                go_wp2_with (first | (go_at_call 19; refine (number_Work.calls K a b q1 q2 _ HW.out).mono ?_; rintro e w4 ⟨rfl, hb⟩; have HB4 := Aside0.mk (below_step HB.out hb); have BX4 := Aside0.mk (blk_below BX.out hb); have BR4 := Aside0.mk (blk_below BR.out hb); have hv0 : w4.cell? ⟨gx, 0, none⟩ = some (.int .u8 K) := (blk_cell BX4.out 0).trans rfl; have hv1 : w4.cell? ⟨gx, 1, none⟩ = some (.int .i64 N) := (blk_cell BX4.out 1).trans rfl; have hv2 : w4.cell? ⟨gx, 2, none⟩ = some (.string S) := (blk_cell BX4.out 2).trans rfl; have hv3 : w4.cell? ⟨gx, 3, none⟩ = some (.slice A l.length C) := (blk_cell BX4.out 3).trans rfl; have hv4 : w4.cell? ⟨gx, 4, none⟩ = some (.int .i64 I) := (blk_cell BX4.out 4).trans rfl; have hv5 : w4.cell? ⟨gx, 5, none⟩ = some (.int .i64 O) := (blk_cell BX4.out 5).trans rfl; clear hb) | (go_at_call 40; refine (eval_fault q2 I O gx _ hv4 hv5).mono ?_; rintro e w5 ⟨rfl, hb⟩; have HB5 := Aside0.mk (below_step HB4.out hb); have BR5 := Aside0.mk (blk_below BR4.out hb); clear hb) | (refine xstore_row rfl 29 _ _ rfl gr #[.int .i64 q2, .int .i64 I, .int .i64 O] rfl rfl 29 _ BR5.out faultInfo rfl (xone3 _ _ _) ?_; intro w6 hbk hgr hbl; have HB6 := Aside0.mk (hbl _ _ HB5.out GR.out); have BR6 := Aside0.mk hbk; clear hbk hgr hbl))
                have hE := HE.out
                simp only [Prod.mk.injEq] at hE
                obtain ⟨rfl, rfl, rfl, rfl⟩ := hE
                refine bodyPost_ret (results_tc rfl _ _ gr 29 #[.int .i64 q2, .int .i64 I, .int .i64 O] (0, 0) _ rfl BR6.out Try.underlying29 rfl faultInfo) rfl ?_
                exact ⟨rfl, HB6.out⟩
            | succ q =>
              have hik : i < l.length := by omega
              have hlt : decide ((i : Int) < (l.length : Int)) = true := decide_eq_true (by omega)
              have hP := HP.out
              clear HP
              rw [rd_drop25 l i hik] at hP
              obtain ⟨ad, A3, c3, e0, hx0, hx1, hx2, hx3, hx4, hx5, hlc, hRC⟩ := at_T25 HR.out (i : Int) (by omega) (by omega)
              subst e0
              rw [Int.toNat_natCast] at hx0 hx1 hx2 hx3 hx4 hx5
              generalize rd_T25 l (i : Int) = y at hP hx0 hx1 hx2 hx3 hx4 hx5 hlc hRC
              obtain ⟨K2, N2, S2, l2, I2, O2⟩ := y
              dsimp only at hP hx0 hx1 hx2 hx3 hx4 hx5 hlc hRC
              replace hx0 := (HB.out.cell (World.block_lt_of_cell? w _ hx0)).trans hx0
              replace hx1 := (HB.out.cell (World.block_lt_of_cell? w _ hx1)).trans hx1
              replace hx2 := (HB.out.cell (World.block_lt_of_cell? w _ hx2)).trans hx2
              replace hx3 := (HB.out.cell (World.block_lt_of_cell? w _ hx3)).trans hx3
              replace hx4 := (HB.out.cell (World.block_lt_of_cell? w _ hx4)).trans hx4
              replace hx5 := (HB.out.cell (World.block_lt_of_cell? w _ hx5)).trans hx5
              have HRC := Aside0.mk hRC
              have HII := Aside0.mk (show i ≤ 1 by have := HL.out; omega)
              simp only [xparts] at hP
              clear hRC hlc
              obtain ⟨⟨y1, y2, y3, y4⟩, hy, hP⟩ := Option.bind_eq_some_iff.1 hP
              have HY := Aside0.mk hy
              clear hy
              dsimp only at hP
              by_cases c2 : y2 = 0
              · rw [if_pos c2] at hP
                have HP := Aside0.mk hP
                have c2b : (y2 != 0) = false := bne_eq_false_iff_eq.mpr c2
                have i2b : decide ((i : Int) < 2) = true := decide_eq_true (by have := HII.out; omega)
                have i2c : (i : Int) < 2 := by have := HII.out; omega
                clear hP c2
                go_wp2_with (first | ((with_reducible refine gate_dst (N := 11) rfl ?_); refine box_event ?hg (N := 11) ?hd (cs := #[.int .u8 0, .int .i64 0, .string (⟨#[]⟩ : ByteArray), .slice none 0 0, .int .i64 0, .int .i64 0]) (t := 25) ?hr ?_; (case hd => rfl); (case hg => rfl); (case hr => first | (go_simp; done) | (go_simp; rfl)); intro gp hg w3 hbox hb; have BP := Aside0.mk hbox; have BA3 := Aside0.mk (blk_below BA.out hb); have BX3 := Aside0.mk (blk_below BX.out hb); have BR3 := Aside0.mk (blk_below BR.out hb); have HM3 := Aside0.mk (HM.out.below hb); have HB3 := Aside0.mk (below_step HB.out hb); have GP := Aside0.mk (show w.heap.size ≤ gp from by rw [hg]; exact HB.out.size); have NPA := Aside0.mk (show ga ≠ gp from fun e => by have := blk_lt BA.out; omega); have NPX := Aside0.mk (show gx ≠ gp from fun e => by have := blk_lt BX.out; omega); have NPR := Aside0.mk (show gr ≠ gp from fun e => by have := blk_lt BR.out; omega); have NPM := Aside0.mk (show g ≠ gp from fun e => by have := HM.out.lt; omega); clear hbox hb hg) | (refine xstore_row rfl 25 _ _ rfl gp #[.int .u8 K2, .int .i64 N2, .string S2, .slice A3 l2.length c3, .int .i64 I2, .int .i64 O2] rfl rfl 25 _ BP.out exprInfo rfl (xone6 _ _ _ _ _ _ _ _) ?_; intro w4 hbk hgr hbl; have hp0 : w4.cell? ⟨gp, 0, none⟩ = some (.int .u8 K2) := (blk_cell hbk 0).trans rfl; have hp1 : w4.cell? ⟨gp, 1, none⟩ = some (.int .i64 N2) := (blk_cell hbk 1).trans rfl; have hp2 : w4.cell? ⟨gp, 2, none⟩ = some (.string S2) := (blk_cell hbk 2).trans rfl; have hp3 : w4.cell? ⟨gp, 3, none⟩ = some (.slice A3 l2.length c3) := (blk_cell hbk 3).trans rfl; have hp4 : w4.cell? ⟨gp, 4, none⟩ = some (.int .i64 I2) := (blk_cell hbk 4).trans rfl; have hp5 : w4.cell? ⟨gp, 5, none⟩ = some (.int .i64 O2) := (blk_cell hbk 5).trans rfl; have HB4 := Aside0.mk (hbl _ _ HB3.out GP.out); have BA4 := Aside0.mk (blk_grown BA3.out hgr (by simp only [ne_eq, Option.some.injEq]; exact NPA.out)); have BX4 := Aside0.mk (blk_grown BX3.out hgr (by simp only [ne_eq, Option.some.injEq]; exact NPX.out)); have BR4 := Aside0.mk (blk_grown BR3.out hgr (by simp only [ne_eq, Option.some.injEq]; exact NPR.out)); have HM4 := Aside0.mk (HM3.out.kept hgr (by simp only [ne_eq, Option.some.injEq]; exact NPM.out)); clear hbk hgr hbl) | (go_at_call 24; refine (HIH.out K2 N2 S2 A3 c3 l2 I2 O2 g m F y1 y2 y3 y4 _ (Kd.C_below HRC.out HB4.out) HM4.out HY.out).mono ?_; rintro e w5 ⟨rfl, hb⟩; have BA5 := Aside0.mk (blk_below BA4.out hb); have BX5 := Aside0.mk (blk_below BX4.out hb); have BR5 := Aside0.mk (blk_below BR4.out hb); have HM5 := Aside0.mk (HM4.out.below hb); have HB5 := Aside0.mk (below_step HB4.out hb); clear hb) | ((with_reducible refine gate_dst (N := 13) rfl ?_); refine box_event ?hg (N := 13) ?hd (cs := #[.int .i64 0, .int .i64 0, .int .i64 0]) (t := 29) ?hr ?_; (case hd => rfl); (case hg => rfl); (case hr => first | (go_simp; done) | (go_simp; rfl)); intro gf hg w6 hbox hb; have BF := Aside0.mk hbox; have BA6 := Aside0.mk (blk_below BA5.out hb); have BX6 := Aside0.mk (blk_below BX5.out hb); have BR6 := Aside0.mk (blk_below BR5.out hb); have HM6 := Aside0.mk (HM5.out.below hb); have HB6 := Aside0.mk (below_step HB5.out hb); have GF := Aside0.mk (show w.heap.size ≤ gf from by rw [hg]; exact HB5.out.size); have NFA := Aside0.mk (show ga ≠ gf from fun e => by have := blk_lt BA5.out; omega); have NFX := Aside0.mk (show gx ≠ gf from fun e => by have := blk_lt BX5.out; omega); have NFR := Aside0.mk (show gr ≠ gf from fun e => by have := blk_lt BR5.out; omega); have NFM := Aside0.mk (show g ≠ gf from fun e => by have := HM5.out.lt; omega); clear hbox hb hg) | (refine xstore_row rfl 29 _ _ rfl gf #[.int .i64 y2, .int .i64 y3, .int .i64 y4] rfl rfl 29 _ BF.out faultInfo rfl (xone3 _ _ _) ?_; intro w8 hbk hgr hbl; have BF8 := Aside0.mk hbk; have BA8 := Aside0.mk (blk_grown BA6.out hgr (by simp only [ne_eq, Option.some.injEq]; exact NFA.out)); have BX8 := Aside0.mk (blk_grown BX6.out hgr (by simp only [ne_eq, Option.some.injEq]; exact NFX.out)); have BR8 := Aside0.mk (blk_grown BR6.out hgr (by simp only [ne_eq, Option.some.injEq]; exact NFR.out)); have HM8 := Aside0.mk (HM6.out.kept hgr (by simp only [ne_eq, Option.some.injEq]; exact NFM.out)); have hf0 : w8.cell? ⟨gf, 0, none⟩ = some (.int .i64 y2) := (blk_cell hbk 0).trans rfl; have hf1 : w8.cell? ⟨gf, 1, none⟩ = some (.int .i64 y3) := (blk_cell hbk 1).trans rfl; have hf2 : w8.cell? ⟨gf, 2, none⟩ = some (.int .i64 y4) := (blk_cell hbk 2).trans rfl; have hai : w8.cell? ⟨ga, i, none⟩ = some (.int .i64 (if i = 0 then a else b)) := (blk_cell BA8.out i).trans (pair_at a b i HII.out); have hfi : w8.frozen? ⟨ga, i, none⟩ = false := blk_frozen BA8.out i; have HB8 := Aside0.mk (hbl _ _ HB6.out GF.out); clear hbk hgr hbl))
                go_roundg q
                case measure => omega
                case rel =>
                  refine ⟨i + 1, _, _, by omega, ?_, HP, ⟨?_⟩, ⟨?_⟩, ⟨?_⟩, ⟨?_⟩, ⟨?_⟩⟩
                  · have h2 := HII.out; first | rfl | (rw [xw64 (by omega) (by omega)]; simp)
                  · exact blk_put BA8.out i (.int .i64 y1) (pair_put a b y1 i HII.out)
                  · exact blk_far BX8.out NAX.out _
                  · exact blk_far BR8.out NAR.out _
                  · exact HM8.out.setCell (fun e => NAM.out (by rw [e])) _
                  · exact below_set HB8.out GA.out
              · rw [if_neg c2] at hP
                have HE := Aside0.mk (Option.some.inj hP)
                have c2b : (y2 != 0) = true := bne_iff_ne.mpr c2
                have HN2 := Aside0.mk c2
                clear hP c2
                go_upto_region 16 with (first | ((with_reducible refine gate_dst (N := 11) rfl ?_); refine box_event ?hg (N := 11) ?hd (cs := #[.int .u8 0, .int .i64 0, .string (⟨#[]⟩ : ByteArray), .slice none 0 0, .int .i64 0, .int .i64 0]) (t := 25) ?hr ?_; (case hd => rfl); (case hg => rfl); (case hr => first | (go_simp; done) | (go_simp; rfl)); intro gp hg w3 hbox hb; have BP := Aside0.mk hbox; have BA3 := Aside0.mk (blk_below BA.out hb); have BX3 := Aside0.mk (blk_below BX.out hb); have BR3 := Aside0.mk (blk_below BR.out hb); have HM3 := Aside0.mk (HM.out.below hb); have HB3 := Aside0.mk (below_step HB.out hb); have GP := Aside0.mk (show w.heap.size ≤ gp from by rw [hg]; exact HB.out.size); have NPA := Aside0.mk (show ga ≠ gp from fun e => by have := blk_lt BA.out; omega); have NPX := Aside0.mk (show gx ≠ gp from fun e => by have := blk_lt BX.out; omega); have NPR := Aside0.mk (show gr ≠ gp from fun e => by have := blk_lt BR.out; omega); have NPM := Aside0.mk (show g ≠ gp from fun e => by have := HM.out.lt; omega); clear hbox hb hg) | (refine xstore_row rfl 25 _ _ rfl gp #[.int .u8 K2, .int .i64 N2, .string S2, .slice A3 l2.length c3, .int .i64 I2, .int .i64 O2] rfl rfl 25 _ BP.out exprInfo rfl (xone6 _ _ _ _ _ _ _ _) ?_; intro w4 hbk hgr hbl; have hp0 : w4.cell? ⟨gp, 0, none⟩ = some (.int .u8 K2) := (blk_cell hbk 0).trans rfl; have hp1 : w4.cell? ⟨gp, 1, none⟩ = some (.int .i64 N2) := (blk_cell hbk 1).trans rfl; have hp2 : w4.cell? ⟨gp, 2, none⟩ = some (.string S2) := (blk_cell hbk 2).trans rfl; have hp3 : w4.cell? ⟨gp, 3, none⟩ = some (.slice A3 l2.length c3) := (blk_cell hbk 3).trans rfl; have hp4 : w4.cell? ⟨gp, 4, none⟩ = some (.int .i64 I2) := (blk_cell hbk 4).trans rfl; have hp5 : w4.cell? ⟨gp, 5, none⟩ = some (.int .i64 O2) := (blk_cell hbk 5).trans rfl; have HB4 := Aside0.mk (hbl _ _ HB3.out GP.out); have BA4 := Aside0.mk (blk_grown BA3.out hgr (by simp only [ne_eq, Option.some.injEq]; exact NPA.out)); have BX4 := Aside0.mk (blk_grown BX3.out hgr (by simp only [ne_eq, Option.some.injEq]; exact NPX.out)); have BR4 := Aside0.mk (blk_grown BR3.out hgr (by simp only [ne_eq, Option.some.injEq]; exact NPR.out)); have HM4 := Aside0.mk (HM3.out.kept hgr (by simp only [ne_eq, Option.some.injEq]; exact NPM.out)); clear hbk hgr hbl) | (go_at_call 24; refine (HIH.out K2 N2 S2 A3 c3 l2 I2 O2 g m F y1 y2 y3 y4 _ (Kd.C_below HRC.out HB4.out) HM4.out HY.out).mono ?_; rintro e w5 ⟨rfl, hb⟩; have BA5 := Aside0.mk (blk_below BA4.out hb); have BX5 := Aside0.mk (blk_below BX4.out hb); have BR5 := Aside0.mk (blk_below BR4.out hb); have HM5 := Aside0.mk (HM4.out.below hb); have HB5 := Aside0.mk (below_step HB4.out hb); clear hb) | ((with_reducible refine gate_dst (N := 13) rfl ?_); refine box_event ?hg (N := 13) ?hd (cs := #[.int .i64 0, .int .i64 0, .int .i64 0]) (t := 29) ?hr ?_; (case hd => rfl); (case hg => rfl); (case hr => first | (go_simp; done) | (go_simp; rfl)); intro gf hg w6 hbox hb; have BF := Aside0.mk hbox; have BA6 := Aside0.mk (blk_below BA5.out hb); have BX6 := Aside0.mk (blk_below BX5.out hb); have BR6 := Aside0.mk (blk_below BR5.out hb); have HM6 := Aside0.mk (HM5.out.below hb); have HB6 := Aside0.mk (below_step HB5.out hb); have GF := Aside0.mk (show w.heap.size ≤ gf from by rw [hg]; exact HB5.out.size); have NFA := Aside0.mk (show ga ≠ gf from fun e => by have := blk_lt BA5.out; omega); have NFX := Aside0.mk (show gx ≠ gf from fun e => by have := blk_lt BX5.out; omega); have NFR := Aside0.mk (show gr ≠ gf from fun e => by have := blk_lt BR5.out; omega); have NFM := Aside0.mk (show g ≠ gf from fun e => by have := HM5.out.lt; omega); clear hbox hb hg) | (refine xstore_row rfl 29 _ _ rfl gf #[.int .i64 y2, .int .i64 y3, .int .i64 y4] rfl rfl 29 _ BF.out faultInfo rfl (xone3 _ _ _) ?_; intro w8 hbk hgr hbl; have BF8 := Aside0.mk hbk; have BA8 := Aside0.mk (blk_grown BA6.out hgr (by simp only [ne_eq, Option.some.injEq]; exact NFA.out)); have BX8 := Aside0.mk (blk_grown BX6.out hgr (by simp only [ne_eq, Option.some.injEq]; exact NFX.out)); have BR8 := Aside0.mk (blk_grown BR6.out hgr (by simp only [ne_eq, Option.some.injEq]; exact NFR.out)); have HM8 := Aside0.mk (HM6.out.kept hgr (by simp only [ne_eq, Option.some.injEq]; exact NFM.out)); have hf0 : w8.cell? ⟨gf, 0, none⟩ = some (.int .i64 y2) := (blk_cell hbk 0).trans rfl; have hf1 : w8.cell? ⟨gf, 1, none⟩ = some (.int .i64 y3) := (blk_cell hbk 1).trans rfl; have hf2 : w8.cell? ⟨gf, 2, none⟩ = some (.int .i64 y4) := (blk_cell hbk 2).trans rfl; have hai : w8.cell? ⟨ga, i, none⟩ = some (.int .i64 (if i = 0 then a else b)) := (blk_cell BA8.out i).trans (pair_at a b i HII.out); have hfi : w8.frozen? ⟨ga, i, none⟩ = false := blk_frozen BA8.out i; have HB8 := Aside0.mk (hbl _ _ HB6.out GF.out); clear hbk hgr hbl))
                have he0 : w8.cell? ⟨gf, 0, none⟩ = some (.int .i64 y2) := (blk_cell BF8.out 0).trans rfl; have he1 : w8.cell? ⟨gf, 1, none⟩ = some (.int .i64 y3) := (blk_cell BF8.out 1).trans rfl; have he2 : w8.cell? ⟨gf, 2, none⟩ = some (.int .i64 y4) := (blk_cell BF8.out 2).trans rfl
                have hq0 : w8.cell? ⟨gr, 0, none⟩ = some (.int .i64 0) := (blk_cell BR8.out 0).trans rfl; have hq1 : w8.cell? ⟨gr, 1, none⟩ = some (.int .i64 0) := (blk_cell BR8.out 1).trans rfl; have hq2 : w8.cell? ⟨gr, 2, none⟩ = some (.int .i64 0) := (blk_cell BR8.out 2).trans rfl
                have fq0 : w8.frozen? ⟨gr, 0, none⟩ = false := blk_frozen BR8.out 0; have fq1 : w8.frozen? ⟨gr, 1, none⟩ = false := blk_frozen BR8.out 1; have fq2 : w8.frozen? ⟨gr, 2, none⟩ = false := blk_frozen BR8.out 2
                have hd0 : w8.drew.cell? ⟨gf, 0, none⟩ = some (.int .i64 y2) := (blk_cell (blk_drew BF8.out) 0).trans rfl; have hd1 : w8.drew.cell? ⟨gf, 1, none⟩ = some (.int .i64 y3) := (blk_cell (blk_drew BF8.out) 1).trans rfl; have hd2 : w8.drew.cell? ⟨gf, 2, none⟩ = some (.int .i64 y4) := (blk_cell (blk_drew BF8.out) 2).trans rfl
                have hr0 : w8.drew.cell? ⟨gr, 0, none⟩ = some (.int .i64 0) := (blk_cell (blk_drew BR8.out) 0).trans rfl; have hr1 : w8.drew.cell? ⟨gr, 1, none⟩ = some (.int .i64 0) := (blk_cell (blk_drew BR8.out) 1).trans rfl; have hr2 : w8.drew.cell? ⟨gr, 2, none⟩ = some (.int .i64 0) := (blk_cell (blk_drew BR8.out) 2).trans rfl
                have fr0 : w8.drew.frozen? ⟨gr, 0, none⟩ = false := blk_frozen (blk_drew BR8.out) 0; have fr1 : w8.drew.frozen? ⟨gr, 1, none⟩ = false := blk_frozen (blk_drew BR8.out) 1; have fr2 : w8.drew.frozen? ⟨gr, 2, none⟩ = false := blk_frozen (blk_drew BR8.out) 2
                go_region
                all_goals (try go_wp2)
                all_goals (have hE := HE.out; simp only [Prod.mk.injEq] at hE; obtain ⟨⟨rfl, rfl⟩, rfl, rfl, rfl⟩ := hE)
                all_goals (have hq := HQ.out)
                all_goals (try dsimp only at hq)
                all_goals (rw [if_neg HN2.out] at hq; simp only [Option.some.injEq, Prod.mk.injEq] at hq; obtain ⟨rfl, rfl, rfl, rfl⟩ := hq)
                all_goals (refine bodyPost_ret (results_tc rfl _ _ gr 29 #[.int .i64 y2, .int .i64 y3, .int .i64 y4] (0, 0) _ rfl (by (with_reducible repeat (first | refine blk_drewN ?_ _ | refine blk_drew ?_ | refine blk_alloc ?_ _)); refine blk_put (cs := #[.int .i64 y2, .int .i64 y3, .int .i64 0]) ?_ 2 _ rfl; (with_reducible repeat (first | refine blk_drewN ?_ _ | refine blk_drew ?_ | refine blk_alloc ?_ _)); refine blk_put (cs := #[.int .i64 y2, .int .i64 0, .int .i64 0]) ?_ 1 _ rfl; (with_reducible repeat (first | refine blk_drewN ?_ _ | refine blk_drew ?_ | refine blk_alloc ?_ _)); refine blk_put (cs := #[.int .i64 0, .int .i64 0, .int .i64 0]) ?_ 0 _ rfl; (with_reducible repeat (first | refine blk_drewN ?_ _ | refine blk_drew ?_ | refine blk_alloc ?_ _)); exact BR8.out) Try.underlying29 rfl faultInfo) rfl ?_)
                all_goals (refine ⟨rfl, ?_⟩)
                all_goals (repeat (first | (with_reducible first | exact HB8.out | apply below_alloc | apply pw_below_drewN | apply below_drew1 | refine below_set ?_ GR.out) | exact HB8.out))
        · rw [if_neg hl] at h
          exact absurd h (by simp)

end Go.Proofs.Ytnojokempdcikaa.PA

namespace Go.Proofs.Ytnojokempdcikaa.PA
open Go.RowKit Go.Proofs.YtnojokempdcikaaW.PrintWords Go.Proofs.YtnojokempdcikaaW.PrintLast Go.Proofs.YtnojokempdcikaaW.PrintMore
attribute [local go_sem] max2_int min2_int max_two min_two max_three min_three max_four min_four   -- for this text's walks alone
set_option linter.unusedVariables false
set_option linter.unusedSimpArgs false

/-! ### number_Eval: function 8 -/
--OWNPART 
open Go.RowKit
/-- What Eval tells: the number and the fault's code, line and column. -/
def number_Eval.f (a0_0 a0_1 : Int) (a0_2 : ByteArray) (l0_3 : List S25) (a0_4 a0_5 : Int) (l1 : List S54) : Option (Int × Int × Int × Int) :=
  if l1.length ≤ 4611686018427387903 then (knownGo l1 []).bind fun b => if b = true then (tree_MayExpr.f a0_0 a0_1 a0_2 l0_3 a0_4 a0_5).bind fun m => if m = true then xeval (envGet l1) 16 ⟨a0_0, a0_1, a0_2, l0_3, a0_4, a0_5⟩ else some (0, 2, 0, 0) else some (0, 2, 0, 0)
  else none
set_option maxHeartbeats 8000000 in
set_option maxRecDepth 100000 in
theorem number_Eval.calls (a0_0 a0_1 : Int) (a0_2 : ByteArray) (A0_3 : Option Addr) (c0_3 : Nat) (l0_3 : List S25) (a0_4 a0_5 : Int) (A1 : Option Addr) (c1 : Nat) (l1 : List S54) (r1 r2 r3 r4 : Int) (w : World) (hr0_3 : Kd.C k25 w A0_3 l0_3.length l0_3) (hc0_3 : l0_3.length ≤ c0_3) (hr1 : Kd.C k54 w A1 l1.length l1) (hc1 : l1.length ≤ c1) (h : number_Eval.f a0_0 a0_1 a0_2 l0_3 a0_4 a0_5 l1 = some (r1, r2, r3, r4)) :
    Calls Try.prog 8 #[.agg #[.int .u8 a0_0, .int .i64 a0_1, .string a0_2, .slice A0_3 l0_3.length c0_3, .int .i64 a0_4, .int .i64 a0_5], .slice A1 l1.length c1] w fun e w' => e = .returned (.tuple #[.int .i64 r1, .agg #[.int .i64 r2, .int .i64 r3, .int .i64 r4]]) ∧ Below w.heap.size w w' := by
  unfold number_Eval.f at h
  by_cases hl : l1.length ≤ 4611686018427387903
  · rw [if_pos hl] at h
    obtain ⟨b, hk, h⟩ := Option.bind_eq_some_iff.1 h
    have HL := Aside0.mk hl
    have HK := Aside0.mk hk
    have HR0 := Aside0.mk hr0_3
    have HR1 := Aside0.mk hr1
    have HC0 := Aside0.mk hc0_3
    clear hl hk hr0_3 hr1 hc0_3 hc1
    go_enter Try.func8, Try.ntmps8
    cases b with
    | false =>
      rw [if_neg (by simp)] at h
      have HE := Aside0.mk (Option.some.inj h)
      clear h
      go_wp2_with (first | ((with_reducible refine gate_dst (N := 2) rfl ?_); refine box_event ?hg (N := 2) ?hd (cs := #[.int .u8 a0_0, .int .i64 a0_1, .string a0_2, .slice A0_3 l0_3.length c0_3, .int .i64 a0_4, .int .i64 a0_5]) (t := 25) ?hr ?_; (case hd => rfl); (case hg => rfl); (case hr => first | (go_simp; done) | (go_simp; rfl)); intro gx hg w1 hbox hb; have BX := Aside0.mk hbox; have HB1 := Aside0.mk hb; clear hbox hb hg) | ((with_reducible refine gate_dst (N := 5) rfl ?_); refine box_event ?hg (N := 5) ?hd (cs := #[.int .i64 0, .int .i64 0, .int .i64 0]) (t := 29) ?hr ?_; (case hd => rfl); (case hg => rfl); (case hr => first | (go_simp; done) | (go_simp; rfl)); intro gr hg w2 hbox hb; have BR := Aside0.mk hbox; have HB2 := Aside0.mk (below_step HB1.out hb); have BX2 := Aside0.mk (blk_below BX.out hb); have GR := Aside0.mk (show w.heap.size ≤ gr from by rw [hg]; exact HB1.out.size); have hw0 : w2.cell? ⟨gx, 0, none⟩ = some (.int .u8 a0_0) := (blk_cell BX2.out 0).trans rfl; have hw1 : w2.cell? ⟨gx, 1, none⟩ = some (.int .i64 a0_1) := (blk_cell BX2.out 1).trans rfl; have hw2 : w2.cell? ⟨gx, 2, none⟩ = some (.string a0_2) := (blk_cell BX2.out 2).trans rfl; have hw3 : w2.cell? ⟨gx, 3, none⟩ = some (.slice A0_3 l0_3.length c0_3) := (blk_cell BX2.out 3).trans rfl; have hw4 : w2.cell? ⟨gx, 4, none⟩ = some (.int .i64 a0_4) := (blk_cell BX2.out 4).trans rfl; have hw5 : w2.cell? ⟨gx, 5, none⟩ = some (.int .i64 a0_5) := (blk_cell BX2.out 5).trans rfl; clear hbox hb hg) | (go_at_call 22; refine (number_known.walk A1 c1 l1 false _ (Kd.C_below HR1.out HB2.out) HL.out HK.out).mono ?_; rintro e w3 ⟨mv, rfl, hb, hm⟩; have HB3 := Aside0.mk (below_step HB2.out hb); have BX3 := Aside0.mk (blk_below BX2.out hb); have BR3 := Aside0.mk (blk_below BR.out hb); have hk0 : w3.cell? ⟨gx, 0, none⟩ = some (.int .u8 a0_0) := (blk_cell BX3.out 0).trans rfl; have hk1 : w3.cell? ⟨gx, 1, none⟩ = some (.int .i64 a0_1) := (blk_cell BX3.out 1).trans rfl; have hk2 : w3.cell? ⟨gx, 2, none⟩ = some (.string a0_2) := (blk_cell BX3.out 2).trans rfl; have hk3 : w3.cell? ⟨gx, 3, none⟩ = some (.slice A0_3 l0_3.length c0_3) := (blk_cell BX3.out 3).trans rfl; have hk4 : w3.cell? ⟨gx, 4, none⟩ = some (.int .i64 a0_4) := (blk_cell BX3.out 4).trans rfl; have hk5 : w3.cell? ⟨gx, 5, none⟩ = some (.int .i64 a0_5) := (blk_cell BX3.out 5).trans rfl; clear hb hm) | (refine xstore_row rfl 29 _ _ rfl gr #[.int .i64 2, .int .i64 0, .int .i64 0] rfl rfl 29 _ BR3.out faultInfo rfl (xone3 _ _ _) ?_; intro w6 hbk hgr hbl; have HB6 := Aside0.mk (hbl _ _ HB3.out GR.out); have BR6 := Aside0.mk hbk; clear hbk hgr hbl))
      have hE := HE.out
      simp only [Prod.mk.injEq] at hE
      obtain ⟨rfl, rfl, rfl, rfl⟩ := hE
      refine bodyPost_ret (results_tc rfl _ _ gr 29 #[.int .i64 2, .int .i64 0, .int .i64 0] (0, 0) _ rfl BR6.out Try.underlying29 rfl faultInfo) rfl ?_
      exact ⟨rfl, HB6.out⟩
    | true =>
      rw [if_pos rfl] at h
      obtain ⟨m, hx, h⟩ := Option.bind_eq_some_iff.1 h
      have HX := Aside0.mk hx
      clear hx
      cases m with
      | false =>
        rw [if_neg (by simp)] at h
        have HE := Aside0.mk (Option.some.inj h)
        clear h
        go_wp2_with (first | ((with_reducible refine gate_dst (N := 2) rfl ?_); refine box_event ?hg (N := 2) ?hd (cs := #[.int .u8 a0_0, .int .i64 a0_1, .string a0_2, .slice A0_3 l0_3.length c0_3, .int .i64 a0_4, .int .i64 a0_5]) (t := 25) ?hr ?_; (case hd => rfl); (case hg => rfl); (case hr => first | (go_simp; done) | (go_simp; rfl)); intro gx hg w1 hbox hb; have BX := Aside0.mk hbox; have HB1 := Aside0.mk hb; clear hbox hb hg) | ((with_reducible refine gate_dst (N := 5) rfl ?_); refine box_event ?hg (N := 5) ?hd (cs := #[.int .i64 0, .int .i64 0, .int .i64 0]) (t := 29) ?hr ?_; (case hd => rfl); (case hg => rfl); (case hr => first | (go_simp; done) | (go_simp; rfl)); intro gr hg w2 hbox hb; have BR := Aside0.mk hbox; have HB2 := Aside0.mk (below_step HB1.out hb); have BX2 := Aside0.mk (blk_below BX.out hb); have GR := Aside0.mk (show w.heap.size ≤ gr from by rw [hg]; exact HB1.out.size); have hw0 : w2.cell? ⟨gx, 0, none⟩ = some (.int .u8 a0_0) := (blk_cell BX2.out 0).trans rfl; have hw1 : w2.cell? ⟨gx, 1, none⟩ = some (.int .i64 a0_1) := (blk_cell BX2.out 1).trans rfl; have hw2 : w2.cell? ⟨gx, 2, none⟩ = some (.string a0_2) := (blk_cell BX2.out 2).trans rfl; have hw3 : w2.cell? ⟨gx, 3, none⟩ = some (.slice A0_3 l0_3.length c0_3) := (blk_cell BX2.out 3).trans rfl; have hw4 : w2.cell? ⟨gx, 4, none⟩ = some (.int .i64 a0_4) := (blk_cell BX2.out 4).trans rfl; have hw5 : w2.cell? ⟨gx, 5, none⟩ = some (.int .i64 a0_5) := (blk_cell BX2.out 5).trans rfl; clear hbox hb hg) | (go_at_call 22; refine (number_known.walk A1 c1 l1 true _ (Kd.C_below HR1.out HB2.out) HL.out HK.out).mono ?_; rintro e w3 ⟨mv, rfl, hb, hm⟩; have HB3 := Aside0.mk (below_step HB2.out hb); have BX3 := Aside0.mk (blk_below BX2.out hb); have BR3 := Aside0.mk (blk_below BR.out hb); have hk0 : w3.cell? ⟨gx, 0, none⟩ = some (.int .u8 a0_0) := (blk_cell BX3.out 0).trans rfl; have hk1 : w3.cell? ⟨gx, 1, none⟩ = some (.int .i64 a0_1) := (blk_cell BX3.out 1).trans rfl; have hk2 : w3.cell? ⟨gx, 2, none⟩ = some (.string a0_2) := (blk_cell BX3.out 2).trans rfl; have hk3 : w3.cell? ⟨gx, 3, none⟩ = some (.slice A0_3 l0_3.length c0_3) := (blk_cell BX3.out 3).trans rfl; have hk4 : w3.cell? ⟨gx, 4, none⟩ = some (.int .i64 a0_4) := (blk_cell BX3.out 4).trans rfl; have hk5 : w3.cell? ⟨gx, 5, none⟩ = some (.int .i64 a0_5) := (blk_cell BX3.out 5).trans rfl; obtain ⟨gm, rfl, hme⟩ := hm rfl; have HM3 := Aside0.mk hme; clear hme; clear hb) | (go_at_call 23; refine (tree_MayExpr.calls a0_0 a0_1 a0_2 A0_3 c0_3 l0_3 a0_4 a0_5 false _ (Kd.C_below HR0.out HB3.out) HC0.out HX.out).mono ?_; rintro e w4 ⟨rfl, hb⟩; have HB4 := Aside0.mk (below_step HB3.out hb); have BX4 := Aside0.mk (blk_below BX3.out hb); have BR4 := Aside0.mk (blk_below BR3.out hb); have hm0 : w4.cell? ⟨gx, 0, none⟩ = some (.int .u8 a0_0) := (blk_cell BX4.out 0).trans rfl; have hm1 : w4.cell? ⟨gx, 1, none⟩ = some (.int .i64 a0_1) := (blk_cell BX4.out 1).trans rfl; have hm2 : w4.cell? ⟨gx, 2, none⟩ = some (.string a0_2) := (blk_cell BX4.out 2).trans rfl; have hm3 : w4.cell? ⟨gx, 3, none⟩ = some (.slice A0_3 l0_3.length c0_3) := (blk_cell BX4.out 3).trans rfl; have hm4 : w4.cell? ⟨gx, 4, none⟩ = some (.int .i64 a0_4) := (blk_cell BX4.out 4).trans rfl; have hm5 : w4.cell? ⟨gx, 5, none⟩ = some (.int .i64 a0_5) := (blk_cell BX4.out 5).trans rfl; clear hb) | (refine xstore_row rfl 29 _ _ rfl gr #[.int .i64 2, .int .i64 0, .int .i64 0] rfl rfl 29 _ BR4.out faultInfo rfl (xone3 _ _ _) ?_; intro w6 hbk hgr hbl; have HB6 := Aside0.mk (hbl _ _ HB4.out GR.out); have BR6 := Aside0.mk hbk; clear hbk hgr hbl))
        have hE := HE.out
        simp only [Prod.mk.injEq] at hE
        obtain ⟨rfl, rfl, rfl, rfl⟩ := hE
        refine bodyPost_ret (results_tc rfl _ _ gr 29 #[.int .i64 2, .int .i64 0, .int .i64 0] (0, 0) _ rfl BR6.out Try.underlying29 rfl faultInfo) rfl ?_
        exact ⟨rfl, HB6.out⟩
      | true =>
        rw [if_pos rfl] at h
        have HE := Aside0.mk h
        clear h
        go_wp2_with (first | ((with_reducible refine gate_dst (N := 2) rfl ?_); refine box_event ?hg (N := 2) ?hd (cs := #[.int .u8 a0_0, .int .i64 a0_1, .string a0_2, .slice A0_3 l0_3.length c0_3, .int .i64 a0_4, .int .i64 a0_5]) (t := 25) ?hr ?_; (case hd => rfl); (case hg => rfl); (case hr => first | (go_simp; done) | (go_simp; rfl)); intro gx hg w1 hbox hb; have BX := Aside0.mk hbox; have HB1 := Aside0.mk hb; clear hbox hb hg) | ((with_reducible refine gate_dst (N := 5) rfl ?_); refine box_event ?hg (N := 5) ?hd (cs := #[.int .i64 0, .int .i64 0, .int .i64 0]) (t := 29) ?hr ?_; (case hd => rfl); (case hg => rfl); (case hr => first | (go_simp; done) | (go_simp; rfl)); intro gr hg w2 hbox hb; have BR := Aside0.mk hbox; have HB2 := Aside0.mk (below_step HB1.out hb); have BX2 := Aside0.mk (blk_below BX.out hb); have GR := Aside0.mk (show w.heap.size ≤ gr from by rw [hg]; exact HB1.out.size); have hw0 : w2.cell? ⟨gx, 0, none⟩ = some (.int .u8 a0_0) := (blk_cell BX2.out 0).trans rfl; have hw1 : w2.cell? ⟨gx, 1, none⟩ = some (.int .i64 a0_1) := (blk_cell BX2.out 1).trans rfl; have hw2 : w2.cell? ⟨gx, 2, none⟩ = some (.string a0_2) := (blk_cell BX2.out 2).trans rfl; have hw3 : w2.cell? ⟨gx, 3, none⟩ = some (.slice A0_3 l0_3.length c0_3) := (blk_cell BX2.out 3).trans rfl; have hw4 : w2.cell? ⟨gx, 4, none⟩ = some (.int .i64 a0_4) := (blk_cell BX2.out 4).trans rfl; have hw5 : w2.cell? ⟨gx, 5, none⟩ = some (.int .i64 a0_5) := (blk_cell BX2.out 5).trans rfl; clear hbox hb hg) | (go_at_call 22; refine (number_known.walk A1 c1 l1 true _ (Kd.C_below HR1.out HB2.out) HL.out HK.out).mono ?_; rintro e w3 ⟨mv, rfl, hb, hm⟩; have HB3 := Aside0.mk (below_step HB2.out hb); have BX3 := Aside0.mk (blk_below BX2.out hb); have BR3 := Aside0.mk (blk_below BR.out hb); have hk0 : w3.cell? ⟨gx, 0, none⟩ = some (.int .u8 a0_0) := (blk_cell BX3.out 0).trans rfl; have hk1 : w3.cell? ⟨gx, 1, none⟩ = some (.int .i64 a0_1) := (blk_cell BX3.out 1).trans rfl; have hk2 : w3.cell? ⟨gx, 2, none⟩ = some (.string a0_2) := (blk_cell BX3.out 2).trans rfl; have hk3 : w3.cell? ⟨gx, 3, none⟩ = some (.slice A0_3 l0_3.length c0_3) := (blk_cell BX3.out 3).trans rfl; have hk4 : w3.cell? ⟨gx, 4, none⟩ = some (.int .i64 a0_4) := (blk_cell BX3.out 4).trans rfl; have hk5 : w3.cell? ⟨gx, 5, none⟩ = some (.int .i64 a0_5) := (blk_cell BX3.out 5).trans rfl; obtain ⟨gm, rfl, hme⟩ := hm rfl; have HM3 := Aside0.mk hme; clear hme; clear hb) | (go_at_call 23; refine (tree_MayExpr.calls a0_0 a0_1 a0_2 A0_3 c0_3 l0_3 a0_4 a0_5 true _ (Kd.C_below HR0.out HB3.out) HC0.out HX.out).mono ?_; rintro e w4 ⟨rfl, hb⟩; have HB4 := Aside0.mk (below_step HB3.out hb); have BX4 := Aside0.mk (blk_below BX3.out hb); have BR4 := Aside0.mk (blk_below BR3.out hb); have HM4 := Aside0.mk (HM3.out.below hb); have hm0 : w4.cell? ⟨gx, 0, none⟩ = some (.int .u8 a0_0) := (blk_cell BX4.out 0).trans rfl; have hm1 : w4.cell? ⟨gx, 1, none⟩ = some (.int .i64 a0_1) := (blk_cell BX4.out 1).trans rfl; have hm2 : w4.cell? ⟨gx, 2, none⟩ = some (.string a0_2) := (blk_cell BX4.out 2).trans rfl; have hm3 : w4.cell? ⟨gx, 3, none⟩ = some (.slice A0_3 l0_3.length c0_3) := (blk_cell BX4.out 3).trans rfl; have hm4 : w4.cell? ⟨gx, 4, none⟩ = some (.int .i64 a0_4) := (blk_cell BX4.out 4).trans rfl; have hm5 : w4.cell? ⟨gx, 5, none⟩ = some (.int .i64 a0_5) := (blk_cell BX4.out 5).trans rfl; clear hb) | (go_at_call 24; refine (number_eval.walk 16 a0_0 a0_1 a0_2 A0_3 c0_3 l0_3 a0_4 a0_5 gm _ _ r1 r2 r3 r4 _ (Kd.C_below HR0.out HB4.out) HM4.out HE.out).mono ?_; rintro e w5 ⟨rfl, hb⟩; have HB5 := Aside0.mk (below_step HB4.out hb); have BR5 := Aside0.mk (blk_below BR4.out hb); clear hb) | (refine xstore_row rfl 29 _ _ rfl gr #[.int .i64 r2, .int .i64 r3, .int .i64 r4] rfl rfl 29 _ BR5.out faultInfo rfl (xone3 _ _ _) ?_; intro w6 hbk hgr hbl; have HB6 := Aside0.mk (hbl _ _ HB5.out GR.out); have BR6 := Aside0.mk hbk; clear hbk hgr hbl))
        refine bodyPost_ret (results_tc rfl _ _ gr 29 #[.int .i64 r2, .int .i64 r3, .int .i64 r4] (0, 0) _ rfl BR6.out Try.underlying29 rfl faultInfo) rfl ?_
        exact ⟨rfl, HB6.out⟩
  · rw [if_neg hl] at h
    exact absurd h (by simp)

end Go.Proofs.Ytnojokempdcikaa.PA

namespace Go.Proofs.Ytnojokempdcikaa.PA
open Go.RowKit Go.Proofs.YtnojokempdcikaaW.PrintWords Go.Proofs.YtnojokempdcikaaW.PrintLast Go.Proofs.YtnojokempdcikaaW.PrintMore
attribute [local go_sem] max2_int min2_int max_two min_two max_three min_three max_four min_four   -- for this text's walks alone
set_option linter.unusedVariables false
set_option linter.unusedSimpArgs false

/-! ### recoupref12_Number: function 18 -/
def recoupref12_Number.f (a0 : Int) : Option (Bool) := if a0 ≥ (-2147483647) then (some (decide (a0 ≤ 2147483647))) else (some false)
set_option maxHeartbeats 8000000 in
set_option maxRecDepth 100000 in
theorem recoupref12_Number.calls (a0 : Int) (r : Bool) (w : World) (h : recoupref12_Number.f a0 = some r) :
    Calls Try.prog 18 #[.int .i64 a0] w fun e w' => e = .returned (.bool r) ∧ Drawn0 w w' := by
  have H : (if a0 ≥ (-2147483647) then (some (decide (a0 ≤ 2147483647))) else (some false)) = some r := h
  clear h
  by_cases c2 : a0 ≥ (-2147483647)
  · rw [if_pos c2] at H
    have c2b0 : decide ((-2147483647) ≤ a0) = true := decide_eq_true c2
    clear c2
    obtain rfl := Option.some.inj H
    go_enter Try.func18, Try.ntmps18
    go_wp2
    go_ret
    exact ⟨by first | rfl | (simp; done) | (simp [*]; done), by repeat (first | exact Drawn0.refl _ | apply Drawn0.step)⟩
  · rw [if_neg c2] at H
    have c2b0 : decide ((-2147483647) ≤ a0) = false := decide_eq_false c2
    clear c2
    obtain rfl := Option.some.inj H
    go_enter Try.func18, Try.ntmps18
    go_wp2
    go_ret
    exact ⟨by first | rfl | (simp; done) | (simp [*]; done), by repeat (first | exact Drawn0.refl _ | apply Drawn0.step)⟩

/-! ### recoupref09_letter: function 46 -/
def recoupref09_letter.f (a0 : Int) : Option (Bool) := if a0 ≥ 97 then (some (decide (a0 ≤ 122))) else (some false)
set_option maxHeartbeats 8000000 in
set_option maxRecDepth 100000 in
theorem recoupref09_letter.calls (a0 : Int) (r : Bool) (w : World) (h : recoupref09_letter.f a0 = some r) :
    Calls Try.prog 46 #[.int .u8 a0] w fun e w' => e = .returned (.bool r) ∧ Drawn0 w w' := by
  have H : (if a0 ≥ 97 then (some (decide (a0 ≤ 122))) else (some false)) = some r := h
  clear h
  by_cases c2 : a0 ≥ 97
  · rw [if_pos c2] at H
    have c2b0 : decide (97 ≤ a0) = true := decide_eq_true c2
    clear c2
    obtain rfl := Option.some.inj H
    go_enter Try.func46, Try.ntmps46
    go_wp2
    go_ret
    exact ⟨by first | rfl | (simp; done) | (simp [*]; done), by repeat (first | exact Drawn0.refl _ | apply Drawn0.step)⟩
  · rw [if_neg c2] at H
    have c2b0 : decide (97 ≤ a0) = false := decide_eq_false c2
    clear c2
    obtain rfl := Option.some.inj H
    go_enter Try.func46, Try.ntmps46
    go_wp2
    go_ret
    exact ⟨by first | rfl | (simp; done) | (simp [*]; done), by repeat (first | exact Drawn0.refl _ | apply Drawn0.step)⟩

/-! ### recoupref09_Words: function 65 -/
def recoupref09_Words.f  : Option (List ByteArray) := some (([(⟨#[99, 111, 100, 101]⟩ : ByteArray), (⟨#[99, 111, 110, 115, 116]⟩ : ByteArray), (⟨#[99, 114, 111, 115, 115]⟩ : ByteArray), (⟨#[100, 111, 109, 97, 105, 110, 115]⟩ : ByteArray), (⟨#[106, 111, 105, 110]⟩ : ByteArray), (⟨#[108, 105, 115, 116]⟩ : ByteArray), (⟨#[108, 111, 99, 97, 108]⟩ : ByteArray), (⟨#[109, 97, 116, 114, 105, 120]⟩ : ByteArray), (⟨#[112, 108, 97, 99, 101]⟩ : ByteArray), (⟨#[112, 114, 111, 100, 117, 99, 116]⟩ : ByteArray), (⟨#[112, 121, 114, 97, 109, 105, 100]⟩ : ByteArray), (⟨#[114, 101, 101, 100]⟩ : ByteArray), (⟨#[114, 111, 119]⟩ : ByteArray), (⟨#[115, 112, 105, 114, 97, 108]⟩ : ByteArray), (⟨#[115, 112, 114, 101, 97, 100]⟩ : ByteArray), (⟨#[116, 111, 108, 101, 114, 97, 116, 101]⟩ : ByteArray), (⟨#[117, 115, 101]⟩ : ByteArray)] : List ByteArray))
set_option maxHeartbeats 8000000 in
set_option maxRecDepth 100000 in
theorem recoupref09_Words.calls  (r : List ByteArray) (w : World) (h : recoupref09_Words.f  = some r) :
    Calls Try.prog 65 #[] w fun e w' => ∃ v0_ : Value, e = .returned (v0_) ∧ Kd.R Kd.string 9 w' w.heap.size (fun _ => True) v0_ r ∧ Below w.heap.size w w' := by
  have HB := Aside0.mk (Below.refl w.heap.size w)
  have H : (some (([(⟨#[99, 111, 100, 101]⟩ : ByteArray), (⟨#[99, 111, 110, 115, 116]⟩ : ByteArray), (⟨#[99, 114, 111, 115, 115]⟩ : ByteArray), (⟨#[100, 111, 109, 97, 105, 110, 115]⟩ : ByteArray), (⟨#[106, 111, 105, 110]⟩ : ByteArray), (⟨#[108, 105, 115, 116]⟩ : ByteArray), (⟨#[108, 111, 99, 97, 108]⟩ : ByteArray), (⟨#[109, 97, 116, 114, 105, 120]⟩ : ByteArray), (⟨#[112, 108, 97, 99, 101]⟩ : ByteArray), (⟨#[112, 114, 111, 100, 117, 99, 116]⟩ : ByteArray), (⟨#[112, 121, 114, 97, 109, 105, 100]⟩ : ByteArray), (⟨#[114, 101, 101, 100]⟩ : ByteArray), (⟨#[114, 111, 119]⟩ : ByteArray), (⟨#[115, 112, 105, 114, 97, 108]⟩ : ByteArray), (⟨#[115, 112, 114, 101, 97, 100]⟩ : ByteArray), (⟨#[116, 111, 108, 101, 114, 97, 116, 101]⟩ : ByteArray), (⟨#[117, 115, 101]⟩ : ByteArray)] : List ByteArray))) = some r := h
  clear h
  obtain ⟨y113, hy113⟩ : ∃ y_ : List ByteArray, y_ = (([(⟨#[99, 111, 100, 101]⟩ : ByteArray), (⟨#[99, 111, 110, 115, 116]⟩ : ByteArray), (⟨#[99, 114, 111, 115, 115]⟩ : ByteArray), (⟨#[100, 111, 109, 97, 105, 110, 115]⟩ : ByteArray), (⟨#[106, 111, 105, 110]⟩ : ByteArray), (⟨#[108, 105, 115, 116]⟩ : ByteArray), (⟨#[108, 111, 99, 97, 108]⟩ : ByteArray), (⟨#[109, 97, 116, 114, 105, 120]⟩ : ByteArray), (⟨#[112, 108, 97, 99, 101]⟩ : ByteArray), (⟨#[112, 114, 111, 100, 117, 99, 116]⟩ : ByteArray), (⟨#[112, 121, 114, 97, 109, 105, 100]⟩ : ByteArray), (⟨#[114, 101, 101, 100]⟩ : ByteArray), (⟨#[114, 111, 119]⟩ : ByteArray), (⟨#[115, 112, 105, 114, 97, 108]⟩ : ByteArray), (⟨#[115, 112, 114, 101, 97, 100]⟩ : ByteArray), (⟨#[116, 111, 108, 101, 114, 97, 116, 101]⟩ : ByteArray), (⟨#[117, 115, 101]⟩ : ByteArray)] : List ByteArray)) := ⟨_, rfl⟩
  replace H : (some y113) = some r := by first | (rw [hy113]; with_reducible exact H) | (have H2_ := (Option.bind_some _ _).symm.trans H; rw [hy113]; with_reducible exact H2_) | (have H2_ := (Option.bind_some _ _).symm.trans H; with_reducible exact H2_) | with_reducible exact H | (rw [hy113]; exact H) | exact H
  have Ny113 := Aside0.mk hy113
  clear hy113
  obtain rfl := Option.some.inj H
  go_enter Try.func65, Try.ntmps65
  go_wp2_with (first | ((with_reducible refine gate_dst (N := 1) rfl ?_); refine Kd.R_lit Kd.string _ 9 ?hg (N := 1) ?hd (xs := ([(⟨#[99, 111, 100, 101]⟩ : ByteArray), (⟨#[99, 111, 110, 115, 116]⟩ : ByteArray), (⟨#[99, 114, 111, 115, 115]⟩ : ByteArray), (⟨#[100, 111, 109, 97, 105, 110, 115]⟩ : ByteArray), (⟨#[106, 111, 105, 110]⟩ : ByteArray), (⟨#[108, 105, 115, 116]⟩ : ByteArray), (⟨#[108, 111, 99, 97, 108]⟩ : ByteArray), (⟨#[109, 97, 116, 114, 105, 120]⟩ : ByteArray), (⟨#[112, 108, 97, 99, 101]⟩ : ByteArray), (⟨#[112, 114, 111, 100, 117, 99, 116]⟩ : ByteArray), (⟨#[112, 121, 114, 97, 109, 105, 100]⟩ : ByteArray), (⟨#[114, 101, 101, 100]⟩ : ByteArray), (⟨#[114, 111, 119]⟩ : ByteArray), (⟨#[115, 112, 105, 114, 97, 108]⟩ : ByteArray), (⟨#[115, 112, 114, 101, 97, 100]⟩ : ByteArray), (⟨#[116, 111, 108, 101, 114, 97, 116, 101]⟩ : ByteArray), (⟨#[117, 115, 101]⟩ : ByteArray)] : List ByteArray)) (inner := [.string (⟨#[99, 111, 100, 101]⟩ : ByteArray), .string (⟨#[99, 111, 110, 115, 116]⟩ : ByteArray), .string (⟨#[99, 114, 111, 115, 115]⟩ : ByteArray), .string (⟨#[100, 111, 109, 97, 105, 110, 115]⟩ : ByteArray), .string (⟨#[106, 111, 105, 110]⟩ : ByteArray), .string (⟨#[108, 105, 115, 116]⟩ : ByteArray), .string (⟨#[108, 111, 99, 97, 108]⟩ : ByteArray), .string (⟨#[109, 97, 116, 114, 105, 120]⟩ : ByteArray), .string (⟨#[112, 108, 97, 99, 101]⟩ : ByteArray), .string (⟨#[112, 114, 111, 100, 117, 99, 116]⟩ : ByteArray), .string (⟨#[112, 121, 114, 97, 109, 105, 100]⟩ : ByteArray), .string (⟨#[114, 101, 101, 100]⟩ : ByteArray), .string (⟨#[114, 111, 119]⟩ : ByteArray), .string (⟨#[115, 112, 105, 114, 97, 108]⟩ : ByteArray), .string (⟨#[115, 112, 114, 101, 97, 100]⟩ : ByteArray), .string (⟨#[116, 111, 108, 101, 114, 97, 116, 101]⟩ : ByteArray), .string (⟨#[117, 115, 101]⟩ : ByteArray)]) (ok := fun _ => True) (okp := fun _ => True) ?hr ?hp (fun _ hk => hk) trivial (Below.refl _ _) (Nat.le_refl _) (by simp) ?_; (case hd => rfl); (case hg => rfl); (case hr => first | (go_simp; done) | (go_simp; rfl)); (case hp => exact (Reps.one (show Kd.M Kd.string _ _ _ (⟨#[99, 111, 100, 101]⟩ : ByteArray) [.string (⟨#[99, 111, 100, 101]⟩ : ByteArray)] from rfl) (Reps.one (show Kd.M Kd.string _ _ _ (⟨#[99, 111, 110, 115, 116]⟩ : ByteArray) [.string (⟨#[99, 111, 110, 115, 116]⟩ : ByteArray)] from rfl) (Reps.one (show Kd.M Kd.string _ _ _ (⟨#[99, 114, 111, 115, 115]⟩ : ByteArray) [.string (⟨#[99, 114, 111, 115, 115]⟩ : ByteArray)] from rfl) (Reps.one (show Kd.M Kd.string _ _ _ (⟨#[100, 111, 109, 97, 105, 110, 115]⟩ : ByteArray) [.string (⟨#[100, 111, 109, 97, 105, 110, 115]⟩ : ByteArray)] from rfl) (Reps.one (show Kd.M Kd.string _ _ _ (⟨#[106, 111, 105, 110]⟩ : ByteArray) [.string (⟨#[106, 111, 105, 110]⟩ : ByteArray)] from rfl) (Reps.one (show Kd.M Kd.string _ _ _ (⟨#[108, 105, 115, 116]⟩ : ByteArray) [.string (⟨#[108, 105, 115, 116]⟩ : ByteArray)] from rfl) (Reps.one (show Kd.M Kd.string _ _ _ (⟨#[108, 111, 99, 97, 108]⟩ : ByteArray) [.string (⟨#[108, 111, 99, 97, 108]⟩ : ByteArray)] from rfl) (Reps.one (show Kd.M Kd.string _ _ _ (⟨#[109, 97, 116, 114, 105, 120]⟩ : ByteArray) [.string (⟨#[109, 97, 116, 114, 105, 120]⟩ : ByteArray)] from rfl) (Reps.one (show Kd.M Kd.string _ _ _ (⟨#[112, 108, 97, 99, 101]⟩ : ByteArray) [.string (⟨#[112, 108, 97, 99, 101]⟩ : ByteArray)] from rfl) (Reps.one (show Kd.M Kd.string _ _ _ (⟨#[112, 114, 111, 100, 117, 99, 116]⟩ : ByteArray) [.string (⟨#[112, 114, 111, 100, 117, 99, 116]⟩ : ByteArray)] from rfl) (Reps.one (show Kd.M Kd.string _ _ _ (⟨#[112, 121, 114, 97, 109, 105, 100]⟩ : ByteArray) [.string (⟨#[112, 121, 114, 97, 109, 105, 100]⟩ : ByteArray)] from rfl) (Reps.one (show Kd.M Kd.string _ _ _ (⟨#[114, 101, 101, 100]⟩ : ByteArray) [.string (⟨#[114, 101, 101, 100]⟩ : ByteArray)] from rfl) (Reps.one (show Kd.M Kd.string _ _ _ (⟨#[114, 111, 119]⟩ : ByteArray) [.string (⟨#[114, 111, 119]⟩ : ByteArray)] from rfl) (Reps.one (show Kd.M Kd.string _ _ _ (⟨#[115, 112, 105, 114, 97, 108]⟩ : ByteArray) [.string (⟨#[115, 112, 105, 114, 97, 108]⟩ : ByteArray)] from rfl) (Reps.one (show Kd.M Kd.string _ _ _ (⟨#[115, 112, 114, 101, 97, 100]⟩ : ByteArray) [.string (⟨#[115, 112, 114, 101, 97, 100]⟩ : ByteArray)] from rfl) (Reps.one (show Kd.M Kd.string _ _ _ (⟨#[116, 111, 108, 101, 114, 97, 116, 101]⟩ : ByteArray) [.string (⟨#[116, 111, 108, 101, 114, 97, 116, 101]⟩ : ByteArray)] from rfl) (Reps.one (show Kd.M Kd.string _ _ _ (⟨#[117, 115, 101]⟩ : ByteArray) [.string (⟨#[117, 115, 101]⟩ : ByteArray)] from rfl) (Reps.none _ _))))))))))))))))))); intro v114 w1 ho2 hb hg_ hnew_; clear hg_ hnew_; (first | rw [← Ny113.out] at ho2 | (simp only [Int.reduceToNat] at ho2; rw [← Ny113.out] at ho2)); have n0_ := Aside0.mk (Kd.R_lower ho2 (below_size (by repeat (first | (with_reducible first | exact HB.out | apply below_alloc | apply pw_below_drewN | apply below_drew1) | exact HB.out)))); have n1_ := Aside0.mk (below_step (by repeat (first | (with_reducible first | exact HB.out | apply below_alloc | apply pw_below_drewN | apply below_drew1) | exact HB.out)) hb); clear HB; have HO115 := n0_; have HB := n1_; clear n0_ n1_; clear hb ho2))
  go_ret
  exact ⟨_, by first | rfl | (simp [errW_none, errW_some] <;> rfl) | (simp [*, errW_none, errW_some] <;> rfl), by (with_reducible repeat (first | apply Kd.R_alloc | apply Kd.R_drewN | apply Kd.R_drew)); exact HO115.out, by repeat (first | (with_reducible first | exact HB.out | apply below_alloc | apply pw_below_drewN | apply below_drew1) | exact HB.out)⟩

/-! ### recoupref09_Word: function 47 -/
def recoupref09_Word.l0 : Nat → ByteArray → List ByteArray → Int → Option (Bool)
  | 0, _, _, _ => none
  | k + 1, x0, x3, x4 => if x4 < (x3.length : Int) then (if 0 ≤ x4 then (if (rdOf ByteArray.empty x3 x4).toList = x0.toList then (some true) else (recoupref09_Word.l0 k x0 x3 (wrap64 (x4 + 1)))) else (none)) else (some false)
def recoupref09_Word.f (k : Nat) (a0 : ByteArray) : Option (Bool) := (recoupref09_Words.f).bind fun t116 => (recoupref09_Word.l0 k a0 t116 0)
theorem recoupref09_Word.mono_l : ∀ k, (∀ y0 y1 y2, LeO (recoupref09_Word.l0 k y0 y1 y2) (recoupref09_Word.l0 (k + 1) y0 y1 y2))
  | 0 => fun _ _ _ r h => by simp [recoupref09_Word.l0] at h
  | k + 1 => by
    have ih0 := recoupref09_Word.mono_l k
    · intro y0 y1 y2
      unfold recoupref09_Word.l0
      repeat' first
      | (with_reducible exact ih0 _ _ _)
      | (with_reducible exact LeO.refl _)
      | (with_reducible exact LeO.none _)
      | (with_reducible refine LeO.ite ?_ ?_)
      | (with_reducible refine LeO.bind ?_ (fun _ => ?_))
      | exact ih0 _ _ _
      | exact LeO.none _
      | refine LeO.ite ?_ ?_
      | refine LeO.bind ?_ (fun _ => ?_)
theorem recoupref09_Word.mono : ∀ a0 k, LeO (recoupref09_Word.f k a0) (recoupref09_Word.f (k + 1) a0) := by
  intro a0 k
  have ih0 := recoupref09_Word.mono_l k
  unfold recoupref09_Word.f
  repeat' first
      | (with_reducible exact ih0 _ _ _)
      | (with_reducible exact LeO.refl _)
      | (with_reducible exact LeO.none _)
      | (with_reducible refine LeO.ite ?_ ?_)
      | (with_reducible refine LeO.bind ?_ (fun _ => ?_))
      | exact ih0 _ _ _
      | exact LeO.none _
      | refine LeO.ite ?_ ?_
      | refine LeO.bind ?_ (fun _ => ?_)
set_option maxHeartbeats 8000000 in
set_option maxRecDepth 100000 in
theorem recoupref09_Word.calls (k : Nat) (a0 : ByteArray) (r : Bool) (w : World) (h : recoupref09_Word.f k a0 = some r) :
    Calls Try.prog 47 #[.string a0] w fun e w' => e = .returned (.bool r) ∧ Below w.heap.size w w' := by
  have HB := Aside0.mk (Below.refl w.heap.size w)
  have H : ((recoupref09_Words.f).bind fun t116 => (recoupref09_Word.l0 k a0 t116 0)) = some r := h
  clear h
  replace H := Option.bind_eq_some_iff.mp H
  obtain ⟨t116, A20, H⟩ := H
  replace H : (recoupref09_Word.l0 k a0 t116 0) = some r := H
  have A2 := Aside0.mk A20
  clear A20
  have H' := Aside0.mk H
  clear H
  go_enter Try.func47, Try.ntmps47
  go_wp2_with (first | ((with_reducible refine gate_callee (f := 65) rfl ?_); refine goesL_ (some 5) rfl rfl Try.func65 (by kernel_rfl) rfl #[] rfl (by (try simp only [List.map_toArray, List.map_cons, List.map_nil]); first | done | rfl | (simp only [List.length_drop, List.length_take]; rfl)) ?_; (with_reducible refine (recoupref09_Words.calls  t116 _ A2.out).mono ?_); rintro e w3 ⟨v117, rfl, ho0, hb⟩; refine ⟨_, rfl, ?_⟩; have n0_ := Aside0.mk (Kd.R_lower ho0 (below_size (by repeat (first | (with_reducible first | exact HB.out | apply below_alloc | apply pw_below_drewN | apply below_drew1) | exact HB.out)))); have n1_ := Aside0.mk (below_step (by repeat (first | (with_reducible first | exact HB.out | apply below_alloc | apply pw_below_drewN | apply below_drew1) | exact HB.out)) hb); clear HB; have HO118 := n0_; have HB := n1_; clear n0_ n1_; (try clear hb); (try clear hb2); (try clear hk); (try clear hi); (try clear ho0)))
  go_loopg [4] k (fun kq v4 w' => ∃ (x4_1 : Int), v4 = .int .i64 x4_1 ∧ Aside0 (recoupref09_Word.l0 kq a0 t116 x4_1 = some r) ∧ Aside0 (kq ≤ k) ∧ Aside0 (Kd.R Kd.string 9 w' w.heap.size (fun _ => True) v117 t116) ∧ Aside0 (Below w.heap.size w w'))
  case atStart => exact ⟨(0), (by first | rfl | (simp; done) | (simp [*]; done) | (simp [xbne_nil]; done)), H', ⟨Nat.le_refl _⟩, ⟨by (with_reducible repeat (first | apply Kd.R_alloc | apply Kd.R_drewN | apply Kd.R_drew)); exact HO118.out⟩, ⟨by repeat (first | (with_reducible first | exact HB.out | apply below_alloc | apply pw_below_drewN | apply below_drew1) | exact HB.out)⟩⟩
  case round =>
    clear H'
    try clear p2
    obtain ⟨x4_1, rfl, HA, HK1, HO_3, HB⟩ := hrel
    cases gk with
    | zero => exact absurd HA.out (by simp [recoupref09_Word.l0])
    | succ k1 =>
      have H := HA.out
      clear HA
      simp only [recoupref09_Word.l0] at H
      by_cases c4 : x4_1 < (t116.length : Int)
      · rw [if_pos c4] at H
        have c4b0 : decide (x4_1 < (t116.length : Int)) = true := decide_eq_true c4
        clear c4
        by_cases c5 : 0 ≤ x4_1
        · rw [if_pos c5] at H
          have c5b0 : decide (0 ≤ x4_1) = true := decide_eq_true c5
          clear c5
          by_cases c6 : (rdOf ByteArray.empty t116 x4_1).toList = a0.toList
          · rw [if_pos c6] at H
            have c6b0 : ((rdOf ByteArray.empty t116 x4_1).toList == a0.toList) = true := beq_iff_eq.mpr c6
            have c6b1 : ((rdOf ByteArray.empty t116 x4_1).toList != a0.toList) = false := bne_eq_false_iff_eq.mpr c6
            clear c6
            obtain rfl := Option.some.inj H
            obtain ⟨Ao7, co7, eo7⟩ := Kd.R_slice HO_3.out
            subst eo7
            have p119 : 0 ≤ (x4_1 : Int) := of_decide_eq_true (by first | (with_reducible assumption) | assumption)
            have q119 : x4_1 < (t116.length : Int) := of_decide_eq_true (by first | (with_reducible assumption) | assumption)
            obtain ⟨ad119, e119, hx119_0⟩ := Kd.at_string (Kd.R_reads' HO_3.out).2.2 x4_1 p119 q119
            cases e119
            replace p119 := eq_true p119
            replace q119 := eq_true q119
            go_wp2
            go_ret
            exact ⟨by first | rfl | (simp [errW_none, errW_some] <;> rfl) | (simp [*, errW_none, errW_some] <;> rfl), by repeat (first | (with_reducible first | exact HB.out | apply below_alloc | apply pw_below_drewN | apply below_drew1) | exact HB.out)⟩
          · rw [if_neg c6] at H
            have c6b0 : ((rdOf ByteArray.empty t116 x4_1).toList == a0.toList) = false := beq_eq_false_iff_ne.mpr c6
            have c6b1 : ((rdOf ByteArray.empty t116 x4_1).toList != a0.toList) = true := bne_iff_ne.mpr c6
            have H' := Aside0.mk H
            clear H
            obtain ⟨Ao8, co8, eo8⟩ := Kd.R_slice HO_3.out
            subst eo8
            have p119 : 0 ≤ (x4_1 : Int) := of_decide_eq_true (by first | (with_reducible assumption) | assumption)
            have q119 : x4_1 < (t116.length : Int) := of_decide_eq_true (by first | (with_reducible assumption) | assumption)
            obtain ⟨ad119, e119, hx119_0⟩ := Kd.at_string (Kd.R_reads' HO_3.out).2.2 x4_1 p119 q119
            cases e119
            replace p119 := eq_true p119
            replace q119 := eq_true q119
            go_wp2
            go_roundg k1
            case measure => have := HK1.out; omega
            case rel => exact ⟨(wrap64 (x4_1 + 1)), (by first | rfl | (simp; done) | (simp [*]; done) | (simp [xbne_nil]; done)), H', ⟨by have := HK1.out; omega⟩, ⟨by (with_reducible repeat (first | apply Kd.R_alloc | apply Kd.R_drewN | apply Kd.R_drew)); exact HO_3.out⟩, ⟨by repeat (first | (with_reducible first | exact HB.out | apply below_alloc | apply pw_below_drewN | apply below_drew1) | exact HB.out)⟩⟩
        · rw [if_neg c5] at H
          exact absurd H (by simp)
      · rw [if_neg c4] at H
        have c4b0 : decide (x4_1 < (t116.length : Int)) = false := decide_eq_false c4
        clear c4
        obtain rfl := Option.some.inj H
        obtain ⟨Ao9, co9, eo9⟩ := Kd.R_slice HO_3.out
        subst eo9
        go_wp2
        go_ret
        exact ⟨by first | rfl | (simp [errW_none, errW_some] <;> rfl) | (simp [*, errW_none, errW_some] <;> rfl), by repeat (first | (with_reducible first | exact HB.out | apply below_alloc | apply pw_below_drewN | apply below_drew1) | exact HB.out)⟩

/-! ### recoupref09_digit: function 48 -/
def recoupref09_digit.f (a0 : Int) : Option (Bool) := if a0 ≥ 48 then (some (decide (a0 ≤ 57))) else (some false)
set_option maxHeartbeats 8000000 in
set_option maxRecDepth 100000 in
theorem recoupref09_digit.calls (a0 : Int) (r : Bool) (w : World) (h : recoupref09_digit.f a0 = some r) :
    Calls Try.prog 48 #[.int .u8 a0] w fun e w' => e = .returned (.bool r) ∧ Drawn0 w w' := by
  have H : (if a0 ≥ 48 then (some (decide (a0 ≤ 57))) else (some false)) = some r := h
  clear h
  by_cases c2 : a0 ≥ 48
  · rw [if_pos c2] at H
    have c2b0 : decide (48 ≤ a0) = true := decide_eq_true c2
    clear c2
    obtain rfl := Option.some.inj H
    go_enter Try.func48, Try.ntmps48
    go_wp2
    go_ret
    exact ⟨by first | rfl | (simp; done) | (simp [*]; done), by repeat (first | exact Drawn0.refl _ | apply Drawn0.step)⟩
  · rw [if_neg c2] at H
    have c2b0 : decide (48 ≤ a0) = false := decide_eq_false c2
    clear c2
    obtain rfl := Option.some.inj H
    go_enter Try.func48, Try.ntmps48
    go_wp2
    go_ret
    exact ⟨by first | rfl | (simp; done) | (simp [*]; done), by repeat (first | exact Drawn0.refl _ | apply Drawn0.step)⟩

/-! ### recoupref09_Name: function 33 -/
mutual
def recoupref09_Name.j0 : Nat → ByteArray → Bool → Option (Bool)
  | 0, _, _ => none
  | k + 1, x0, x21 => if x21 = true then (some false) else (recoupref09_Name.l0 k x0 0)
def recoupref09_Name.l0 : Nat → ByteArray → Int → Option (Bool)
  | 0, _, _ => none
  | k + 1, x0, x3 => if x3 < (x0.size : Int) then (if 0 ≤ x3 then ((recoupref09_letter.f (bt x0 x3)).bind fun t122 => (if t122 = true then (recoupref09_Name.l0 k x0 (wrap64 (x3 + 1))) else ((recoupref09_digit.f (bt x0 x3)).bind fun t123 => (if t123 = true then (recoupref09_Name.l0 k x0 (wrap64 (x3 + 1))) else (some false))))) else (none)) else (some true)
end
def recoupref09_Name.f (k : Nat) (a0 : ByteArray) : Option (Bool) := if (a0.size : Int) < 1 then (recoupref09_Name.j0 k a0 true) else (if (a0.size : Int) > 16 then (recoupref09_Name.j0 k a0 true) else (if 0 < (a0.size : Int) then ((recoupref09_letter.f (bt a0 0)).bind fun t120 => (if t120 = true then ((recoupref09_Word.f k a0).bind fun t121 => (recoupref09_Name.j0 k a0 t121)) else (recoupref09_Name.j0 k a0 true))) else (none)))
theorem recoupref09_Name.mono_l : ∀ k, (∀ y0 y1, LeO (recoupref09_Name.j0 k y0 y1) (recoupref09_Name.j0 (k + 1) y0 y1)) ∧ (∀ y0 y1, LeO (recoupref09_Name.l0 k y0 y1) (recoupref09_Name.l0 (k + 1) y0 y1))
  | 0 => ⟨fun _ _ r h => by simp [recoupref09_Name.j0] at h, fun _ _ r h => by simp [recoupref09_Name.l0] at h⟩
  | k + 1 => by
    obtain ⟨ih0, ih1⟩ := recoupref09_Name.mono_l k
    refine ⟨?_, ?_⟩
    · intro y0 y1
      unfold recoupref09_Name.j0
      repeat' first
      | (with_reducible exact ih0 _ _)
      | (with_reducible exact ih1 _ _)
      | (with_reducible exact recoupref09_Word.mono _ _)
      | (with_reducible exact LeO.refl _)
      | (with_reducible exact LeO.none _)
      | (with_reducible refine LeO.ite ?_ ?_)
      | (with_reducible refine LeO.bind ?_ (fun _ => ?_))
      | exact ih0 _ _
      | exact ih1 _ _
      | exact recoupref09_Word.mono _ _
      | exact LeO.none _
      | refine LeO.ite ?_ ?_
      | refine LeO.bind ?_ (fun _ => ?_)
    · intro y0 y1
      unfold recoupref09_Name.l0
      repeat' first
      | (with_reducible exact ih0 _ _)
      | (with_reducible exact ih1 _ _)
      | (with_reducible exact recoupref09_Word.mono _ _)
      | (with_reducible exact LeO.refl _)
      | (with_reducible exact LeO.none _)
      | (with_reducible refine LeO.ite ?_ ?_)
      | (with_reducible refine LeO.bind ?_ (fun _ => ?_))
      | exact ih0 _ _
      | exact ih1 _ _
      | exact recoupref09_Word.mono _ _
      | exact LeO.none _
      | refine LeO.ite ?_ ?_
      | refine LeO.bind ?_ (fun _ => ?_)
theorem recoupref09_Name.mono : ∀ a0 k, LeO (recoupref09_Name.f k a0) (recoupref09_Name.f (k + 1) a0) := by
  intro a0 k
  obtain ⟨ih0, ih1⟩ := recoupref09_Name.mono_l k
  unfold recoupref09_Name.f
  repeat' first
      | (with_reducible exact ih0 _ _)
      | (with_reducible exact ih1 _ _)
      | (with_reducible exact recoupref09_Word.mono _ _)
      | (with_reducible exact LeO.refl _)
      | (with_reducible exact LeO.none _)
      | (with_reducible refine LeO.ite ?_ ?_)
      | (with_reducible refine LeO.bind ?_ (fun _ => ?_))
      | exact ih0 _ _
      | exact ih1 _ _
      | exact recoupref09_Word.mono _ _
      | exact LeO.none _
      | refine LeO.ite ?_ ?_
      | refine LeO.bind ?_ (fun _ => ?_)
set_option maxHeartbeats 8000000 in
set_option maxRecDepth 100000 in
theorem recoupref09_Name.calls (k : Nat) (a0 : ByteArray) (r : Bool) (w : World) (h : recoupref09_Name.f k a0 = some r) :
    Calls Try.prog 33 #[.string a0] w fun e w' => e = .returned (.bool r) ∧ Below w.heap.size w w' := by
  have HB := Aside0.mk (Below.refl w.heap.size w)
  have H : (if (a0.size : Int) < 1 then (recoupref09_Name.j0 k a0 true) else (if (a0.size : Int) > 16 then (recoupref09_Name.j0 k a0 true) else (if 0 < (a0.size : Int) then ((recoupref09_letter.f (bt a0 0)).bind fun t120 => (if t120 = true then ((recoupref09_Word.f k a0).bind fun t121 => (recoupref09_Name.j0 k a0 t121)) else (recoupref09_Name.j0 k a0 true))) else (none)))) = some r := h
  clear h
  have HC2 := Aside0.mk H
  clear H
  go_enter Try.func33, Try.ntmps33
  go_upto_region 1 with (fail)
  go_cut [21] (fun v21 wc => ∃ (kq : Nat) (x21_1 : Bool), v21 = .bool x21_1 ∧ Aside0 (recoupref09_Name.j0 kq a0 x21_1 = some r) ∧ Aside0 (kq ≤ k) ∧ Aside0 (Below w.heap.size w wc))
  case first =>
    have H := HC2.out
    clear HC2
    by_cases c3 : (a0.size : Int) < 1
    · rw [if_pos c3] at H
      have c3b0 : decide ((a0.size : Int) < 1) = true := decide_eq_true c3
      have c3b1 : decide (a0.size < 1) = true := decide_eq_true (by omega)
      clear c3
      (first | rw [c3b0] | (simp only [i64_w, i32_w]; rw [c3b0]) | skip)
      have H' := Aside0.mk H
      clear H
      go_wp2
      go_meet
      case rel => exact ⟨_, (true), (by first | rfl | (simp; done) | (simp [*]; done) | (simp [xbne_nil]; done)), H', ⟨by first | omega | exact Nat.le_refl _⟩, ⟨by repeat (first | (with_reducible first | exact HB.out | apply below_alloc | apply pw_below_drewN | apply below_drew1) | exact HB.out)⟩⟩
    · rw [if_neg c3] at H
      have c3b0 : decide ((a0.size : Int) < 1) = false := decide_eq_false c3
      have c3b1 : decide (a0.size < 1) = false := decide_eq_false (by omega)
      clear c3
      (first | rw [c3b0] | (simp only [i64_w, i32_w]; rw [c3b0]) | skip)
      by_cases c4 : (a0.size : Int) > 16
      · rw [if_pos c4] at H
        have c4b0 : decide (16 < (a0.size : Int)) = true := decide_eq_true c4
        have c4b1 : decide (16 < a0.size) = true := decide_eq_true (by omega)
        clear c4
        have H' := Aside0.mk H
        clear H
        go_wp2
        go_meet
        case rel => exact ⟨_, (true), (by first | rfl | (simp; done) | (simp [*]; done) | (simp [xbne_nil]; done)), H', ⟨by first | omega | exact Nat.le_refl _⟩, ⟨by repeat (first | (with_reducible first | exact HB.out | apply below_alloc | apply pw_below_drewN | apply below_drew1) | exact HB.out)⟩⟩
      · rw [if_neg c4] at H
        have c4b0 : decide (16 < (a0.size : Int)) = false := decide_eq_false c4
        have c4b1 : decide (16 < a0.size) = false := decide_eq_false (by omega)
        clear c4
        by_cases c5 : 0 < (a0.size : Int)
        · rw [if_pos c5] at H
          have c5b0 : decide (0 < (a0.size : Int)) = true := decide_eq_true c5
          have c5b1 : decide (0 < a0.size) = true := decide_eq_true (by omega)
          clear c5
          replace H := Option.bind_eq_some_iff.mp H
          obtain ⟨t120, A70, H⟩ := H
          replace H : (if t120 = true then ((recoupref09_Word.f k a0).bind fun t121 => (recoupref09_Name.j0 k a0 t121)) else (recoupref09_Name.j0 k a0 true)) = some r := H
          have A7 := Aside0.mk A70
          clear A70
          by_cases c8 : t120 = true
          · subst c8
            have H1 : ((recoupref09_Word.f k a0).bind fun t121 => (recoupref09_Name.j0 k a0 t121)) = some r := by rw [if_pos rfl] at H; exact H
            clear H
            have H := H1
            clear H1
            replace H := Option.bind_eq_some_iff.mp H
            obtain ⟨t121, A90, H⟩ := H
            replace H : (recoupref09_Name.j0 k a0 t121) = some r := H
            have A9 := Aside0.mk A90
            clear A90
            have H' := Aside0.mk H
            clear H
            have p6 : 0 ≤ (0 : Int) := (by omega)
            have q6 : 0 < a0.size := (by have : (0 : Int) < (a0.size : Int) := of_decide_eq_true (by first | (with_reducible assumption) | assumption); omega)
            have hx6 : ∀ h : 0 < a0.size, ((a0[0]'h).toNat : Int) = bt a0 0 := bt_at a0 0
            clear p6
            have qi6 : (0 < (a0.size : Int)) = True := eq_true (of_decide_eq_true (by first | (with_reducible assumption) | assumption))
            replace q6 := eq_true q6
            go_wp2_with (first | (go_at_call 46; (with_reducible refine (recoupref09_letter.calls (bt a0 0) true _ A7.out).mono ?_); rintro e w' ⟨rfl, ⟨nd, rfl⟩⟩) | (go_at_call 47; (with_reducible refine (recoupref09_Word.calls k a0 t121 _ A9.out).mono ?_); rintro e w10 ⟨rfl, hb⟩; have n0_ := Aside0.mk (below_step (by repeat (first | (with_reducible first | exact HB.out | apply below_alloc | apply pw_below_drewN | apply below_drew1) | exact HB.out)) hb); clear HB; have HB := n0_; clear n0_; (try clear hb); (try clear hb2); (try clear hk); (try clear hi)))
            go_meet
            case rel => exact ⟨_, (t121), (by first | rfl | (simp; done) | (simp [*]; done) | (simp [xbne_nil]; done)), H', ⟨by first | omega | exact Nat.le_refl _⟩, ⟨by repeat (first | (with_reducible first | exact HB.out | apply below_alloc | apply pw_below_drewN | apply below_drew1) | exact HB.out)⟩⟩
          · replace c8 := Bool.eq_false_iff.mpr c8
            subst c8
            have H1 : (recoupref09_Name.j0 k a0 true) = some r := by rw [if_neg (show ¬ (false = true) by decide)] at H; exact H
            clear H
            have H := H1
            clear H1
            have H' := Aside0.mk H
            clear H
            have p6 : 0 ≤ (0 : Int) := (by omega)
            have q6 : 0 < a0.size := (by have : (0 : Int) < (a0.size : Int) := of_decide_eq_true (by first | (with_reducible assumption) | assumption); omega)
            have hx6 : ∀ h : 0 < a0.size, ((a0[0]'h).toNat : Int) = bt a0 0 := bt_at a0 0
            clear p6
            have qi6 : (0 < (a0.size : Int)) = True := eq_true (of_decide_eq_true (by first | (with_reducible assumption) | assumption))
            replace q6 := eq_true q6
            go_wp2_with (first | (go_at_call 46; (with_reducible refine (recoupref09_letter.calls (bt a0 0) false _ A7.out).mono ?_); rintro e w' ⟨rfl, ⟨nd, rfl⟩⟩))
            go_meet
            case rel => exact ⟨_, (true), (by first | rfl | (simp; done) | (simp [*]; done) | (simp [xbne_nil]; done)), H', ⟨by first | omega | exact Nat.le_refl _⟩, ⟨by repeat (first | (with_reducible first | exact HB.out | apply below_alloc | apply pw_below_drewN | apply below_drew1) | exact HB.out)⟩⟩
        · rw [if_neg c5] at H
          exact absurd H (by simp)
  case rest =>
    clear HC2
    try clear p2
    try clear c3
    try clear c3b0
    try clear c3b1
    try clear c4
    try clear c4b0
    try clear c4b1
    try clear c5
    try clear c5b0
    try clear c5b1
    try clear p6
    try clear q6
    try clear hx6
    try clear qi6
    try clear c8
    try clear p6
    try clear q6
    obtain ⟨kq, x21_1, rfl, HA, HJ1, HB⟩ := hcut
    cases kq with
    | zero => exact absurd HA.out (by simp [recoupref09_Name.j0])
    | succ kj1 =>
      have H := HA.out
      clear HA
      simp only [recoupref09_Name.j0] at H
      by_cases c11 : x21_1 = true
      · subst c11
        have H1 : (some false) = some r := by rw [if_pos rfl] at H; exact H
        clear H
        have H := H1
        clear H1
        obtain rfl := Option.some.inj H
        go_wp2
        go_ret
        exact ⟨by first | rfl | (simp [errW_none, errW_some] <;> rfl) | (simp [*, errW_none, errW_some] <;> rfl), by repeat (first | (with_reducible first | exact HB.out | apply below_alloc | apply pw_below_drewN | apply below_drew1) | exact HB.out)⟩
      · replace c11 := Bool.eq_false_iff.mpr c11
        subst c11
        have H1 : (recoupref09_Name.l0 kj1 a0 0) = some r := by rw [if_neg (show ¬ (false = true) by decide)] at H; exact H
        clear H
        have H := H1
        clear H1
        have H' := Aside0.mk H
        clear H
        go_wp2
        go_loopg [3] kj1 (fun kq v3 w' => ∃ (x3_2 : Int), v3 = .int .i64 x3_2 ∧ Aside0 (recoupref09_Name.l0 kq a0 x3_2 = some r) ∧ Aside0 (kq ≤ kj1) ∧ Aside0 (Below w.heap.size w w'))
        case atStart => exact ⟨(0), (by first | rfl | (simp; done) | (simp [*]; done) | (simp [xbne_nil]; done)), H', ⟨Nat.le_refl _⟩, ⟨by repeat (first | (with_reducible first | exact HB.out | apply below_alloc | apply pw_below_drewN | apply below_drew1) | exact HB.out)⟩⟩
        case round =>
          clear H'
          try clear c1
          try clear p2
          try clear c3
          try clear c3b0
          try clear c3b1
          try clear c4
          try clear c4b0
          try clear c4b1
          try clear c5
          try clear c5b0
          try clear c5b1
          try clear p6
          try clear q6
          try clear hx6
          try clear qi6
          try clear c8
          try clear c11
          try clear p2
          try clear p6
          try clear q6
          obtain ⟨x3_2, rfl, HA, HK2, HB⟩ := hrel
          cases gk with
          | zero => exact absurd HA.out (by simp [recoupref09_Name.l0])
          | succ k2 =>
            have H := HA.out
            clear HA
            simp only [recoupref09_Name.l0] at H
            by_cases c12 : x3_2 < (a0.size : Int)
            · rw [if_pos c12] at H
              have c12b0 : decide (x3_2 < (a0.size : Int)) = true := decide_eq_true c12
              clear c12
              by_cases c13 : 0 ≤ x3_2
              · rw [if_pos c13] at H
                have c13b0 : decide (0 ≤ x3_2) = true := decide_eq_true c13
                clear c13
                replace H := Option.bind_eq_some_iff.mp H
                obtain ⟨t122, A150, H⟩ := H
                replace H : (if t122 = true then (recoupref09_Name.l0 k2 a0 (wrap64 (x3_2 + 1))) else ((recoupref09_digit.f (bt a0 x3_2)).bind fun t123 => (if t123 = true then (recoupref09_Name.l0 k2 a0 (wrap64 (x3_2 + 1))) else (some false)))) = some r := H
                have A15 := Aside0.mk A150
                clear A150
                by_cases c16 : t122 = true
                · subst c16
                  have H1 : (recoupref09_Name.l0 k2 a0 (wrap64 (x3_2 + 1))) = some r := by rw [if_pos rfl] at H; exact H
                  clear H
                  have H := H1
                  clear H1
                  have H' := Aside0.mk H
                  clear H
                  have p14 : 0 ≤ (x3_2 : Int) := of_decide_eq_true (by first | (with_reducible assumption) | assumption)
                  have q14 : x3_2 < (a0.size : Int) := of_decide_eq_true (by first | (with_reducible assumption) | assumption)
                  have hx14 := bt_at a0 x3_2
                  replace p14 := eq_true p14
                  replace q14 := eq_true q14
                  go_wp2_with (first | ((with_reducible refine gate_callee (f := 46) rfl ?_); refine goesL_ (some 31) rfl rfl Try.func46 (by kernel_rfl) rfl #[.int .u8 (bt a0 x3_2)] rfl (by (try simp only [List.map_toArray, List.map_cons, List.map_nil]); first | done | rfl | (simp only [List.length_drop, List.length_take]; rfl)) ?_; (with_reducible refine (recoupref09_letter.calls (bt a0 x3_2) true _ A15.out).mono ?_); rintro e w' ⟨rfl, ⟨nd, rfl⟩⟩; refine ⟨_, rfl, ?_⟩))
                  go_roundg k2
                  case measure => have := HJ1.out; have := HK2.out; omega
                  case rel => exact ⟨(wrap64 (x3_2 + 1)), (by first | rfl | (simp; done) | (simp [*]; done) | (simp [xbne_nil]; done)), H', ⟨by have := HJ1.out; have := HK2.out; omega⟩, ⟨by repeat (first | (with_reducible first | exact HB.out | apply below_alloc | apply pw_below_drewN | apply below_drew1) | exact HB.out)⟩⟩
                · replace c16 := Bool.eq_false_iff.mpr c16
                  subst c16
                  have H1 : ((recoupref09_digit.f (bt a0 x3_2)).bind fun t123 => (if t123 = true then (recoupref09_Name.l0 k2 a0 (wrap64 (x3_2 + 1))) else (some false))) = some r := by rw [if_neg (show ¬ (false = true) by decide)] at H; exact H
                  clear H
                  have H := H1
                  clear H1
                  replace H := Option.bind_eq_some_iff.mp H
                  obtain ⟨t123, A180, H⟩ := H
                  replace H : (if t123 = true then (recoupref09_Name.l0 k2 a0 (wrap64 (x3_2 + 1))) else (some false)) = some r := H
                  have A18 := Aside0.mk A180
                  clear A180
                  by_cases c19 : t123 = true
                  · subst c19
                    have H1 : (recoupref09_Name.l0 k2 a0 (wrap64 (x3_2 + 1))) = some r := by rw [if_pos rfl] at H; exact H
                    clear H
                    have H := H1
                    clear H1
                    have H' := Aside0.mk H
                    clear H
                    have p14 : 0 ≤ (x3_2 : Int) := of_decide_eq_true (by first | (with_reducible assumption) | assumption)
                    have q14 : x3_2 < (a0.size : Int) := of_decide_eq_true (by first | (with_reducible assumption) | assumption)
                    have hx14 := bt_at a0 x3_2
                    replace p14 := eq_true p14
                    replace q14 := eq_true q14
                    go_wp2_with (first | ((with_reducible refine gate_callee (f := 46) rfl ?_); refine goesL_ (some 31) rfl rfl Try.func46 (by kernel_rfl) rfl #[.int .u8 (bt a0 x3_2)] rfl (by (try simp only [List.map_toArray, List.map_cons, List.map_nil]); first | done | rfl | (simp only [List.length_drop, List.length_take]; rfl)) ?_; (with_reducible refine (recoupref09_letter.calls (bt a0 x3_2) false _ A15.out).mono ?_); rintro e w' ⟨rfl, ⟨nd, rfl⟩⟩; refine ⟨_, rfl, ?_⟩; have p17 : 0 ≤ (x3_2 : Int) := of_decide_eq_true (by first | (with_reducible assumption) | assumption); have q17 : x3_2 < (a0.size : Int) := of_decide_eq_true (by first | (with_reducible assumption) | assumption); have hx17 := bt_at a0 x3_2; replace p17 := eq_true p17; replace q17 := eq_true q17) | (go_at_call 48; (with_reducible refine (recoupref09_digit.calls (bt a0 x3_2) true _ A18.out).mono ?_); rintro e w' ⟨rfl, ⟨nd, rfl⟩⟩))
                    go_roundg k2
                    case measure => have := HJ1.out; have := HK2.out; omega
                    case rel => exact ⟨(wrap64 (x3_2 + 1)), (by first | rfl | (simp; done) | (simp [*]; done) | (simp [xbne_nil]; done)), H', ⟨by have := HJ1.out; have := HK2.out; omega⟩, ⟨by repeat (first | (with_reducible first | exact HB.out | apply below_alloc | apply pw_below_drewN | apply below_drew1) | exact HB.out)⟩⟩
                  · replace c19 := Bool.eq_false_iff.mpr c19
                    subst c19
                    have H1 : (some false) = some r := by rw [if_neg (show ¬ (false = true) by decide)] at H; exact H
                    clear H
                    have H := H1
                    clear H1
                    obtain rfl := Option.some.inj H
                    have p14 : 0 ≤ (x3_2 : Int) := of_decide_eq_true (by first | (with_reducible assumption) | assumption)
                    have q14 : x3_2 < (a0.size : Int) := of_decide_eq_true (by first | (with_reducible assumption) | assumption)
                    have hx14 := bt_at a0 x3_2
                    replace p14 := eq_true p14
                    replace q14 := eq_true q14
                    go_wp2_with (first | ((with_reducible refine gate_callee (f := 46) rfl ?_); refine goesL_ (some 31) rfl rfl Try.func46 (by kernel_rfl) rfl #[.int .u8 (bt a0 x3_2)] rfl (by (try simp only [List.map_toArray, List.map_cons, List.map_nil]); first | done | rfl | (simp only [List.length_drop, List.length_take]; rfl)) ?_; (with_reducible refine (recoupref09_letter.calls (bt a0 x3_2) false _ A15.out).mono ?_); rintro e w' ⟨rfl, ⟨nd, rfl⟩⟩; refine ⟨_, rfl, ?_⟩; have p17 : 0 ≤ (x3_2 : Int) := of_decide_eq_true (by first | (with_reducible assumption) | assumption); have q17 : x3_2 < (a0.size : Int) := of_decide_eq_true (by first | (with_reducible assumption) | assumption); have hx17 := bt_at a0 x3_2; replace p17 := eq_true p17; replace q17 := eq_true q17) | (go_at_call 48; (with_reducible refine (recoupref09_digit.calls (bt a0 x3_2) false _ A18.out).mono ?_); rintro e w' ⟨rfl, ⟨nd, rfl⟩⟩))
                    go_ret
                    exact ⟨by first | rfl | (simp [errW_none, errW_some] <;> rfl) | (simp [*, errW_none, errW_some] <;> rfl), by repeat (first | (with_reducible first | exact HB.out | apply below_alloc | apply pw_below_drewN | apply below_drew1) | exact HB.out)⟩
              · rw [if_neg c13] at H
                exact absurd H (by simp)
            · rw [if_neg c12] at H
              have c12b0 : decide (x3_2 < (a0.size : Int)) = false := decide_eq_false c12
              clear c12
              obtain rfl := Option.some.inj H
              go_wp2
              go_ret
              exact ⟨by first | rfl | (simp [errW_none, errW_some] <;> rfl) | (simp [*, errW_none, errW_some] <;> rfl), by repeat (first | (with_reducible first | exact HB.out | apply below_alloc | apply pw_below_drewN | apply below_drew1) | exact HB.out)⟩

end Go.Proofs.Ytnojokempdcikaa.PA

namespace Go.Proofs.Ytnojokempdcikaa.PA
open Go.RowKit Go.Proofs.YtnojokempdcikaaW.PrintWords Go.Proofs.YtnojokempdcikaaW.PrintLast Go.Proofs.YtnojokempdcikaaW.PrintMore
attribute [local go_sem] max2_int min2_int max_two min_two max_three min_three max_four min_four   -- for this text's walks alone
set_option linter.unusedVariables false
set_option linter.unusedSimpArgs false

/-! ### recoupref12_MayEnv: function 20 -/
mutual
def recoupref12_MayEnv.l0 : Nat → List (S54) → Int → Option (Bool)
  | 0, _, _ => none
  | k + 1, x0, x3 => if x3 < (x0.length : Int) then (if 0 ≤ x3 then ((recoupref09_Name.f k ((rd_T54 x0 x3).f0)).bind fun t125 => (if t125 = true then ((recoupref12_Number.f ((rd_T54 x0 x3).f1)).bind fun t127 => (recoupref12_MayEnv.j1 k x0 x3 (!t127))) else (recoupref12_MayEnv.j1 k x0 x3 true))) else (none)) else (some true)
def recoupref12_MayEnv.j1 : Nat → List (S54) → Int → Bool → Option (Bool)
  | 0, _, _, _ => none
  | k + 1, x0, x3, x26 => if x26 = true then (some false) else (recoupref12_MayEnv.l1 k x0 x3 0)
def recoupref12_MayEnv.l1 : Nat → List (S54) → Int → Int → Option (Bool)
  | 0, _, _, _ => none
  | k + 1, x0, x3, x4 => if x4 < x3 then (if 0 ≤ x4 then (if x4 < (x0.length : Int) then (if 0 ≤ x3 then (if x3 < (x0.length : Int) then (if ((rd_T54 x0 x4).f0).toList = ((rd_T54 x0 x3).f0).toList then (some false) else (recoupref12_MayEnv.l1 k x0 x3 (wrap64 (x4 + 1)))) else (none)) else (none)) else (none)) else (none)) else (recoupref12_MayEnv.l0 k x0 (wrap64 (x3 + 1)))
end
def recoupref12_MayEnv.f (k : Nat) (l0 : List (S54)) : Option (Bool) := recoupref12_MayEnv.l0 k l0 0
theorem recoupref12_MayEnv.mono_l : ∀ k, (∀ y0 y1, LeO (recoupref12_MayEnv.l0 k y0 y1) (recoupref12_MayEnv.l0 (k + 1) y0 y1)) ∧ (∀ y0 y1 y2, LeO (recoupref12_MayEnv.j1 k y0 y1 y2) (recoupref12_MayEnv.j1 (k + 1) y0 y1 y2)) ∧ (∀ y0 y1 y2, LeO (recoupref12_MayEnv.l1 k y0 y1 y2) (recoupref12_MayEnv.l1 (k + 1) y0 y1 y2))
  | 0 => ⟨fun _ _ r h => by simp [recoupref12_MayEnv.l0] at h, fun _ _ _ r h => by simp [recoupref12_MayEnv.j1] at h, fun _ _ _ r h => by simp [recoupref12_MayEnv.l1] at h⟩
  | k + 1 => by
    obtain ⟨ih0, ih1, ih2⟩ := recoupref12_MayEnv.mono_l k
    refine ⟨?_, ?_, ?_⟩
    · intro y0 y1
      unfold recoupref12_MayEnv.l0
      repeat' first
      | (with_reducible exact ih0 _ _)
      | (with_reducible exact ih1 _ _ _)
      | (with_reducible exact ih2 _ _ _)
      | (with_reducible exact recoupref09_Name.mono _ _)
      | (with_reducible exact LeO.refl _)
      | (with_reducible exact LeO.none _)
      | (with_reducible refine LeO.ite ?_ ?_)
      | (with_reducible refine LeO.bind ?_ (fun _ => ?_))
      | exact ih0 _ _
      | exact ih1 _ _ _
      | exact ih2 _ _ _
      | exact recoupref09_Name.mono _ _
      | exact LeO.none _
      | refine LeO.ite ?_ ?_
      | refine LeO.bind ?_ (fun _ => ?_)
    · intro y0 y1 y2
      unfold recoupref12_MayEnv.j1
      repeat' first
      | (with_reducible exact ih0 _ _)
      | (with_reducible exact ih1 _ _ _)
      | (with_reducible exact ih2 _ _ _)
      | (with_reducible exact recoupref09_Name.mono _ _)
      | (with_reducible exact LeO.refl _)
      | (with_reducible exact LeO.none _)
      | (with_reducible refine LeO.ite ?_ ?_)
      | (with_reducible refine LeO.bind ?_ (fun _ => ?_))
      | exact ih0 _ _
      | exact ih1 _ _ _
      | exact ih2 _ _ _
      | exact recoupref09_Name.mono _ _
      | exact LeO.none _
      | refine LeO.ite ?_ ?_
      | refine LeO.bind ?_ (fun _ => ?_)
    · intro y0 y1 y2
      unfold recoupref12_MayEnv.l1
      repeat' first
      | (with_reducible exact ih0 _ _)
      | (with_reducible exact ih1 _ _ _)
      | (with_reducible exact ih2 _ _ _)
      | (with_reducible exact recoupref09_Name.mono _ _)
      | (with_reducible exact LeO.refl _)
      | (with_reducible exact LeO.none _)
      | (with_reducible refine LeO.ite ?_ ?_)
      | (with_reducible refine LeO.bind ?_ (fun _ => ?_))
      | exact ih0 _ _
      | exact ih1 _ _ _
      | exact ih2 _ _ _
      | exact recoupref09_Name.mono _ _
      | exact LeO.none _
      | refine LeO.ite ?_ ?_
      | refine LeO.bind ?_ (fun _ => ?_)
theorem recoupref12_MayEnv.mono : ∀ a0 k, LeO (recoupref12_MayEnv.f k a0) (recoupref12_MayEnv.f (k + 1) a0) := by
  intro a0 k
  obtain ⟨ih0, ih1, ih2⟩ := recoupref12_MayEnv.mono_l k
  unfold recoupref12_MayEnv.f
  repeat' first
      | (with_reducible exact ih0 _ _)
      | (with_reducible exact ih1 _ _ _)
      | (with_reducible exact ih2 _ _ _)
      | (with_reducible exact recoupref09_Name.mono _ _)
      | (with_reducible exact LeO.refl _)
      | (with_reducible exact LeO.none _)
      | (with_reducible refine LeO.ite ?_ ?_)
      | (with_reducible refine LeO.bind ?_ (fun _ => ?_))
      | exact ih0 _ _
      | exact ih1 _ _ _
      | exact ih2 _ _ _
      | exact recoupref09_Name.mono _ _
      | exact LeO.none _
      | refine LeO.ite ?_ ?_
      | refine LeO.bind ?_ (fun _ => ?_)
set_option maxHeartbeats 8000000 in
set_option maxRecDepth 100000 in
theorem recoupref12_MayEnv.calls (k : Nat) (A0 : Option Addr) (c0 : Nat) (l0 : List (S54)) (r : Bool) (w : World) (hr0 : Kd.C k54 w A0 l0.length l0) (hc0 : l0.length ≤ c0) (h : recoupref12_MayEnv.f k l0 = some r) :
    Calls Try.prog 20 #[.slice A0 l0.length c0] w fun e w' => e = .returned (.bool r) ∧ Below w.heap.size w w' := by
  have HR0 := Aside0.mk hr0
  have HC0 := Aside0.mk hc0
  clear hr0 hc0
  have HB := Aside0.mk (Below.refl w.heap.size w)
  have H : (recoupref12_MayEnv.l0 k l0 0) = some r := h
  clear h
  have H' := Aside0.mk H
  clear H
  go_enter Try.func20, Try.ntmps20
  go_wp2
  repeat (go_quiet (fail); try go_wp2)
  go_loopg [3] k (fun kq v3 w' => ∃ (x3_1 : Int), v3 = .int .i64 x3_1 ∧ Aside0 (recoupref12_MayEnv.l0 kq l0 x3_1 = some r) ∧ Aside0 (kq ≤ k) ∧ Aside0 (Below w.heap.size w w'))
  case atStart => exact ⟨(0), (by first | rfl | (simp; done) | (simp [*]; done) | (simp [xbne_nil]; done)), H', ⟨Nat.le_refl _⟩, ⟨by repeat (first | (with_reducible first | exact HB.out | apply below_alloc | apply pw_below_drewN | apply below_drew1) | exact HB.out)⟩⟩
  case round =>
    clear H'
    obtain ⟨x3_1, rfl, HA, HK1, HB⟩ := hrel
    cases gk with
    | zero => exact absurd HA.out (by simp [recoupref12_MayEnv.l0])
    | succ k1 =>
      have H := HA.out
      clear HA
      simp only [recoupref12_MayEnv.l0] at H
      by_cases c2 : x3_1 < (l0.length : Int)
      · rw [if_pos c2] at H
        have c2b0 : decide (x3_1 < (l0.length : Int)) = true := decide_eq_true c2
        clear c2
        have HC3 := Aside0.mk H
        clear H
        go_upto_region 4 with (fail)
        repeat (go_quiet (fail); go_upto_region 4 with (fail))
        go_cut [26] (fun v26 wc => ∃ (kq : Nat) (x26_2 : Bool), v26 = .bool x26_2 ∧ Aside0 (recoupref12_MayEnv.j1 kq l0 x3_1 x26_2 = some r) ∧ Aside0 (kq ≤ k1) ∧ Aside0 (Below w.heap.size w wc))
        case first =>
          have H := HC3.out
          clear HC3
          by_cases c4 : 0 ≤ x3_1
          · rw [if_pos c4] at H
            have c4b0 : decide (0 ≤ x3_1) = true := decide_eq_true c4
            clear c4
            (first | rw [c4b0] | (simp only [i64_w, i32_w]; rw [c4b0]) | skip)
            replace H := Option.bind_eq_some_iff.mp H
            obtain ⟨t125, A50, H⟩ := H
            replace H : (if t125 = true then ((recoupref12_Number.f ((rd_T54 l0 x3_1).f1)).bind fun t127 => (recoupref12_MayEnv.j1 k1 l0 x3_1 (!t127))) else (recoupref12_MayEnv.j1 k1 l0 x3_1 true)) = some r := H
            have A5 := Aside0.mk A50
            clear A50
            by_cases c6 : t125 = true
            · subst c6
              have H1 : ((recoupref12_Number.f ((rd_T54 l0 x3_1).f1)).bind fun t127 => (recoupref12_MayEnv.j1 k1 l0 x3_1 (!t127))) = some r := by rw [if_pos rfl] at H; exact H
              clear H
              have H := H1
              clear H1
              replace H := Option.bind_eq_some_iff.mp H
              obtain ⟨t127, A70, H⟩ := H
              replace H : (recoupref12_MayEnv.j1 k1 l0 x3_1 (!t127)) = some r := H
              have A7 := Aside0.mk A70
              clear A70
              have H' := Aside0.mk H
              clear H
              have p124 : 0 ≤ (x3_1 : Int) := of_decide_eq_true (by first | (with_reducible assumption) | assumption)
              have q124 : x3_1 < (l0.length : Int) := of_decide_eq_true (by first | (with_reducible assumption) | assumption)
              obtain ⟨ad124, e124, hx124_0, hx124_1⟩ := at_T54 HR0.out x3_1 p124 q124
              cases e124
              replace hx124_0 := (HB.out.cell (World.block_lt_of_cell? w _ hx124_0)).trans hx124_0
              replace hx124_1 := (HB.out.cell (World.block_lt_of_cell? w _ hx124_1)).trans hx124_1
              replace p124 := eq_true p124
              replace q124 := eq_true q124
              go_wp2_with (first | (go_at_call 33; (with_reducible refine (recoupref09_Name.calls k1 ((rd_T54 l0 x3_1).f0) true _ A5.out).mono ?_); rintro e w8 ⟨rfl, hb⟩; have n0_ := Aside0.mk (below_step (by repeat (first | (with_reducible first | exact HB.out | apply below_alloc | apply pw_below_drewN | apply below_drew1) | exact HB.out)) hb); clear HB; have HB := n0_; clear n0_; (try clear hb); (try clear hb2); (try clear hk); (try clear hi); have p126 : 0 ≤ (x3_1 : Int) := of_decide_eq_true (by first | (with_reducible assumption) | assumption); have q126 : x3_1 < (l0.length : Int) := of_decide_eq_true (by first | (with_reducible assumption) | assumption); obtain ⟨ad126, e126, hx126_0, hx126_1⟩ := at_T54 HR0.out x3_1 p126 q126; obtain rfl : ad124 = ad126 := (by injection e126); replace hx126_0 := (HB.out.cell (World.block_lt_of_cell? w _ hx126_0)).trans hx126_0; replace hx126_1 := (HB.out.cell (World.block_lt_of_cell? w _ hx126_1)).trans hx126_1; replace p126 := eq_true p126; replace q126 := eq_true q126) | (go_at_call 18; (with_reducible refine (recoupref12_Number.calls ((rd_T54 l0 x3_1).f1) t127 _ A7.out).mono ?_); rintro e w' ⟨rfl, ⟨nd, rfl⟩⟩; (try first | exact ⟨rfl, _, World.drewN_drewN _ _ _⟩ | exact ⟨rfl, _, Eq.trans (World.drewN_drewN _ _ _) (congrArg (World.drewN _) (Nat.add_assoc _ _ _))⟩)))
              repeat (go_quiet (first | (go_at_call 33; (with_reducible refine (recoupref09_Name.calls k1 ((rd_T54 l0 x3_1).f0) true _ A5.out).mono ?_); rintro e w8 ⟨rfl, hb⟩; have n0_ := Aside0.mk (below_step (by repeat (first | (with_reducible first | exact HB.out | apply below_alloc | apply pw_below_drewN | apply below_drew1) | exact HB.out)) hb); clear HB; have HB := n0_; clear n0_; (try clear hb); (try clear hb2); (try clear hk); (try clear hi); have p126 : 0 ≤ (x3_1 : Int) := of_decide_eq_true (by first | (with_reducible assumption) | assumption); have q126 : x3_1 < (l0.length : Int) := of_decide_eq_true (by first | (with_reducible assumption) | assumption); obtain ⟨ad126, e126, hx126_0, hx126_1⟩ := at_T54 HR0.out x3_1 p126 q126; obtain rfl : ad124 = ad126 := (by injection e126); replace hx126_0 := (HB.out.cell (World.block_lt_of_cell? w _ hx126_0)).trans hx126_0; replace hx126_1 := (HB.out.cell (World.block_lt_of_cell? w _ hx126_1)).trans hx126_1; replace p126 := eq_true p126; replace q126 := eq_true q126) | (go_at_call 18; (with_reducible refine (recoupref12_Number.calls ((rd_T54 l0 x3_1).f1) t127 _ A7.out).mono ?_); rintro e w' ⟨rfl, ⟨nd, rfl⟩⟩; (try first | exact ⟨rfl, _, World.drewN_drewN _ _ _⟩ | exact ⟨rfl, _, Eq.trans (World.drewN_drewN _ _ _) (congrArg (World.drewN _) (Nat.add_assoc _ _ _))⟩))); try go_wp2_with (first | (go_at_call 33; (with_reducible refine (recoupref09_Name.calls k1 ((rd_T54 l0 x3_1).f0) true _ A5.out).mono ?_); rintro e w8 ⟨rfl, hb⟩; have n0_ := Aside0.mk (below_step (by repeat (first | (with_reducible first | exact HB.out | apply below_alloc | apply pw_below_drewN | apply below_drew1) | exact HB.out)) hb); clear HB; have HB := n0_; clear n0_; (try clear hb); (try clear hb2); (try clear hk); (try clear hi); have p126 : 0 ≤ (x3_1 : Int) := of_decide_eq_true (by first | (with_reducible assumption) | assumption); have q126 : x3_1 < (l0.length : Int) := of_decide_eq_true (by first | (with_reducible assumption) | assumption); obtain ⟨ad126, e126, hx126_0, hx126_1⟩ := at_T54 HR0.out x3_1 p126 q126; obtain rfl : ad124 = ad126 := (by injection e126); replace hx126_0 := (HB.out.cell (World.block_lt_of_cell? w _ hx126_0)).trans hx126_0; replace hx126_1 := (HB.out.cell (World.block_lt_of_cell? w _ hx126_1)).trans hx126_1; replace p126 := eq_true p126; replace q126 := eq_true q126) | (go_at_call 18; (with_reducible refine (recoupref12_Number.calls ((rd_T54 l0 x3_1).f1) t127 _ A7.out).mono ?_); rintro e w' ⟨rfl, ⟨nd, rfl⟩⟩; (try first | exact ⟨rfl, _, World.drewN_drewN _ _ _⟩ | exact ⟨rfl, _, Eq.trans (World.drewN_drewN _ _ _) (congrArg (World.drewN _) (Nat.add_assoc _ _ _))⟩))))
              go_meet
              case rel => exact ⟨_, (!t127), (by first | rfl | (simp; done) | (simp [*]; done) | (simp [xbne_nil]; done)), H', ⟨by have := HK1.out; first | omega | exact Nat.le_refl _⟩, ⟨by repeat (first | (with_reducible first | exact HB.out | apply below_alloc | apply pw_below_drewN | apply below_drew1) | exact HB.out)⟩⟩
            · replace c6 := Bool.eq_false_iff.mpr c6
              subst c6
              have H1 : (recoupref12_MayEnv.j1 k1 l0 x3_1 true) = some r := by rw [if_neg (show ¬ (false = true) by decide)] at H; exact H
              clear H
              have H := H1
              clear H1
              have H' := Aside0.mk H
              clear H
              have p124 : 0 ≤ (x3_1 : Int) := of_decide_eq_true (by first | (with_reducible assumption) | assumption)
              have q124 : x3_1 < (l0.length : Int) := of_decide_eq_true (by first | (with_reducible assumption) | assumption)
              obtain ⟨ad124, e124, hx124_0, hx124_1⟩ := at_T54 HR0.out x3_1 p124 q124
              cases e124
              replace hx124_0 := (HB.out.cell (World.block_lt_of_cell? w _ hx124_0)).trans hx124_0
              replace hx124_1 := (HB.out.cell (World.block_lt_of_cell? w _ hx124_1)).trans hx124_1
              replace p124 := eq_true p124
              replace q124 := eq_true q124
              go_wp2_with (first | (go_at_call 33; (with_reducible refine (recoupref09_Name.calls k1 ((rd_T54 l0 x3_1).f0) false _ A5.out).mono ?_); rintro e w9 ⟨rfl, hb⟩; have n0_ := Aside0.mk (below_step (by repeat (first | (with_reducible first | exact HB.out | apply below_alloc | apply pw_below_drewN | apply below_drew1) | exact HB.out)) hb); clear HB; have HB := n0_; clear n0_; (try clear hb); (try clear hb2); (try clear hk); (try clear hi)))
              repeat (go_quiet (first | (go_at_call 33; (with_reducible refine (recoupref09_Name.calls k1 ((rd_T54 l0 x3_1).f0) false _ A5.out).mono ?_); rintro e w9 ⟨rfl, hb⟩; have n0_ := Aside0.mk (below_step (by repeat (first | (with_reducible first | exact HB.out | apply below_alloc | apply pw_below_drewN | apply below_drew1) | exact HB.out)) hb); clear HB; have HB := n0_; clear n0_; (try clear hb); (try clear hb2); (try clear hk); (try clear hi))); try go_wp2_with (first | (go_at_call 33; (with_reducible refine (recoupref09_Name.calls k1 ((rd_T54 l0 x3_1).f0) false _ A5.out).mono ?_); rintro e w9 ⟨rfl, hb⟩; have n0_ := Aside0.mk (below_step (by repeat (first | (with_reducible first | exact HB.out | apply below_alloc | apply pw_below_drewN | apply below_drew1) | exact HB.out)) hb); clear HB; have HB := n0_; clear n0_; (try clear hb); (try clear hb2); (try clear hk); (try clear hi))))
              go_meet
              case rel => exact ⟨_, (true), (by first | rfl | (simp; done) | (simp [*]; done) | (simp [xbne_nil]; done)), H', ⟨by have := HK1.out; first | omega | exact Nat.le_refl _⟩, ⟨by repeat (first | (with_reducible first | exact HB.out | apply below_alloc | apply pw_below_drewN | apply below_drew1) | exact HB.out)⟩⟩
          · rw [if_neg c4] at H
            exact absurd H (by simp)
        case rest =>
          clear HC3
          try clear p1
          try clear q1
          try clear hx1
          try clear c2
          try clear c2b0
          try clear p2
          try clear c4
          try clear c4b0
          try clear c6
          try clear hx124_0
          try clear hx124_1
          try clear hx126_0
          try clear hx126_1
          try clear p124
          try clear p126
          try clear q124
          try clear q126
          obtain ⟨kq, x26_2, rfl, HA, HJ2, HB⟩ := hcut
          cases kq with
          | zero => exact absurd HA.out (by simp [recoupref12_MayEnv.j1])
          | succ kj2 =>
            have H := HA.out
            clear HA
            simp only [recoupref12_MayEnv.j1] at H
            by_cases c10 : x26_2 = true
            · subst c10
              have H1 : (some false) = some r := by rw [if_pos rfl] at H; exact H
              clear H
              have H := H1
              clear H1
              obtain rfl := Option.some.inj H
              go_wp2
              repeat (go_quiet (fail); try go_wp2)
              go_ret
              exact ⟨by first | rfl | (simp [errW_none, errW_some] <;> rfl) | (simp [*, errW_none, errW_some] <;> rfl), by repeat (first | (with_reducible first | exact HB.out | apply below_alloc | apply pw_below_drewN | apply below_drew1) | exact HB.out)⟩
            · replace c10 := Bool.eq_false_iff.mpr c10
              subst c10
              have H1 : (recoupref12_MayEnv.l1 kj2 l0 x3_1 0) = some r := by rw [if_neg (show ¬ (false = true) by decide)] at H; exact H
              clear H
              have H := H1
              clear H1
              have H' := Aside0.mk H
              clear H
              go_wp2
              repeat (go_quiet (fail); try go_wp2)
              go_loopg [4] kj2 (fun kq v4 w' => ∃ (x4_3 : Int), v4 = .int .i64 x4_3 ∧ Aside0 (recoupref12_MayEnv.l1 kq l0 x3_1 x4_3 = some r) ∧ Aside0 (kq ≤ kj2) ∧ Aside0 (Below w.heap.size w w'))
              case atStart => exact ⟨(0), (by first | rfl | (simp; done) | (simp [*]; done) | (simp [xbne_nil]; done)), H', ⟨Nat.le_refl _⟩, ⟨by repeat (first | (with_reducible first | exact HB.out | apply below_alloc | apply pw_below_drewN | apply below_drew1) | exact HB.out)⟩⟩
              case round =>
                clear H'
                try clear c1
                try clear p1
                try clear q1
                try clear hx1
                try clear c2
                try clear c2b0
                try clear p2
                try clear c4
                try clear c4b0
                try clear c6
                try clear c10
                try clear hx124_0
                try clear hx124_1
                try clear hx126_0
                try clear hx126_1
                try clear p1
                try clear p124
                try clear p126
                try clear p2
                try clear q1
                try clear q124
                try clear q126
                obtain ⟨x4_3, rfl, HA, HK3, HB⟩ := hrel
                cases gk with
                | zero => exact absurd HA.out (by simp [recoupref12_MayEnv.l1])
                | succ k3 =>
                  have H := HA.out
                  clear HA
                  simp only [recoupref12_MayEnv.l1] at H
                  by_cases c11 : x4_3 < x3_1
                  · rw [if_pos c11] at H
                    have c11b0 : decide (x4_3 < x3_1) = true := decide_eq_true c11
                    clear c11
                    by_cases c12 : 0 ≤ x4_3
                    · rw [if_pos c12] at H
                      have c12b0 : decide (0 ≤ x4_3) = true := decide_eq_true c12
                      clear c12
                      by_cases c13 : x4_3 < (l0.length : Int)
                      · rw [if_pos c13] at H
                        have c13b0 : decide (x4_3 < (l0.length : Int)) = true := decide_eq_true c13
                        clear c13
                        by_cases c14 : 0 ≤ x3_1
                        · rw [if_pos c14] at H
                          have c14b0 : decide (0 ≤ x3_1) = true := decide_eq_true c14
                          clear c14
                          by_cases c15 : x3_1 < (l0.length : Int)
                          · rw [if_pos c15] at H
                            have c15b0 : decide (x3_1 < (l0.length : Int)) = true := decide_eq_true c15
                            clear c15
                            by_cases c16 : ((rd_T54 l0 x4_3).f0).toList = ((rd_T54 l0 x3_1).f0).toList
                            · rw [if_pos c16] at H
                              have c16b0 : (((rd_T54 l0 x4_3).f0).toList == ((rd_T54 l0 x3_1).f0).toList) = true := beq_iff_eq.mpr c16
                              have c16b1 : (((rd_T54 l0 x4_3).f0).toList != ((rd_T54 l0 x3_1).f0).toList) = false := bne_eq_false_iff_eq.mpr c16
                              clear c16
                              obtain rfl := Option.some.inj H
                              have p128 : 0 ≤ (x4_3 : Int) := of_decide_eq_true (by first | (with_reducible assumption) | assumption)
                              have q128 : x4_3 < (l0.length : Int) := of_decide_eq_true (by first | (with_reducible assumption) | assumption)
                              obtain ⟨ad128, e128, hx128_0, hx128_1⟩ := at_T54 HR0.out x4_3 p128 q128
                              cases e128
                              replace hx128_0 := (HB.out.cell (World.block_lt_of_cell? w _ hx128_0)).trans hx128_0
                              replace hx128_1 := (HB.out.cell (World.block_lt_of_cell? w _ hx128_1)).trans hx128_1
                              replace p128 := eq_true p128
                              replace q128 := eq_true q128
                              have p129 : 0 ≤ (x3_1 : Int) := of_decide_eq_true (by first | (with_reducible assumption) | assumption)
                              have q129 : x3_1 < (l0.length : Int) := of_decide_eq_true (by first | (with_reducible assumption) | assumption)
                              obtain ⟨ad129, e129, hx129_0, hx129_1⟩ := at_T54 HR0.out x3_1 p129 q129
                              obtain rfl : ad128 = ad129 := (by injection e129)
                              replace hx129_0 := (HB.out.cell (World.block_lt_of_cell? w _ hx129_0)).trans hx129_0
                              replace hx129_1 := (HB.out.cell (World.block_lt_of_cell? w _ hx129_1)).trans hx129_1
                              replace p129 := eq_true p129
                              replace q129 := eq_true q129
                              go_wp2
                              repeat (go_quiet (fail); try go_wp2)
                              go_ret
                              exact ⟨by first | rfl | (simp [errW_none, errW_some] <;> rfl) | (simp [*, errW_none, errW_some] <;> rfl), by repeat (first | (with_reducible first | exact HB.out | apply below_alloc | apply pw_below_drewN | apply below_drew1) | exact HB.out)⟩
                            · rw [if_neg c16] at H
                              have c16b0 : (((rd_T54 l0 x4_3).f0).toList == ((rd_T54 l0 x3_1).f0).toList) = false := beq_eq_false_iff_ne.mpr c16
                              have c16b1 : (((rd_T54 l0 x4_3).f0).toList != ((rd_T54 l0 x3_1).f0).toList) = true := bne_iff_ne.mpr c16
                              have H' := Aside0.mk H
                              clear H
                              have p128 : 0 ≤ (x4_3 : Int) := of_decide_eq_true (by first | (with_reducible assumption) | assumption)
                              have q128 : x4_3 < (l0.length : Int) := of_decide_eq_true (by first | (with_reducible assumption) | assumption)
                              obtain ⟨ad128, e128, hx128_0, hx128_1⟩ := at_T54 HR0.out x4_3 p128 q128
                              cases e128
                              replace hx128_0 := (HB.out.cell (World.block_lt_of_cell? w _ hx128_0)).trans hx128_0
                              replace hx128_1 := (HB.out.cell (World.block_lt_of_cell? w _ hx128_1)).trans hx128_1
                              replace p128 := eq_true p128
                              replace q128 := eq_true q128
                              have p129 : 0 ≤ (x3_1 : Int) := of_decide_eq_true (by first | (with_reducible assumption) | assumption)
                              have q129 : x3_1 < (l0.length : Int) := of_decide_eq_true (by first | (with_reducible assumption) | assumption)
                              obtain ⟨ad129, e129, hx129_0, hx129_1⟩ := at_T54 HR0.out x3_1 p129 q129
                              obtain rfl : ad128 = ad129 := (by injection e129)
                              replace hx129_0 := (HB.out.cell (World.block_lt_of_cell? w _ hx129_0)).trans hx129_0
                              replace hx129_1 := (HB.out.cell (World.block_lt_of_cell? w _ hx129_1)).trans hx129_1
                              replace p129 := eq_true p129
                              replace q129 := eq_true q129
                              go_wp2
                              repeat (go_quiet (fail); try go_wp2)
                              go_roundg k3
                              case measure => have := HK1.out; have := HJ2.out; have := HK3.out; omega
                              case rel => exact ⟨(wrap64 (x4_3 + 1)), (by first | rfl | (simp; done) | (simp [*]; done) | (simp [xbne_nil]; done)), H', ⟨by have := HK1.out; have := HJ2.out; have := HK3.out; omega⟩, ⟨by repeat (first | (with_reducible first | exact HB.out | apply below_alloc | apply pw_below_drewN | apply below_drew1) | exact HB.out)⟩⟩
                          · rw [if_neg c15] at H
                            exact absurd H (by simp)
                        · rw [if_neg c14] at H
                          exact absurd H (by simp)
                      · rw [if_neg c13] at H
                        exact absurd H (by simp)
                    · rw [if_neg c12] at H
                      exact absurd H (by simp)
                  · rw [if_neg c11] at H
                    have c11b0 : decide (x4_3 < x3_1) = false := decide_eq_false c11
                    clear c11
                    have H' := Aside0.mk H
                    clear H
                    go_wp2
                    repeat (go_quiet (fail); try go_wp2)
                    go_roundg k3
                    case measure => have := HK1.out; have := HJ2.out; have := HK3.out; omega
                    case rel => exact ⟨(wrap64 (x3_1 + 1)), (by first | rfl | (simp; done) | (simp [*]; done) | (simp [xbne_nil]; done)), H', ⟨by have := HK1.out; have := HJ2.out; have := HK3.out; omega⟩, ⟨by repeat (first | (with_reducible first | exact HB.out | apply below_alloc | apply pw_below_drewN | apply below_drew1) | exact HB.out)⟩⟩
      · rw [if_neg c2] at H
        have c2b0 : decide (x3_1 < (l0.length : Int)) = false := decide_eq_false c2
        clear c2
        obtain rfl := Option.some.inj H
        go_wp2
        repeat (go_quiet (fail); try go_wp2)
        go_ret
        exact ⟨by first | rfl | (simp [errW_none, errW_some] <;> rfl) | (simp [*, errW_none, errW_some] <;> rfl), by repeat (first | (with_reducible first | exact HB.out | apply below_alloc | apply pw_below_drewN | apply below_drew1) | exact HB.out)⟩

end Go.Proofs.Ytnojokempdcikaa.PA

namespace Go.Proofs.Ytnojokempdcikaa.PA
open Go.RowKit Go.Proofs.YtnojokempdcikaaW.PrintWords Go.Proofs.YtnojokempdcikaaW.PrintLast Go.Proofs.YtnojokempdcikaaW.PrintMore
attribute [local go_sem] max2_int min2_int max_two min_two max_three min_three max_four min_four   -- for this text's walks alone
set_option linter.unusedVariables false
set_option linter.unusedSimpArgs false

/-! ### recoupref10_expr: function 38 -/
mutual
def recoupref10_expr.j0 : Nat → Int → Int → Bool → Int → Int → ByteArray → List (S25) → Int → Int → Option (Int)
  | 0, _, _, _, _, _, _, _, _, _ => none
  | k + 1, x1, x2, x16, x131000, x131001, x131002, x131003, x131004, x131005 => if x16 = true then (some (-1)) else (if x131000 = 1 then (if x131001 < 0 then (some (-1)) else (if x131001 > 2147483647 then (some (-1)) else (if x131002.toList = ([] : List UInt8) then (recoupref10_expr.j1 k x1 x2 0 x131000 x131001 x131002 x131003 x131004 x131005) else (some (-1))))) else (if x131000 = 2 then (if x131001 = 0 then ((recoupref09_Name.f k x131002).bind fun t131 => (if t131 = true then (recoupref10_expr.j1 k x1 x2 0 x131000 x131001 x131002 x131003 x131004 x131005) else (some (-1)))) else (some (-1))) else (if x131000 = 3 then (recoupref10_expr.j1 k x1 x2 1 x131000 x131001 x131002 x131003 x131004 x131005) else (if x131000 = 4 then (recoupref10_expr.j1 k x1 x2 2 x131000 x131001 x131002 x131003 x131004 x131005) else (if x131000 = 5 then (recoupref10_expr.j1 k x1 x2 2 x131000 x131001 x131002 x131003 x131004 x131005) else (if x131000 = 6 then (recoupref10_expr.j1 k x1 x2 2 x131000 x131001 x131002 x131003 x131004 x131005) else (if x131000 = 7 then (recoupref10_expr.j1 k x1 x2 2 x131000 x131001 x131002 x131003 x131004 x131005) else (if x131000 = 8 then (recoupref10_expr.j1 k x1 x2 2 x131000 x131001 x131002 x131003 x131004 x131005) else (some (-1))))))))))
def recoupref10_expr.j1 : Nat → Int → Int → Int → Int → Int → ByteArray → List (S25) → Int → Int → Option (Int)
  | 0, _, _, _, _, _, _, _, _, _ => none
  | k + 1, x1, x2, x7, x131000, x131001, x131002, x131003, x131004, x131005 => if (x131003.length : Int) = x7 then (if x7 > 0 then (if x131001 = 0 then (recoupref10_expr.j2 k x1 x2 (x131002.toList != ([] : List UInt8)) x131000 x131001 x131002 x131003 x131004 x131005) else (recoupref10_expr.j2 k x1 x2 true x131000 x131001 x131002 x131003 x131004 x131005)) else (recoupref10_expr.j2 k x1 x2 false x131000 x131001 x131002 x131003 x131004 x131005)) else (recoupref10_expr.j2 k x1 x2 true x131000 x131001 x131002 x131003 x131004 x131005)
def recoupref10_expr.j2 : Nat → Int → Int → Bool → Int → Int → ByteArray → List (S25) → Int → Int → Option (Int)
  | 0, _, _, _, _, _, _, _, _, _ => none
  | k + 1, x1, x2, x71, x131000, x131001, x131002, x131003, x131004, x131005 => if x71 = true then (some (-1)) else (recoupref10_expr.l0 k x1 x2 0 x131000 x131001 x131002 x131003 x131004 x131005)
def recoupref10_expr.l0 : Nat → Int → Int → Int → Int → Int → ByteArray → List (S25) → Int → Int → Option (Int)
  | 0, _, _, _, _, _, _, _, _, _ => none
  | k + 1, x1, x2, x8, x131000, x131001, x131002, x131003, x131004, x131005 => if x8 < (x131003.length : Int) then (if x1 ≥ 0 then (if 0 ≤ x8 then ((recoupref10_expr.f k ((rd_T25 x131003 x8).f0) ((rd_T25 x131003 x8).f1) ((rd_T25 x131003 x8).f2) ((rd_T25 x131003 x8).f3) ((rd_T25 x131003 x8).f4) ((rd_T25 x131003 x8).f5) x1 (wrap64 (x2 - 1))).bind fun t133 => (recoupref10_expr.l0 k t133 x2 (wrap64 (x8 + 1)) x131000 x131001 x131002 x131003 x131004 x131005)) else (none)) else (some x1)) else (some x1)
def recoupref10_expr.f : Nat → Int → Int → ByteArray → List (S25) → Int → Int → Int → Int → Option (Int)
  | 0, _, _, _, _, _, _, _, _ => none
  | k + 1, a0_0, a0_1, a0_2, l0_3, a0_4, a0_5, a1, a2 => if (wrap64 (a1 - 1)) < 0 then (recoupref10_expr.j0 k (wrap64 (a1 - 1)) a2 true a0_0 a0_1 a0_2 l0_3 a0_4 a0_5) else (recoupref10_expr.j0 k (wrap64 (a1 - 1)) a2 (a2 == 0) a0_0 a0_1 a0_2 l0_3 a0_4 a0_5)
end
theorem recoupref10_expr.mono_l : ∀ k, (∀ y0 y1 y2 y3 y4 y5 y6 y7, LeO (recoupref10_expr.f k y0 y1 y2 y3 y4 y5 y6 y7) (recoupref10_expr.f (k + 1) y0 y1 y2 y3 y4 y5 y6 y7)) ∧ (∀ y0 y1 y2 y3 y4 y5 y6 y7 y8, LeO (recoupref10_expr.j0 k y0 y1 y2 y3 y4 y5 y6 y7 y8) (recoupref10_expr.j0 (k + 1) y0 y1 y2 y3 y4 y5 y6 y7 y8)) ∧ (∀ y0 y1 y2 y3 y4 y5 y6 y7 y8, LeO (recoupref10_expr.j1 k y0 y1 y2 y3 y4 y5 y6 y7 y8) (recoupref10_expr.j1 (k + 1) y0 y1 y2 y3 y4 y5 y6 y7 y8)) ∧ (∀ y0 y1 y2 y3 y4 y5 y6 y7 y8, LeO (recoupref10_expr.j2 k y0 y1 y2 y3 y4 y5 y6 y7 y8) (recoupref10_expr.j2 (k + 1) y0 y1 y2 y3 y4 y5 y6 y7 y8)) ∧ (∀ y0 y1 y2 y3 y4 y5 y6 y7 y8, LeO (recoupref10_expr.l0 k y0 y1 y2 y3 y4 y5 y6 y7 y8) (recoupref10_expr.l0 (k + 1) y0 y1 y2 y3 y4 y5 y6 y7 y8))
  | 0 => ⟨fun _ _ _ _ _ _ _ _ r h => by simp [recoupref10_expr.f] at h, fun _ _ _ _ _ _ _ _ _ r h => by simp [recoupref10_expr.j0] at h, fun _ _ _ _ _ _ _ _ _ r h => by simp [recoupref10_expr.j1] at h, fun _ _ _ _ _ _ _ _ _ r h => by simp [recoupref10_expr.j2] at h, fun _ _ _ _ _ _ _ _ _ r h => by simp [recoupref10_expr.l0] at h⟩
  | k + 1 => by
    obtain ⟨ih0, ih1, ih2, ih3, ih4⟩ := recoupref10_expr.mono_l k
    refine ⟨?_, ?_, ?_, ?_, ?_⟩
    · intro y0 y1 y2 y3 y4 y5 y6 y7
      unfold recoupref10_expr.f
      repeat' first
      | (with_reducible exact ih0 _ _ _ _ _ _ _ _)
      | (with_reducible exact ih1 _ _ _ _ _ _ _ _ _)
      | (with_reducible exact ih2 _ _ _ _ _ _ _ _ _)
      | (with_reducible exact ih3 _ _ _ _ _ _ _ _ _)
      | (with_reducible exact ih4 _ _ _ _ _ _ _ _ _)
      | (with_reducible exact recoupref09_Name.mono _ _)
      | (with_reducible exact LeO.refl _)
      | (with_reducible exact LeO.none _)
      | (with_reducible refine LeO.ite ?_ ?_)
      | (with_reducible refine LeO.bind ?_ (fun _ => ?_))
      | exact ih0 _ _ _ _ _ _ _ _
      | exact ih1 _ _ _ _ _ _ _ _ _
      | exact ih2 _ _ _ _ _ _ _ _ _
      | exact ih3 _ _ _ _ _ _ _ _ _
      | exact ih4 _ _ _ _ _ _ _ _ _
      | exact recoupref09_Name.mono _ _
      | exact LeO.none _
      | refine LeO.ite ?_ ?_
      | refine LeO.bind ?_ (fun _ => ?_)
    · intro y0 y1 y2 y3 y4 y5 y6 y7 y8
      unfold recoupref10_expr.j0
      repeat' first
      | (with_reducible exact ih0 _ _ _ _ _ _ _ _)
      | (with_reducible exact ih1 _ _ _ _ _ _ _ _ _)
      | (with_reducible exact ih2 _ _ _ _ _ _ _ _ _)
      | (with_reducible exact ih3 _ _ _ _ _ _ _ _ _)
      | (with_reducible exact ih4 _ _ _ _ _ _ _ _ _)
      | (with_reducible exact recoupref09_Name.mono _ _)
      | (with_reducible exact LeO.refl _)
      | (with_reducible exact LeO.none _)
      | (with_reducible refine LeO.ite ?_ ?_)
      | (with_reducible refine LeO.bind ?_ (fun _ => ?_))
      | exact ih0 _ _ _ _ _ _ _ _
      | exact ih1 _ _ _ _ _ _ _ _ _
      | exact ih2 _ _ _ _ _ _ _ _ _
      | exact ih3 _ _ _ _ _ _ _ _ _
      | exact ih4 _ _ _ _ _ _ _ _ _
      | exact recoupref09_Name.mono _ _
      | exact LeO.none _
      | refine LeO.ite ?_ ?_
      | refine LeO.bind ?_ (fun _ => ?_)
    · intro y0 y1 y2 y3 y4 y5 y6 y7 y8
      unfold recoupref10_expr.j1
      repeat' first
      | (with_reducible exact ih0 _ _ _ _ _ _ _ _)
      | (with_reducible exact ih1 _ _ _ _ _ _ _ _ _)
      | (with_reducible exact ih2 _ _ _ _ _ _ _ _ _)
      | (with_reducible exact ih3 _ _ _ _ _ _ _ _ _)
      | (with_reducible exact ih4 _ _ _ _ _ _ _ _ _)
      | (with_reducible exact recoupref09_Name.mono _ _)
      | (with_reducible exact LeO.refl _)
      | (with_reducible exact LeO.none _)
      | (with_reducible refine LeO.ite ?_ ?_)
      | (with_reducible refine LeO.bind ?_ (fun _ => ?_))
      | exact ih0 _ _ _ _ _ _ _ _
      | exact ih1 _ _ _ _ _ _ _ _ _
      | exact ih2 _ _ _ _ _ _ _ _ _
      | exact ih3 _ _ _ _ _ _ _ _ _
      | exact ih4 _ _ _ _ _ _ _ _ _
      | exact recoupref09_Name.mono _ _
      | exact LeO.none _
      | refine LeO.ite ?_ ?_
      | refine LeO.bind ?_ (fun _ => ?_)
    · intro y0 y1 y2 y3 y4 y5 y6 y7 y8
      unfold recoupref10_expr.j2
      repeat' first
      | (with_reducible exact ih0 _ _ _ _ _ _ _ _)
      | (with_reducible exact ih1 _ _ _ _ _ _ _ _ _)
      | (with_reducible exact ih2 _ _ _ _ _ _ _ _ _)
      | (with_reducible exact ih3 _ _ _ _ _ _ _ _ _)
      | (with_reducible exact ih4 _ _ _ _ _ _ _ _ _)
      | (with_reducible exact recoupref09_Name.mono _ _)
      | (with_reducible exact LeO.refl _)
      | (with_reducible exact LeO.none _)
      | (with_reducible refine LeO.ite ?_ ?_)
      | (with_reducible refine LeO.bind ?_ (fun _ => ?_))
      | exact ih0 _ _ _ _ _ _ _ _
      | exact ih1 _ _ _ _ _ _ _ _ _
      | exact ih2 _ _ _ _ _ _ _ _ _
      | exact ih3 _ _ _ _ _ _ _ _ _
      | exact ih4 _ _ _ _ _ _ _ _ _
      | exact recoupref09_Name.mono _ _
      | exact LeO.none _
      | refine LeO.ite ?_ ?_
      | refine LeO.bind ?_ (fun _ => ?_)
    · intro y0 y1 y2 y3 y4 y5 y6 y7 y8
      unfold recoupref10_expr.l0
      repeat' first
      | (with_reducible exact ih0 _ _ _ _ _ _ _ _)
      | (with_reducible exact ih1 _ _ _ _ _ _ _ _ _)
      | (with_reducible exact ih2 _ _ _ _ _ _ _ _ _)
      | (with_reducible exact ih3 _ _ _ _ _ _ _ _ _)
      | (with_reducible exact ih4 _ _ _ _ _ _ _ _ _)
      | (with_reducible exact recoupref09_Name.mono _ _)
      | (with_reducible exact LeO.refl _)
      | (with_reducible exact LeO.none _)
      | (with_reducible refine LeO.ite ?_ ?_)
      | (with_reducible refine LeO.bind ?_ (fun _ => ?_))
      | exact ih0 _ _ _ _ _ _ _ _
      | exact ih1 _ _ _ _ _ _ _ _ _
      | exact ih2 _ _ _ _ _ _ _ _ _
      | exact ih3 _ _ _ _ _ _ _ _ _
      | exact ih4 _ _ _ _ _ _ _ _ _
      | exact recoupref09_Name.mono _ _
      | exact LeO.none _
      | refine LeO.ite ?_ ?_
      | refine LeO.bind ?_ (fun _ => ?_)
theorem recoupref10_expr.mono : ∀ a0 a1 a2 a3 a4 a5 a6 a7 k, LeO (recoupref10_expr.f k a0 a1 a2 a3 a4 a5 a6 a7) (recoupref10_expr.f (k + 1) a0 a1 a2 a3 a4 a5 a6 a7) := by
  intro a0 a1 a2 a3 a4 a5 a6 a7 k
  obtain ⟨ih0, ih1, ih2, ih3, ih4⟩ := recoupref10_expr.mono_l k
  exact ih0 a0 a1 a2 a3 a4 a5 a6 a7
set_option maxHeartbeats 8000000 in
set_option maxRecDepth 100000 in
theorem recoupref10_expr.calls (k : Nat) : ∀ (a0_0 : Int) (a0_1 : Int) (a0_2 : ByteArray) (A0_3 : Option Addr) (c0_3 : Nat) (l0_3 : List (S25)) (a0_4 : Int) (a0_5 : Int) (a1 : Int) (a2 : Int) (r : Int) (w : World) (hr0_3 : Kd.C k25 w A0_3 l0_3.length l0_3) (hc0_3 : l0_3.length ≤ c0_3) (h : recoupref10_expr.f k a0_0 a0_1 a0_2 l0_3 a0_4 a0_5 a1 a2 = some r),
    Calls Try.prog 38 #[.agg #[.int .u8 a0_0, .int .i64 a0_1, .string a0_2, .slice A0_3 l0_3.length c0_3, .int .i64 a0_4, .int .i64 a0_5], .int .i64 a1, .int .i64 a2] w fun e w' => e = .returned (.int .i64 r) ∧ Below w.heap.size w w' := by
  induction k using Nat.strongRecOn with
  | _ k ih =>
  intro a0_0 a0_1 a0_2 A0_3 c0_3 l0_3 a0_4 a0_5 a1 a2 r w hr0_3 hc0_3 h
  cases k with
  | zero => exact absurd h (by simp [recoupref10_expr.f])
  | succ k =>
  simp only [recoupref10_expr.f] at h
  have hu25 := Try.underlying25
  have HR0_3 := Aside0.mk hr0_3
  have HC0_3 := Aside0.mk hc0_3
  clear hr0_3 hc0_3
  have HB := Aside0.mk (Below.refl w.heap.size w)
  have H : (if (wrap64 (a1 - 1)) < 0 then (recoupref10_expr.j0 k (wrap64 (a1 - 1)) a2 true a0_0 a0_1 a0_2 l0_3 a0_4 a0_5) else (recoupref10_expr.j0 k (wrap64 (a1 - 1)) a2 (a2 == 0) a0_0 a0_1 a0_2 l0_3 a0_4 a0_5)) = some r := h
  clear h
  have HC4 := Aside0.mk H
  clear H
  go_enter Try.func38, Try.ntmps38
  go_upto_region 2 with (first | ((with_reducible refine gate_dst (N := 3) rfl ?_); refine box_event ?hg (N := 3) ?hd (cs := #[.int .u8 a0_0, .int .i64 a0_1, .string a0_2, .slice A0_3 l0_3.length c0_3, .int .i64 a0_4, .int .i64 a0_5]) (t := 25) ?hr ?_; (case hd => rfl); (case hg => rfl); (case hr => first | (go_simp; done) | (go_simp; rfl)); intro gb130 hg w5 hbox hb; have n0_ := Aside0.mk (below_step (by repeat (first | (with_reducible first | exact HB.out | apply below_alloc | apply pw_below_drewN | apply below_drew1) | exact HB.out)) hb); have n1_ := Aside0.mk (hbox); have n2_ := Aside0.mk ((by rw [hg]; exact (below_size (by repeat (first | (with_reducible first | exact HB.out | apply below_alloc | apply pw_below_drewN | apply below_drew1) | exact HB.out))) : w.heap.size ≤ gb130)); have n3_ := Aside0.mk ((by rw [hg]; exact (below_size (by repeat (first | (with_reducible first | exact HB.out | apply below_alloc | apply pw_below_drewN | apply below_drew1) | exact HB.out))) : w.heap.size ≤ gb130)); clear HB; have HB := n0_; have BK130 := n1_; have GW130 := n2_; have GE130 := n3_; clear n0_ n1_ n2_ n3_; clear hb hbox hg))
  (try simp only [Act.put, List.setIfInBounds_toArray, List.set_cons_zero, List.set_cons_succ])
  go_cut [16] (fun v16 wc => ∃ (kq : Nat) (x16_3 : Bool), v16 = .bool x16_3 ∧ Aside0 (recoupref10_expr.j0 kq (wrap64 (a1 - 1)) a2 x16_3 a0_0 a0_1 a0_2 l0_3 a0_4 a0_5 = some r) ∧ Aside0 (kq ≤ k) ∧ Aside0 (wc.heap[gb130]? = some (.cells #[.int .u8 a0_0, .int .i64 a0_1, .string a0_2, (.slice A0_3 l0_3.length c0_3), .int .i64 a0_4, .int .i64 a0_5] 25 (0, 0))) ∧ Aside0 (Below w.heap.size w wc))
  case first =>
    have H := HC4.out
    clear HC4
    by_cases c6 : (wrap64 (a1 - 1)) < 0
    · rw [if_pos c6] at H
      have c6b0 : decide ((wrap64 (a1 - 1)) < 0) = true := decide_eq_true c6
      clear c6
      (first | rw [c6b0] | (simp only [i64_w, i32_w]; rw [c6b0]) | skip)
      have H' := Aside0.mk H
      clear H
      go_wp2
      go_meet
      case rel => exact ⟨_, (true), (by first | rfl | (simp; done) | (simp [*]; done) | (simp [xbne_nil]; done)), H', ⟨by first | omega | exact Nat.le_refl _⟩, ⟨by (with_reducible repeat (first | refine blk_drewN ?_ _ | refine blk_drew ?_ | refine blk_alloc ?_ _)); exact BK130.out⟩, ⟨by repeat (first | (with_reducible first | exact HB.out | apply below_alloc | apply pw_below_drewN | apply below_drew1 | refine below_set ?_ GE130.out) | exact HB.out)⟩⟩
    · rw [if_neg c6] at H
      have c6b0 : decide ((wrap64 (a1 - 1)) < 0) = false := decide_eq_false c6
      clear c6
      (first | rw [c6b0] | (simp only [i64_w, i32_w]; rw [c6b0]) | skip)
      have H' := Aside0.mk H
      clear H
      go_wp2
      go_meet
      case rel => exact ⟨_, ((a2 == 0)), (by first | rfl | (simp; done) | (simp [*]; done) | (simp [xbne_nil]; done)), H', ⟨by first | omega | exact Nat.le_refl _⟩, ⟨by (with_reducible repeat (first | refine blk_drewN ?_ _ | refine blk_drew ?_ | refine blk_alloc ?_ _)); exact BK130.out⟩, ⟨by repeat (first | (with_reducible first | exact HB.out | apply below_alloc | apply pw_below_drewN | apply below_drew1 | refine below_set ?_ GE130.out) | exact HB.out)⟩⟩
  case rest =>
    clear HC4
    try clear p2
    try clear c3
    try clear c6
    try clear c6b0
    try clear p6
    obtain ⟨kq, x16_3, rfl, HA, HJ3, BK130, HB⟩ := hcut
    cases kq with
    | zero => exact absurd HA.out (by simp [recoupref10_expr.j0])
    | succ kj3 =>
      have H := HA.out
      clear HA
      simp only [recoupref10_expr.j0] at H
      by_cases c7 : x16_3 = true
      · subst c7
        have H1 : (some (-1)) = some r := by rw [if_pos rfl] at H; exact H
        clear H
        have H := H1
        clear H1
        obtain rfl := Option.some.inj H
        go_wp2
        go_ret
        exact ⟨by first | rfl | (simp [errW_none, errW_some] <;> rfl) | (simp [*, errW_none, errW_some] <;> rfl), by repeat (first | (with_reducible first | exact HB.out | apply below_alloc | apply pw_below_drewN | apply below_drew1 | refine below_set ?_ GE130.out) | exact HB.out)⟩
      · replace c7 := Bool.eq_false_iff.mpr c7
        subst c7
        have H1 : (if a0_0 = 1 then (if a0_1 < 0 then (some (-1)) else (if a0_1 > 2147483647 then (some (-1)) else (if a0_2.toList = ([] : List UInt8) then (recoupref10_expr.j1 kj3 (wrap64 (a1 - 1)) a2 0 a0_0 a0_1 a0_2 l0_3 a0_4 a0_5) else (some (-1))))) else (if a0_0 = 2 then (if a0_1 = 0 then ((recoupref09_Name.f kj3 a0_2).bind fun t131 => (if t131 = true then (recoupref10_expr.j1 kj3 (wrap64 (a1 - 1)) a2 0 a0_0 a0_1 a0_2 l0_3 a0_4 a0_5) else (some (-1)))) else (some (-1))) else (if a0_0 = 3 then (recoupref10_expr.j1 kj3 (wrap64 (a1 - 1)) a2 1 a0_0 a0_1 a0_2 l0_3 a0_4 a0_5) else (if a0_0 = 4 then (recoupref10_expr.j1 kj3 (wrap64 (a1 - 1)) a2 2 a0_0 a0_1 a0_2 l0_3 a0_4 a0_5) else (if a0_0 = 5 then (recoupref10_expr.j1 kj3 (wrap64 (a1 - 1)) a2 2 a0_0 a0_1 a0_2 l0_3 a0_4 a0_5) else (if a0_0 = 6 then (recoupref10_expr.j1 kj3 (wrap64 (a1 - 1)) a2 2 a0_0 a0_1 a0_2 l0_3 a0_4 a0_5) else (if a0_0 = 7 then (recoupref10_expr.j1 kj3 (wrap64 (a1 - 1)) a2 2 a0_0 a0_1 a0_2 l0_3 a0_4 a0_5) else (if a0_0 = 8 then (recoupref10_expr.j1 kj3 (wrap64 (a1 - 1)) a2 2 a0_0 a0_1 a0_2 l0_3 a0_4 a0_5) else (some (-1)))))))))) = some r := by rw [if_neg (show ¬ (false = true) by decide)] at H; exact H
        clear H
        have H := H1
        clear H1
        have HC8 := Aside0.mk H
        clear H
        have hcz9_0 : wc.cell? ⟨gb130, 0, none⟩ = some (.int .u8 a0_0) := (blk_cell BK130.out 0).trans rfl
        have hcz9_1 : wc.cell? ⟨gb130, 1, none⟩ = some (.int .i64 a0_1) := (blk_cell BK130.out 1).trans rfl
        have hcz9_2 : wc.cell? ⟨gb130, 2, none⟩ = some (.string a0_2) := (blk_cell BK130.out 2).trans rfl
        have hcz9_3 : wc.cell? ⟨gb130, 3, none⟩ = some (.slice A0_3 l0_3.length c0_3) := (blk_cell BK130.out 3).trans rfl
        have hcz9_4 : wc.cell? ⟨gb130, 4, none⟩ = some (.int .i64 a0_4) := (blk_cell BK130.out 4).trans rfl
        have hcz9_5 : wc.cell? ⟨gb130, 5, none⟩ = some (.int .i64 a0_5) := (blk_cell BK130.out 5).trans rfl
        have hfz9_0 := blk_frozen BK130.out 0
        have hfz9_1 := blk_frozen BK130.out 1
        have hfz9_2 := blk_frozen BK130.out 2
        have hfz9_3 := blk_frozen BK130.out 3
        have hfz9_4 := blk_frozen BK130.out 4
        have hfz9_5 := blk_frozen BK130.out 5
        go_upto_block 0 with (fail)
        go_cut [7] (fun v7 wc => ∃ (kq : Nat) (x7_7 : Int), v7 = .int .i64 x7_7 ∧ Aside0 (recoupref10_expr.j1 kq (wrap64 (a1 - 1)) a2 x7_7 a0_0 a0_1 a0_2 l0_3 a0_4 a0_5 = some r) ∧ Aside0 (kq ≤ kj3) ∧ Aside0 (wc.heap[gb130]? = some (.cells #[.int .u8 a0_0, .int .i64 a0_1, .string a0_2, (.slice A0_3 l0_3.length c0_3), .int .i64 a0_4, .int .i64 a0_5] 25 (0, 0))) ∧ Aside0 (Below w.heap.size w wc))
        case first =>
          have H := HC8.out
          clear HC8
          by_cases c10 : a0_0 = 1
          · rw [if_pos c10] at H
            have c10b0 : (a0_0 == 1) = true := beq_iff_eq.mpr c10
            have c10b1 : (a0_0 != 1) = false := bne_eq_false_iff_eq.mpr c10
            clear c10
            (first | rw [c10b0] | (simp only [i64_w, i32_w]; rw [c10b0]) | skip)
            by_cases c11 : a0_1 < 0
            · rw [if_pos c11] at H
              have c11b0 : decide (a0_1 < 0) = true := decide_eq_true c11
              clear c11
              obtain rfl := Option.some.inj H
              have hcz12_0 : wc.cell? ⟨gb130, 0, none⟩ = some (.int .u8 a0_0) := (blk_cell BK130.out 0).trans rfl
              have hcz12_1 : wc.cell? ⟨gb130, 1, none⟩ = some (.int .i64 a0_1) := (blk_cell BK130.out 1).trans rfl
              have hcz12_2 : wc.cell? ⟨gb130, 2, none⟩ = some (.string a0_2) := (blk_cell BK130.out 2).trans rfl
              have hcz12_3 : wc.cell? ⟨gb130, 3, none⟩ = some (.slice A0_3 l0_3.length c0_3) := (blk_cell BK130.out 3).trans rfl
              have hcz12_4 : wc.cell? ⟨gb130, 4, none⟩ = some (.int .i64 a0_4) := (blk_cell BK130.out 4).trans rfl
              have hcz12_5 : wc.cell? ⟨gb130, 5, none⟩ = some (.int .i64 a0_5) := (blk_cell BK130.out 5).trans rfl
              have hfz12_0 := blk_frozen BK130.out 0
              have hfz12_1 := blk_frozen BK130.out 1
              have hfz12_2 := blk_frozen BK130.out 2
              have hfz12_3 := blk_frozen BK130.out 3
              have hfz12_4 := blk_frozen BK130.out 4
              have hfz12_5 := blk_frozen BK130.out 5
              go_wp2
              go_ret
              exact ⟨by first | rfl | (simp [errW_none, errW_some] <;> rfl) | (simp [*, errW_none, errW_some] <;> rfl), by repeat (first | (with_reducible first | exact HB.out | apply below_alloc | apply pw_below_drewN | apply below_drew1 | refine below_set ?_ GE130.out) | exact HB.out)⟩
            · rw [if_neg c11] at H
              have c11b0 : decide (a0_1 < 0) = false := decide_eq_false c11
              clear c11
              by_cases c13 : a0_1 > 2147483647
              · rw [if_pos c13] at H
                have c13b0 : decide (2147483647 < a0_1) = true := decide_eq_true c13
                clear c13
                obtain rfl := Option.some.inj H
                have hcz14_0 : wc.cell? ⟨gb130, 0, none⟩ = some (.int .u8 a0_0) := (blk_cell BK130.out 0).trans rfl
                have hcz14_1 : wc.cell? ⟨gb130, 1, none⟩ = some (.int .i64 a0_1) := (blk_cell BK130.out 1).trans rfl
                have hcz14_2 : wc.cell? ⟨gb130, 2, none⟩ = some (.string a0_2) := (blk_cell BK130.out 2).trans rfl
                have hcz14_3 : wc.cell? ⟨gb130, 3, none⟩ = some (.slice A0_3 l0_3.length c0_3) := (blk_cell BK130.out 3).trans rfl
                have hcz14_4 : wc.cell? ⟨gb130, 4, none⟩ = some (.int .i64 a0_4) := (blk_cell BK130.out 4).trans rfl
                have hcz14_5 : wc.cell? ⟨gb130, 5, none⟩ = some (.int .i64 a0_5) := (blk_cell BK130.out 5).trans rfl
                have hfz14_0 := blk_frozen BK130.out 0
                have hfz14_1 := blk_frozen BK130.out 1
                have hfz14_2 := blk_frozen BK130.out 2
                have hfz14_3 := blk_frozen BK130.out 3
                have hfz14_4 := blk_frozen BK130.out 4
                have hfz14_5 := blk_frozen BK130.out 5
                go_wp2
                go_ret
                exact ⟨by first | rfl | (simp [errW_none, errW_some] <;> rfl) | (simp [*, errW_none, errW_some] <;> rfl), by repeat (first | (with_reducible first | exact HB.out | apply below_alloc | apply pw_below_drewN | apply below_drew1 | refine below_set ?_ GE130.out) | exact HB.out)⟩
              · rw [if_neg c13] at H
                have c13b0 : decide (2147483647 < a0_1) = false := decide_eq_false c13
                clear c13
                by_cases c15 : a0_2.toList = ([] : List UInt8)
                · rw [if_pos c15] at H
                  have c15b0 : (a0_2.toList == ([] : List UInt8)) = true := beq_iff_eq.mpr c15
                  have c15b1 : (a0_2.toList != ([] : List UInt8)) = false := bne_eq_false_iff_eq.mpr c15
                  clear c15
                  have H' := Aside0.mk H
                  clear H
                  have hcz16_0 : wc.cell? ⟨gb130, 0, none⟩ = some (.int .u8 a0_0) := (blk_cell BK130.out 0).trans rfl
                  have hcz16_1 : wc.cell? ⟨gb130, 1, none⟩ = some (.int .i64 a0_1) := (blk_cell BK130.out 1).trans rfl
                  have hcz16_2 : wc.cell? ⟨gb130, 2, none⟩ = some (.string a0_2) := (blk_cell BK130.out 2).trans rfl
                  have hcz16_3 : wc.cell? ⟨gb130, 3, none⟩ = some (.slice A0_3 l0_3.length c0_3) := (blk_cell BK130.out 3).trans rfl
                  have hcz16_4 : wc.cell? ⟨gb130, 4, none⟩ = some (.int .i64 a0_4) := (blk_cell BK130.out 4).trans rfl
                  have hcz16_5 : wc.cell? ⟨gb130, 5, none⟩ = some (.int .i64 a0_5) := (blk_cell BK130.out 5).trans rfl
                  have hfz16_0 := blk_frozen BK130.out 0
                  have hfz16_1 := blk_frozen BK130.out 1
                  have hfz16_2 := blk_frozen BK130.out 2
                  have hfz16_3 := blk_frozen BK130.out 3
                  have hfz16_4 := blk_frozen BK130.out 4
                  have hfz16_5 := blk_frozen BK130.out 5
                  go_wp2
                  go_meet
                  case rel => exact ⟨_, (0), (by first | rfl | (simp; done) | (simp [*]; done) | (simp [xbne_nil]; done)), H', ⟨by have := HJ3.out; first | omega | exact Nat.le_refl _⟩, ⟨by (with_reducible repeat (first | refine blk_drewN ?_ _ | refine blk_drew ?_ | refine blk_alloc ?_ _)); exact BK130.out⟩, ⟨by repeat (first | (with_reducible first | exact HB.out | apply below_alloc | apply pw_below_drewN | apply below_drew1 | refine below_set ?_ GE130.out) | exact HB.out)⟩⟩
                · rw [if_neg c15] at H
                  have c15b0 : (a0_2.toList == ([] : List UInt8)) = false := beq_eq_false_iff_ne.mpr c15
                  have c15b1 : (a0_2.toList != ([] : List UInt8)) = true := bne_iff_ne.mpr c15
                  obtain rfl := Option.some.inj H
                  have hcz17_0 : wc.cell? ⟨gb130, 0, none⟩ = some (.int .u8 a0_0) := (blk_cell BK130.out 0).trans rfl
                  have hcz17_1 : wc.cell? ⟨gb130, 1, none⟩ = some (.int .i64 a0_1) := (blk_cell BK130.out 1).trans rfl
                  have hcz17_2 : wc.cell? ⟨gb130, 2, none⟩ = some (.string a0_2) := (blk_cell BK130.out 2).trans rfl
                  have hcz17_3 : wc.cell? ⟨gb130, 3, none⟩ = some (.slice A0_3 l0_3.length c0_3) := (blk_cell BK130.out 3).trans rfl
                  have hcz17_4 : wc.cell? ⟨gb130, 4, none⟩ = some (.int .i64 a0_4) := (blk_cell BK130.out 4).trans rfl
                  have hcz17_5 : wc.cell? ⟨gb130, 5, none⟩ = some (.int .i64 a0_5) := (blk_cell BK130.out 5).trans rfl
                  have hfz17_0 := blk_frozen BK130.out 0
                  have hfz17_1 := blk_frozen BK130.out 1
                  have hfz17_2 := blk_frozen BK130.out 2
                  have hfz17_3 := blk_frozen BK130.out 3
                  have hfz17_4 := blk_frozen BK130.out 4
                  have hfz17_5 := blk_frozen BK130.out 5
                  go_wp2
                  go_ret
                  exact ⟨by first | rfl | (simp [errW_none, errW_some] <;> rfl) | (simp [*, errW_none, errW_some] <;> rfl), by repeat (first | (with_reducible first | exact HB.out | apply below_alloc | apply pw_below_drewN | apply below_drew1 | refine below_set ?_ GE130.out) | exact HB.out)⟩
          · rw [if_neg c10] at H
            have c10b0 : (a0_0 == 1) = false := beq_eq_false_iff_ne.mpr c10
            have c10b1 : (a0_0 != 1) = true := bne_iff_ne.mpr c10
            (first | rw [c10b0] | (simp only [i64_w, i32_w]; rw [c10b0]) | skip)
            by_cases c18 : a0_0 = 2
            · rw [if_pos c18] at H
              have c18b0 : (a0_0 == 2) = true := beq_iff_eq.mpr c18
              have c18b1 : (a0_0 != 2) = false := bne_eq_false_iff_eq.mpr c18
              clear c18
              by_cases c19 : a0_1 = 0
              · rw [if_pos c19] at H
                have c19b0 : (a0_1 == 0) = true := beq_iff_eq.mpr c19
                have c19b1 : (a0_1 != 0) = false := bne_eq_false_iff_eq.mpr c19
                clear c19
                replace H := Option.bind_eq_some_iff.mp H
                obtain ⟨t131, A200, H⟩ := H
                replace H : (if t131 = true then (recoupref10_expr.j1 kj3 (wrap64 (a1 - 1)) a2 0 a0_0 a0_1 a0_2 l0_3 a0_4 a0_5) else (some (-1))) = some r := H
                have A20 := Aside0.mk A200
                clear A200
                by_cases c21 : t131 = true
                · subst c21
                  have H1 : (recoupref10_expr.j1 kj3 (wrap64 (a1 - 1)) a2 0 a0_0 a0_1 a0_2 l0_3 a0_4 a0_5) = some r := by rw [if_pos rfl] at H; exact H
                  clear H
                  have H := H1
                  clear H1
                  have H' := Aside0.mk H
                  clear H
                  have hcz22_0 : wc.cell? ⟨gb130, 0, none⟩ = some (.int .u8 a0_0) := (blk_cell BK130.out 0).trans rfl
                  have hcz22_1 : wc.cell? ⟨gb130, 1, none⟩ = some (.int .i64 a0_1) := (blk_cell BK130.out 1).trans rfl
                  have hcz22_2 : wc.cell? ⟨gb130, 2, none⟩ = some (.string a0_2) := (blk_cell BK130.out 2).trans rfl
                  have hcz22_3 : wc.cell? ⟨gb130, 3, none⟩ = some (.slice A0_3 l0_3.length c0_3) := (blk_cell BK130.out 3).trans rfl
                  have hcz22_4 : wc.cell? ⟨gb130, 4, none⟩ = some (.int .i64 a0_4) := (blk_cell BK130.out 4).trans rfl
                  have hcz22_5 : wc.cell? ⟨gb130, 5, none⟩ = some (.int .i64 a0_5) := (blk_cell BK130.out 5).trans rfl
                  have hfz22_0 := blk_frozen BK130.out 0
                  have hfz22_1 := blk_frozen BK130.out 1
                  have hfz22_2 := blk_frozen BK130.out 2
                  have hfz22_3 := blk_frozen BK130.out 3
                  have hfz22_4 := blk_frozen BK130.out 4
                  have hfz22_5 := blk_frozen BK130.out 5
                  go_wp2_with (first | (go_at_call 33; (with_reducible refine (recoupref09_Name.calls kj3 a0_2 true _ A20.out).mono ?_); rintro e w23 ⟨rfl, hb⟩; have n0_ := Aside0.mk (blk_below (g := gb130) (o := .cells #[.int .u8 a0_0, .int .i64 a0_1, .string a0_2, .slice A0_3 l0_3.length c0_3, .int .i64 a0_4, .int .i64 a0_5] 25 (0, 0)) (by (with_reducible repeat (first | refine blk_drewN ?_ _ | refine blk_drew ?_ | refine blk_alloc ?_ _)); exact BK130.out) hb); have n1_ := Aside0.mk (below_step (by repeat (first | (with_reducible first | exact HB.out | apply below_alloc | apply pw_below_drewN | apply below_drew1 | refine below_set ?_ GE130.out) | exact HB.out)) hb); clear BK130; clear HB; have BK130 := n0_; have HB := n1_; clear n0_ n1_; (try clear hb); (try clear hb2); (try clear hk); (try clear hi)))
                  go_meet
                  case rel => exact ⟨_, (0), (by first | rfl | (simp; done) | (simp [*]; done) | (simp [xbne_nil]; done)), H', ⟨by have := HJ3.out; first | omega | exact Nat.le_refl _⟩, ⟨by (with_reducible repeat (first | refine blk_drewN ?_ _ | refine blk_drew ?_ | refine blk_alloc ?_ _)); exact BK130.out⟩, ⟨by repeat (first | (with_reducible first | exact HB.out | apply below_alloc | apply pw_below_drewN | apply below_drew1 | refine below_set ?_ GE130.out) | exact HB.out)⟩⟩
                · replace c21 := Bool.eq_false_iff.mpr c21
                  subst c21
                  have H1 : (some (-1)) = some r := by rw [if_neg (show ¬ (false = true) by decide)] at H; exact H
                  clear H
                  have H := H1
                  clear H1
                  obtain rfl := Option.some.inj H
                  have hcz24_0 : wc.cell? ⟨gb130, 0, none⟩ = some (.int .u8 a0_0) := (blk_cell BK130.out 0).trans rfl
                  have hcz24_1 : wc.cell? ⟨gb130, 1, none⟩ = some (.int .i64 a0_1) := (blk_cell BK130.out 1).trans rfl
                  have hcz24_2 : wc.cell? ⟨gb130, 2, none⟩ = some (.string a0_2) := (blk_cell BK130.out 2).trans rfl
                  have hcz24_3 : wc.cell? ⟨gb130, 3, none⟩ = some (.slice A0_3 l0_3.length c0_3) := (blk_cell BK130.out 3).trans rfl
                  have hcz24_4 : wc.cell? ⟨gb130, 4, none⟩ = some (.int .i64 a0_4) := (blk_cell BK130.out 4).trans rfl
                  have hcz24_5 : wc.cell? ⟨gb130, 5, none⟩ = some (.int .i64 a0_5) := (blk_cell BK130.out 5).trans rfl
                  have hfz24_0 := blk_frozen BK130.out 0
                  have hfz24_1 := blk_frozen BK130.out 1
                  have hfz24_2 := blk_frozen BK130.out 2
                  have hfz24_3 := blk_frozen BK130.out 3
                  have hfz24_4 := blk_frozen BK130.out 4
                  have hfz24_5 := blk_frozen BK130.out 5
                  go_wp2_with (first | (go_at_call 33; (with_reducible refine (recoupref09_Name.calls kj3 a0_2 false _ A20.out).mono ?_); rintro e w25 ⟨rfl, hb⟩; have n0_ := Aside0.mk (blk_below (g := gb130) (o := .cells #[.int .u8 a0_0, .int .i64 a0_1, .string a0_2, .slice A0_3 l0_3.length c0_3, .int .i64 a0_4, .int .i64 a0_5] 25 (0, 0)) (by (with_reducible repeat (first | refine blk_drewN ?_ _ | refine blk_drew ?_ | refine blk_alloc ?_ _)); exact BK130.out) hb); have n1_ := Aside0.mk (below_step (by repeat (first | (with_reducible first | exact HB.out | apply below_alloc | apply pw_below_drewN | apply below_drew1 | refine below_set ?_ GE130.out) | exact HB.out)) hb); clear BK130; clear HB; have BK130 := n0_; have HB := n1_; clear n0_ n1_; (try clear hb); (try clear hb2); (try clear hk); (try clear hi)))
                  go_ret
                  exact ⟨by first | rfl | (simp [errW_none, errW_some] <;> rfl) | (simp [*, errW_none, errW_some] <;> rfl), by repeat (first | (with_reducible first | exact HB.out | apply below_alloc | apply pw_below_drewN | apply below_drew1 | refine below_set ?_ GE130.out) | exact HB.out)⟩
              · rw [if_neg c19] at H
                have c19b0 : (a0_1 == 0) = false := beq_eq_false_iff_ne.mpr c19
                have c19b1 : (a0_1 != 0) = true := bne_iff_ne.mpr c19
                obtain rfl := Option.some.inj H
                have hcz26_0 : wc.cell? ⟨gb130, 0, none⟩ = some (.int .u8 a0_0) := (blk_cell BK130.out 0).trans rfl
                have hcz26_1 : wc.cell? ⟨gb130, 1, none⟩ = some (.int .i64 a0_1) := (blk_cell BK130.out 1).trans rfl
                have hcz26_2 : wc.cell? ⟨gb130, 2, none⟩ = some (.string a0_2) := (blk_cell BK130.out 2).trans rfl
                have hcz26_3 : wc.cell? ⟨gb130, 3, none⟩ = some (.slice A0_3 l0_3.length c0_3) := (blk_cell BK130.out 3).trans rfl
                have hcz26_4 : wc.cell? ⟨gb130, 4, none⟩ = some (.int .i64 a0_4) := (blk_cell BK130.out 4).trans rfl
                have hcz26_5 : wc.cell? ⟨gb130, 5, none⟩ = some (.int .i64 a0_5) := (blk_cell BK130.out 5).trans rfl
                have hfz26_0 := blk_frozen BK130.out 0
                have hfz26_1 := blk_frozen BK130.out 1
                have hfz26_2 := blk_frozen BK130.out 2
                have hfz26_3 := blk_frozen BK130.out 3
                have hfz26_4 := blk_frozen BK130.out 4
                have hfz26_5 := blk_frozen BK130.out 5
                go_wp2
                go_ret
                exact ⟨by first | rfl | (simp [errW_none, errW_some] <;> rfl) | (simp [*, errW_none, errW_some] <;> rfl), by repeat (first | (with_reducible first | exact HB.out | apply below_alloc | apply pw_below_drewN | apply below_drew1 | refine below_set ?_ GE130.out) | exact HB.out)⟩
            · rw [if_neg c18] at H
              have c18b0 : (a0_0 == 2) = false := beq_eq_false_iff_ne.mpr c18
              have c18b1 : (a0_0 != 2) = true := bne_iff_ne.mpr c18
              by_cases c27 : a0_0 = 3
              · rw [if_pos c27] at H
                have c27b0 : (a0_0 == 3) = true := beq_iff_eq.mpr c27
                have c27b1 : (a0_0 != 3) = false := bne_eq_false_iff_eq.mpr c27
                clear c27
                have H' := Aside0.mk H
                clear H
                go_wp2
                go_meet
                case rel => exact ⟨_, (1), (by first | rfl | (simp; done) | (simp [*]; done) | (simp [xbne_nil]; done)), H', ⟨by have := HJ3.out; first | omega | exact Nat.le_refl _⟩, ⟨by (with_reducible repeat (first | refine blk_drewN ?_ _ | refine blk_drew ?_ | refine blk_alloc ?_ _)); exact BK130.out⟩, ⟨by repeat (first | (with_reducible first | exact HB.out | apply below_alloc | apply pw_below_drewN | apply below_drew1 | refine below_set ?_ GE130.out) | exact HB.out)⟩⟩
              · rw [if_neg c27] at H
                have c27b0 : (a0_0 == 3) = false := beq_eq_false_iff_ne.mpr c27
                have c27b1 : (a0_0 != 3) = true := bne_iff_ne.mpr c27
                by_cases c28 : a0_0 = 4
                · rw [if_pos c28] at H
                  have c28b0 : (a0_0 == 4) = true := beq_iff_eq.mpr c28
                  have c28b1 : (a0_0 != 4) = false := bne_eq_false_iff_eq.mpr c28
                  clear c28
                  have H' := Aside0.mk H
                  clear H
                  go_wp2
                  go_meet
                  case rel => exact ⟨_, (2), (by first | rfl | (simp; done) | (simp [*]; done) | (simp [xbne_nil]; done)), H', ⟨by have := HJ3.out; first | omega | exact Nat.le_refl _⟩, ⟨by (with_reducible repeat (first | refine blk_drewN ?_ _ | refine blk_drew ?_ | refine blk_alloc ?_ _)); exact BK130.out⟩, ⟨by repeat (first | (with_reducible first | exact HB.out | apply below_alloc | apply pw_below_drewN | apply below_drew1 | refine below_set ?_ GE130.out) | exact HB.out)⟩⟩
                · rw [if_neg c28] at H
                  have c28b0 : (a0_0 == 4) = false := beq_eq_false_iff_ne.mpr c28
                  have c28b1 : (a0_0 != 4) = true := bne_iff_ne.mpr c28
                  by_cases c29 : a0_0 = 5
                  · rw [if_pos c29] at H
                    have c29b0 : (a0_0 == 5) = true := beq_iff_eq.mpr c29
                    have c29b1 : (a0_0 != 5) = false := bne_eq_false_iff_eq.mpr c29
                    clear c29
                    have H' := Aside0.mk H
                    clear H
                    go_wp2
                    go_meet
                    case rel => exact ⟨_, (2), (by first | rfl | (simp; done) | (simp [*]; done) | (simp [xbne_nil]; done)), H', ⟨by have := HJ3.out; first | omega | exact Nat.le_refl _⟩, ⟨by (with_reducible repeat (first | refine blk_drewN ?_ _ | refine blk_drew ?_ | refine blk_alloc ?_ _)); exact BK130.out⟩, ⟨by repeat (first | (with_reducible first | exact HB.out | apply below_alloc | apply pw_below_drewN | apply below_drew1 | refine below_set ?_ GE130.out) | exact HB.out)⟩⟩
                  · rw [if_neg c29] at H
                    have c29b0 : (a0_0 == 5) = false := beq_eq_false_iff_ne.mpr c29
                    have c29b1 : (a0_0 != 5) = true := bne_iff_ne.mpr c29
                    by_cases c30 : a0_0 = 6
                    · rw [if_pos c30] at H
                      have c30b0 : (a0_0 == 6) = true := beq_iff_eq.mpr c30
                      have c30b1 : (a0_0 != 6) = false := bne_eq_false_iff_eq.mpr c30
                      clear c30
                      have H' := Aside0.mk H
                      clear H
                      go_wp2
                      go_meet
                      case rel => exact ⟨_, (2), (by first | rfl | (simp; done) | (simp [*]; done) | (simp [xbne_nil]; done)), H', ⟨by have := HJ3.out; first | omega | exact Nat.le_refl _⟩, ⟨by (with_reducible repeat (first | refine blk_drewN ?_ _ | refine blk_drew ?_ | refine blk_alloc ?_ _)); exact BK130.out⟩, ⟨by repeat (first | (with_reducible first | exact HB.out | apply below_alloc | apply pw_below_drewN | apply below_drew1 | refine below_set ?_ GE130.out) | exact HB.out)⟩⟩
                    · rw [if_neg c30] at H
                      have c30b0 : (a0_0 == 6) = false := beq_eq_false_iff_ne.mpr c30
                      have c30b1 : (a0_0 != 6) = true := bne_iff_ne.mpr c30
                      by_cases c31 : a0_0 = 7
                      · rw [if_pos c31] at H
                        have c31b0 : (a0_0 == 7) = true := beq_iff_eq.mpr c31
                        have c31b1 : (a0_0 != 7) = false := bne_eq_false_iff_eq.mpr c31
                        clear c31
                        have H' := Aside0.mk H
                        clear H
                        go_wp2
                        go_meet
                        case rel => exact ⟨_, (2), (by first | rfl | (simp; done) | (simp [*]; done) | (simp [xbne_nil]; done)), H', ⟨by have := HJ3.out; first | omega | exact Nat.le_refl _⟩, ⟨by (with_reducible repeat (first | refine blk_drewN ?_ _ | refine blk_drew ?_ | refine blk_alloc ?_ _)); exact BK130.out⟩, ⟨by repeat (first | (with_reducible first | exact HB.out | apply below_alloc | apply pw_below_drewN | apply below_drew1 | refine below_set ?_ GE130.out) | exact HB.out)⟩⟩
                      · rw [if_neg c31] at H
                        have c31b0 : (a0_0 == 7) = false := beq_eq_false_iff_ne.mpr c31
                        have c31b1 : (a0_0 != 7) = true := bne_iff_ne.mpr c31
                        by_cases c32 : a0_0 = 8
                        · rw [if_pos c32] at H
                          have c32b0 : (a0_0 == 8) = true := beq_iff_eq.mpr c32
                          have c32b1 : (a0_0 != 8) = false := bne_eq_false_iff_eq.mpr c32
                          clear c32
                          have H' := Aside0.mk H
                          clear H
                          go_wp2
                          go_meet
                          case rel => exact ⟨_, (2), (by first | rfl | (simp; done) | (simp [*]; done) | (simp [xbne_nil]; done)), H', ⟨by have := HJ3.out; first | omega | exact Nat.le_refl _⟩, ⟨by (with_reducible repeat (first | refine blk_drewN ?_ _ | refine blk_drew ?_ | refine blk_alloc ?_ _)); exact BK130.out⟩, ⟨by repeat (first | (with_reducible first | exact HB.out | apply below_alloc | apply pw_below_drewN | apply below_drew1 | refine below_set ?_ GE130.out) | exact HB.out)⟩⟩
                        · rw [if_neg c32] at H
                          have c32b0 : (a0_0 == 8) = false := beq_eq_false_iff_ne.mpr c32
                          have c32b1 : (a0_0 != 8) = true := bne_iff_ne.mpr c32
                          obtain rfl := Option.some.inj H
                          go_wp2
                          go_ret
                          exact ⟨by first | rfl | (simp [errW_none, errW_some] <;> rfl) | (simp [*, errW_none, errW_some] <;> rfl), by repeat (first | (with_reducible first | exact HB.out | apply below_alloc | apply pw_below_drewN | apply below_drew1 | refine below_set ?_ GE130.out) | exact HB.out)⟩
        case rest =>
          clear HC8
          try clear c1
          try clear c2
          try clear p2
          try clear c3
          try clear c6
          try clear c6b0
          try clear p6
          try clear c7
          try clear c10
          try clear c10b0
          try clear c10b1
          try clear c11
          try clear c11b0
          try clear c13
          try clear c13b0
          try clear c15
          try clear c15b0
          try clear c15b1
          try clear c18
          try clear c18b0
          try clear c18b1
          try clear c19
          try clear c19b0
          try clear c19b1
          try clear c21
          try clear c27
          try clear c27b0
          try clear c27b1
          try clear c28
          try clear c28b0
          try clear c28b1
          try clear c29
          try clear c29b0
          try clear c29b1
          try clear c30
          try clear c30b0
          try clear c30b1
          try clear c31
          try clear c31b0
          try clear c31b1
          try clear c32
          try clear c32b0
          try clear c32b1
          try clear hcz12_0
          try clear hcz12_1
          try clear hcz12_2
          try clear hcz12_3
          try clear hcz12_4
          try clear hcz12_5
          try clear hcz14_0
          try clear hcz14_1
          try clear hcz14_2
          try clear hcz14_3
          try clear hcz14_4
          try clear hcz14_5
          try clear hcz16_0
          try clear hcz16_1
          try clear hcz16_2
          try clear hcz16_3
          try clear hcz16_4
          try clear hcz16_5
          try clear hcz17_0
          try clear hcz17_1
          try clear hcz17_2
          try clear hcz17_3
          try clear hcz17_4
          try clear hcz17_5
          try clear hcz22_0
          try clear hcz22_1
          try clear hcz22_2
          try clear hcz22_3
          try clear hcz22_4
          try clear hcz22_5
          try clear hcz24_0
          try clear hcz24_1
          try clear hcz24_2
          try clear hcz24_3
          try clear hcz24_4
          try clear hcz24_5
          try clear hcz26_0
          try clear hcz26_1
          try clear hcz26_2
          try clear hcz26_3
          try clear hcz26_4
          try clear hcz26_5
          try clear hcz9_0
          try clear hcz9_1
          try clear hcz9_2
          try clear hcz9_3
          try clear hcz9_4
          try clear hcz9_5
          try clear hfz12_0
          try clear hfz12_1
          try clear hfz12_2
          try clear hfz12_3
          try clear hfz12_4
          try clear hfz12_5
          try clear hfz14_0
          try clear hfz14_1
          try clear hfz14_2
          try clear hfz14_3
          try clear hfz14_4
          try clear hfz14_5
          try clear hfz16_0
          try clear hfz16_1
          try clear hfz16_2
          try clear hfz16_3
          try clear hfz16_4
          try clear hfz16_5
          try clear hfz17_0
          try clear hfz17_1
          try clear hfz17_2
          try clear hfz17_3
          try clear hfz17_4
          try clear hfz17_5
          try clear hfz22_0
          try clear hfz22_1
          try clear hfz22_2
          try clear hfz22_3
          try clear hfz22_4
          try clear hfz22_5
          try clear hfz24_0
          try clear hfz24_1
          try clear hfz24_2
          try clear hfz24_3
          try clear hfz24_4
          try clear hfz24_5
          try clear hfz26_0
          try clear hfz26_1
          try clear hfz26_2
          try clear hfz26_3
          try clear hfz26_4
          try clear hfz26_5
          try clear hfz9_0
          try clear hfz9_1
          try clear hfz9_2
          try clear hfz9_3
          try clear hfz9_4
          try clear hfz9_5
          try clear p2
          try clear p6
          obtain ⟨kq, x7_7, rfl, HA, HJ7, BK130, HB⟩ := hcut
          cases kq with
          | zero => exact absurd HA.out (by simp [recoupref10_expr.j1])
          | succ kj7 =>
            have H := HA.out
            clear HA
            simp only [recoupref10_expr.j1] at H
            have HC33 := Aside0.mk H
            clear H
            go_upto_region 21 with (fail)
            go_cut [71] (fun v71 wc => ∃ (kq : Nat) (x71_32 : Bool), v71 = .bool x71_32 ∧ Aside0 (recoupref10_expr.j2 kq (wrap64 (a1 - 1)) a2 x71_32 a0_0 a0_1 a0_2 l0_3 a0_4 a0_5 = some r) ∧ Aside0 (kq ≤ kj7) ∧ Aside0 (wc.heap[gb130]? = some (.cells #[.int .u8 a0_0, .int .i64 a0_1, .string a0_2, (.slice A0_3 l0_3.length c0_3), .int .i64 a0_4, .int .i64 a0_5] 25 (0, 0))) ∧ Aside0 (Below w.heap.size w wc))
            case first =>
              have H := HC33.out
              clear HC33
              by_cases c34 : (l0_3.length : Int) = x7_7
              · rw [if_pos c34] at H
                have c34b0 : ((l0_3.length : Int) == x7_7) = true := beq_iff_eq.mpr c34
                have c34b1 : ((l0_3.length : Int) != x7_7) = false := bne_eq_false_iff_eq.mpr c34
                clear c34
                (first | rw [c34b0] | (simp only [i64_w, i32_w]; rw [c34b0]) | skip)
                by_cases c35 : x7_7 > 0
                · rw [if_pos c35] at H
                  have c35b0 : decide (0 < x7_7) = true := decide_eq_true c35
                  clear c35
                  by_cases c36 : a0_1 = 0
                  · rw [if_pos c36] at H
                    have c36b0 : (a0_1 == 0) = true := beq_iff_eq.mpr c36
                    have c36b1 : (a0_1 != 0) = false := bne_eq_false_iff_eq.mpr c36
                    clear c36
                    have H' := Aside0.mk H
                    clear H
                    have hcz37_0 : wc.cell? ⟨gb130, 0, none⟩ = some (.int .u8 a0_0) := (blk_cell BK130.out 0).trans rfl
                    have hcz37_1 : wc.cell? ⟨gb130, 1, none⟩ = some (.int .i64 a0_1) := (blk_cell BK130.out 1).trans rfl
                    have hcz37_2 : wc.cell? ⟨gb130, 2, none⟩ = some (.string a0_2) := (blk_cell BK130.out 2).trans rfl
                    have hcz37_3 : wc.cell? ⟨gb130, 3, none⟩ = some (.slice A0_3 l0_3.length c0_3) := (blk_cell BK130.out 3).trans rfl
                    have hcz37_4 : wc.cell? ⟨gb130, 4, none⟩ = some (.int .i64 a0_4) := (blk_cell BK130.out 4).trans rfl
                    have hcz37_5 : wc.cell? ⟨gb130, 5, none⟩ = some (.int .i64 a0_5) := (blk_cell BK130.out 5).trans rfl
                    have hfz37_0 := blk_frozen BK130.out 0
                    have hfz37_1 := blk_frozen BK130.out 1
                    have hfz37_2 := blk_frozen BK130.out 2
                    have hfz37_3 := blk_frozen BK130.out 3
                    have hfz37_4 := blk_frozen BK130.out 4
                    have hfz37_5 := blk_frozen BK130.out 5
                    go_wp2
                    go_meet
                    case rel => exact ⟨_, ((a0_2.toList != ([] : List UInt8))), (by first | rfl | (simp; done) | (simp [*]; done) | (simp [xbne_nil]; done)), H', ⟨by have := HJ3.out; have := HJ7.out; first | omega | exact Nat.le_refl _⟩, ⟨by (with_reducible repeat (first | refine blk_drewN ?_ _ | refine blk_drew ?_ | refine blk_alloc ?_ _)); exact BK130.out⟩, ⟨by repeat (first | (with_reducible first | exact HB.out | apply below_alloc | apply pw_below_drewN | apply below_drew1 | refine below_set ?_ GE130.out) | exact HB.out)⟩⟩
                  · rw [if_neg c36] at H
                    have c36b0 : (a0_1 == 0) = false := beq_eq_false_iff_ne.mpr c36
                    have c36b1 : (a0_1 != 0) = true := bne_iff_ne.mpr c36
                    have H' := Aside0.mk H
                    clear H
                    have hcz38_0 : wc.cell? ⟨gb130, 0, none⟩ = some (.int .u8 a0_0) := (blk_cell BK130.out 0).trans rfl
                    have hcz38_1 : wc.cell? ⟨gb130, 1, none⟩ = some (.int .i64 a0_1) := (blk_cell BK130.out 1).trans rfl
                    have hcz38_2 : wc.cell? ⟨gb130, 2, none⟩ = some (.string a0_2) := (blk_cell BK130.out 2).trans rfl
                    have hcz38_3 : wc.cell? ⟨gb130, 3, none⟩ = some (.slice A0_3 l0_3.length c0_3) := (blk_cell BK130.out 3).trans rfl
                    have hcz38_4 : wc.cell? ⟨gb130, 4, none⟩ = some (.int .i64 a0_4) := (blk_cell BK130.out 4).trans rfl
                    have hcz38_5 : wc.cell? ⟨gb130, 5, none⟩ = some (.int .i64 a0_5) := (blk_cell BK130.out 5).trans rfl
                    have hfz38_0 := blk_frozen BK130.out 0
                    have hfz38_1 := blk_frozen BK130.out 1
                    have hfz38_2 := blk_frozen BK130.out 2
                    have hfz38_3 := blk_frozen BK130.out 3
                    have hfz38_4 := blk_frozen BK130.out 4
                    have hfz38_5 := blk_frozen BK130.out 5
                    go_wp2
                    go_meet
                    case rel => exact ⟨_, (true), (by first | rfl | (simp; done) | (simp [*]; done) | (simp [xbne_nil]; done)), H', ⟨by have := HJ3.out; have := HJ7.out; first | omega | exact Nat.le_refl _⟩, ⟨by (with_reducible repeat (first | refine blk_drewN ?_ _ | refine blk_drew ?_ | refine blk_alloc ?_ _)); exact BK130.out⟩, ⟨by repeat (first | (with_reducible first | exact HB.out | apply below_alloc | apply pw_below_drewN | apply below_drew1 | refine below_set ?_ GE130.out) | exact HB.out)⟩⟩
                · rw [if_neg c35] at H
                  have c35b0 : decide (0 < x7_7) = false := decide_eq_false c35
                  clear c35
                  have H' := Aside0.mk H
                  clear H
                  have hcz39_0 : wc.cell? ⟨gb130, 0, none⟩ = some (.int .u8 a0_0) := (blk_cell BK130.out 0).trans rfl
                  have hcz39_1 : wc.cell? ⟨gb130, 1, none⟩ = some (.int .i64 a0_1) := (blk_cell BK130.out 1).trans rfl
                  have hcz39_2 : wc.cell? ⟨gb130, 2, none⟩ = some (.string a0_2) := (blk_cell BK130.out 2).trans rfl
                  have hcz39_3 : wc.cell? ⟨gb130, 3, none⟩ = some (.slice A0_3 l0_3.length c0_3) := (blk_cell BK130.out 3).trans rfl
                  have hcz39_4 : wc.cell? ⟨gb130, 4, none⟩ = some (.int .i64 a0_4) := (blk_cell BK130.out 4).trans rfl
                  have hcz39_5 : wc.cell? ⟨gb130, 5, none⟩ = some (.int .i64 a0_5) := (blk_cell BK130.out 5).trans rfl
                  have hfz39_0 := blk_frozen BK130.out 0
                  have hfz39_1 := blk_frozen BK130.out 1
                  have hfz39_2 := blk_frozen BK130.out 2
                  have hfz39_3 := blk_frozen BK130.out 3
                  have hfz39_4 := blk_frozen BK130.out 4
                  have hfz39_5 := blk_frozen BK130.out 5
                  go_wp2
                  go_meet
                  case rel => exact ⟨_, (false), (by first | rfl | (simp; done) | (simp [*]; done) | (simp [xbne_nil]; done)), H', ⟨by have := HJ3.out; have := HJ7.out; first | omega | exact Nat.le_refl _⟩, ⟨by (with_reducible repeat (first | refine blk_drewN ?_ _ | refine blk_drew ?_ | refine blk_alloc ?_ _)); exact BK130.out⟩, ⟨by repeat (first | (with_reducible first | exact HB.out | apply below_alloc | apply pw_below_drewN | apply below_drew1 | refine below_set ?_ GE130.out) | exact HB.out)⟩⟩
              · rw [if_neg c34] at H
                have c34b0 : ((l0_3.length : Int) == x7_7) = false := beq_eq_false_iff_ne.mpr c34
                have c34b1 : ((l0_3.length : Int) != x7_7) = true := bne_iff_ne.mpr c34
                (first | rw [c34b0] | (simp only [i64_w, i32_w]; rw [c34b0]) | skip)
                have H' := Aside0.mk H
                clear H
                have hcz40_0 : wc.cell? ⟨gb130, 0, none⟩ = some (.int .u8 a0_0) := (blk_cell BK130.out 0).trans rfl
                have hcz40_1 : wc.cell? ⟨gb130, 1, none⟩ = some (.int .i64 a0_1) := (blk_cell BK130.out 1).trans rfl
                have hcz40_2 : wc.cell? ⟨gb130, 2, none⟩ = some (.string a0_2) := (blk_cell BK130.out 2).trans rfl
                have hcz40_3 : wc.cell? ⟨gb130, 3, none⟩ = some (.slice A0_3 l0_3.length c0_3) := (blk_cell BK130.out 3).trans rfl
                have hcz40_4 : wc.cell? ⟨gb130, 4, none⟩ = some (.int .i64 a0_4) := (blk_cell BK130.out 4).trans rfl
                have hcz40_5 : wc.cell? ⟨gb130, 5, none⟩ = some (.int .i64 a0_5) := (blk_cell BK130.out 5).trans rfl
                have hfz40_0 := blk_frozen BK130.out 0
                have hfz40_1 := blk_frozen BK130.out 1
                have hfz40_2 := blk_frozen BK130.out 2
                have hfz40_3 := blk_frozen BK130.out 3
                have hfz40_4 := blk_frozen BK130.out 4
                have hfz40_5 := blk_frozen BK130.out 5
                go_wp2
                go_meet
                case rel => exact ⟨_, (true), (by first | rfl | (simp; done) | (simp [*]; done) | (simp [xbne_nil]; done)), H', ⟨by have := HJ3.out; have := HJ7.out; first | omega | exact Nat.le_refl _⟩, ⟨by (with_reducible repeat (first | refine blk_drewN ?_ _ | refine blk_drew ?_ | refine blk_alloc ?_ _)); exact BK130.out⟩, ⟨by repeat (first | (with_reducible first | exact HB.out | apply below_alloc | apply pw_below_drewN | apply below_drew1 | refine below_set ?_ GE130.out) | exact HB.out)⟩⟩
            case rest =>
              clear HC33
              try clear c1
              try clear c2
              try clear p2
              try clear c3
              try clear c6
              try clear c6b0
              try clear p6
              try clear c7
              try clear c10
              try clear c10b0
              try clear c10b1
              try clear c11
              try clear c11b0
              try clear c13
              try clear c13b0
              try clear c15
              try clear c15b0
              try clear c15b1
              try clear c18
              try clear c18b0
              try clear c18b1
              try clear c19
              try clear c19b0
              try clear c19b1
              try clear c21
              try clear c27
              try clear c27b0
              try clear c27b1
              try clear c28
              try clear c28b0
              try clear c28b1
              try clear c29
              try clear c29b0
              try clear c29b1
              try clear c30
              try clear c30b0
              try clear c30b1
              try clear c31
              try clear c31b0
              try clear c31b1
              try clear c32
              try clear c32b0
              try clear c32b1
              try clear c34
              try clear c34b0
              try clear c34b1
              try clear c35
              try clear c35b0
              try clear c36
              try clear c36b0
              try clear c36b1
              try clear c38
              try clear hcz12_0
              try clear hcz12_1
              try clear hcz12_2
              try clear hcz12_3
              try clear hcz12_4
              try clear hcz12_5
              try clear hcz14_0
              try clear hcz14_1
              try clear hcz14_2
              try clear hcz14_3
              try clear hcz14_4
              try clear hcz14_5
              try clear hcz16_0
              try clear hcz16_1
              try clear hcz16_2
              try clear hcz16_3
              try clear hcz16_4
              try clear hcz16_5
              try clear hcz17_0
              try clear hcz17_1
              try clear hcz17_2
              try clear hcz17_3
              try clear hcz17_4
              try clear hcz17_5
              try clear hcz22_0
              try clear hcz22_1
              try clear hcz22_2
              try clear hcz22_3
              try clear hcz22_4
              try clear hcz22_5
              try clear hcz24_0
              try clear hcz24_1
              try clear hcz24_2
              try clear hcz24_3
              try clear hcz24_4
              try clear hcz24_5
              try clear hcz26_0
              try clear hcz26_1
              try clear hcz26_2
              try clear hcz26_3
              try clear hcz26_4
              try clear hcz26_5
              try clear hcz37_0
              try clear hcz37_1
              try clear hcz37_2
              try clear hcz37_3
              try clear hcz37_4
              try clear hcz37_5
              try clear hcz38_0
              try clear hcz38_1
              try clear hcz38_2
              try clear hcz38_3
              try clear hcz38_4
              try clear hcz38_5
              try clear hcz39_0
              try clear hcz39_1
              try clear hcz39_2
              try clear hcz39_3
              try clear hcz39_4
              try clear hcz39_5
              try clear hcz40_0
              try clear hcz40_1
              try clear hcz40_2
              try clear hcz40_3
              try clear hcz40_4
              try clear hcz40_5
              try clear hcz9_0
              try clear hcz9_1
              try clear hcz9_2
              try clear hcz9_3
              try clear hcz9_4
              try clear hcz9_5
              try clear hfz12_0
              try clear hfz12_1
              try clear hfz12_2
              try clear hfz12_3
              try clear hfz12_4
              try clear hfz12_5
              try clear hfz14_0
              try clear hfz14_1
              try clear hfz14_2
              try clear hfz14_3
              try clear hfz14_4
              try clear hfz14_5
              try clear hfz16_0
              try clear hfz16_1
              try clear hfz16_2
              try clear hfz16_3
              try clear hfz16_4
              try clear hfz16_5
              try clear hfz17_0
              try clear hfz17_1
              try clear hfz17_2
              try clear hfz17_3
              try clear hfz17_4
              try clear hfz17_5
              try clear hfz22_0
              try clear hfz22_1
              try clear hfz22_2
              try clear hfz22_3
              try clear hfz22_4
              try clear hfz22_5
              try clear hfz24_0
              try clear hfz24_1
              try clear hfz24_2
              try clear hfz24_3
              try clear hfz24_4
              try clear hfz24_5
              try clear hfz26_0
              try clear hfz26_1
              try clear hfz26_2
              try clear hfz26_3
              try clear hfz26_4
              try clear hfz26_5
              try clear hfz37_0
              try clear hfz37_1
              try clear hfz37_2
              try clear hfz37_3
              try clear hfz37_4
              try clear hfz37_5
              try clear hfz38_0
              try clear hfz38_1
              try clear hfz38_2
              try clear hfz38_3
              try clear hfz38_4
              try clear hfz38_5
              try clear hfz39_0
              try clear hfz39_1
              try clear hfz39_2
              try clear hfz39_3
              try clear hfz39_4
              try clear hfz39_5
              try clear hfz40_0
              try clear hfz40_1
              try clear hfz40_2
              try clear hfz40_3
              try clear hfz40_4
              try clear hfz40_5
              try clear hfz9_0
              try clear hfz9_1
              try clear hfz9_2
              try clear hfz9_3
              try clear hfz9_4
              try clear hfz9_5
              try clear p2
              try clear p6
              obtain ⟨kq, x71_32, rfl, HA, HJ32, BK130, HB⟩ := hcut
              cases kq with
              | zero => exact absurd HA.out (by simp [recoupref10_expr.j2])
              | succ kj32 =>
                have H := HA.out
                clear HA
                simp only [recoupref10_expr.j2] at H
                by_cases c41 : x71_32 = true
                · subst c41
                  have H1 : (some (-1)) = some r := by rw [if_pos rfl] at H; exact H
                  clear H
                  have H := H1
                  clear H1
                  obtain rfl := Option.some.inj H
                  go_wp2
                  go_ret
                  exact ⟨by first | rfl | (simp [errW_none, errW_some] <;> rfl) | (simp [*, errW_none, errW_some] <;> rfl), by repeat (first | (with_reducible first | exact HB.out | apply below_alloc | apply pw_below_drewN | apply below_drew1 | refine below_set ?_ GE130.out) | exact HB.out)⟩
                · replace c41 := Bool.eq_false_iff.mpr c41
                  subst c41
                  have H1 : (recoupref10_expr.l0 kj32 (wrap64 (a1 - 1)) a2 0 a0_0 a0_1 a0_2 l0_3 a0_4 a0_5) = some r := by rw [if_neg (show ¬ (false = true) by decide)] at H; exact H
                  clear H
                  have H := H1
                  clear H1
                  have H' := Aside0.mk H
                  clear H
                  go_wp2
                  go_loopg [1, 8] kj32 (fun kq v1 v8 w' => ∃ (x1_4 : Int) (x8_4 : Int), v1 = .int .i64 x1_4 ∧ v8 = .int .i64 x8_4 ∧ Aside0 (recoupref10_expr.l0 kq x1_4 a2 x8_4 a0_0 a0_1 a0_2 l0_3 a0_4 a0_5 = some r) ∧ Aside0 (kq ≤ kj32) ∧ Aside0 (w'.heap[gb130]? = some (.cells #[.int .u8 a0_0, .int .i64 a0_1, .string a0_2, (.slice A0_3 l0_3.length c0_3), .int .i64 a0_4, .int .i64 a0_5] 25 (0, 0))) ∧ Aside0 (Below w.heap.size w w'))
                  case atStart => exact ⟨((wrap64 (a1 - 1))), (0), (by first | rfl | (simp; done) | (simp [*]; done) | (simp [xbne_nil]; done)), (by first | rfl | (simp; done) | (simp [*]; done) | (simp [xbne_nil]; done)), H', ⟨Nat.le_refl _⟩, ⟨by (with_reducible repeat (first | refine blk_drewN ?_ _ | refine blk_drew ?_ | refine blk_alloc ?_ _)); exact BK130.out⟩, ⟨by repeat (first | (with_reducible first | exact HB.out | apply below_alloc | apply pw_below_drewN | apply below_drew1 | refine below_set ?_ GE130.out) | exact HB.out)⟩⟩
                  case round =>
                    clear H'
                    try clear c1
                    try clear c2
                    try clear p2
                    try clear c3
                    try clear c4
                    try clear c6
                    try clear c6b0
                    try clear p6
                    try clear c7
                    try clear c10
                    try clear c10b0
                    try clear c10b1
                    try clear c11
                    try clear c11b0
                    try clear c13
                    try clear c13b0
                    try clear c15
                    try clear c15b0
                    try clear c15b1
                    try clear c18
                    try clear c18b0
                    try clear c18b1
                    try clear c19
                    try clear c19b0
                    try clear c19b1
                    try clear c21
                    try clear c27
                    try clear c27b0
                    try clear c27b1
                    try clear c28
                    try clear c28b0
                    try clear c28b1
                    try clear c29
                    try clear c29b0
                    try clear c29b1
                    try clear c30
                    try clear c30b0
                    try clear c30b1
                    try clear c31
                    try clear c31b0
                    try clear c31b1
                    try clear c32
                    try clear c32b0
                    try clear c32b1
                    try clear c34
                    try clear c34b0
                    try clear c34b1
                    try clear c35
                    try clear c35b0
                    try clear c36
                    try clear c36b0
                    try clear c36b1
                    try clear c38
                    try clear c41
                    try clear hcz12_0
                    try clear hcz12_1
                    try clear hcz12_2
                    try clear hcz12_3
                    try clear hcz12_4
                    try clear hcz12_5
                    try clear hcz14_0
                    try clear hcz14_1
                    try clear hcz14_2
                    try clear hcz14_3
                    try clear hcz14_4
                    try clear hcz14_5
                    try clear hcz16_0
                    try clear hcz16_1
                    try clear hcz16_2
                    try clear hcz16_3
                    try clear hcz16_4
                    try clear hcz16_5
                    try clear hcz17_0
                    try clear hcz17_1
                    try clear hcz17_2
                    try clear hcz17_3
                    try clear hcz17_4
                    try clear hcz17_5
                    try clear hcz22_0
                    try clear hcz22_1
                    try clear hcz22_2
                    try clear hcz22_3
                    try clear hcz22_4
                    try clear hcz22_5
                    try clear hcz24_0
                    try clear hcz24_1
                    try clear hcz24_2
                    try clear hcz24_3
                    try clear hcz24_4
                    try clear hcz24_5
                    try clear hcz26_0
                    try clear hcz26_1
                    try clear hcz26_2
                    try clear hcz26_3
                    try clear hcz26_4
                    try clear hcz26_5
                    try clear hcz37_0
                    try clear hcz37_1
                    try clear hcz37_2
                    try clear hcz37_3
                    try clear hcz37_4
                    try clear hcz37_5
                    try clear hcz38_0
                    try clear hcz38_1
                    try clear hcz38_2
                    try clear hcz38_3
                    try clear hcz38_4
                    try clear hcz38_5
                    try clear hcz39_0
                    try clear hcz39_1
                    try clear hcz39_2
                    try clear hcz39_3
                    try clear hcz39_4
                    try clear hcz39_5
                    try clear hcz40_0
                    try clear hcz40_1
                    try clear hcz40_2
                    try clear hcz40_3
                    try clear hcz40_4
                    try clear hcz40_5
                    try clear hcz9_0
                    try clear hcz9_1
                    try clear hcz9_2
                    try clear hcz9_3
                    try clear hcz9_4
                    try clear hcz9_5
                    try clear hfz12_0
                    try clear hfz12_1
                    try clear hfz12_2
                    try clear hfz12_3
                    try clear hfz12_4
                    try clear hfz12_5
                    try clear hfz14_0
                    try clear hfz14_1
                    try clear hfz14_2
                    try clear hfz14_3
                    try clear hfz14_4
                    try clear hfz14_5
                    try clear hfz16_0
                    try clear hfz16_1
                    try clear hfz16_2
                    try clear hfz16_3
                    try clear hfz16_4
                    try clear hfz16_5
                    try clear hfz17_0
                    try clear hfz17_1
                    try clear hfz17_2
                    try clear hfz17_3
                    try clear hfz17_4
                    try clear hfz17_5
                    try clear hfz22_0
                    try clear hfz22_1
                    try clear hfz22_2
                    try clear hfz22_3
                    try clear hfz22_4
                    try clear hfz22_5
                    try clear hfz24_0
                    try clear hfz24_1
                    try clear hfz24_2
                    try clear hfz24_3
                    try clear hfz24_4
                    try clear hfz24_5
                    try clear hfz26_0
                    try clear hfz26_1
                    try clear hfz26_2
                    try clear hfz26_3
                    try clear hfz26_4
                    try clear hfz26_5
                    try clear hfz37_0
                    try clear hfz37_1
                    try clear hfz37_2
                    try clear hfz37_3
                    try clear hfz37_4
                    try clear hfz37_5
                    try clear hfz38_0
                    try clear hfz38_1
                    try clear hfz38_2
                    try clear hfz38_3
                    try clear hfz38_4
                    try clear hfz38_5
                    try clear hfz39_0
                    try clear hfz39_1
                    try clear hfz39_2
                    try clear hfz39_3
                    try clear hfz39_4
                    try clear hfz39_5
                    try clear hfz40_0
                    try clear hfz40_1
                    try clear hfz40_2
                    try clear hfz40_3
                    try clear hfz40_4
                    try clear hfz40_5
                    try clear hfz9_0
                    try clear hfz9_1
                    try clear hfz9_2
                    try clear hfz9_3
                    try clear hfz9_4
                    try clear hfz9_5
                    try clear p2
                    try clear p6
                    obtain ⟨x1_4, x8_4, rfl, rfl, HA, HK4, BK130, HB⟩ := hrel
                    cases gk with
                    | zero => exact absurd HA.out (by simp [recoupref10_expr.l0])
                    | succ k4 =>
                      have H := HA.out
                      clear HA
                      simp only [recoupref10_expr.l0] at H
                      by_cases c42 : x8_4 < (l0_3.length : Int)
                      · rw [if_pos c42] at H
                        have c42b0 : decide (x8_4 < (l0_3.length : Int)) = true := decide_eq_true c42
                        clear c42
                        by_cases c43 : x1_4 ≥ 0
                        · rw [if_pos c43] at H
                          have c43b0 : decide (0 ≤ x1_4) = true := decide_eq_true c43
                          clear c43
                          by_cases c44 : 0 ≤ x8_4
                          · rw [if_pos c44] at H
                            have c44b0 : decide (0 ≤ x8_4) = true := decide_eq_true c44
                            clear c44
                            replace H := Option.bind_eq_some_iff.mp H
                            obtain ⟨t133, A450, H⟩ := H
                            replace H : (recoupref10_expr.l0 k4 t133 a2 (wrap64 (x8_4 + 1)) a0_0 a0_1 a0_2 l0_3 a0_4 a0_5) = some r := H
                            have A45 := Aside0.mk A450
                            clear A450
                            have H' := Aside0.mk H
                            clear H
                            have hcz46_0 : wr.cell? ⟨gb130, 0, none⟩ = some (.int .u8 a0_0) := (blk_cell BK130.out 0).trans rfl
                            have hcz46_1 : wr.cell? ⟨gb130, 1, none⟩ = some (.int .i64 a0_1) := (blk_cell BK130.out 1).trans rfl
                            have hcz46_2 : wr.cell? ⟨gb130, 2, none⟩ = some (.string a0_2) := (blk_cell BK130.out 2).trans rfl
                            have hcz46_3 : wr.cell? ⟨gb130, 3, none⟩ = some (.slice A0_3 l0_3.length c0_3) := (blk_cell BK130.out 3).trans rfl
                            have hcz46_4 : wr.cell? ⟨gb130, 4, none⟩ = some (.int .i64 a0_4) := (blk_cell BK130.out 4).trans rfl
                            have hcz46_5 : wr.cell? ⟨gb130, 5, none⟩ = some (.int .i64 a0_5) := (blk_cell BK130.out 5).trans rfl
                            have hfz46_0 := blk_frozen BK130.out 0
                            have hfz46_1 := blk_frozen BK130.out 1
                            have hfz46_2 := blk_frozen BK130.out 2
                            have hfz46_3 := blk_frozen BK130.out 3
                            have hfz46_4 := blk_frozen BK130.out 4
                            have hfz46_5 := blk_frozen BK130.out 5
                            have p132 : 0 ≤ (x8_4 : Int) := of_decide_eq_true (by first | (with_reducible assumption) | assumption)
                            have q132 : x8_4 < (l0_3.length : Int) := of_decide_eq_true (by first | (with_reducible assumption) | assumption)
                            obtain ⟨ad132, A132_3, c132_3, e132, hx132_0, hx132_1, hx132_2, hx132_3, hx132_4, hx132_5, hl132_3, hi132_3⟩ := at_T25 HR0_3.out x8_4 p132 q132
                            cases e132
                            replace hx132_0 := (HB.out.cell (World.block_lt_of_cell? w _ hx132_0)).trans hx132_0
                            replace hx132_1 := (HB.out.cell (World.block_lt_of_cell? w _ hx132_1)).trans hx132_1
                            replace hx132_2 := (HB.out.cell (World.block_lt_of_cell? w _ hx132_2)).trans hx132_2
                            replace hx132_3 := (HB.out.cell (World.block_lt_of_cell? w _ hx132_3)).trans hx132_3
                            replace hx132_4 := (HB.out.cell (World.block_lt_of_cell? w _ hx132_4)).trans hx132_4
                            replace hx132_5 := (HB.out.cell (World.block_lt_of_cell? w _ hx132_5)).trans hx132_5
                            have HR132_3 := Aside0.mk hi132_3
                            have HC132_3 := Aside0.mk hl132_3
                            clear hi132_3 hl132_3
                            replace p132 := eq_true p132
                            replace q132 := eq_true q132
                            go_wp2_with (first | ((with_reducible refine gate_callee (f := 38) rfl ?_); refine goesL_ (some 91) rfl rfl Try.func38 (by kernel_rfl) rfl #[.agg #[.int .u8 ((rd_T25 l0_3 x8_4).f0), .int .i64 ((rd_T25 l0_3 x8_4).f1), .string ((rd_T25 l0_3 x8_4).f2), .slice A132_3 ((rd_T25 l0_3 x8_4).f3).length c132_3, .int .i64 ((rd_T25 l0_3 x8_4).f4), .int .i64 ((rd_T25 l0_3 x8_4).f5)], .int .i64 x1_4, .int .i64 (wrap64 (a2 - 1))] rfl (by (try simp only [List.map_toArray, List.map_cons, List.map_nil]); first | done | rfl | (simp only [List.length_drop, List.length_take]; rfl)) ?_; (with_reducible refine (ih k4 (by have := HJ3.out; have := HJ7.out; have := HJ32.out; have := HK4.out; omega) ((rd_T25 l0_3 x8_4).f0) ((rd_T25 l0_3 x8_4).f1) ((rd_T25 l0_3 x8_4).f2) _ _ ((rd_T25 l0_3 x8_4).f3) ((rd_T25 l0_3 x8_4).f4) ((rd_T25 l0_3 x8_4).f5) x1_4 (wrap64 (a2 - 1)) t133 _ ?side1 ?side2 A45.out).mono ?_); (case side1 => repeat (first | exact (Kd.C_below HR132_3.out HB.out) | (with_reducible refine Kd.C_alloc ?_ _) | (with_reducible refine Kd.C_drewN ?_ _) | (with_reducible refine Kd.C_drew ?_))); (case side2 => exact HC132_3.out); rintro e w47 ⟨rfl, hb⟩; refine ⟨_, rfl, ?_⟩; have n0_ := Aside0.mk (blk_below (g := gb130) (o := .cells #[.int .u8 a0_0, .int .i64 a0_1, .string a0_2, .slice (some ad132) l0_3.length c0_3, .int .i64 a0_4, .int .i64 a0_5] 25 (0, 0)) (by (with_reducible repeat (first | refine blk_drewN ?_ _ | refine blk_drew ?_ | refine blk_alloc ?_ _)); exact BK130.out) hb); have n1_ := Aside0.mk (below_step (by repeat (first | (with_reducible first | exact HB.out | apply below_alloc | apply pw_below_drewN | apply below_drew1 | refine below_set ?_ GE130.out) | exact HB.out)) hb); clear BK130; clear HB; have BK130 := n0_; have HB := n1_; clear n0_ n1_; (try clear hb); (try clear hb2); (try clear hk); (try clear hi)))
                            go_roundg k4
                            case measure => have := HJ3.out; have := HJ7.out; have := HJ32.out; have := HK4.out; omega
                            case rel => exact ⟨(t133), (wrap64 (x8_4 + 1)), (by first | rfl | (simp; done) | (simp [*]; done) | (simp [xbne_nil]; done)), (by first | rfl | (simp; done) | (simp [*]; done) | (simp [xbne_nil]; done)), H', ⟨by have := HJ3.out; have := HJ7.out; have := HJ32.out; have := HK4.out; omega⟩, ⟨by (with_reducible repeat (first | refine blk_drewN ?_ _ | refine blk_drew ?_ | refine blk_alloc ?_ _)); exact BK130.out⟩, ⟨by repeat (first | (with_reducible first | exact HB.out | apply below_alloc | apply pw_below_drewN | apply below_drew1 | refine below_set ?_ GE130.out) | exact HB.out)⟩⟩
                          · rw [if_neg c44] at H
                            exact absurd H (by simp)
                        · rw [if_neg c43] at H
                          have c43b0 : decide (0 ≤ x1_4) = false := decide_eq_false c43
                          clear c43
                          obtain rfl := Option.some.inj H
                          have hcz48_0 : wr.cell? ⟨gb130, 0, none⟩ = some (.int .u8 a0_0) := (blk_cell BK130.out 0).trans rfl
                          have hcz48_1 : wr.cell? ⟨gb130, 1, none⟩ = some (.int .i64 a0_1) := (blk_cell BK130.out 1).trans rfl
                          have hcz48_2 : wr.cell? ⟨gb130, 2, none⟩ = some (.string a0_2) := (blk_cell BK130.out 2).trans rfl
                          have hcz48_3 : wr.cell? ⟨gb130, 3, none⟩ = some (.slice A0_3 l0_3.length c0_3) := (blk_cell BK130.out 3).trans rfl
                          have hcz48_4 : wr.cell? ⟨gb130, 4, none⟩ = some (.int .i64 a0_4) := (blk_cell BK130.out 4).trans rfl
                          have hcz48_5 : wr.cell? ⟨gb130, 5, none⟩ = some (.int .i64 a0_5) := (blk_cell BK130.out 5).trans rfl
                          have hfz48_0 := blk_frozen BK130.out 0
                          have hfz48_1 := blk_frozen BK130.out 1
                          have hfz48_2 := blk_frozen BK130.out 2
                          have hfz48_3 := blk_frozen BK130.out 3
                          have hfz48_4 := blk_frozen BK130.out 4
                          have hfz48_5 := blk_frozen BK130.out 5
                          go_wp2
                          go_ret
                          exact ⟨by first | rfl | (simp [errW_none, errW_some] <;> rfl) | (simp [*, errW_none, errW_some] <;> rfl), by repeat (first | (with_reducible first | exact HB.out | apply below_alloc | apply pw_below_drewN | apply below_drew1 | refine below_set ?_ GE130.out) | exact HB.out)⟩
                      · rw [if_neg c42] at H
                        have c42b0 : decide (x8_4 < (l0_3.length : Int)) = false := decide_eq_false c42
                        clear c42
                        obtain rfl := Option.some.inj H
                        have hcz49_0 : wr.cell? ⟨gb130, 0, none⟩ = some (.int .u8 a0_0) := (blk_cell BK130.out 0).trans rfl
                        have hcz49_1 : wr.cell? ⟨gb130, 1, none⟩ = some (.int .i64 a0_1) := (blk_cell BK130.out 1).trans rfl
                        have hcz49_2 : wr.cell? ⟨gb130, 2, none⟩ = some (.string a0_2) := (blk_cell BK130.out 2).trans rfl
                        have hcz49_3 : wr.cell? ⟨gb130, 3, none⟩ = some (.slice A0_3 l0_3.length c0_3) := (blk_cell BK130.out 3).trans rfl
                        have hcz49_4 : wr.cell? ⟨gb130, 4, none⟩ = some (.int .i64 a0_4) := (blk_cell BK130.out 4).trans rfl
                        have hcz49_5 : wr.cell? ⟨gb130, 5, none⟩ = some (.int .i64 a0_5) := (blk_cell BK130.out 5).trans rfl
                        have hfz49_0 := blk_frozen BK130.out 0
                        have hfz49_1 := blk_frozen BK130.out 1
                        have hfz49_2 := blk_frozen BK130.out 2
                        have hfz49_3 := blk_frozen BK130.out 3
                        have hfz49_4 := blk_frozen BK130.out 4
                        have hfz49_5 := blk_frozen BK130.out 5
                        go_wp2
                        go_ret
                        exact ⟨by first | rfl | (simp [errW_none, errW_some] <;> rfl) | (simp [*, errW_none, errW_some] <;> rfl), by repeat (first | (with_reducible first | exact HB.out | apply below_alloc | apply pw_below_drewN | apply below_drew1 | refine below_set ?_ GE130.out) | exact HB.out)⟩

end Go.Proofs.Ytnojokempdcikaa.PA

namespace Go.Proofs.Ytnojokempdcikaa.PA
open Go.RowKit Go.Proofs.YtnojokempdcikaaW.PrintWords Go.Proofs.YtnojokempdcikaaW.PrintLast Go.Proofs.YtnojokempdcikaaW.PrintMore
attribute [local go_sem] max2_int min2_int max_two min_two max_three min_three max_four min_four   -- for this text's walks alone
set_option linter.unusedVariables false
set_option linter.unusedSimpArgs false

/-! ### recoupref10_MayExpr: function 21 -/
def recoupref10_MayExpr.f (k : Nat) (a0_0 : Int) (a0_1 : Int) (a0_2 : ByteArray) (l0_3 : List (S25)) (a0_4 : Int) (a0_5 : Int) : Option (Bool) := (recoupref10_expr.f k a0_0 a0_1 a0_2 l0_3 a0_4 a0_5 8192 16).bind fun t135 => (some (decide (t135 ≥ 0)))
theorem recoupref10_MayExpr.mono : ∀ a0 a1 a2 a3 a4 a5 k, LeO (recoupref10_MayExpr.f k a0 a1 a2 a3 a4 a5) (recoupref10_MayExpr.f (k + 1) a0 a1 a2 a3 a4 a5) := by
  intro a0 a1 a2 a3 a4 a5 k
  unfold recoupref10_MayExpr.f
  repeat' first
      | (with_reducible exact recoupref10_expr.mono _ _ _ _ _ _ _ _ _)
      | (with_reducible exact LeO.refl _)
      | (with_reducible exact LeO.none _)
      | (with_reducible refine LeO.ite ?_ ?_)
      | (with_reducible refine LeO.bind ?_ (fun _ => ?_))
      | exact recoupref10_expr.mono _ _ _ _ _ _ _ _ _
      | exact LeO.none _
      | refine LeO.ite ?_ ?_
      | refine LeO.bind ?_ (fun _ => ?_)
set_option maxHeartbeats 8000000 in
set_option maxRecDepth 100000 in
theorem recoupref10_MayExpr.calls (k : Nat) (a0_0 : Int) (a0_1 : Int) (a0_2 : ByteArray) (A0_3 : Option Addr) (c0_3 : Nat) (l0_3 : List (S25)) (a0_4 : Int) (a0_5 : Int) (r : Bool) (w : World) (hr0_3 : Kd.C k25 w A0_3 l0_3.length l0_3) (hc0_3 : l0_3.length ≤ c0_3) (h : recoupref10_MayExpr.f k a0_0 a0_1 a0_2 l0_3 a0_4 a0_5 = some r) :
    Calls Try.prog 21 #[.agg #[.int .u8 a0_0, .int .i64 a0_1, .string a0_2, .slice A0_3 l0_3.length c0_3, .int .i64 a0_4, .int .i64 a0_5]] w fun e w' => e = .returned (.bool r) ∧ Below w.heap.size w w' := by
  have hu25 := Try.underlying25
  have HR0_3 := Aside0.mk hr0_3
  have HC0_3 := Aside0.mk hc0_3
  clear hr0_3 hc0_3
  have HB := Aside0.mk (Below.refl w.heap.size w)
  have H : ((recoupref10_expr.f k a0_0 a0_1 a0_2 l0_3 a0_4 a0_5 8192 16).bind fun t135 => (some (decide (t135 ≥ 0)))) = some r := h
  clear h
  replace H := Option.bind_eq_some_iff.mp H
  obtain ⟨t135, A20, H⟩ := H
  replace H : (some (decide (t135 ≥ 0))) = some r := H
  have A2 := Aside0.mk A20
  clear A20
  obtain rfl := Option.some.inj H
  go_enter Try.func21, Try.ntmps21
  go_wp2_with (first | ((with_reducible refine gate_dst (N := 1) rfl ?_); refine box_event ?hg (N := 1) ?hd (cs := #[.int .u8 a0_0, .int .i64 a0_1, .string a0_2, .slice A0_3 l0_3.length c0_3, .int .i64 a0_4, .int .i64 a0_5]) (t := 25) ?hr ?_; (case hd => rfl); (case hg => rfl); (case hr => first | (go_simp; done) | (go_simp; rfl)); intro gb134 hg w3 hbox hb; have n0_ := Aside0.mk (below_step (by repeat (first | (with_reducible first | exact HB.out | apply below_alloc | apply pw_below_drewN | apply below_drew1) | exact HB.out)) hb); have n1_ := Aside0.mk (hbox); have n2_ := Aside0.mk ((by rw [hg]; exact (below_size (by repeat (first | (with_reducible first | exact HB.out | apply below_alloc | apply pw_below_drewN | apply below_drew1) | exact HB.out))) : w.heap.size ≤ gb134)); have n3_ := Aside0.mk ((by rw [hg]; exact (below_size (by repeat (first | (with_reducible first | exact HB.out | apply below_alloc | apply pw_below_drewN | apply below_drew1) | exact HB.out))) : w.heap.size ≤ gb134)); clear HB; have HB := n0_; have BK134 := n1_; have GW134 := n2_; have GE134 := n3_; clear n0_ n1_ n2_ n3_; clear hb hbox hg; have hcz4_0 : w3.cell? ⟨gb134, 0, none⟩ = some (.int .u8 a0_0) := (blk_cell BK134.out 0).trans rfl; have hcz4_1 : w3.cell? ⟨gb134, 1, none⟩ = some (.int .i64 a0_1) := (blk_cell BK134.out 1).trans rfl; have hcz4_2 : w3.cell? ⟨gb134, 2, none⟩ = some (.string a0_2) := (blk_cell BK134.out 2).trans rfl; have hcz4_3 : w3.cell? ⟨gb134, 3, none⟩ = some (.slice A0_3 l0_3.length c0_3) := (blk_cell BK134.out 3).trans rfl; have hcz4_4 : w3.cell? ⟨gb134, 4, none⟩ = some (.int .i64 a0_4) := (blk_cell BK134.out 4).trans rfl; have hcz4_5 : w3.cell? ⟨gb134, 5, none⟩ = some (.int .i64 a0_5) := (blk_cell BK134.out 5).trans rfl; have hfz4_0 := blk_frozen BK134.out 0; have hfz4_1 := blk_frozen BK134.out 1; have hfz4_2 := blk_frozen BK134.out 2; have hfz4_3 := blk_frozen BK134.out 3; have hfz4_4 := blk_frozen BK134.out 4; have hfz4_5 := blk_frozen BK134.out 5) | ((with_reducible refine gate_callee (f := 38) rfl ?_); refine goesL_ (some 4) rfl rfl Try.func38 (by kernel_rfl) rfl #[.agg #[.int .u8 a0_0, .int .i64 a0_1, .string a0_2, .slice A0_3 l0_3.length c0_3, .int .i64 a0_4, .int .i64 a0_5], .int .i64 8192, .int .i64 16] rfl (by (try simp only [List.map_toArray, List.map_cons, List.map_nil]); first | done | rfl | (simp only [List.length_drop, List.length_take]; rfl)) ?_; (with_reducible refine (recoupref10_expr.calls k a0_0 a0_1 a0_2 _ _ l0_3 a0_4 a0_5 8192 16 t135 _ ?side1 ?side2 A2.out).mono ?_); (case side1 => repeat (first | exact (Kd.C_below HR0_3.out HB.out) | (with_reducible refine Kd.C_alloc ?_ _) | (with_reducible refine Kd.C_drewN ?_ _) | (with_reducible refine Kd.C_drew ?_))); (case side2 => exact HC0_3.out); rintro e w5 ⟨rfl, hb⟩; refine ⟨_, rfl, ?_⟩; have n0_ := Aside0.mk (blk_below (g := gb134) (o := .cells #[.int .u8 a0_0, .int .i64 a0_1, .string a0_2, .slice A0_3 l0_3.length c0_3, .int .i64 a0_4, .int .i64 a0_5] 25 (0, 0)) (by (with_reducible repeat (first | refine blk_drewN ?_ _ | refine blk_drew ?_ | refine blk_alloc ?_ _)); exact BK134.out) hb); have n1_ := Aside0.mk (below_step (by repeat (first | (with_reducible first | exact HB.out | apply below_alloc | apply pw_below_drewN | apply below_drew1 | refine below_set ?_ GE134.out) | exact HB.out)) hb); clear BK134; clear HB; have BK134 := n0_; have HB := n1_; clear n0_ n1_; (try clear hb); (try clear hb2); (try clear hk); (try clear hi)))
  go_ret
  exact ⟨by first | rfl | (simp [errW_none, errW_some] <;> rfl) | (simp [*, errW_none, errW_some] <;> rfl), by repeat (first | (with_reducible first | exact HB.out | apply below_alloc | apply pw_below_drewN | apply below_drew1 | refine below_set ?_ GE134.out) | exact HB.out)⟩

/-! ### recoupref12_Work: function 41 -/
mutual
def recoupref12_Work.j0 : Nat → Int → Int → Int → Bool → Option (Int × Int)
  | 0, _, _, _, _ => none
  | k + 1, x0, x1, x2, x24 => if x24 = true then (some (0, 2)) else (if x2 = 0 then (recoupref12_Work.j1 k x0 x1 x2 (decide (x0 ≥ 7))) else (recoupref12_Work.j1 k x0 x1 x2 false))
def recoupref12_Work.j1 : Nat → Int → Int → Int → Bool → Option (Int × Int)
  | 0, _, _, _, _ => none
  | k + 1, x0, x1, x2, x30 => if x30 = true then (some (0, 5)) else (if x0 = 3 then ((recoupref12_Number.f (wrap64 (-x1))).bind fun t138 => (if t138 = true then (some (wrap64 (-x1), 0)) else (some (0, 120)))) else (if x0 = 4 then ((recoupref12_Number.f (wrap64 (x1 + x2))).bind fun t139 => (if t139 = true then (some (wrap64 (x1 + x2), 0)) else (some (0, 120)))) else (if x0 = 5 then ((recoupref12_Number.f (wrap64 (x1 - x2))).bind fun t140 => (if t140 = true then (some (wrap64 (x1 - x2), 0)) else (some (0, 120)))) else (if x0 = 6 then ((recoupref12_Number.f (wrap64 (x1 * x2))).bind fun t141 => (if t141 = true then (some (wrap64 (x1 * x2), 0)) else (some (0, 120)))) else (if x0 = 7 then (if x2 = 0 then (none) else ((recoupref12_Number.f (wrap64 (Int.tdiv x1 x2))).bind fun t142 => (if t142 = true then (some (wrap64 (Int.tdiv x1 x2), 0)) else (some (0, 120))))) else (if x0 = 8 then (if x2 = 0 then (none) else ((recoupref12_Number.f (Int.tmod x1 x2)).bind fun t143 => (if t143 = true then (some (Int.tmod x1 x2, 0)) else (some (0, 120))))) else ((recoupref12_Number.f 0).bind fun t144 => (if t144 = true then (some (0, 0)) else (some (0, 120))))))))))
end
def recoupref12_Work.f (k : Nat) (a0 : Int) (a1 : Int) (a2 : Int) : Option (Int × Int) := if a0 < 3 then (recoupref12_Work.j0 k a0 a1 a2 true) else (if a0 > 8 then (recoupref12_Work.j0 k a0 a1 a2 true) else ((recoupref12_Number.f a1).bind fun t136 => (if t136 = true then ((recoupref12_Number.f a2).bind fun t137 => (recoupref12_Work.j0 k a0 a1 a2 (!t137))) else (recoupref12_Work.j0 k a0 a1 a2 true))))
theorem recoupref12_Work.mono_l : ∀ k, (∀ y0 y1 y2 y3, LeO (recoupref12_Work.j0 k y0 y1 y2 y3) (recoupref12_Work.j0 (k + 1) y0 y1 y2 y3)) ∧ (∀ y0 y1 y2 y3, LeO (recoupref12_Work.j1 k y0 y1 y2 y3) (recoupref12_Work.j1 (k + 1) y0 y1 y2 y3))
  | 0 => ⟨fun _ _ _ _ r h => by simp [recoupref12_Work.j0] at h, fun _ _ _ _ r h => by simp [recoupref12_Work.j1] at h⟩
  | k + 1 => by
    obtain ⟨ih0, ih1⟩ := recoupref12_Work.mono_l k
    refine ⟨?_, ?_⟩
    · intro y0 y1 y2 y3
      unfold recoupref12_Work.j0
      repeat' first
      | (with_reducible exact ih0 _ _ _ _)
      | (with_reducible exact ih1 _ _ _ _)
      | (with_reducible exact LeO.refl _)
      | (with_reducible exact LeO.none _)
      | (with_reducible refine LeO.ite ?_ ?_)
      | (with_reducible refine LeO.bind ?_ (fun _ => ?_))
      | exact ih0 _ _ _ _
      | exact ih1 _ _ _ _
      | exact LeO.none _
      | refine LeO.ite ?_ ?_
      | refine LeO.bind ?_ (fun _ => ?_)
    · intro y0 y1 y2 y3
      unfold recoupref12_Work.j1
      repeat' first
      | (with_reducible exact ih0 _ _ _ _)
      | (with_reducible exact ih1 _ _ _ _)
      | (with_reducible exact LeO.refl _)
      | (with_reducible exact LeO.none _)
      | (with_reducible refine LeO.ite ?_ ?_)
      | (with_reducible refine LeO.bind ?_ (fun _ => ?_))
      | exact ih0 _ _ _ _
      | exact ih1 _ _ _ _
      | exact LeO.none _
      | refine LeO.ite ?_ ?_
      | refine LeO.bind ?_ (fun _ => ?_)
theorem recoupref12_Work.mono : ∀ a0 a1 a2 k, LeO (recoupref12_Work.f k a0 a1 a2) (recoupref12_Work.f (k + 1) a0 a1 a2) := by
  intro a0 a1 a2 k
  obtain ⟨ih0, ih1⟩ := recoupref12_Work.mono_l k
  unfold recoupref12_Work.f
  repeat' first
      | (with_reducible exact ih0 _ _ _ _)
      | (with_reducible exact ih1 _ _ _ _)
      | (with_reducible exact LeO.refl _)
      | (with_reducible exact LeO.none _)
      | (with_reducible refine LeO.ite ?_ ?_)
      | (with_reducible refine LeO.bind ?_ (fun _ => ?_))
      | exact ih0 _ _ _ _
      | exact ih1 _ _ _ _
      | exact LeO.none _
      | refine LeO.ite ?_ ?_
      | refine LeO.bind ?_ (fun _ => ?_)
set_option maxHeartbeats 8000000 in
set_option maxRecDepth 100000 in
theorem recoupref12_Work.calls (k : Nat) (a0 : Int) (a1 : Int) (a2 : Int) (r1 : Int) (r2 : Int) (w : World) (h : recoupref12_Work.f k a0 a1 a2 = some (r1, r2)) :
    Calls Try.prog 41 #[.int .u8 a0, .int .i64 a1, .int .i64 a2] w fun e w' => e = .returned (.tuple #[.int .i64 r1, .int .i64 r2]) ∧ Drawn0 w w' := by
  have H : (if a0 < 3 then (recoupref12_Work.j0 k a0 a1 a2 true) else (if a0 > 8 then (recoupref12_Work.j0 k a0 a1 a2 true) else ((recoupref12_Number.f a1).bind fun t136 => (if t136 = true then ((recoupref12_Number.f a2).bind fun t137 => (recoupref12_Work.j0 k a0 a1 a2 (!t137))) else (recoupref12_Work.j0 k a0 a1 a2 true))))) = some (r1, r2) := h
  clear h
  have HC4 := Aside0.mk H
  clear H
  go_enter Try.func41, Try.ntmps41
  go_upto_region 1 with (fail)
  go_cut [24] (fun v24 wc => ∃ (kq : Nat) (x24_3 : Bool), v24 = .bool x24_3 ∧ Aside0 (recoupref12_Work.j0 kq a0 a1 a2 x24_3 = some (r1, r2)) ∧ Aside0 (kq ≤ k) ∧ Drawn0 w wc)
  case first =>
    have H := HC4.out
    clear HC4
    by_cases c5 : a0 < 3
    · rw [if_pos c5] at H
      have c5b0 : decide (a0 < 3) = true := decide_eq_true c5
      clear c5
      (first | rw [c5b0] | (simp only [i64_w, i32_w]; rw [c5b0]) | skip)
      have H' := Aside0.mk H
      clear H
      go_wp2
      go_meet
      case rel => exact ⟨_, (true), (by first | rfl | (simp; done) | (simp [*]; done) | (simp [xbne_nil]; done)), H', ⟨by first | omega | exact Nat.le_refl _⟩, by repeat (first | exact Drawn0.refl _ | apply Drawn0.step)⟩
    · rw [if_neg c5] at H
      have c5b0 : decide (a0 < 3) = false := decide_eq_false c5
      clear c5
      (first | rw [c5b0] | (simp only [i64_w, i32_w]; rw [c5b0]) | skip)
      by_cases c6 : a0 > 8
      · rw [if_pos c6] at H
        have c6b0 : decide (8 < a0) = true := decide_eq_true c6
        clear c6
        have H' := Aside0.mk H
        clear H
        go_wp2
        go_meet
        case rel => exact ⟨_, (true), (by first | rfl | (simp; done) | (simp [*]; done) | (simp [xbne_nil]; done)), H', ⟨by first | omega | exact Nat.le_refl _⟩, by repeat (first | exact Drawn0.refl _ | apply Drawn0.step)⟩
      · rw [if_neg c6] at H
        have c6b0 : decide (8 < a0) = false := decide_eq_false c6
        clear c6
        replace H := Option.bind_eq_some_iff.mp H
        obtain ⟨t136, A70, H⟩ := H
        replace H : (if t136 = true then ((recoupref12_Number.f a2).bind fun t137 => (recoupref12_Work.j0 k a0 a1 a2 (!t137))) else (recoupref12_Work.j0 k a0 a1 a2 true)) = some (r1, r2) := H
        have A7 := Aside0.mk A70
        clear A70
        by_cases c8 : t136 = true
        · subst c8
          have H1 : ((recoupref12_Number.f a2).bind fun t137 => (recoupref12_Work.j0 k a0 a1 a2 (!t137))) = some (r1, r2) := by rw [if_pos rfl] at H; exact H
          clear H
          have H := H1
          clear H1
          replace H := Option.bind_eq_some_iff.mp H
          obtain ⟨t137, A90, H⟩ := H
          replace H : (recoupref12_Work.j0 k a0 a1 a2 (!t137)) = some (r1, r2) := H
          have A9 := Aside0.mk A90
          clear A90
          have H' := Aside0.mk H
          clear H
          go_wp2_with (first | (go_at_call 18; (with_reducible refine (recoupref12_Number.calls a1 true _ A7.out).mono ?_); rintro e w' ⟨rfl, ⟨nd, rfl⟩⟩) | (go_at_call 18; (with_reducible refine (recoupref12_Number.calls a2 t137 _ A9.out).mono ?_); rintro e w' ⟨rfl, ⟨nd, rfl⟩⟩))
          go_meet
          case rel => exact ⟨_, (!t137), (by first | rfl | (simp; done) | (simp [*]; done) | (simp [xbne_nil]; done)), H', ⟨by first | omega | exact Nat.le_refl _⟩, by repeat (first | exact Drawn0.refl _ | apply Drawn0.step)⟩
        · replace c8 := Bool.eq_false_iff.mpr c8
          subst c8
          have H1 : (recoupref12_Work.j0 k a0 a1 a2 true) = some (r1, r2) := by rw [if_neg (show ¬ (false = true) by decide)] at H; exact H
          clear H
          have H := H1
          clear H1
          have H' := Aside0.mk H
          clear H
          go_wp2_with (first | (go_at_call 18; (with_reducible refine (recoupref12_Number.calls a1 false _ A7.out).mono ?_); rintro e w' ⟨rfl, ⟨nd, rfl⟩⟩))
          go_meet
          case rel => exact ⟨_, (true), (by first | rfl | (simp; done) | (simp [*]; done) | (simp [xbne_nil]; done)), H', ⟨by first | omega | exact Nat.le_refl _⟩, by repeat (first | exact Drawn0.refl _ | apply Drawn0.step)⟩
  case rest =>
    clear HC4
    try clear p2
    try clear c4
    try clear c5
    try clear c5b0
    try clear c6
    try clear c6b0
    try clear c8
    obtain ⟨kq, x24_3, rfl, HA, HJ3, ⟨mc3, rfl⟩⟩ := hcut
    cases kq with
    | zero => exact absurd HA.out (by simp [recoupref12_Work.j0])
    | succ kj3 =>
      have H := HA.out
      clear HA
      simp only [recoupref12_Work.j0] at H
      by_cases c10 : x24_3 = true
      · subst c10
        have H1 : (some (0, 2)) = some (r1, r2) := by rw [if_pos rfl] at H; exact H
        clear H
        have H := H1
        clear H1
        simp only [Option.some.injEq, Prod.mk.injEq] at H
        obtain ⟨rfl, rfl⟩ := H
        go_wp2
        go_ret2
        exact ⟨by first | rfl | (simp; done) | (simp [*]; done), by repeat (first | exact Drawn0.refl _ | apply Drawn0.step)⟩
      · replace c10 := Bool.eq_false_iff.mpr c10
        subst c10
        have H1 : (if a2 = 0 then (recoupref12_Work.j1 kj3 a0 a1 a2 (decide (a0 ≥ 7))) else (recoupref12_Work.j1 kj3 a0 a1 a2 false)) = some (r1, r2) := by rw [if_neg (show ¬ (false = true) by decide)] at H; exact H
        clear H
        have H := H1
        clear H1
        have HC11 := Aside0.mk H
        clear H
        go_upto_region 3 with (fail)
        go_cut [30] (fun v30 wc => ∃ (kq : Nat) (x30_10 : Bool), v30 = .bool x30_10 ∧ Aside0 (recoupref12_Work.j1 kq a0 a1 a2 x30_10 = some (r1, r2)) ∧ Aside0 (kq ≤ kj3) ∧ Drawn0 w wc)
        case first =>
          have H := HC11.out
          clear HC11
          by_cases c12 : a2 = 0
          · rw [if_pos c12] at H
            have c12b0 : (a2 == 0) = true := beq_iff_eq.mpr c12
            have c12b1 : (a2 != 0) = false := bne_eq_false_iff_eq.mpr c12
            clear c12
            (first | rw [c12b0] | (simp only [i64_w, i32_w]; rw [c12b0]) | skip)
            have H' := Aside0.mk H
            clear H
            go_wp2
            go_meet
            case rel => exact ⟨_, (decide (a0 ≥ 7)), (by first | rfl | (simp; done) | (simp [*]; done) | (simp [xbne_nil]; done)), H', ⟨by have := HJ3.out; first | omega | exact Nat.le_refl _⟩, by repeat (first | exact Drawn0.refl _ | apply Drawn0.step)⟩
          · rw [if_neg c12] at H
            have c12b0 : (a2 == 0) = false := beq_eq_false_iff_ne.mpr c12
            have c12b1 : (a2 != 0) = true := bne_iff_ne.mpr c12
            (first | rw [c12b0] | (simp only [i64_w, i32_w]; rw [c12b0]) | skip)
            have H' := Aside0.mk H
            clear H
            go_wp2
            go_meet
            case rel => exact ⟨_, (false), (by first | rfl | (simp; done) | (simp [*]; done) | (simp [xbne_nil]; done)), H', ⟨by have := HJ3.out; first | omega | exact Nat.le_refl _⟩, by repeat (first | exact Drawn0.refl _ | apply Drawn0.step)⟩
        case rest =>
          clear HC11
          try clear c1
          try clear p2
          try clear c3
          try clear c4
          try clear c5
          try clear c5b0
          try clear c6
          try clear c6b0
          try clear c8
          try clear c10
          try clear c12
          try clear c12b0
          try clear c12b1
          try clear p2
          obtain ⟨kq, x30_10, rfl, HA, HJ10, ⟨mc10, rfl⟩⟩ := hcut
          cases kq with
          | zero => exact absurd HA.out (by simp [recoupref12_Work.j1])
          | succ kj10 =>
            have H := HA.out
            clear HA
            simp only [recoupref12_Work.j1] at H
            by_cases c13 : x30_10 = true
            · subst c13
              have H1 : (some (0, 5)) = some (r1, r2) := by rw [if_pos rfl] at H; exact H
              clear H
              have H := H1
              clear H1
              simp only [Option.some.injEq, Prod.mk.injEq] at H
              obtain ⟨rfl, rfl⟩ := H
              go_wp2
              go_ret2
              exact ⟨by first | rfl | (simp; done) | (simp [*]; done), by repeat (first | exact Drawn0.refl _ | apply Drawn0.step)⟩
            · replace c13 := Bool.eq_false_iff.mpr c13
              subst c13
              have H1 : (if a0 = 3 then ((recoupref12_Number.f (wrap64 (-a1))).bind fun t138 => (if t138 = true then (some (wrap64 (-a1), 0)) else (some (0, 120)))) else (if a0 = 4 then ((recoupref12_Number.f (wrap64 (a1 + a2))).bind fun t139 => (if t139 = true then (some (wrap64 (a1 + a2), 0)) else (some (0, 120)))) else (if a0 = 5 then ((recoupref12_Number.f (wrap64 (a1 - a2))).bind fun t140 => (if t140 = true then (some (wrap64 (a1 - a2), 0)) else (some (0, 120)))) else (if a0 = 6 then ((recoupref12_Number.f (wrap64 (a1 * a2))).bind fun t141 => (if t141 = true then (some (wrap64 (a1 * a2), 0)) else (some (0, 120)))) else (if a0 = 7 then (if a2 = 0 then (none) else ((recoupref12_Number.f (wrap64 (Int.tdiv a1 a2))).bind fun t142 => (if t142 = true then (some (wrap64 (Int.tdiv a1 a2), 0)) else (some (0, 120))))) else (if a0 = 8 then (if a2 = 0 then (none) else ((recoupref12_Number.f (Int.tmod a1 a2)).bind fun t143 => (if t143 = true then (some (Int.tmod a1 a2, 0)) else (some (0, 120))))) else ((recoupref12_Number.f 0).bind fun t144 => (if t144 = true then (some (0, 0)) else (some (0, 120)))))))))) = some (r1, r2) := by rw [if_neg (show ¬ (false = true) by decide)] at H; exact H
              clear H
              have H := H1
              clear H1
              by_cases c14 : a0 = 3
              · rw [if_pos c14] at H
                have c14b0 : (a0 == 3) = true := beq_iff_eq.mpr c14
                have c14b1 : (a0 != 3) = false := bne_eq_false_iff_eq.mpr c14
                clear c14
                replace H := Option.bind_eq_some_iff.mp H
                obtain ⟨t138, A150, H⟩ := H
                replace H : (if t138 = true then (some (wrap64 (-a1), 0)) else (some (0, 120))) = some (r1, r2) := H
                have A15 := Aside0.mk A150
                clear A150
                by_cases c16 : t138 = true
                · subst c16
                  have H1 : (some (wrap64 (-a1), 0)) = some (r1, r2) := by rw [if_pos rfl] at H; exact H
                  clear H
                  have H := H1
                  clear H1
                  simp only [Option.some.injEq, Prod.mk.injEq] at H
                  obtain ⟨rfl, rfl⟩ := H
                  go_wp2_with (first | ((with_reducible refine gate_callee (f := 18) rfl ?_); refine goesL_ (some 62) rfl rfl Try.func18 (by kernel_rfl) rfl #[.int .i64 (wrap64 (-a1))] rfl (by (try simp only [List.map_toArray, List.map_cons, List.map_nil]); first | done | rfl | (simp only [List.length_drop, List.length_take]; rfl)) ?_; (with_reducible refine (recoupref12_Number.calls (wrap64 (-a1)) true _ A15.out).mono ?_); rintro e w' ⟨rfl, ⟨nd, rfl⟩⟩; refine ⟨_, rfl, ?_⟩))
                  go_ret2
                  exact ⟨by first | rfl | (simp; done) | (simp [*]; done), by repeat (first | exact Drawn0.refl _ | apply Drawn0.step)⟩
                · replace c16 := Bool.eq_false_iff.mpr c16
                  subst c16
                  have H1 : (some (0, 120)) = some (r1, r2) := by rw [if_neg (show ¬ (false = true) by decide)] at H; exact H
                  clear H
                  have H := H1
                  clear H1
                  simp only [Option.some.injEq, Prod.mk.injEq] at H
                  obtain ⟨rfl, rfl⟩ := H
                  go_wp2_with (first | ((with_reducible refine gate_callee (f := 18) rfl ?_); refine goesL_ (some 62) rfl rfl Try.func18 (by kernel_rfl) rfl #[.int .i64 (wrap64 (-a1))] rfl (by (try simp only [List.map_toArray, List.map_cons, List.map_nil]); first | done | rfl | (simp only [List.length_drop, List.length_take]; rfl)) ?_; (with_reducible refine (recoupref12_Number.calls (wrap64 (-a1)) false _ A15.out).mono ?_); rintro e w' ⟨rfl, ⟨nd, rfl⟩⟩; refine ⟨_, rfl, ?_⟩))
                  go_ret2
                  exact ⟨by first | rfl | (simp; done) | (simp [*]; done), by repeat (first | exact Drawn0.refl _ | apply Drawn0.step)⟩
              · rw [if_neg c14] at H
                have c14b0 : (a0 == 3) = false := beq_eq_false_iff_ne.mpr c14
                have c14b1 : (a0 != 3) = true := bne_iff_ne.mpr c14
                by_cases c17 : a0 = 4
                · rw [if_pos c17] at H
                  have c17b0 : (a0 == 4) = true := beq_iff_eq.mpr c17
                  have c17b1 : (a0 != 4) = false := bne_eq_false_iff_eq.mpr c17
                  clear c17
                  replace H := Option.bind_eq_some_iff.mp H
                  obtain ⟨t139, A180, H⟩ := H
                  replace H : (if t139 = true then (some (wrap64 (a1 + a2), 0)) else (some (0, 120))) = some (r1, r2) := H
                  have A18 := Aside0.mk A180
                  clear A180
                  by_cases c19 : t139 = true
                  · subst c19
                    have H1 : (some (wrap64 (a1 + a2), 0)) = some (r1, r2) := by rw [if_pos rfl] at H; exact H
                    clear H
                    have H := H1
                    clear H1
                    simp only [Option.some.injEq, Prod.mk.injEq] at H
                    obtain ⟨rfl, rfl⟩ := H
                    go_wp2_with (first | ((with_reducible refine gate_callee (f := 18) rfl ?_); refine goesL_ (some 62) rfl rfl Try.func18 (by kernel_rfl) rfl #[.int .i64 (wrap64 (a1 + a2))] rfl (by (try simp only [List.map_toArray, List.map_cons, List.map_nil]); first | done | rfl | (simp only [List.length_drop, List.length_take]; rfl)) ?_; (with_reducible refine (recoupref12_Number.calls (wrap64 (a1 + a2)) true _ A18.out).mono ?_); rintro e w' ⟨rfl, ⟨nd, rfl⟩⟩; refine ⟨_, rfl, ?_⟩))
                    go_ret2
                    exact ⟨by first | rfl | (simp; done) | (simp [*]; done), by repeat (first | exact Drawn0.refl _ | apply Drawn0.step)⟩
                  · replace c19 := Bool.eq_false_iff.mpr c19
                    subst c19
                    have H1 : (some (0, 120)) = some (r1, r2) := by rw [if_neg (show ¬ (false = true) by decide)] at H; exact H
                    clear H
                    have H := H1
                    clear H1
                    simp only [Option.some.injEq, Prod.mk.injEq] at H
                    obtain ⟨rfl, rfl⟩ := H
                    go_wp2_with (first | ((with_reducible refine gate_callee (f := 18) rfl ?_); refine goesL_ (some 62) rfl rfl Try.func18 (by kernel_rfl) rfl #[.int .i64 (wrap64 (a1 + a2))] rfl (by (try simp only [List.map_toArray, List.map_cons, List.map_nil]); first | done | rfl | (simp only [List.length_drop, List.length_take]; rfl)) ?_; (with_reducible refine (recoupref12_Number.calls (wrap64 (a1 + a2)) false _ A18.out).mono ?_); rintro e w' ⟨rfl, ⟨nd, rfl⟩⟩; refine ⟨_, rfl, ?_⟩))
                    go_ret2
                    exact ⟨by first | rfl | (simp; done) | (simp [*]; done), by repeat (first | exact Drawn0.refl _ | apply Drawn0.step)⟩
                · rw [if_neg c17] at H
                  have c17b0 : (a0 == 4) = false := beq_eq_false_iff_ne.mpr c17
                  have c17b1 : (a0 != 4) = true := bne_iff_ne.mpr c17
                  by_cases c20 : a0 = 5
                  · rw [if_pos c20] at H
                    have c20b0 : (a0 == 5) = true := beq_iff_eq.mpr c20
                    have c20b1 : (a0 != 5) = false := bne_eq_false_iff_eq.mpr c20
                    clear c20
                    replace H := Option.bind_eq_some_iff.mp H
                    obtain ⟨t140, A210, H⟩ := H
                    replace H : (if t140 = true then (some (wrap64 (a1 - a2), 0)) else (some (0, 120))) = some (r1, r2) := H
                    have A21 := Aside0.mk A210
                    clear A210
                    by_cases c22 : t140 = true
                    · subst c22
                      have H1 : (some (wrap64 (a1 - a2), 0)) = some (r1, r2) := by rw [if_pos rfl] at H; exact H
                      clear H
                      have H := H1
                      clear H1
                      simp only [Option.some.injEq, Prod.mk.injEq] at H
                      obtain ⟨rfl, rfl⟩ := H
                      go_wp2_with (first | ((with_reducible refine gate_callee (f := 18) rfl ?_); refine goesL_ (some 62) rfl rfl Try.func18 (by kernel_rfl) rfl #[.int .i64 (wrap64 (a1 - a2))] rfl (by (try simp only [List.map_toArray, List.map_cons, List.map_nil]); first | done | rfl | (simp only [List.length_drop, List.length_take]; rfl)) ?_; (with_reducible refine (recoupref12_Number.calls (wrap64 (a1 - a2)) true _ A21.out).mono ?_); rintro e w' ⟨rfl, ⟨nd, rfl⟩⟩; refine ⟨_, rfl, ?_⟩))
                      go_ret2
                      exact ⟨by first | rfl | (simp; done) | (simp [*]; done), by repeat (first | exact Drawn0.refl _ | apply Drawn0.step)⟩
                    · replace c22 := Bool.eq_false_iff.mpr c22
                      subst c22
                      have H1 : (some (0, 120)) = some (r1, r2) := by rw [if_neg (show ¬ (false = true) by decide)] at H; exact H
                      clear H
                      have H := H1
                      clear H1
                      simp only [Option.some.injEq, Prod.mk.injEq] at H
                      obtain ⟨rfl, rfl⟩ := H
                      go_wp2_with (first | ((with_reducible refine gate_callee (f := 18) rfl ?_); refine goesL_ (some 62) rfl rfl Try.func18 (by kernel_rfl) rfl #[.int .i64 (wrap64 (a1 - a2))] rfl (by (try simp only [List.map_toArray, List.map_cons, List.map_nil]); first | done | rfl | (simp only [List.length_drop, List.length_take]; rfl)) ?_; (with_reducible refine (recoupref12_Number.calls (wrap64 (a1 - a2)) false _ A21.out).mono ?_); rintro e w' ⟨rfl, ⟨nd, rfl⟩⟩; refine ⟨_, rfl, ?_⟩))
                      go_ret2
                      exact ⟨by first | rfl | (simp; done) | (simp [*]; done), by repeat (first | exact Drawn0.refl _ | apply Drawn0.step)⟩
                  · rw [if_neg c20] at H
                    have c20b0 : (a0 == 5) = false := beq_eq_false_iff_ne.mpr c20
                    have c20b1 : (a0 != 5) = true := bne_iff_ne.mpr c20
                    by_cases c23 : a0 = 6
                    · rw [if_pos c23] at H
                      have c23b0 : (a0 == 6) = true := beq_iff_eq.mpr c23
                      have c23b1 : (a0 != 6) = false := bne_eq_false_iff_eq.mpr c23
                      clear c23
                      replace H := Option.bind_eq_some_iff.mp H
                      obtain ⟨t141, A240, H⟩ := H
                      replace H : (if t141 = true then (some (wrap64 (a1 * a2), 0)) else (some (0, 120))) = some (r1, r2) := H
                      have A24 := Aside0.mk A240
                      clear A240
                      by_cases c25 : t141 = true
                      · subst c25
                        have H1 : (some (wrap64 (a1 * a2), 0)) = some (r1, r2) := by rw [if_pos rfl] at H; exact H
                        clear H
                        have H := H1
                        clear H1
                        simp only [Option.some.injEq, Prod.mk.injEq] at H
                        obtain ⟨rfl, rfl⟩ := H
                        go_wp2_with (first | ((with_reducible refine gate_callee (f := 18) rfl ?_); refine goesL_ (some 62) rfl rfl Try.func18 (by kernel_rfl) rfl #[.int .i64 (wrap64 (a1 * a2))] rfl (by (try simp only [List.map_toArray, List.map_cons, List.map_nil]); first | done | rfl | (simp only [List.length_drop, List.length_take]; rfl)) ?_; (with_reducible refine (recoupref12_Number.calls (wrap64 (a1 * a2)) true _ A24.out).mono ?_); rintro e w' ⟨rfl, ⟨nd, rfl⟩⟩; refine ⟨_, rfl, ?_⟩))
                        go_ret2
                        exact ⟨by first | rfl | (simp; done) | (simp [*]; done), by repeat (first | exact Drawn0.refl _ | apply Drawn0.step)⟩
                      · replace c25 := Bool.eq_false_iff.mpr c25
                        subst c25
                        have H1 : (some (0, 120)) = some (r1, r2) := by rw [if_neg (show ¬ (false = true) by decide)] at H; exact H
                        clear H
                        have H := H1
                        clear H1
                        simp only [Option.some.injEq, Prod.mk.injEq] at H
                        obtain ⟨rfl, rfl⟩ := H
                        go_wp2_with (first | ((with_reducible refine gate_callee (f := 18) rfl ?_); refine goesL_ (some 62) rfl rfl Try.func18 (by kernel_rfl) rfl #[.int .i64 (wrap64 (a1 * a2))] rfl (by (try simp only [List.map_toArray, List.map_cons, List.map_nil]); first | done | rfl | (simp only [List.length_drop, List.length_take]; rfl)) ?_; (with_reducible refine (recoupref12_Number.calls (wrap64 (a1 * a2)) false _ A24.out).mono ?_); rintro e w' ⟨rfl, ⟨nd, rfl⟩⟩; refine ⟨_, rfl, ?_⟩))
                        go_ret2
                        exact ⟨by first | rfl | (simp; done) | (simp [*]; done), by repeat (first | exact Drawn0.refl _ | apply Drawn0.step)⟩
                    · rw [if_neg c23] at H
                      have c23b0 : (a0 == 6) = false := beq_eq_false_iff_ne.mpr c23
                      have c23b1 : (a0 != 6) = true := bne_iff_ne.mpr c23
                      by_cases c26 : a0 = 7
                      · rw [if_pos c26] at H
                        have c26b0 : (a0 == 7) = true := beq_iff_eq.mpr c26
                        have c26b1 : (a0 != 7) = false := bne_eq_false_iff_eq.mpr c26
                        clear c26
                        by_cases c27 : a2 = 0
                        · rw [if_pos c27] at H
                          exact absurd H (by simp)
                        · rw [if_neg c27] at H
                          have c27b0 : (a2 == 0) = false := beq_eq_false_iff_ne.mpr c27
                          have c27b1 : (a2 != 0) = true := bne_iff_ne.mpr c27
                          replace H := Option.bind_eq_some_iff.mp H
                          obtain ⟨t142, A280, H⟩ := H
                          replace H : (if t142 = true then (some (wrap64 (Int.tdiv a1 a2), 0)) else (some (0, 120))) = some (r1, r2) := H
                          have A28 := Aside0.mk A280
                          clear A280
                          by_cases c29 : t142 = true
                          · subst c29
                            have H1 : (some (wrap64 (Int.tdiv a1 a2), 0)) = some (r1, r2) := by rw [if_pos rfl] at H; exact H
                            clear H
                            have H := H1
                            clear H1
                            simp only [Option.some.injEq, Prod.mk.injEq] at H
                            obtain ⟨rfl, rfl⟩ := H
                            go_wp2_with (first | ((with_reducible refine gate_callee (f := 18) rfl ?_); refine goesL_ (some 62) rfl rfl Try.func18 (by kernel_rfl) rfl #[.int .i64 (wrap64 (Int.tdiv a1 a2))] rfl (by (try simp only [List.map_toArray, List.map_cons, List.map_nil]); first | done | rfl | (simp only [List.length_drop, List.length_take]; rfl)) ?_; (with_reducible refine (recoupref12_Number.calls (wrap64 (Int.tdiv a1 a2)) true _ A28.out).mono ?_); rintro e w' ⟨rfl, ⟨nd, rfl⟩⟩; refine ⟨_, rfl, ?_⟩))
                            go_ret2
                            exact ⟨by first | rfl | (simp; done) | (simp [*]; done), by repeat (first | exact Drawn0.refl _ | apply Drawn0.step)⟩
                          · replace c29 := Bool.eq_false_iff.mpr c29
                            subst c29
                            have H1 : (some (0, 120)) = some (r1, r2) := by rw [if_neg (show ¬ (false = true) by decide)] at H; exact H
                            clear H
                            have H := H1
                            clear H1
                            simp only [Option.some.injEq, Prod.mk.injEq] at H
                            obtain ⟨rfl, rfl⟩ := H
                            go_wp2_with (first | ((with_reducible refine gate_callee (f := 18) rfl ?_); refine goesL_ (some 62) rfl rfl Try.func18 (by kernel_rfl) rfl #[.int .i64 (wrap64 (Int.tdiv a1 a2))] rfl (by (try simp only [List.map_toArray, List.map_cons, List.map_nil]); first | done | rfl | (simp only [List.length_drop, List.length_take]; rfl)) ?_; (with_reducible refine (recoupref12_Number.calls (wrap64 (Int.tdiv a1 a2)) false _ A28.out).mono ?_); rintro e w' ⟨rfl, ⟨nd, rfl⟩⟩; refine ⟨_, rfl, ?_⟩))
                            go_ret2
                            exact ⟨by first | rfl | (simp; done) | (simp [*]; done), by repeat (first | exact Drawn0.refl _ | apply Drawn0.step)⟩
                      · rw [if_neg c26] at H
                        have c26b0 : (a0 == 7) = false := beq_eq_false_iff_ne.mpr c26
                        have c26b1 : (a0 != 7) = true := bne_iff_ne.mpr c26
                        by_cases c30 : a0 = 8
                        · rw [if_pos c30] at H
                          have c30b0 : (a0 == 8) = true := beq_iff_eq.mpr c30
                          have c30b1 : (a0 != 8) = false := bne_eq_false_iff_eq.mpr c30
                          clear c30
                          by_cases c31 : a2 = 0
                          · rw [if_pos c31] at H
                            exact absurd H (by simp)
                          · rw [if_neg c31] at H
                            have c31b0 : (a2 == 0) = false := beq_eq_false_iff_ne.mpr c31
                            have c31b1 : (a2 != 0) = true := bne_iff_ne.mpr c31
                            replace H := Option.bind_eq_some_iff.mp H
                            obtain ⟨t143, A320, H⟩ := H
                            replace H : (if t143 = true then (some (Int.tmod a1 a2, 0)) else (some (0, 120))) = some (r1, r2) := H
                            have A32 := Aside0.mk A320
                            clear A320
                            by_cases c33 : t143 = true
                            · subst c33
                              have H1 : (some (Int.tmod a1 a2, 0)) = some (r1, r2) := by rw [if_pos rfl] at H; exact H
                              clear H
                              have H := H1
                              clear H1
                              simp only [Option.some.injEq, Prod.mk.injEq] at H
                              obtain ⟨rfl, rfl⟩ := H
                              go_wp2_with (first | ((with_reducible refine gate_callee (f := 18) rfl ?_); refine goesL_ (some 62) rfl rfl Try.func18 (by kernel_rfl) rfl #[.int .i64 (Int.tmod a1 a2)] rfl (by (try simp only [List.map_toArray, List.map_cons, List.map_nil]); first | done | rfl | (simp only [List.length_drop, List.length_take]; rfl)) ?_; (with_reducible refine (recoupref12_Number.calls (Int.tmod a1 a2) true _ A32.out).mono ?_); rintro e w' ⟨rfl, ⟨nd, rfl⟩⟩; refine ⟨_, rfl, ?_⟩))
                              go_ret2
                              exact ⟨by first | rfl | (simp; done) | (simp [*]; done), by repeat (first | exact Drawn0.refl _ | apply Drawn0.step)⟩
                            · replace c33 := Bool.eq_false_iff.mpr c33
                              subst c33
                              have H1 : (some (0, 120)) = some (r1, r2) := by rw [if_neg (show ¬ (false = true) by decide)] at H; exact H
                              clear H
                              have H := H1
                              clear H1
                              simp only [Option.some.injEq, Prod.mk.injEq] at H
                              obtain ⟨rfl, rfl⟩ := H
                              go_wp2_with (first | ((with_reducible refine gate_callee (f := 18) rfl ?_); refine goesL_ (some 62) rfl rfl Try.func18 (by kernel_rfl) rfl #[.int .i64 (Int.tmod a1 a2)] rfl (by (try simp only [List.map_toArray, List.map_cons, List.map_nil]); first | done | rfl | (simp only [List.length_drop, List.length_take]; rfl)) ?_; (with_reducible refine (recoupref12_Number.calls (Int.tmod a1 a2) false _ A32.out).mono ?_); rintro e w' ⟨rfl, ⟨nd, rfl⟩⟩; refine ⟨_, rfl, ?_⟩))
                              go_ret2
                              exact ⟨by first | rfl | (simp; done) | (simp [*]; done), by repeat (first | exact Drawn0.refl _ | apply Drawn0.step)⟩
                        · rw [if_neg c30] at H
                          have c30b0 : (a0 == 8) = false := beq_eq_false_iff_ne.mpr c30
                          have c30b1 : (a0 != 8) = true := bne_iff_ne.mpr c30
                          replace H := Option.bind_eq_some_iff.mp H
                          obtain ⟨t144, A340, H⟩ := H
                          replace H : (if t144 = true then (some (0, 0)) else (some (0, 120))) = some (r1, r2) := H
                          have A34 := Aside0.mk A340
                          clear A340
                          by_cases c35 : t144 = true
                          · subst c35
                            have H1 : (some (0, 0)) = some (r1, r2) := by rw [if_pos rfl] at H; exact H
                            clear H
                            have H := H1
                            clear H1
                            simp only [Option.some.injEq, Prod.mk.injEq] at H
                            obtain ⟨rfl, rfl⟩ := H
                            go_wp2_with (first | ((with_reducible refine gate_callee (f := 18) rfl ?_); refine goesL_ (some 62) rfl rfl Try.func18 (by kernel_rfl) rfl #[.int .i64 0] rfl (by (try simp only [List.map_toArray, List.map_cons, List.map_nil]); first | done | rfl | (simp only [List.length_drop, List.length_take]; rfl)) ?_; (with_reducible refine (recoupref12_Number.calls 0 true _ A34.out).mono ?_); rintro e w' ⟨rfl, ⟨nd, rfl⟩⟩; refine ⟨_, rfl, ?_⟩))
                            go_ret2
                            exact ⟨by first | rfl | (simp; done) | (simp [*]; done), by repeat (first | exact Drawn0.refl _ | apply Drawn0.step)⟩
                          · replace c35 := Bool.eq_false_iff.mpr c35
                            subst c35
                            have H1 : (some (0, 120)) = some (r1, r2) := by rw [if_neg (show ¬ (false = true) by decide)] at H; exact H
                            clear H
                            have H := H1
                            clear H1
                            simp only [Option.some.injEq, Prod.mk.injEq] at H
                            obtain ⟨rfl, rfl⟩ := H
                            go_wp2_with (first | ((with_reducible refine gate_callee (f := 18) rfl ?_); refine goesL_ (some 62) rfl rfl Try.func18 (by kernel_rfl) rfl #[.int .i64 0] rfl (by (try simp only [List.map_toArray, List.map_cons, List.map_nil]); first | done | rfl | (simp only [List.length_drop, List.length_take]; rfl)) ?_; (with_reducible refine (recoupref12_Number.calls 0 false _ A34.out).mono ?_); rintro e w' ⟨rfl, ⟨nd, rfl⟩⟩; refine ⟨_, rfl, ?_⟩))
                            go_ret2
                            exact ⟨by first | rfl | (simp; done) | (simp [*]; done), by repeat (first | exact Drawn0.refl _ | apply Drawn0.step)⟩

end Go.Proofs.Ytnojokempdcikaa.PA
