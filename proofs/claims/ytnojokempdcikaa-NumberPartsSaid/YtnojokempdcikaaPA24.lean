/- Printed by a program of this repo over the kit's printer: functions of the given program as plain Lean functions, each with the proof that the call does what it says. -/
import Derived.Test.YtnojokempdcikaaPA0
import Derived.Test.YtnojokempdcikaaPA7
import Derived.Test.YtnojokempdcikaaPA11
import Derived.Test.YtnojokempdcikaaPA13
import Derived.Test.YtnojokempdcikaaPA18
import Derived.Test.YtnojokempdcikaaPA23
import Derived.Deep.RegionWith
namespace Go.Proofs.Ytnojokempdcikaa.PA
open Go.RowKit Go.Proofs.YtnojokempdcikaaW.PrintWords Go.Proofs.YtnojokempdcikaaW.PrintLast Go.Proofs.YtnojokempdcikaaW.PrintMore
attribute [local go_sem] max2_int min2_int max_two min_two max_three min_three max_four min_four   -- for this text's walks alone
set_option linter.unusedVariables false
set_option linter.unusedSimpArgs false

/-! ### recoupref12_Value: function 25 -/
--OWNPART Derived.Deep.RegionWith
open Go.RowKit
def xvalue (env : List S54) : Nat → S25 → Option (Int × Int × Int × Int)
  | 0, _ => none
  | n + 1, x => if x.f3.length ≤ 2 then (xparts (xvalue env n) x.f3 0 0 0).bind fun r => if r.2.1 = 0 then
      (if x.f0 = 1 then some (x.f1, 0, 0, 0) else if x.f0 = 2 then (if (envGet env x.f2).isSome = true then some ((envGet env x.f2).getD 0, 0, 0, 0) else some (0, 121, x.f4, x.f5))
        else (recoupref12_Work.f 2 x.f0 r.1.1 r.1.2).bind fun q => if q.2 = 0 then some (q.1, 0, 0, 0) else some (0, q.2, x.f4, x.f5))
      else some (0, r.2)
    else none
def recoupref12_Value.f (k : Nat) (a0_0 a0_1 : Int) (a0_2 : ByteArray) (l0_3 : List S25) (a0_4 a0_5 : Int) (l1 : List S54) : Option (Int × Int × Int × Int) :=
  if l1.length ≤ 4611686018427387903 then xvalue l1 k ⟨a0_0, a0_1, a0_2, l0_3, a0_4, a0_5⟩ else none
theorem xparts_mono {f g : S25 → Option (Int × Int × Int × Int)} (h : ∀ x, LeO (f x) (g x)) : ∀ (l : List S25) (i : Nat) (a b : Int), LeO (xparts f l i a b) (xparts g l i a b)
  | [], _, _, _ => LeO.refl _
  | p :: ps, i, a, b => by
    simp only [xparts]
    refine LeO.bind (h p) (fun r => ?_)
    exact LeO.ite (xparts_mono h ps _ _ _) (LeO.refl _)
theorem xvalue_mono (env : List S54) : ∀ (n : Nat) (x : S25), LeO (xvalue env n x) (xvalue env (n + 1) x)
  | 0, x => LeO.none _
  | n + 1, x => by
    unfold xvalue
    exact LeO.ite (LeO.bind (xparts_mono (xvalue_mono env n) _ _ _ _) (fun r => LeO.refl _)) (LeO.none _)
theorem recoupref12_Value.mono : ∀ a0 a1 a2 a3 a4 a5 a6 k, LeO (recoupref12_Value.f k a0 a1 a2 a3 a4 a5 a6) (recoupref12_Value.f (k + 1) a0 a1 a2 a3 a4 a5 a6) := by
  intro a0 a1 a2 a3 a4 a5 a6 k
  unfold recoupref12_Value.f
  exact LeO.ite (xvalue_mono _ _ _) (LeO.none _)
theorem envGet_toList (s t : ByteArray) : (s.data.toList = t.data.toList) ↔ (s.toList = t.toList) := by rw [Go.ByteArray.toList_eq, Go.ByteArray.toList_eq]
set_option maxHeartbeats 8000000 in
set_option maxRecDepth 100000 in
theorem Value_walk : ∀ (n : Nat) (K N : Int) (S : ByteArray) (A : Option Addr) (C : Nat) (l : List S25) (I O : Int) (A1 : Option Addr) (c1 : Nat) (l1 : List S54) (r1 r2 r3 r4 : Int) (w : World), Kd.C k25 w A l.length l → Kd.C k54 w A1 l1.length l1 → (l1.length ≤ 4611686018427387903 ∧ xvalue l1 n ⟨K, N, S, l, I, O⟩ = some (r1, r2, r3, r4)) →
    Calls Try.prog 25 #[.agg #[.int .u8 K, .int .i64 N, .string S, .slice A l.length C, .int .i64 I, .int .i64 O], .slice A1 l1.length c1] w fun e w' =>
      e = .returned (.tuple #[.int .i64 r1, .agg #[.int .i64 r2, .int .i64 r3, .int .i64 r4]]) ∧ Below w.heap.size w w' := by
  intro n
  induction n with
  | zero =>
    intro K N S A C l I O A1 c1 l1 r1 r2 r3 r4 w hR hR1 h
    exact absurd h.2 (by simp [xvalue])
  | succ n ih =>
    intro K N S A C l I O A1 c1 l1 r1 r2 r3 r4 w hR hR1 h
    have HIH := Aside0.mk ih
    have HR := Aside0.mk hR
    have HR1 := Aside0.mk hR1
    have HL1 := Aside0.mk h.1
    replace h := h.2
    clear ih hR hR1
    simp only [xvalue] at h
    go_enter Try.func25, Try.ntmps25
    by_cases hl : l.length ≤ 2
    · rw [if_pos hl] at h
      obtain ⟨PR, hp, hq⟩ := Option.bind_eq_some_iff.1 h
      obtain ⟨⟨pa, pb⟩, pc, pl, po⟩ := PR
      have HL := Aside0.mk hl
      have HP := Aside0.mk (show xparts (xvalue l1 n) (l.drop 0) 0 0 0 = some ((pa, pb), (pc, pl, po)) from hp)
      have HQ := Aside0.mk hq
      clear h hp hq hl
      go_wp2_with (first | ((with_reducible refine gate_dst (N := 2) rfl ?_); refine box_event ?hg (N := 2) ?hd (cs := #[.int .u8 K, .int .i64 N, .string S, .slice A l.length C, .int .i64 I, .int .i64 O]) (t := 25) ?hr ?_; (case hd => rfl); (case hg => rfl); (case hr => first | (go_simp; done) | (go_simp; rfl)); intro gx hg w1 hbox hb; have BX := Aside0.mk hbox; have HB1 := Aside0.mk hb; clear hbox hb hg) | ((with_reducible refine gate_dst (N := 5) rfl ?_); refine box_event ?hg (N := 5) ?hd (cs := #[.int .i64 0, .int .i64 0, .int .i64 0]) (t := 29) ?hr ?_; (case hd => rfl); (case hg => rfl); (case hr => first | (go_simp; done) | (go_simp; rfl)); intro gr hg w2 hbox hb; have BR := Aside0.mk hbox; have HB2 := Aside0.mk (below_step HB1.out hb); have BX2 := Aside0.mk (blk_below BX.out hb); have GR := Aside0.mk (show w.heap.size ≤ gr from by rw [hg]; exact HB1.out.size); clear hbox hb hg) | ((with_reducible refine gate_dst (N := 6) rfl ?_); refine box_event ?hg (N := 6) ?hd (cs := #[.int .i64 0, .int .i64 0]) (t := 81) ?hr ?_; (case hd => rfl); (case hg => rfl); (case hr => first | (go_simp; done) | (go_simp; rfl)); intro ga hg w3 hbox hb; have BA := Aside0.mk hbox; have HB3 := Aside0.mk (below_step HB2.out hb); have BX3 := Aside0.mk (blk_below BX2.out hb); have BR3 := Aside0.mk (blk_below BR.out hb); have GA := Aside0.mk (show w.heap.size ≤ ga from by rw [hg]; exact HB2.out.size); have NAX := Aside0.mk (show gx ≠ ga from fun e => by have := blk_lt BX2.out; omega); have NAR := Aside0.mk (show gr ≠ ga from fun e => by have := blk_lt BR.out; omega); clear hbox hb hg))
      go_loopg [7] l.length (fun q v7 wx => ∃ (i : Nat) (a b : Int), i + q = l.length ∧ v7 = .int .i64 i ∧ Aside0 (xparts (xvalue l1 n) (l.drop i) i a b = some ((pa, pb), (pc, pl, po))) ∧ Aside0 (wx.heap[ga]? = some (.cells #[.int .i64 a, .int .i64 b] 81 (0, 0))) ∧ Aside0 (wx.heap[gx]? = some (.cells #[.int .u8 K, .int .i64 N, .string S, .slice A l.length C, .int .i64 I, .int .i64 O] 25 (0, 0))) ∧ Aside0 (wx.heap[gr]? = some (.cells #[.int .i64 0, .int .i64 0, .int .i64 0] 29 (0, 0))) ∧ Aside0 (Below w.heap.size w wx))
      case atStart => exact ⟨0, 0, 0, by omega, rfl, HP, BA, BX3, BR3, HB3⟩
      case round =>
        clear HP BA BX BX2 BX3 BR BR3 HB1 HB2 HB3
        obtain ⟨i, a, b, hi, rfl, HP, BA, BX, BR, HB⟩ := hrel
        have hz0 : wr.cell? ⟨gx, 0, none⟩ = some (.int .u8 K) := (blk_cell BX.out 0).trans rfl; have hz1 : wr.cell? ⟨gx, 1, none⟩ = some (.int .i64 N) := (blk_cell BX.out 1).trans rfl; have hz2 : wr.cell? ⟨gx, 2, none⟩ = some (.string S) := (blk_cell BX.out 2).trans rfl; have hz3 : wr.cell? ⟨gx, 3, none⟩ = some (.slice A l.length C) := (blk_cell BX.out 3).trans rfl; have hz4 : wr.cell? ⟨gx, 4, none⟩ = some (.int .i64 I) := (blk_cell BX.out 4).trans rfl; have hz5 : wr.cell? ⟨gx, 5, none⟩ = some (.int .i64 O) := (blk_cell BX.out 5).trans rfl
        cases gk with
        | zero =>
          obtain rfl : i = l.length := by omega
          have hP := HP.out
          rw [List.drop_length] at hP
          simp only [xparts, Option.some.injEq, Prod.mk.injEq] at hP
          obtain ⟨⟨rfl, rfl⟩, rfl, rfl, rfl⟩ := hP
          have hq := HQ.out
          try dsimp only at hq
          rw [if_pos rfl] at hq
          clear HQ HP
          have ha0 : wr.cell? ⟨ga, 0, none⟩ = some (.int .i64 a) := (blk_cell BA.out 0).trans rfl; have ha1 : wr.cell? ⟨ga, 1, none⟩ = some (.int .i64 b) := (blk_cell BA.out 1).trans rfl
          by_cases k1 : K = 1
          · rw [if_pos k1] at hq
            have k1b : (K == 1) = true := beq_iff_eq.mpr k1
            have HE := Aside0.mk (Option.some.inj hq)
            clear k1 hq
            go_wp2_with (first | (refine xstore_row rfl 29 _ _ rfl gr #[.int .i64 0, .int .i64 0, .int .i64 0] rfl rfl 29 _ BR.out faultInfo rfl (xone3 _ _ _) ?_; intro w6 hbk hgr hbl; have HB6 := Aside0.mk (hbl _ _ HB.out GR.out); have BR6 := Aside0.mk hbk; clear hbk hgr hbl))
            have hE := HE.out
            simp only [Prod.mk.injEq] at hE
            obtain ⟨rfl, rfl, rfl, rfl⟩ := hE
            refine bodyPost_ret (results_tc rfl _ _ gr 29 #[.int .i64 0, .int .i64 0, .int .i64 0] (0, 0) _ rfl BR6.out Try.underlying29 rfl faultInfo) rfl ?_
            exact ⟨rfl, HB6.out⟩
          · rw [if_neg k1] at hq
            have k1b : (K == 1) = false := beq_eq_false_iff_ne.2 k1
            clear k1
            by_cases k2 : K = 2
            · rw [if_pos k2] at hq
              have k2b : (K == 2) = true := beq_iff_eq.mpr k2
              obtain ⟨G, hG⟩ : ∃ G, envGet l1 S = G := ⟨_, rfl⟩
              rw [hG] at hq
              have HG := Aside0.mk (show envGet (l1.drop 0) S = G from hG)
              have HQ := Aside0.mk hq
              clear k2 hq hG
              go_wp2
              go_loopg [12] l1.length (fun q v12 wx => ∃ j : Nat, j + q = l1.length ∧ v12 = .int .i64 j ∧ Aside0 (envGet (l1.drop j) S = G) ∧ Drawn0 wr wx)
              case atStart => exact ⟨0, by omega, rfl, HG, Drawn0.refl _⟩
              case round =>
                clear HG
                obtain ⟨j, hj, rfl, HG, ⟨n1, rfl⟩⟩ := hrel
                cases gk with
                | zero =>
                  obtain rfl : j = l1.length := by omega
                  have hG := HG.out
                  rw [List.drop_length] at hG
                  simp only [envGet] at hG
                  subst hG
                  have hq := HQ.out
                  rw [if_neg (by simp)] at hq
                  have HE := Aside0.mk (Option.some.inj hq)
                  clear hq
                  go_upto_region 22 with (fail)
                  have hE := HE.out
                  simp only [Prod.mk.injEq] at hE
                  obtain ⟨rfl, rfl, rfl, rfl⟩ := hE
                  have hu0 : (wr.drewN n1).cell? ⟨gx, 0, none⟩ = some (.int .u8 K) := (blk_cell (blk_drewN BX.out n1) 0).trans rfl; have hu1 : (wr.drewN n1).cell? ⟨gx, 1, none⟩ = some (.int .i64 N) := (blk_cell (blk_drewN BX.out n1) 1).trans rfl; have hu2 : (wr.drewN n1).cell? ⟨gx, 2, none⟩ = some (.string S) := (blk_cell (blk_drewN BX.out n1) 2).trans rfl; have hu3 : (wr.drewN n1).cell? ⟨gx, 3, none⟩ = some (.slice A l.length C) := (blk_cell (blk_drewN BX.out n1) 3).trans rfl; have hu4 : (wr.drewN n1).cell? ⟨gx, 4, none⟩ = some (.int .i64 I) := (blk_cell (blk_drewN BX.out n1) 4).trans rfl; have hu5 : (wr.drewN n1).cell? ⟨gx, 5, none⟩ = some (.int .i64 O) := (blk_cell (blk_drewN BX.out n1) 5).trans rfl
                  have hs0 : wr.cell? ⟨gr, 0, none⟩ = some (.int .i64 0) := (blk_cell BR.out 0).trans rfl; have hs1 : wr.cell? ⟨gr, 1, none⟩ = some (.int .i64 0) := (blk_cell BR.out 1).trans rfl; have hs2 : wr.cell? ⟨gr, 2, none⟩ = some (.int .i64 0) := (blk_cell BR.out 2).trans rfl
                  have fs0 : wr.frozen? ⟨gr, 0, none⟩ = false := blk_frozen BR.out 0; have fs1 : wr.frozen? ⟨gr, 1, none⟩ = false := blk_frozen BR.out 1; have fs2 : wr.frozen? ⟨gr, 2, none⟩ = false := blk_frozen BR.out 2
                  have hq0 : (wr.drewN n1).cell? ⟨gr, 0, none⟩ = some (.int .i64 0) := (blk_cell (blk_drewN BR.out n1) 0).trans rfl; have hq1 : (wr.drewN n1).cell? ⟨gr, 1, none⟩ = some (.int .i64 0) := (blk_cell (blk_drewN BR.out n1) 1).trans rfl; have hq2 : (wr.drewN n1).cell? ⟨gr, 2, none⟩ = some (.int .i64 0) := (blk_cell (blk_drewN BR.out n1) 2).trans rfl
                  have fq0 : (wr.drewN n1).frozen? ⟨gr, 0, none⟩ = false := blk_frozen (blk_drewN BR.out n1) 0; have fq1 : (wr.drewN n1).frozen? ⟨gr, 1, none⟩ = false := blk_frozen (blk_drewN BR.out n1) 1; have fq2 : (wr.drewN n1).frozen? ⟨gr, 2, none⟩ = false := blk_frozen (blk_drewN BR.out n1) 2
                  have hj0 : (wr.drewN n1).drew.cell? ⟨gr, 0, none⟩ = some (.int .i64 0) := (blk_cell (blk_drew (blk_drewN BR.out n1)) 0).trans rfl; have hj1 : (wr.drewN n1).drew.cell? ⟨gr, 1, none⟩ = some (.int .i64 0) := (blk_cell (blk_drew (blk_drewN BR.out n1)) 1).trans rfl; have hj2 : (wr.drewN n1).drew.cell? ⟨gr, 2, none⟩ = some (.int .i64 0) := (blk_cell (blk_drew (blk_drewN BR.out n1)) 2).trans rfl
                  have fj0 : (wr.drewN n1).drew.frozen? ⟨gr, 0, none⟩ = false := blk_frozen (blk_drew (blk_drewN BR.out n1)) 0; have fj1 : (wr.drewN n1).drew.frozen? ⟨gr, 1, none⟩ = false := blk_frozen (blk_drew (blk_drewN BR.out n1)) 1; have fj2 : (wr.drewN n1).drew.frozen? ⟨gr, 2, none⟩ = false := blk_frozen (blk_drew (blk_drewN BR.out n1)) 2
                  go_region
                  all_goals (try go_wp2)
                  all_goals (refine bodyPost_ret (results_tc rfl _ _ gr 29 #[.int .i64 121, .int .i64 I, .int .i64 O] (0, 0) _ rfl (by (with_reducible repeat (first | refine blk_drewN ?_ _ | refine blk_drew ?_ | refine blk_alloc ?_ _)); refine blk_put (cs := #[.int .i64 121, .int .i64 I, .int .i64 0]) ?_ 2 _ rfl; (with_reducible repeat (first | refine blk_drewN ?_ _ | refine blk_drew ?_ | refine blk_alloc ?_ _)); refine blk_put (cs := #[.int .i64 121, .int .i64 0, .int .i64 0]) ?_ 1 _ rfl; (with_reducible repeat (first | refine blk_drewN ?_ _ | refine blk_drew ?_ | refine blk_alloc ?_ _)); refine blk_put (cs := #[.int .i64 0, .int .i64 0, .int .i64 0]) ?_ 0 _ rfl; (with_reducible repeat (first | refine blk_drewN ?_ _ | refine blk_drew ?_ | refine blk_alloc ?_ _)); first | exact BR.out | exact (blk_drewN BR.out n1)) Try.underlying29 rfl faultInfo) rfl ?_)
                  all_goals (refine ⟨rfl, ?_⟩)
                  all_goals (repeat (first | (with_reducible first | exact (pw_below_drewN HB.out n1) | apply below_alloc | apply pw_below_drewN | apply below_drew1 | refine below_set ?_ GR.out) | exact HB.out | exact (pw_below_drewN HB.out n1)))
                | succ q =>
                  have hjk : j < l1.length := by omega
                  have hlt : decide ((j : Int) < (l1.length : Int)) = true := decide_eq_true (by omega)
                  have hG := HG.out
                  clear HG
                  rw [rd_drop54 l1 j hjk] at hG
                  obtain ⟨ad, e0, hx0, hx1⟩ := at_T54 HR1.out (j : Int) (by omega) (by omega)
                  generalize rd_T54 l1 (j : Int) = y at hG hx0 hx1
                  obtain ⟨cs, cn⟩ := y
                  dsimp only at hG hx0 hx1
                  subst e0
                  rw [Int.toNat_natCast] at hx0 hx1
                  replace hx0 := (HB.out.cell (World.block_lt_of_cell? w _ hx0)).trans hx0
                  replace hx1 := (HB.out.cell (World.block_lt_of_cell? w _ hx1)).trans hx1
                  simp only [envGet] at hG
                  by_cases hs : S.data.toList = cs.data.toList
                  · rw [if_pos hs] at hG
                    have hsb : (cs.toList == S.toList) = true := beq_iff_eq.mpr ((envGet_toList _ _).1 hs).symm
                    clear hs
                    subst hG
                    have hq := HQ.out
                    rw [if_pos (show (some cn).isSome = true from rfl)] at hq
                    have HE := Aside0.mk (Option.some.inj hq)
                    clear hq
                    go_wp2
                    go_quiet (fail)
                    go_wp2_with (first | (refine xstore_row rfl 29 _ _ rfl gr #[.int .i64 0, .int .i64 0, .int .i64 0] rfl rfl 29 _ (blk_drewN BR.out _) faultInfo rfl (xone3 _ _ _) ?_; intro w6 hbk hgr hbl; have HB6 := Aside0.mk (hbl _ _ (pw_below_drewN HB.out _) GR.out); have BR6 := Aside0.mk hbk; clear hbk hgr hbl))
                    have hE := HE.out
                    simp only [Prod.mk.injEq] at hE
                    obtain ⟨rfl, rfl, rfl, rfl⟩ := hE
                    refine bodyPost_ret (results_tc rfl _ _ gr 29 #[.int .i64 0, .int .i64 0, .int .i64 0] (0, 0) _ rfl BR6.out Try.underlying29 rfl faultInfo) rfl ?_
                    exact ⟨rfl, HB6.out⟩
                  · rw [if_neg hs] at hG
                    have hsb : (cs.toList == S.toList) = false := beq_eq_false_iff_ne.2 (fun h => hs ((envGet_toList _ _).2 h.symm))
                    have HG := Aside0.mk hG
                    clear hs hG
                    have HJ := Aside0.mk (show j + 1 ≤ 4611686018427387903 by have := HL1.out; omega)
                    go_wp2
                    go_quiet (fail)
                    go_wp2
                    go_roundg q
                    case measure => omega
                    case rel => exact ⟨j + 1, by omega, (by have h2 := HJ.out; first | rfl | (rw [xw64 (by omega) (by omega)]; simp) | simp), HG, ⟨_, rfl⟩⟩
            · rw [if_neg k2] at hq
              have k2b : (K == 2) = false := beq_eq_false_iff_ne.2 k2
              clear k2
              obtain ⟨⟨q1, q2⟩, hw, hq⟩ := Option.bind_eq_some_iff.1 hq
              try dsimp only at hq
              have HW := Aside0.mk hw
              clear hw
              by_cases c2 : q2 = 0
              · rw [if_pos c2] at hq
                have HE := Aside0.mk (Option.some.inj hq)
                have c2b : (q2 != 0) = false := bne_eq_false_iff_eq.mpr c2
                clear hq c2
                go_wp2_with (first | (go_at_call 41; refine (recoupref12_Work.calls 2 K a b q1 q2 _ HW.out).mono ?_; rintro e w4 ⟨rfl, ⟨nd, rfl⟩⟩) | (refine xstore_row rfl 29 _ _ rfl gr #[.int .i64 0, .int .i64 0, .int .i64 0] rfl rfl 29 _ (blk_drewN BR.out nd) faultInfo rfl (xone3 _ _ _) ?_; intro w6 hbk hgr hbl; have HB6 := Aside0.mk (hbl _ _ (pw_below_drewN HB.out nd) GR.out); have BR6 := Aside0.mk hbk; clear hbk hgr hbl))
                have hE := HE.out
                simp only [Prod.mk.injEq] at hE
                obtain ⟨rfl, rfl, rfl, rfl⟩ := hE
                refine bodyPost_ret (results_tc rfl _ _ gr 29 #[.int .i64 0, .int .i64 0, .int .i64 0] (0, 0) _ rfl BR6.out Try.underlying29 rfl faultInfo) rfl ?_
                exact ⟨rfl, HB6.out⟩
              · rw [if_neg c2] at hq
                have HE := Aside0.mk (Option.some.inj hq)
                have c2b : (q2 != 0) = true := bne_iff_ne.mpr c2
                clear hq c2
                go_upto_region 22 with (first | (go_at_call 41; refine (recoupref12_Work.calls 2 K a b q1 q2 _ HW.out).mono ?_; rintro e w4 ⟨rfl, ⟨nd, rfl⟩⟩))
                have hE := HE.out
                simp only [Prod.mk.injEq] at hE
                obtain ⟨rfl, rfl, rfl, rfl⟩ := hE
                have hu0 : (wr.drewN nd).cell? ⟨gx, 0, none⟩ = some (.int .u8 K) := (blk_cell (blk_drewN BX.out nd) 0).trans rfl; have hu1 : (wr.drewN nd).cell? ⟨gx, 1, none⟩ = some (.int .i64 N) := (blk_cell (blk_drewN BX.out nd) 1).trans rfl; have hu2 : (wr.drewN nd).cell? ⟨gx, 2, none⟩ = some (.string S) := (blk_cell (blk_drewN BX.out nd) 2).trans rfl; have hu3 : (wr.drewN nd).cell? ⟨gx, 3, none⟩ = some (.slice A l.length C) := (blk_cell (blk_drewN BX.out nd) 3).trans rfl; have hu4 : (wr.drewN nd).cell? ⟨gx, 4, none⟩ = some (.int .i64 I) := (blk_cell (blk_drewN BX.out nd) 4).trans rfl; have hu5 : (wr.drewN nd).cell? ⟨gx, 5, none⟩ = some (.int .i64 O) := (blk_cell (blk_drewN BX.out nd) 5).trans rfl
                have hs0 : wr.cell? ⟨gr, 0, none⟩ = some (.int .i64 0) := (blk_cell BR.out 0).trans rfl; have hs1 : wr.cell? ⟨gr, 1, none⟩ = some (.int .i64 0) := (blk_cell BR.out 1).trans rfl; have hs2 : wr.cell? ⟨gr, 2, none⟩ = some (.int .i64 0) := (blk_cell BR.out 2).trans rfl
                have fs0 : wr.frozen? ⟨gr, 0, none⟩ = false := blk_frozen BR.out 0; have fs1 : wr.frozen? ⟨gr, 1, none⟩ = false := blk_frozen BR.out 1; have fs2 : wr.frozen? ⟨gr, 2, none⟩ = false := blk_frozen BR.out 2
                have hq0 : (wr.drewN nd).cell? ⟨gr, 0, none⟩ = some (.int .i64 0) := (blk_cell (blk_drewN BR.out nd) 0).trans rfl; have hq1 : (wr.drewN nd).cell? ⟨gr, 1, none⟩ = some (.int .i64 0) := (blk_cell (blk_drewN BR.out nd) 1).trans rfl; have hq2 : (wr.drewN nd).cell? ⟨gr, 2, none⟩ = some (.int .i64 0) := (blk_cell (blk_drewN BR.out nd) 2).trans rfl
                have fq0 : (wr.drewN nd).frozen? ⟨gr, 0, none⟩ = false := blk_frozen (blk_drewN BR.out nd) 0; have fq1 : (wr.drewN nd).frozen? ⟨gr, 1, none⟩ = false := blk_frozen (blk_drewN BR.out nd) 1; have fq2 : (wr.drewN nd).frozen? ⟨gr, 2, none⟩ = false := blk_frozen (blk_drewN BR.out nd) 2
                have hj0 : (wr.drewN nd).drew.cell? ⟨gr, 0, none⟩ = some (.int .i64 0) := (blk_cell (blk_drew (blk_drewN BR.out nd)) 0).trans rfl; have hj1 : (wr.drewN nd).drew.cell? ⟨gr, 1, none⟩ = some (.int .i64 0) := (blk_cell (blk_drew (blk_drewN BR.out nd)) 1).trans rfl; have hj2 : (wr.drewN nd).drew.cell? ⟨gr, 2, none⟩ = some (.int .i64 0) := (blk_cell (blk_drew (blk_drewN BR.out nd)) 2).trans rfl
                have fj0 : (wr.drewN nd).drew.frozen? ⟨gr, 0, none⟩ = false := blk_frozen (blk_drew (blk_drewN BR.out nd)) 0; have fj1 : (wr.drewN nd).drew.frozen? ⟨gr, 1, none⟩ = false := blk_frozen (blk_drew (blk_drewN BR.out nd)) 1; have fj2 : (wr.drewN nd).drew.frozen? ⟨gr, 2, none⟩ = false := blk_frozen (blk_drew (blk_drewN BR.out nd)) 2
                go_region
                all_goals (try go_wp2)
                all_goals (refine bodyPost_ret (results_tc rfl _ _ gr 29 #[.int .i64 q2, .int .i64 I, .int .i64 O] (0, 0) _ rfl (by (with_reducible repeat (first | refine blk_drewN ?_ _ | refine blk_drew ?_ | refine blk_alloc ?_ _)); refine blk_put (cs := #[.int .i64 q2, .int .i64 I, .int .i64 0]) ?_ 2 _ rfl; (with_reducible repeat (first | refine blk_drewN ?_ _ | refine blk_drew ?_ | refine blk_alloc ?_ _)); refine blk_put (cs := #[.int .i64 q2, .int .i64 0, .int .i64 0]) ?_ 1 _ rfl; (with_reducible repeat (first | refine blk_drewN ?_ _ | refine blk_drew ?_ | refine blk_alloc ?_ _)); refine blk_put (cs := #[.int .i64 0, .int .i64 0, .int .i64 0]) ?_ 0 _ rfl; (with_reducible repeat (first | refine blk_drewN ?_ _ | refine blk_drew ?_ | refine blk_alloc ?_ _)); first | exact BR.out | exact (blk_drewN BR.out nd)) Try.underlying29 rfl faultInfo) rfl ?_)
                all_goals (refine ⟨rfl, ?_⟩)
                all_goals (repeat (first | (with_reducible first | exact (pw_below_drewN HB.out nd) | apply below_alloc | apply pw_below_drewN | apply below_drew1 | refine below_set ?_ GR.out) | exact HB.out | exact (pw_below_drewN HB.out nd)))
        | succ q =>
          have hik : i < l.length := by omega
          have hlt : decide ((i : Int) < (l.length : Int)) = true := decide_eq_true (by omega)
          have hP := HP.out
          clear HP
          rw [rd_drop25 l i hik] at hP
          obtain ⟨ad, A3, c3, e0, hx0, hx1, hx2, hx3, hx4, hx5, hlc, hRC⟩ := at_T25 HR.out (i : Int) (by omega) (by omega)
          subst e0
          rw [Int.toNat_natCast] at hx0 hx1 hx2 hx3 hx4 hx5
          generalize rd_T25 l (i : Int) = y at hP hx0 hx1 hx2 hx3 hx4 hx5 hlc hRC
          obtain ⟨K2, N2, S2, l2, I2, O2⟩ := y
          dsimp only at hP hx0 hx1 hx2 hx3 hx4 hx5 hlc hRC
          replace hx0 := (HB.out.cell (World.block_lt_of_cell? w _ hx0)).trans hx0
          replace hx1 := (HB.out.cell (World.block_lt_of_cell? w _ hx1)).trans hx1
          replace hx2 := (HB.out.cell (World.block_lt_of_cell? w _ hx2)).trans hx2
          replace hx3 := (HB.out.cell (World.block_lt_of_cell? w _ hx3)).trans hx3
          replace hx4 := (HB.out.cell (World.block_lt_of_cell? w _ hx4)).trans hx4
          replace hx5 := (HB.out.cell (World.block_lt_of_cell? w _ hx5)).trans hx5
          have HRC := Aside0.mk hRC
          have HII := Aside0.mk (show i ≤ 1 by have := HL.out; omega)
          simp only [xparts] at hP
          clear hRC hlc
          obtain ⟨⟨y1, y2, y3, y4⟩, hy, hP⟩ := Option.bind_eq_some_iff.1 hP
          have HY := Aside0.mk (show l1.length ≤ 4611686018427387903 ∧ _ from ⟨HL1.out, hy⟩)
          clear hy
          dsimp only at hP
          by_cases c2 : y2 = 0
          · rw [if_pos c2] at hP
            have HP := Aside0.mk hP
            have c2b : (y2 != 0) = false := bne_eq_false_iff_eq.mpr c2
            have i2c : (i : Int) < 2 := by have := HII.out; omega
            clear hP c2
            go_wp2_with (first | (go_at_call 25; refine (HIH.out K2 N2 S2 A3 c3 l2 I2 O2 A1 c1 l1 y1 y2 y3 y4 _ (Kd.C_below HRC.out HB.out) (Kd.C_below HR1.out HB.out) HY.out).mono ?_; rintro e w5 ⟨rfl, hb⟩; have BA5 := Aside0.mk (blk_below BA.out hb); have BX5 := Aside0.mk (blk_below BX.out hb); have BR5 := Aside0.mk (blk_below BR.out hb); have HB5 := Aside0.mk (below_step HB.out hb); clear hb) | ((with_reducible refine gate_dst (N := 9) rfl ?_); refine box_event ?hg (N := 9) ?hd (cs := #[.int .i64 0, .int .i64 0, .int .i64 0]) (t := 29) ?hr ?_; (case hd => rfl); (case hg => rfl); (case hr => first | (go_simp; done) | (go_simp; rfl)); intro gf hg w6 hbox hb; have BF := Aside0.mk hbox; have BA6 := Aside0.mk (blk_below BA5.out hb); have BX6 := Aside0.mk (blk_below BX5.out hb); have BR6 := Aside0.mk (blk_below BR5.out hb); have HB6 := Aside0.mk (below_step HB5.out hb); have GF := Aside0.mk (show w.heap.size ≤ gf from by rw [hg]; exact HB5.out.size); have NFA := Aside0.mk (show ga ≠ gf from fun e => by have := blk_lt BA5.out; omega); have NFX := Aside0.mk (show gx ≠ gf from fun e => by have := blk_lt BX5.out; omega); have NFR := Aside0.mk (show gr ≠ gf from fun e => by have := blk_lt BR5.out; omega); clear hbox hb hg) | (refine xstore_row rfl 29 _ _ rfl gf #[.int .i64 y2, .int .i64 y3, .int .i64 y4] rfl rfl 29 _ BF.out faultInfo rfl (xone3 _ _ _) ?_; intro w8 hbk hgr hbl; have BF8 := Aside0.mk hbk; have BA8 := Aside0.mk (blk_grown BA6.out hgr (by simp only [ne_eq, Option.some.injEq]; exact NFA.out)); have BX8 := Aside0.mk (blk_grown BX6.out hgr (by simp only [ne_eq, Option.some.injEq]; exact NFX.out)); have BR8 := Aside0.mk (blk_grown BR6.out hgr (by simp only [ne_eq, Option.some.injEq]; exact NFR.out)); have hf0 : w8.cell? ⟨gf, 0, none⟩ = some (.int .i64 y2) := (blk_cell hbk 0).trans rfl; have hf1 : w8.cell? ⟨gf, 1, none⟩ = some (.int .i64 y3) := (blk_cell hbk 1).trans rfl; have hf2 : w8.cell? ⟨gf, 2, none⟩ = some (.int .i64 y4) := (blk_cell hbk 2).trans rfl; have hai : w8.cell? ⟨ga, i, none⟩ = some (.int .i64 (if i = 0 then a else b)) := (blk_cell BA8.out i).trans (pair_at a b i HII.out); have hfi : w8.frozen? ⟨ga, i, none⟩ = false := blk_frozen BA8.out i; have HB8 := Aside0.mk (hbl _ _ HB6.out GF.out); clear hbk hgr hbl))
            go_roundg q
            case measure => omega
            case rel =>
              refine ⟨i + 1, _, _, by omega, ?_, HP, ⟨?_⟩, ⟨?_⟩, ⟨?_⟩, ⟨?_⟩⟩
              · have h2 := HII.out; first | rfl | (rw [xw64 (by omega) (by omega)]; simp)
              · exact blk_put BA8.out i (.int .i64 y1) (pair_put a b y1 i HII.out)
              · exact blk_far BX8.out NAX.out _
              · exact blk_far BR8.out NAR.out _
              · exact below_set HB8.out GA.out
          · rw [if_neg c2] at hP
            have HE := Aside0.mk hP
            have c2b : (y2 != 0) = true := bne_iff_ne.mpr c2
            have HN2 := Aside0.mk c2
            clear hP c2
            go_upto_region 7 with (first | (go_at_call 25; refine (HIH.out K2 N2 S2 A3 c3 l2 I2 O2 A1 c1 l1 y1 y2 y3 y4 _ (Kd.C_below HRC.out HB.out) (Kd.C_below HR1.out HB.out) HY.out).mono ?_; rintro e w5 ⟨rfl, hb⟩; have BA5 := Aside0.mk (blk_below BA.out hb); have BX5 := Aside0.mk (blk_below BX.out hb); have BR5 := Aside0.mk (blk_below BR.out hb); have HB5 := Aside0.mk (below_step HB.out hb); clear hb) | ((with_reducible refine gate_dst (N := 9) rfl ?_); refine box_event ?hg (N := 9) ?hd (cs := #[.int .i64 0, .int .i64 0, .int .i64 0]) (t := 29) ?hr ?_; (case hd => rfl); (case hg => rfl); (case hr => first | (go_simp; done) | (go_simp; rfl)); intro gf hg w6 hbox hb; have BF := Aside0.mk hbox; have BA6 := Aside0.mk (blk_below BA5.out hb); have BX6 := Aside0.mk (blk_below BX5.out hb); have BR6 := Aside0.mk (blk_below BR5.out hb); have HB6 := Aside0.mk (below_step HB5.out hb); have GF := Aside0.mk (show w.heap.size ≤ gf from by rw [hg]; exact HB5.out.size); have NFA := Aside0.mk (show ga ≠ gf from fun e => by have := blk_lt BA5.out; omega); have NFX := Aside0.mk (show gx ≠ gf from fun e => by have := blk_lt BX5.out; omega); have NFR := Aside0.mk (show gr ≠ gf from fun e => by have := blk_lt BR5.out; omega); clear hbox hb hg) | (refine xstore_row rfl 29 _ _ rfl gf #[.int .i64 y2, .int .i64 y3, .int .i64 y4] rfl rfl 29 _ BF.out faultInfo rfl (xone3 _ _ _) ?_; intro w8 hbk hgr hbl; have BF8 := Aside0.mk hbk; have BA8 := Aside0.mk (blk_grown BA6.out hgr (by simp only [ne_eq, Option.some.injEq]; exact NFA.out)); have BX8 := Aside0.mk (blk_grown BX6.out hgr (by simp only [ne_eq, Option.some.injEq]; exact NFX.out)); have BR8 := Aside0.mk (blk_grown BR6.out hgr (by simp only [ne_eq, Option.some.injEq]; exact NFR.out)); have hf0 : w8.cell? ⟨gf, 0, none⟩ = some (.int .i64 y2) := (blk_cell hbk 0).trans rfl; have hf1 : w8.cell? ⟨gf, 1, none⟩ = some (.int .i64 y3) := (blk_cell hbk 1).trans rfl; have hf2 : w8.cell? ⟨gf, 2, none⟩ = some (.int .i64 y4) := (blk_cell hbk 2).trans rfl; have hai : w8.cell? ⟨ga, i, none⟩ = some (.int .i64 (if i = 0 then a else b)) := (blk_cell BA8.out i).trans (pair_at a b i HII.out); have hfi : w8.frozen? ⟨ga, i, none⟩ = false := blk_frozen BA8.out i; have HB8 := Aside0.mk (hbl _ _ HB6.out GF.out); clear hbk hgr hbl))
            have hE := HE.out
            simp only [Option.some.injEq, Prod.mk.injEq] at hE
            obtain ⟨⟨rfl, rfl⟩, rfl, rfl, rfl⟩ := hE
            have hq := HQ.out
            try dsimp only at hq
            rw [if_neg HN2.out] at hq
            simp only [Option.some.injEq, Prod.mk.injEq] at hq
            obtain ⟨rfl, rfl, rfl, rfl⟩ := hq
            have hv0 : w8.drew.cell? ⟨gf, 0, none⟩ = some (.int .i64 y2) := (blk_cell (blk_drew BF8.out) 0).trans rfl; have hv1 : w8.drew.cell? ⟨gf, 1, none⟩ = some (.int .i64 y3) := (blk_cell (blk_drew BF8.out) 1).trans rfl; have hv2 : w8.drew.cell? ⟨gf, 2, none⟩ = some (.int .i64 y4) := (blk_cell (blk_drew BF8.out) 2).trans rfl
            have hq0 : w8.cell? ⟨gr, 0, none⟩ = some (.int .i64 0) := (blk_cell BR8.out 0).trans rfl; have hq1 : w8.cell? ⟨gr, 1, none⟩ = some (.int .i64 0) := (blk_cell BR8.out 1).trans rfl; have hq2 : w8.cell? ⟨gr, 2, none⟩ = some (.int .i64 0) := (blk_cell BR8.out 2).trans rfl
            have fq0 : w8.frozen? ⟨gr, 0, none⟩ = false := blk_frozen BR8.out 0; have fq1 : w8.frozen? ⟨gr, 1, none⟩ = false := blk_frozen BR8.out 1; have fq2 : w8.frozen? ⟨gr, 2, none⟩ = false := blk_frozen BR8.out 2
            have hj0 : w8.drew.cell? ⟨gr, 0, none⟩ = some (.int .i64 0) := (blk_cell (blk_drew BR8.out) 0).trans rfl; have hj1 : w8.drew.cell? ⟨gr, 1, none⟩ = some (.int .i64 0) := (blk_cell (blk_drew BR8.out) 1).trans rfl; have hj2 : w8.drew.cell? ⟨gr, 2, none⟩ = some (.int .i64 0) := (blk_cell (blk_drew BR8.out) 2).trans rfl
            have fj0 : w8.drew.frozen? ⟨gr, 0, none⟩ = false := blk_frozen (blk_drew BR8.out) 0; have fj1 : w8.drew.frozen? ⟨gr, 1, none⟩ = false := blk_frozen (blk_drew BR8.out) 1; have fj2 : w8.drew.frozen? ⟨gr, 2, none⟩ = false := blk_frozen (blk_drew BR8.out) 2
            go_region
            all_goals (try go_wp2)
            all_goals (refine bodyPost_ret (results_tc rfl _ _ gr 29 #[.int .i64 y2, .int .i64 y3, .int .i64 y4] (0, 0) _ rfl (by (with_reducible repeat (first | refine blk_drewN ?_ _ | refine blk_drew ?_ | refine blk_alloc ?_ _)); refine blk_put (cs := #[.int .i64 y2, .int .i64 y3, .int .i64 0]) ?_ 2 _ rfl; (with_reducible repeat (first | refine blk_drewN ?_ _ | refine blk_drew ?_ | refine blk_alloc ?_ _)); refine blk_put (cs := #[.int .i64 y2, .int .i64 0, .int .i64 0]) ?_ 1 _ rfl; (with_reducible repeat (first | refine blk_drewN ?_ _ | refine blk_drew ?_ | refine blk_alloc ?_ _)); refine blk_put (cs := #[.int .i64 0, .int .i64 0, .int .i64 0]) ?_ 0 _ rfl; (with_reducible repeat (first | refine blk_drewN ?_ _ | refine blk_drew ?_ | refine blk_alloc ?_ _)); first | exact BR.out | exact BR8.out) Try.underlying29 rfl faultInfo) rfl ?_)
            all_goals (refine ⟨rfl, ?_⟩)
            all_goals (repeat (first | (with_reducible first | exact HB8.out | apply below_alloc | apply pw_below_drewN | apply below_drew1 | refine below_set ?_ GR.out) | exact HB.out | exact HB8.out))
    · rw [if_neg hl] at h
      exact absurd h (by simp)
theorem recoupref12_Value.calls (k : Nat) (a0_0 a0_1 : Int) (a0_2 : ByteArray) (A0_3 : Option Addr) (c0_3 : Nat) (l0_3 : List S25) (a0_4 a0_5 : Int) (A1 : Option Addr) (c1 : Nat) (l1 : List S54) (r1 r2 r3 r4 : Int) (w : World) (hr0_3 : Kd.C k25 w A0_3 l0_3.length l0_3) (hc0_3 : l0_3.length ≤ c0_3) (hr1 : Kd.C k54 w A1 l1.length l1) (hc1 : l1.length ≤ c1) (h : recoupref12_Value.f k a0_0 a0_1 a0_2 l0_3 a0_4 a0_5 l1 = some (r1, r2, r3, r4)) :
    Calls Try.prog 25 #[.agg #[.int .u8 a0_0, .int .i64 a0_1, .string a0_2, .slice A0_3 l0_3.length c0_3, .int .i64 a0_4, .int .i64 a0_5], .slice A1 l1.length c1] w fun e w' => e = .returned (.tuple #[.int .i64 r1, .agg #[.int .i64 r2, .int .i64 r3, .int .i64 r4]]) ∧ Below w.heap.size w w' := by
  unfold recoupref12_Value.f at h
  split at h
  · rename_i hl
    exact Value_walk k a0_0 a0_1 a0_2 A0_3 c0_3 l0_3 a0_4 a0_5 A1 c1 l1 r1 r2 r3 r4 w hr0_3 hr1 ⟨hl, h⟩
  · exact absurd h (by simp)

end Go.Proofs.Ytnojokempdcikaa.PA
