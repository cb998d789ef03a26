/- Printed by a program of this repo over the kit's printer: functions of the given program as plain Lean functions, each with the proof that the call does what it says. -/
import Derived.Test.YtnojokempdcikaaPAM0
import Derived.Test.YtnojokempdcikaaPAM1
import Derived.Deep.RegionWith
import Derived.Laws.CopyOwn
import Derived.Deep.RegionLaw
import Derived.Deep.QuietTactic
import Derived.BigQuiet
import Derived.OwnWalk
import Derived.Deep.MidRow
import Derived.IntWalk
import Derived.Deep.AppendLies
import Derived.Maps.AppendAt
namespace Go.Proofs.Ytnojokempdcikaa.PA
open Go.RowKit Go.Proofs.YtnojokempdcikaaW.PrintWords Go.Proofs.YtnojokempdcikaaW.PrintLast Go.Proofs.YtnojokempdcikaaW.PrintMore
attribute [local go_sem] max2_int min2_int max_two min_two max_three min_three max_four min_four   -- for this text's walks alone
set_option linter.unusedVariables false
set_option linter.unusedSimpArgs false

/-! ### recoupref12_Value: function 25 -/
--OWNPART Derived.Deep.RegionWith
open Go.RowKit
def xvalue (env : List S54) : Nat → S25 → Option (Int × Int × Int × Int)
  | 0, _ => none
  | n + 1, x => if x.f3.length ≤ 2 then (xparts (xvalue env n) x.f3 0 0 0).bind fun r => if r.2.1 = 0 then
      (if x.f0 = 1 then some (x.f1, 0, 0, 0) else if x.f0 = 2 then (if (envGet env x.f2).isSome = true then some ((envGet env x.f2).getD 0, 0, 0, 0) else some (0, 121, x.f4, x.f5))
        else (recoupref12_Work.f 2 x.f0 r.1.1 r.1.2).bind fun q => if q.2 = 0 then some (q.1, 0, 0, 0) else some (0, q.2, x.f4, x.f5))
      else some (0, r.2)
    else none
def recoupref12_Value.f (k : Nat) (a0_0 a0_1 : Int) (a0_2 : ByteArray) (l0_3 : List S25) (a0_4 a0_5 : Int) (l1 : List S54) : Option (Int × Int × Int × Int) :=
  if l1.length ≤ 4611686018427387903 then xvalue l1 k ⟨a0_0, a0_1, a0_2, l0_3, a0_4, a0_5⟩ else none
theorem xparts_mono {f g : S25 → Option (Int × Int × Int × Int)} (h : ∀ x, LeO (f x) (g x)) : ∀ (l : List S25) (i : Nat) (a b : Int), LeO (xparts f l i a b) (xparts g l i a b)
  | [], _, _, _ => LeO.refl _
  | p :: ps, i, a, b => by
    simp only [xparts]
    refine LeO.bind (h p) (fun r => ?_)
    exact LeO.ite (xparts_mono h ps _ _ _) (LeO.refl _)
theorem xvalue_mono (env : List S54) : ∀ (n : Nat) (x : S25), LeO (xvalue env n x) (xvalue env (n + 1) x)
  | 0, x => LeO.none _
  | n + 1, x => by
    unfold xvalue
    exact LeO.ite (LeO.bind (xparts_mono (xvalue_mono env n) _ _ _ _) (fun r => LeO.refl _)) (LeO.none _)
theorem recoupref12_Value.mono : ∀ a0 a1 a2 a3 a4 a5 a6 k, LeO (recoupref12_Value.f k a0 a1 a2 a3 a4 a5 a6) (recoupref12_Value.f (k + 1) a0 a1 a2 a3 a4 a5 a6) := by
  intro a0 a1 a2 a3 a4 a5 a6 k
  unfold recoupref12_Value.f
  exact LeO.ite (xvalue_mono _ _ _) (LeO.none _)
theorem envGet_toList (s t : ByteArray) : (s.data.toList = t.data.toList) ↔ (s.toList = t.toList) := by rw [Go.ByteArray.toList_eq, Go.ByteArray.toList_eq]
set_option maxHeartbeats 8000000 in
set_option maxRecDepth 100000 in
theorem Value_walk : ∀ (n : Nat) (K N : Int) (S : ByteArray) (A : Option Addr) (C : Nat) (l : List S25) (I O : Int) (A1 : Option Addr) (c1 : Nat) (l1 : List S54) (r1 r2 r3 r4 : Int) (w : World), Kd.C k25 w A l.length l → Kd.C k54 w A1 l1.length l1 → (l1.length ≤ 4611686018427387903 ∧ xvalue l1 n ⟨K, N, S, l, I, O⟩ = some (r1, r2, r3, r4)) →
    Calls Try.prog 25 #[.agg #[.int .u8 K, .int .i64 N, .string S, .slice A l.length C, .int .i64 I, .int .i64 O], .slice A1 l1.length c1] w fun e w' =>
      e = .returned (.tuple #[.int .i64 r1, .agg #[.int .i64 r2, .int .i64 r3, .int .i64 r4]]) ∧ Below w.heap.size w w' := by
  intro n
  induction n with
  | zero =>
    intro K N S A C l I O A1 c1 l1 r1 r2 r3 r4 w hR hR1 h
    exact absurd h.2 (by simp [xvalue])
  | succ n ih =>
    intro K N S A C l I O A1 c1 l1 r1 r2 r3 r4 w hR hR1 h
    have HIH := Aside0.mk ih
    have HR := Aside0.mk hR
    have HR1 := Aside0.mk hR1
    have HL1 := Aside0.mk h.1
    replace h := h.2
    clear ih hR hR1
    simp only [xvalue] at h
    go_enter Try.func25, Try.ntmps25
    by_cases hl : l.length ≤ 2
    · rw [if_pos hl] at h
      obtain ⟨PR, hp, hq⟩ := Option.bind_eq_some_iff.1 h
      obtain ⟨⟨pa, pb⟩, pc, pl, po⟩ := PR
      have HL := Aside0.mk hl
      have HP := Aside0.mk (show xparts (xvalue l1 n) (l.drop 0) 0 0 0 = some ((pa, pb), (pc, pl, po)) from hp)
      have HQ := Aside0.mk hq
      clear h hp hq hl
      go_wp2_with (first | ((with_reducible refine gate_dst (N := 2) rfl ?_); refine box_event ?hg (N := 2) ?hd (cs := #[.int .u8 K, .int .i64 N, .string S, .slice A l.length C, .int .i64 I, .int .i64 O]) (t := 25) ?hr ?_; (case hd => rfl); (case hg => rfl); (case hr => first | (go_simp; done) | (go_simp; rfl)); intro gx hg w1 hbox hb; have BX := Aside0.mk hbox; have HB1 := Aside0.mk hb; clear hbox hb hg) | ((with_reducible refine gate_dst (N := 5) rfl ?_); refine box_event ?hg (N := 5) ?hd (cs := #[.int .i64 0, .int .i64 0, .int .i64 0]) (t := 29) ?hr ?_; (case hd => rfl); (case hg => rfl); (case hr => first | (go_simp; done) | (go_simp; rfl)); intro gr hg w2 hbox hb; have BR := Aside0.mk hbox; have HB2 := Aside0.mk (below_step HB1.out hb); have BX2 := Aside0.mk (blk_below BX.out hb); have GR := Aside0.mk (show w.heap.size ≤ gr from by rw [hg]; exact HB1.out.size); clear hbox hb hg) | ((with_reducible refine gate_dst (N := 6) rfl ?_); refine box_event ?hg (N := 6) ?hd (cs := #[.int .i64 0, .int .i64 0]) (t := 81) ?hr ?_; (case hd => rfl); (case hg => rfl); (case hr => first | (go_simp; done) | (go_simp; rfl)); intro ga hg w3 hbox hb; have BA := Aside0.mk hbox; have HB3 := Aside0.mk (below_step HB2.out hb); have BX3 := Aside0.mk (blk_below BX2.out hb); have BR3 := Aside0.mk (blk_below BR.out hb); have GA := Aside0.mk (show w.heap.size ≤ ga from by rw [hg]; exact HB2.out.size); have NAX := Aside0.mk (show gx ≠ ga from fun e => by have := blk_lt BX2.out; omega); have NAR := Aside0.mk (show gr ≠ ga from fun e => by have := blk_lt BR.out; omega); clear hbox hb hg))
      go_loopg [7] l.length (fun q v7 wx => ∃ (i : Nat) (a b : Int), i + q = l.length ∧ v7 = .int .i64 i ∧ Aside0 (xparts (xvalue l1 n) (l.drop i) i a b = some ((pa, pb), (pc, pl, po))) ∧ Aside0 (wx.heap[ga]? = some (.cells #[.int .i64 a, .int .i64 b] 81 (0, 0))) ∧ Aside0 (wx.heap[gx]? = some (.cells #[.int .u8 K, .int .i64 N, .string S, .slice A l.length C, .int .i64 I, .int .i64 O] 25 (0, 0))) ∧ Aside0 (wx.heap[gr]? = some (.cells #[.int .i64 0, .int .i64 0, .int .i64 0] 29 (0, 0))) ∧ Aside0 (Below w.heap.size w wx))
      case atStart => exact ⟨0, 0, 0, by omega, rfl, HP, BA, BX3, BR3, HB3⟩
      case round =>
        clear HP BA BX BX2 BX3 BR BR3 HB1 HB2 HB3
        obtain ⟨i, a, b, hi, rfl, HP, BA, BX, BR, HB⟩ := hrel
        have hz0 : wr.cell? ⟨gx, 0, none⟩ = some (.int .u8 K) := (blk_cell BX.out 0).trans rfl; have hz1 : wr.cell? ⟨gx, 1, none⟩ = some (.int .i64 N) := (blk_cell BX.out 1).trans rfl; have hz2 : wr.cell? ⟨gx, 2, none⟩ = some (.string S) := (blk_cell BX.out 2).trans rfl; have hz3 : wr.cell? ⟨gx, 3, none⟩ = some (.slice A l.length C) := (blk_cell BX.out 3).trans rfl; have hz4 : wr.cell? ⟨gx, 4, none⟩ = some (.int .i64 I) := (blk_cell BX.out 4).trans rfl; have hz5 : wr.cell? ⟨gx, 5, none⟩ = some (.int .i64 O) := (blk_cell BX.out 5).trans rfl
        cases gk with
        | zero =>
          obtain rfl : i = l.length := by omega
          have hP := HP.out
          rw [List.drop_length] at hP
          simp only [xparts, Option.some.injEq, Prod.mk.injEq] at hP
          obtain ⟨⟨rfl, rfl⟩, rfl, rfl, rfl⟩ := hP
          have hq := HQ.out
          try dsimp only at hq
          rw [if_pos rfl] at hq
          clear HQ HP
          have ha0 : wr.cell? ⟨ga, 0, none⟩ = some (.int .i64 a) := (blk_cell BA.out 0).trans rfl; have ha1 : wr.cell? ⟨ga, 1, none⟩ = some (.int .i64 b) := (blk_cell BA.out 1).trans rfl
          by_cases k1 : K = 1
          · rw [if_pos k1] at hq
            have k1b : (K == 1) = true := beq_iff_eq.mpr k1
            have HE := Aside0.mk (Option.some.inj hq)
            clear k1 hq
            go_wp2_with (first | (refine xstore_row rfl 29 _ _ rfl gr #[.int .i64 0, .int .i64 0, .int .i64 0] rfl rfl 29 _ BR.out faultInfo rfl (xone3 _ _ _) ?_; intro w6 hbk hgr hbl; have HB6 := Aside0.mk (hbl _ _ HB.out GR.out); have BR6 := Aside0.mk hbk; clear hbk hgr hbl))
            have hE := HE.out
            simp only [Prod.mk.injEq] at hE
            obtain ⟨rfl, rfl, rfl, rfl⟩ := hE
            refine bodyPost_ret (results_tc rfl _ _ gr 29 #[.int .i64 0, .int .i64 0, .int .i64 0] (0, 0) _ rfl BR6.out Try.underlying29 rfl faultInfo) rfl ?_
            exact ⟨rfl, HB6.out⟩
          · rw [if_neg k1] at hq
            have k1b : (K == 1) = false := beq_eq_false_iff_ne.2 k1
            clear k1
            by_cases k2 : K = 2
            · rw [if_pos k2] at hq
              have k2b : (K == 2) = true := beq_iff_eq.mpr k2
              obtain ⟨G, hG⟩ : ∃ G, envGet l1 S = G := ⟨_, rfl⟩
              rw [hG] at hq
              have HG := Aside0.mk (show envGet (l1.drop 0) S = G from hG)
              have HQ := Aside0.mk hq
              clear k2 hq hG
              go_wp2
              go_loopg [12] l1.length (fun q v12 wx => ∃ j : Nat, j + q = l1.length ∧ v12 = .int .i64 j ∧ Aside0 (envGet (l1.drop j) S = G) ∧ Drawn0 wr wx)
              case atStart => exact ⟨0, by omega, rfl, HG, Drawn0.refl _⟩
              case round =>
                clear HG
                obtain ⟨j, hj, rfl, HG, ⟨n1, rfl⟩⟩ := hrel
                cases gk with
                | zero =>
                  obtain rfl : j = l1.length := by omega
                  have hG := HG.out
                  rw [List.drop_length] at hG
                  simp only [envGet] at hG
                  subst hG
                  have hq := HQ.out
                  rw [if_neg (by simp)] at hq
                  have HE := Aside0.mk (Option.some.inj hq)
                  clear hq
                  go_upto_region 22 with (fail)
                  have hE := HE.out
                  simp only [Prod.mk.injEq] at hE
                  obtain ⟨rfl, rfl, rfl, rfl⟩ := hE
                  have hu0 : (wr.drewN n1).cell? ⟨gx, 0, none⟩ = some (.int .u8 K) := (blk_cell (blk_drewN BX.out n1) 0).trans rfl; have hu1 : (wr.drewN n1).cell? ⟨gx, 1, none⟩ = some (.int .i64 N) := (blk_cell (blk_drewN BX.out n1) 1).trans rfl; have hu2 : (wr.drewN n1).cell? ⟨gx, 2, none⟩ = some (.string S) := (blk_cell (blk_drewN BX.out n1) 2).trans rfl; have hu3 : (wr.drewN n1).cell? ⟨gx, 3, none⟩ = some (.slice A l.length C) := (blk_cell (blk_drewN BX.out n1) 3).trans rfl; have hu4 : (wr.drewN n1).cell? ⟨gx, 4, none⟩ = some (.int .i64 I) := (blk_cell (blk_drewN BX.out n1) 4).trans rfl; have hu5 : (wr.drewN n1).cell? ⟨gx, 5, none⟩ = some (.int .i64 O) := (blk_cell (blk_drewN BX.out n1) 5).trans rfl
                  have hs0 : wr.cell? ⟨gr, 0, none⟩ = some (.int .i64 0) := (blk_cell BR.out 0).trans rfl; have hs1 : wr.cell? ⟨gr, 1, none⟩ = some (.int .i64 0) := (blk_cell BR.out 1).trans rfl; have hs2 : wr.cell? ⟨gr, 2, none⟩ = some (.int .i64 0) := (blk_cell BR.out 2).trans rfl
                  have fs0 : wr.frozen? ⟨gr, 0, none⟩ = false := blk_frozen BR.out 0; have fs1 : wr.frozen? ⟨gr, 1, none⟩ = false := blk_frozen BR.out 1; have fs2 : wr.frozen? ⟨gr, 2, none⟩ = false := blk_frozen BR.out 2
                  have hq0 : (wr.drewN n1).cell? ⟨gr, 0, none⟩ = some (.int .i64 0) := (blk_cell (blk_drewN BR.out n1) 0).trans rfl; have hq1 : (wr.drewN n1).cell? ⟨gr, 1, none⟩ = some (.int .i64 0) := (blk_cell (blk_drewN BR.out n1) 1).trans rfl; have hq2 : (wr.drewN n1).cell? ⟨gr, 2, none⟩ = some (.int .i64 0) := (blk_cell (blk_drewN BR.out n1) 2).trans rfl
                  have fq0 : (wr.drewN n1).frozen? ⟨gr, 0, none⟩ = false := blk_frozen (blk_drewN BR.out n1) 0; have fq1 : (wr.drewN n1).frozen? ⟨gr, 1, none⟩ = false := blk_frozen (blk_drewN BR.out n1) 1; have fq2 : (wr.drewN n1).frozen? ⟨gr, 2, none⟩ = false := blk_frozen (blk_drewN BR.out n1) 2
                  have hj0 : (wr.drewN n1).drew.cell? ⟨gr, 0, none⟩ = some (.int .i64 0) := (blk_cell (blk_drew (blk_drewN BR.out n1)) 0).trans rfl; have hj1 : (wr.drewN n1).drew.cell? ⟨gr, 1, none⟩ = some (.int .i64 0) := (blk_cell (blk_drew (blk_drewN BR.out n1)) 1).trans rfl; have hj2 : (wr.drewN n1).drew.cell? ⟨gr, 2, none⟩ = some (.int .i64 0) := (blk_cell (blk_drew (blk_drewN BR.out n1)) 2).trans rfl
                  have fj0 : (wr.drewN n1).drew.frozen? ⟨gr, 0, none⟩ = false := blk_frozen (blk_drew (blk_drewN BR.out n1)) 0; have fj1 : (wr.drewN n1).drew.frozen? ⟨gr, 1, none⟩ = false := blk_frozen (blk_drew (blk_drewN BR.out n1)) 1; have fj2 : (wr.drewN n1).drew.frozen? ⟨gr, 2, none⟩ = false := blk_frozen (blk_drew (blk_drewN BR.out n1)) 2
                  go_region
                  all_goals (try go_wp2)
                  all_goals (refine bodyPost_ret (results_tc rfl _ _ gr 29 #[.int .i64 121, .int .i64 I, .int .i64 O] (0, 0) _ rfl (by (with_reducible repeat (first | refine blk_drewN ?_ _ | refine blk_drew ?_ | refine blk_alloc ?_ _)); refine blk_put (cs := #[.int .i64 121, .int .i64 I, .int .i64 0]) ?_ 2 _ rfl; (with_reducible repeat (first | refine blk_drewN ?_ _ | refine blk_drew ?_ | refine blk_alloc ?_ _)); refine blk_put (cs := #[.int .i64 121, .int .i64 0, .int .i64 0]) ?_ 1 _ rfl; (with_reducible repeat (first | refine blk_drewN ?_ _ | refine blk_drew ?_ | refine blk_alloc ?_ _)); refine blk_put (cs := #[.int .i64 0, .int .i64 0, .int .i64 0]) ?_ 0 _ rfl; (with_reducible repeat (first | refine blk_drewN ?_ _ | refine blk_drew ?_ | refine blk_alloc ?_ _)); first | exact BR.out | exact (blk_drewN BR.out n1)) Try.underlying29 rfl faultInfo) rfl ?_)
                  all_goals (refine ⟨rfl, ?_⟩)
                  all_goals (repeat (first | (with_reducible first | exact (pw_below_drewN HB.out n1) | apply below_alloc | apply pw_below_drewN | apply below_drew1 | refine below_set ?_ GR.out) | exact HB.out | exact (pw_below_drewN HB.out n1)))
                | succ q =>
                  have hjk : j < l1.length := by omega
                  have hlt : decide ((j : Int) < (l1.length : Int)) = true := decide_eq_true (by omega)
                  have hG := HG.out
                  clear HG
                  rw [rd_drop54 l1 j hjk] at hG
                  obtain ⟨ad, e0, hx0, hx1⟩ := at_T54 HR1.out (j : Int) (by omega) (by omega)
                  generalize rd_T54 l1 (j : Int) = y at hG hx0 hx1
                  obtain ⟨cs, cn⟩ := y
                  dsimp only at hG hx0 hx1
                  subst e0
                  rw [Int.toNat_natCast] at hx0 hx1
                  replace hx0 := (HB.out.cell (World.block_lt_of_cell? w _ hx0)).trans hx0
                  replace hx1 := (HB.out.cell (World.block_lt_of_cell? w _ hx1)).trans hx1
                  simp only [envGet] at hG
                  by_cases hs : S.data.toList = cs.data.toList
                  · rw [if_pos hs] at hG
                    have hsb : (cs.toList == S.toList) = true := beq_iff_eq.mpr ((envGet_toList _ _).1 hs).symm
                    clear hs
                    subst hG
                    have hq := HQ.out
                    rw [if_pos (show (some cn).isSome = true from rfl)] at hq
                    have HE := Aside0.mk (Option.some.inj hq)
                    clear hq
                    go_wp2
                    go_quiet (fail)
                    go_wp2_with (first | (refine xstore_row rfl 29 _ _ rfl gr #[.int .i64 0, .int .i64 0, .int .i64 0] rfl rfl 29 _ (blk_drewN BR.out _) faultInfo rfl (xone3 _ _ _) ?_; intro w6 hbk hgr hbl; have HB6 := Aside0.mk (hbl _ _ (pw_below_drewN HB.out _) GR.out); have BR6 := Aside0.mk hbk; clear hbk hgr hbl))
                    have hE := HE.out
                    simp only [Prod.mk.injEq] at hE
                    obtain ⟨rfl, rfl, rfl, rfl⟩ := hE
                    refine bodyPost_ret (results_tc rfl _ _ gr 29 #[.int .i64 0, .int .i64 0, .int .i64 0] (0, 0) _ rfl BR6.out Try.underlying29 rfl faultInfo) rfl ?_
                    exact ⟨rfl, HB6.out⟩
                  · rw [if_neg hs] at hG
                    have hsb : (cs.toList == S.toList) = false := beq_eq_false_iff_ne.2 (fun h => hs ((envGet_toList _ _).2 h.symm))
                    have HG := Aside0.mk hG
                    clear hs hG
                    have HJ := Aside0.mk (show j + 1 ≤ 4611686018427387903 by have := HL1.out; omega)
                    go_wp2
                    go_quiet (fail)
                    go_wp2
                    go_roundg q
                    case measure => omega
                    case rel => exact ⟨j + 1, by omega, (by have h2 := HJ.out; first | rfl | (rw [xw64 (by omega) (by omega)]; simp) | simp), HG, ⟨_, rfl⟩⟩
            · rw [if_neg k2] at hq
              have k2b : (K == 2) = false := beq_eq_false_iff_ne.2 k2
              clear k2
              obtain ⟨⟨q1, q2⟩, hw, hq⟩ := Option.bind_eq_some_iff.1 hq
              try dsimp only at hq
              have HW := Aside0.mk hw
              clear hw
              by_cases c2 : q2 = 0
              · rw [if_pos c2] at hq
                have HE := Aside0.mk (Option.some.inj hq)
                have c2b : (q2 != 0) = false := bne_eq_false_iff_eq.mpr c2
                clear hq c2
                go_wp2_with (first | (go_at_call 41; refine (recoupref12_Work.calls 2 K a b q1 q2 _ HW.out).mono ?_; rintro e w4 ⟨rfl, ⟨nd, rfl⟩⟩) | (refine xstore_row rfl 29 _ _ rfl gr #[.int .i64 0, .int .i64 0, .int .i64 0] rfl rfl 29 _ (blk_drewN BR.out nd) faultInfo rfl (xone3 _ _ _) ?_; intro w6 hbk hgr hbl; have HB6 := Aside0.mk (hbl _ _ (pw_below_drewN HB.out nd) GR.out); have BR6 := Aside0.mk hbk; clear hbk hgr hbl))
                have hE := HE.out
                simp only [Prod.mk.injEq] at hE
                obtain ⟨rfl, rfl, rfl, rfl⟩ := hE
                refine bodyPost_ret (results_tc rfl _ _ gr 29 #[.int .i64 0, .int .i64 0, .int .i64 0] (0, 0) _ rfl BR6.out Try.underlying29 rfl faultInfo) rfl ?_
                exact ⟨rfl, HB6.out⟩
              · rw [if_neg c2] at hq
                have HE := Aside0.mk (Option.some.inj hq)
                have c2b : (q2 != 0) = true := bne_iff_ne.mpr c2
                clear hq c2
                go_upto_region 22 with (first | (go_at_call 41; refine (recoupref12_Work.calls 2 K a b q1 q2 _ HW.out).mono ?_; rintro e w4 ⟨rfl, ⟨nd, rfl⟩⟩))
                have hE := HE.out
                simp only [Prod.mk.injEq] at hE
                obtain ⟨rfl, rfl, rfl, rfl⟩ := hE
                have hu0 : (wr.drewN nd).cell? ⟨gx, 0, none⟩ = some (.int .u8 K) := (blk_cell (blk_drewN BX.out nd) 0).trans rfl; have hu1 : (wr.drewN nd).cell? ⟨gx, 1, none⟩ = some (.int .i64 N) := (blk_cell (blk_drewN BX.out nd) 1).trans rfl; have hu2 : (wr.drewN nd).cell? ⟨gx, 2, none⟩ = some (.string S) := (blk_cell (blk_drewN BX.out nd) 2).trans rfl; have hu3 : (wr.drewN nd).cell? ⟨gx, 3, none⟩ = some (.slice A l.length C) := (blk_cell (blk_drewN BX.out nd) 3).trans rfl; have hu4 : (wr.drewN nd).cell? ⟨gx, 4, none⟩ = some (.int .i64 I) := (blk_cell (blk_drewN BX.out nd) 4).trans rfl; have hu5 : (wr.drewN nd).cell? ⟨gx, 5, none⟩ = some (.int .i64 O) := (blk_cell (blk_drewN BX.out nd) 5).trans rfl
                have hs0 : wr.cell? ⟨gr, 0, none⟩ = some (.int .i64 0) := (blk_cell BR.out 0).trans rfl; have hs1 : wr.cell? ⟨gr, 1, none⟩ = some (.int .i64 0) := (blk_cell BR.out 1).trans rfl; have hs2 : wr.cell? ⟨gr, 2, none⟩ = some (.int .i64 0) := (blk_cell BR.out 2).trans rfl
                have fs0 : wr.frozen? ⟨gr, 0, none⟩ = false := blk_frozen BR.out 0; have fs1 : wr.frozen? ⟨gr, 1, none⟩ = false := blk_frozen BR.out 1; have fs2 : wr.frozen? ⟨gr, 2, none⟩ = false := blk_frozen BR.out 2
                have hq0 : (wr.drewN nd).cell? ⟨gr, 0, none⟩ = some (.int .i64 0) := (blk_cell (blk_drewN BR.out nd) 0).trans rfl; have hq1 : (wr.drewN nd).cell? ⟨gr, 1, none⟩ = some (.int .i64 0) := (blk_cell (blk_drewN BR.out nd) 1).trans rfl; have hq2 : (wr.drewN nd).cell? ⟨gr, 2, none⟩ = some (.int .i64 0) := (blk_cell (blk_drewN BR.out nd) 2).trans rfl
                have fq0 : (wr.drewN nd).frozen? ⟨gr, 0, none⟩ = false := blk_frozen (blk_drewN BR.out nd) 0; have fq1 : (wr.drewN nd).frozen? ⟨gr, 1, none⟩ = false := blk_frozen (blk_drewN BR.out nd) 1; have fq2 : (wr.drewN nd).frozen? ⟨gr, 2, none⟩ = false := blk_frozen (blk_drewN BR.out nd) 2
                have hj0 : (wr.drewN nd).drew.cell? ⟨gr, 0, none⟩ = some (.int .i64 0) := (blk_cell (blk_drew (blk_drewN BR.out nd)) 0).trans rfl; have hj1 : (wr.drewN nd).drew.cell? ⟨gr, 1, none⟩ = some (.int .i64 0) := (blk_cell (blk_drew (blk_drewN BR.out nd)) 1).trans rfl; have hj2 : (wr.drewN nd).drew.cell? ⟨gr, 2, none⟩ = some (.int .i64 0) := (blk_cell (blk_drew (blk_drewN BR.out nd)) 2).trans rfl
                have fj0 : (wr.drewN nd).drew.frozen? ⟨gr, 0, none⟩ = false := blk_frozen (blk_drew (blk_drewN BR.out nd)) 0; have fj1 : (wr.drewN nd).drew.frozen? ⟨gr, 1, none⟩ = false := blk_frozen (blk_drew (blk_drewN BR.out nd)) 1; have fj2 : (wr.drewN nd).drew.frozen? ⟨gr, 2, none⟩ = false := blk_frozen (blk_drew (blk_drewN BR.out nd)) 2
                go_region
                all_goals (try go_wp2)
                all_goals (refine bodyPost_ret (results_tc rfl _ _ gr 29 #[.int .i64 q2, .int .i64 I, .int .i64 O] (0, 0) _ rfl (by (with_reducible repeat (first | refine blk_drewN ?_ _ | refine blk_drew ?_ | refine blk_alloc ?_ _)); refine blk_put (cs := #[.int .i64 q2, .int .i64 I, .int .i64 0]) ?_ 2 _ rfl; (with_reducible repeat (first | refine blk_drewN ?_ _ | refine blk_drew ?_ | refine blk_alloc ?_ _)); refine blk_put (cs := #[.int .i64 q2, .int .i64 0, .int .i64 0]) ?_ 1 _ rfl; (with_reducible repeat (first | refine blk_drewN ?_ _ | refine blk_drew ?_ | refine blk_alloc ?_ _)); refine blk_put (cs := #[.int .i64 0, .int .i64 0, .int .i64 0]) ?_ 0 _ rfl; (with_reducible repeat (first | refine blk_drewN ?_ _ | refine blk_drew ?_ | refine blk_alloc ?_ _)); first | exact BR.out | exact (blk_drewN BR.out nd)) Try.underlying29 rfl faultInfo) rfl ?_)
                all_goals (refine ⟨rfl, ?_⟩)
                all_goals (repeat (first | (with_reducible first | exact (pw_below_drewN HB.out nd) | apply below_alloc | apply pw_below_drewN | apply below_drew1 | refine below_set ?_ GR.out) | exact HB.out | exact (pw_below_drewN HB.out nd)))
        | succ q =>
          have hik : i < l.length := by omega
          have hlt : decide ((i : Int) < (l.length : Int)) = true := decide_eq_true (by omega)
          have hP := HP.out
          clear HP
          rw [rd_drop25 l i hik] at hP
          obtain ⟨ad, A3, c3, e0, hx0, hx1, hx2, hx3, hx4, hx5, hlc, hRC⟩ := at_T25 HR.out (i : Int) (by omega) (by omega)
          subst e0
          rw [Int.toNat_natCast] at hx0 hx1 hx2 hx3 hx4 hx5
          generalize rd_T25 l (i : Int) = y at hP hx0 hx1 hx2 hx3 hx4 hx5 hlc hRC
          obtain ⟨K2, N2, S2, l2, I2, O2⟩ := y
          dsimp only at hP hx0 hx1 hx2 hx3 hx4 hx5 hlc hRC
          replace hx0 := (HB.out.cell (World.block_lt_of_cell? w _ hx0)).trans hx0
          replace hx1 := (HB.out.cell (World.block_lt_of_cell? w _ hx1)).trans hx1
          replace hx2 := (HB.out.cell (World.block_lt_of_cell? w _ hx2)).trans hx2
          replace hx3 := (HB.out.cell (World.block_lt_of_cell? w _ hx3)).trans hx3
          replace hx4 := (HB.out.cell (World.block_lt_of_cell? w _ hx4)).trans hx4
          replace hx5 := (HB.out.cell (World.block_lt_of_cell? w _ hx5)).trans hx5
          have HRC := Aside0.mk hRC
          have HII := Aside0.mk (show i ≤ 1 by have := HL.out; omega)
          simp only [xparts] at hP
          clear hRC hlc
          obtain ⟨⟨y1, y2, y3, y4⟩, hy, hP⟩ := Option.bind_eq_some_iff.1 hP
          have HY := Aside0.mk (show l1.length ≤ 4611686018427387903 ∧ _ from ⟨HL1.out, hy⟩)
          clear hy
          dsimp only at hP
          by_cases c2 : y2 = 0
          · rw [if_pos c2] at hP
            have HP := Aside0.mk hP
            have c2b : (y2 != 0) = false := bne_eq_false_iff_eq.mpr c2
            have i2c : (i : Int) < 2 := by have := HII.out; omega
            clear hP c2
            go_wp2_with (first | (go_at_call 25; refine (HIH.out K2 N2 S2 A3 c3 l2 I2 O2 A1 c1 l1 y1 y2 y3 y4 _ (Kd.C_below HRC.out HB.out) (Kd.C_below HR1.out HB.out) HY.out).mono ?_; rintro e w5 ⟨rfl, hb⟩; have BA5 := Aside0.mk (blk_below BA.out hb); have BX5 := Aside0.mk (blk_below BX.out hb); have BR5 := Aside0.mk (blk_below BR.out hb); have HB5 := Aside0.mk (below_step HB.out hb); clear hb) | ((with_reducible refine gate_dst (N := 9) rfl ?_); refine box_event ?hg (N := 9) ?hd (cs := #[.int .i64 0, .int .i64 0, .int .i64 0]) (t := 29) ?hr ?_; (case hd => rfl); (case hg => rfl); (case hr => first | (go_simp; done) | (go_simp; rfl)); intro gf hg w6 hbox hb; have BF := Aside0.mk hbox; have BA6 := Aside0.mk (blk_below BA5.out hb); have BX6 := Aside0.mk (blk_below BX5.out hb); have BR6 := Aside0.mk (blk_below BR5.out hb); have HB6 := Aside0.mk (below_step HB5.out hb); have GF := Aside0.mk (show w.heap.size ≤ gf from by rw [hg]; exact HB5.out.size); have NFA := Aside0.mk (show ga ≠ gf from fun e => by have := blk_lt BA5.out; omega); have NFX := Aside0.mk (show gx ≠ gf from fun e => by have := blk_lt BX5.out; omega); have NFR := Aside0.mk (show gr ≠ gf from fun e => by have := blk_lt BR5.out; omega); clear hbox hb hg) | (refine xstore_row rfl 29 _ _ rfl gf #[.int .i64 y2, .int .i64 y3, .int .i64 y4] rfl rfl 29 _ BF.out faultInfo rfl (xone3 _ _ _) ?_; intro w8 hbk hgr hbl; have BF8 := Aside0.mk hbk; have BA8 := Aside0.mk (blk_grown BA6.out hgr (by simp only [ne_eq, Option.some.injEq]; exact NFA.out)); have BX8 := Aside0.mk (blk_grown BX6.out hgr (by simp only [ne_eq, Option.some.injEq]; exact NFX.out)); have BR8 := Aside0.mk (blk_grown BR6.out hgr (by simp only [ne_eq, Option.some.injEq]; exact NFR.out)); have hf0 : w8.cell? ⟨gf, 0, none⟩ = some (.int .i64 y2) := (blk_cell hbk 0).trans rfl; have hf1 : w8.cell? ⟨gf, 1, none⟩ = some (.int .i64 y3) := (blk_cell hbk 1).trans rfl; have hf2 : w8.cell? ⟨gf, 2, none⟩ = some (.int .i64 y4) := (blk_cell hbk 2).trans rfl; have hai : w8.cell? ⟨ga, i, none⟩ = some (.int .i64 (if i = 0 then a else b)) := (blk_cell BA8.out i).trans (pair_at a b i HII.out); have hfi : w8.frozen? ⟨ga, i, none⟩ = false := blk_frozen BA8.out i; have HB8 := Aside0.mk (hbl _ _ HB6.out GF.out); clear hbk hgr hbl))
            go_roundg q
            case measure => omega
            case rel =>
              refine ⟨i + 1, _, _, by omega, ?_, HP, ⟨?_⟩, ⟨?_⟩, ⟨?_⟩, ⟨?_⟩⟩
              · have h2 := HII.out; first | rfl | (rw [xw64 (by omega) (by omega)]; simp)
              · exact blk_put BA8.out i (.int .i64 y1) (pair_put a b y1 i HII.out)
              · exact blk_far BX8.out NAX.out _
              · exact blk_far BR8.out NAR.out _
              · exact below_set HB8.out GA.out
          · rw [if_neg c2] at hP
            have HE := Aside0.mk hP
            have c2b : (y2 != 0) = true := bne_iff_ne.mpr c2
            have HN2 := Aside0.mk c2
            clear hP c2
            go_upto_region 7 with (first | (go_at_call 25; refine (HIH.out K2 N2 S2 A3 c3 l2 I2 O2 A1 c1 l1 y1 y2 y3 y4 _ (Kd.C_below HRC.out HB.out) (Kd.C_below HR1.out HB.out) HY.out).mono ?_; rintro e w5 ⟨rfl, hb⟩; have BA5 := Aside0.mk (blk_below BA.out hb); have BX5 := Aside0.mk (blk_below BX.out hb); have BR5 := Aside0.mk (blk_below BR.out hb); have HB5 := Aside0.mk (below_step HB.out hb); clear hb) | ((with_reducible refine gate_dst (N := 9) rfl ?_); refine box_event ?hg (N := 9) ?hd (cs := #[.int .i64 0, .int .i64 0, .int .i64 0]) (t := 29) ?hr ?_; (case hd => rfl); (case hg => rfl); (case hr => first | (go_simp; done) | (go_simp; rfl)); intro gf hg w6 hbox hb; have BF := Aside0.mk hbox; have BA6 := Aside0.mk (blk_below BA5.out hb); have BX6 := Aside0.mk (blk_below BX5.out hb); have BR6 := Aside0.mk (blk_below BR5.out hb); have HB6 := Aside0.mk (below_step HB5.out hb); have GF := Aside0.mk (show w.heap.size ≤ gf from by rw [hg]; exact HB5.out.size); have NFA := Aside0.mk (show ga ≠ gf from fun e => by have := blk_lt BA5.out; omega); have NFX := Aside0.mk (show gx ≠ gf from fun e => by have := blk_lt BX5.out; omega); have NFR := Aside0.mk (show gr ≠ gf from fun e => by have := blk_lt BR5.out; omega); clear hbox hb hg) | (refine xstore_row rfl 29 _ _ rfl gf #[.int .i64 y2, .int .i64 y3, .int .i64 y4] rfl rfl 29 _ BF.out faultInfo rfl (xone3 _ _ _) ?_; intro w8 hbk hgr hbl; have BF8 := Aside0.mk hbk; have BA8 := Aside0.mk (blk_grown BA6.out hgr (by simp only [ne_eq, Option.some.injEq]; exact NFA.out)); have BX8 := Aside0.mk (blk_grown BX6.out hgr (by simp only [ne_eq, Option.some.injEq]; exact NFX.out)); have BR8 := Aside0.mk (blk_grown BR6.out hgr (by simp only [ne_eq, Option.some.injEq]; exact NFR.out)); have hf0 : w8.cell? ⟨gf, 0, none⟩ = some (.int .i64 y2) := (blk_cell hbk 0).trans rfl; have hf1 : w8.cell? ⟨gf, 1, none⟩ = some (.int .i64 y3) := (blk_cell hbk 1).trans rfl; have hf2 : w8.cell? ⟨gf, 2, none⟩ = some (.int .i64 y4) := (blk_cell hbk 2).trans rfl; have hai : w8.cell? ⟨ga, i, none⟩ = some (.int .i64 (if i = 0 then a else b)) := (blk_cell BA8.out i).trans (pair_at a b i HII.out); have hfi : w8.frozen? ⟨ga, i, none⟩ = false := blk_frozen BA8.out i; have HB8 := Aside0.mk (hbl _ _ HB6.out GF.out); clear hbk hgr hbl))
            have hE := HE.out
            simp only [Option.some.injEq, Prod.mk.injEq] at hE
            obtain ⟨⟨rfl, rfl⟩, rfl, rfl, rfl⟩ := hE
            have hq := HQ.out
            try dsimp only at hq
            rw [if_neg HN2.out] at hq
            simp only [Option.some.injEq, Prod.mk.injEq] at hq
            obtain ⟨rfl, rfl, rfl, rfl⟩ := hq
            have hv0 : w8.drew.cell? ⟨gf, 0, none⟩ = some (.int .i64 y2) := (blk_cell (blk_drew BF8.out) 0).trans rfl; have hv1 : w8.drew.cell? ⟨gf, 1, none⟩ = some (.int .i64 y3) := (blk_cell (blk_drew BF8.out) 1).trans rfl; have hv2 : w8.drew.cell? ⟨gf, 2, none⟩ = some (.int .i64 y4) := (blk_cell (blk_drew BF8.out) 2).trans rfl
            have hq0 : w8.cell? ⟨gr, 0, none⟩ = some (.int .i64 0) := (blk_cell BR8.out 0).trans rfl; have hq1 : w8.cell? ⟨gr, 1, none⟩ = some (.int .i64 0) := (blk_cell BR8.out 1).trans rfl; have hq2 : w8.cell? ⟨gr, 2, none⟩ = some (.int .i64 0) := (blk_cell BR8.out 2).trans rfl
            have fq0 : w8.frozen? ⟨gr, 0, none⟩ = false := blk_frozen BR8.out 0; have fq1 : w8.frozen? ⟨gr, 1, none⟩ = false := blk_frozen BR8.out 1; have fq2 : w8.frozen? ⟨gr, 2, none⟩ = false := blk_frozen BR8.out 2
            have hj0 : w8.drew.cell? ⟨gr, 0, none⟩ = some (.int .i64 0) := (blk_cell (blk_drew BR8.out) 0).trans rfl; have hj1 : w8.drew.cell? ⟨gr, 1, none⟩ = some (.int .i64 0) := (blk_cell (blk_drew BR8.out) 1).trans rfl; have hj2 : w8.drew.cell? ⟨gr, 2, none⟩ = some (.int .i64 0) := (blk_cell (blk_drew BR8.out) 2).trans rfl
            have fj0 : w8.drew.frozen? ⟨gr, 0, none⟩ = false := blk_frozen (blk_drew BR8.out) 0; have fj1 : w8.drew.frozen? ⟨gr, 1, none⟩ = false := blk_frozen (blk_drew BR8.out) 1; have fj2 : w8.drew.frozen? ⟨gr, 2, none⟩ = false := blk_frozen (blk_drew BR8.out) 2
            go_region
            all_goals (try go_wp2)
            all_goals (refine bodyPost_ret (results_tc rfl _ _ gr 29 #[.int .i64 y2, .int .i64 y3, .int .i64 y4] (0, 0) _ rfl (by (with_reducible repeat (first | refine blk_drewN ?_ _ | refine blk_drew ?_ | refine blk_alloc ?_ _)); refine blk_put (cs := #[.int .i64 y2, .int .i64 y3, .int .i64 0]) ?_ 2 _ rfl; (with_reducible repeat (first | refine blk_drewN ?_ _ | refine blk_drew ?_ | refine blk_alloc ?_ _)); refine blk_put (cs := #[.int .i64 y2, .int .i64 0, .int .i64 0]) ?_ 1 _ rfl; (with_reducible repeat (first | refine blk_drewN ?_ _ | refine blk_drew ?_ | refine blk_alloc ?_ _)); refine blk_put (cs := #[.int .i64 0, .int .i64 0, .int .i64 0]) ?_ 0 _ rfl; (with_reducible repeat (first | refine blk_drewN ?_ _ | refine blk_drew ?_ | refine blk_alloc ?_ _)); first | exact BR.out | exact BR8.out) Try.underlying29 rfl faultInfo) rfl ?_)
            all_goals (refine ⟨rfl, ?_⟩)
            all_goals (repeat (first | (with_reducible first | exact HB8.out | apply below_alloc | apply pw_below_drewN | apply below_drew1 | refine below_set ?_ GR.out) | exact HB.out | exact HB8.out))
    · rw [if_neg hl] at h
      exact absurd h (by simp)
theorem recoupref12_Value.calls (k : Nat) (a0_0 a0_1 : Int) (a0_2 : ByteArray) (A0_3 : Option Addr) (c0_3 : Nat) (l0_3 : List S25) (a0_4 a0_5 : Int) (A1 : Option Addr) (c1 : Nat) (l1 : List S54) (r1 r2 r3 r4 : Int) (w : World) (hr0_3 : Kd.C k25 w A0_3 l0_3.length l0_3) (hc0_3 : l0_3.length ≤ c0_3) (hr1 : Kd.C k54 w A1 l1.length l1) (hc1 : l1.length ≤ c1) (h : recoupref12_Value.f k a0_0 a0_1 a0_2 l0_3 a0_4 a0_5 l1 = some (r1, r2, r3, r4)) :
    Calls Try.prog 25 #[.agg #[.int .u8 a0_0, .int .i64 a0_1, .string a0_2, .slice A0_3 l0_3.length c0_3, .int .i64 a0_4, .int .i64 a0_5], .slice A1 l1.length c1] w fun e w' => e = .returned (.tuple #[.int .i64 r1, .agg #[.int .i64 r2, .int .i64 r3, .int .i64 r4]]) ∧ Below w.heap.size w w' := by
  unfold recoupref12_Value.f at h
  split at h
  · rename_i hl
    exact Value_walk k a0_0 a0_1 a0_2 A0_3 c0_3 l0_3 a0_4 a0_5 A1 c1 l1 r1 r2 r3 r4 w hr0_3 hr1 ⟨hl, h⟩
  · exact absurd h (by simp)

end Go.Proofs.Ytnojokempdcikaa.PA

namespace Go.Proofs.Ytnojokempdcikaa.PA
open Go.RowKit Go.Proofs.YtnojokempdcikaaW.PrintWords Go.Proofs.YtnojokempdcikaaW.PrintLast Go.Proofs.YtnojokempdcikaaW.PrintMore
attribute [local go_sem] max2_int min2_int max_two min_two max_three min_three max_four min_four   -- for this text's walks alone
set_option linter.unusedVariables false
set_option linter.unusedSimpArgs false

theorem eqA29 (d : Nat) (w : World) (x0 y0 : Int) (x1 y1 : Int) (x2 y2 : Int) :
    (Op.equalIn (d + 2) 29 (.agg #[.int .i64 x0, .int .i64 x1, .int .i64 x2]) (.agg #[.int .i64 y0, .int .i64 y1, .int .i64 y2])).run Try.prog w = .ok (x0 == y0 && (x1 == y1 && (x2 == y2))) w := by
  refine eqA_of Try.underlying29 (by kernel_rfl) ?_
  refine eqf_cons (by rfl) (by go_simp; rfl) (by go_simp; rfl) (by go_simp) ?_
  refine eqf_cons (by rfl) (by go_simp; rfl) (by go_simp; rfl) (by go_simp) ?_
  exact eqf_last (by rfl) (by go_simp; rfl) (by go_simp; rfl) (by go_simp)
end Go.Proofs.Ytnojokempdcikaa.PA

namespace Go.Proofs.Ytnojokempdcikaa.PA
open Go.RowKit Go.Proofs.YtnojokempdcikaaW.PrintWords Go.Proofs.YtnojokempdcikaaW.PrintLast Go.Proofs.YtnojokempdcikaaW.PrintMore
attribute [local go_sem] max2_int min2_int max_two min_two max_three min_three max_four min_four   -- for this text's walks alone
set_option linter.unusedVariables false
set_option linter.unusedSimpArgs false

attribute [local go_sem high] eqA29
/-! ### recouplaw12_anchored: function 17 -/
def recouplaw12_anchored.f  : Option (Bool) := (number_Work.f 7 (-7) 2).bind fun bt164 => ((number_Eval.f 2 0 (⟨#[97]⟩ : ByteArray) ([] : List (S25)) 0 0 (([(⟨(⟨#[97]⟩ : ByteArray), 9⟩ : S54)] : List (S54)))).bind fun bt169 => (if bt164.2 = 0 then (if bt164.1 = (-3) then (if (bt169.2.1 == 0 && (bt169.2.2.1 == 0 && (bt169.2.2.2 == 0))) = true then (some (bt169.1 == 9)) else (some false)) else (some false)) else (some false)))
set_option maxHeartbeats 8000000 in
set_option maxRecDepth 100000 in
theorem recouplaw12_anchored.calls  (r : Bool) (w : World) (h : recouplaw12_anchored.f  = some r) :
    Calls Try.prog 17 #[] w fun e w' => e = .returned (.bool r) ∧ Below w.heap.size w w' := by
  have hu25 := Try.underlying25
  have hu54 := Try.underlying54
  have hu29 := Try.underlying29
  have HB := Aside0.mk (Below.refl w.heap.size w)
  have H : ((number_Work.f 7 (-7) 2).bind fun bt164 => ((number_Eval.f 2 0 (⟨#[97]⟩ : ByteArray) ([] : List (S25)) 0 0 (([(⟨(⟨#[97]⟩ : ByteArray), 9⟩ : S54)] : List (S54)))).bind fun bt169 => (if bt164.2 = 0 then (if bt164.1 = (-3) then (if (bt169.2.1 == 0 && (bt169.2.2.1 == 0 && (bt169.2.2.2 == 0))) = true then (some (bt169.1 == 9)) else (some false)) else (some false)) else (some false)))) = some r := h
  clear h
  replace H := Option.bind_eq_some_iff.mp H
  obtain ⟨⟨t164, t165⟩, A10, H⟩ := H
  replace H : ((number_Eval.f 2 0 (⟨#[97]⟩ : ByteArray) ([] : List (S25)) 0 0 (([(⟨(⟨#[97]⟩ : ByteArray), 9⟩ : S54)] : List (S54)))).bind fun bt169 => (if t165 = 0 then (if t164 = (-3) then (if (bt169.2.1 == 0 && (bt169.2.2.1 == 0 && (bt169.2.2.2 == 0))) = true then (some (bt169.1 == 9)) else (some false)) else (some false)) else (some false))) = some r := H
  have A1 := Aside0.mk A10
  clear A10
  obtain ⟨y166, hy166⟩ : ∃ y_ : List (S54), y_ = (([(⟨(⟨#[97]⟩ : ByteArray), 9⟩ : S54)] : List (S54))) := ⟨_, rfl⟩
  replace H : ((number_Eval.f 2 0 (⟨#[97]⟩ : ByteArray) ([] : List (S25)) 0 0 y166).bind fun bt169 => (if t165 = 0 then (if t164 = (-3) then (if (bt169.2.1 == 0 && (bt169.2.2.1 == 0 && (bt169.2.2.2 == 0))) = true then (some (bt169.1 == 9)) else (some false)) else (some false)) else (some false))) = some r := by first | (rw [hy166]; with_reducible exact H) | (have H2_ := (Option.bind_some _ _).symm.trans H; rw [hy166]; with_reducible exact H2_) | (have H2_ := (Option.bind_some _ _).symm.trans H; with_reducible exact H2_) | with_reducible exact H | (rw [hy166]; exact H) | exact H
  have Ny166 := Aside0.mk hy166
  clear hy166
  replace H := Option.bind_eq_some_iff.mp H
  obtain ⟨⟨t169, t170, t171, t172⟩, A20, H⟩ := H
  replace H : (if t165 = 0 then (if t164 = (-3) then (if (t170 == 0 && (t171 == 0 && (t172 == 0))) = true then (some (t169 == 9)) else (some false)) else (some false)) else (some false)) = some r := H
  have A2 := Aside0.mk A20
  clear A20
  by_cases c3 : t165 = 0
  · rw [if_pos c3] at H
    have c3b0 : (t165 == 0) = true := beq_iff_eq.mpr c3
    have c3b1 : (t165 != 0) = false := bne_eq_false_iff_eq.mpr c3
    clear c3
    by_cases c4 : t164 = (-3)
    · rw [if_pos c4] at H
      have c4b0 : (t164 == (-3)) = true := beq_iff_eq.mpr c4
      have c4b1 : (t164 != (-3)) = false := bne_eq_false_iff_eq.mpr c4
      clear c4
      by_cases c5 : (t170 == 0 && (t171 == 0 && (t172 == 0))) = true
      · rw [if_pos c5] at H
        have c5b0 : (t170 == 0 && (t171 == 0 && (t172 == 0))) = true := c5
        (try (have c5b1 : decide (t170 = 0 && (t171 == 0 && (t172 == 0))) = true := by simpa using c5))
        (try (have c5b2 : (t170 == 0 && (t171 == 0 && (t172 == 0))) = true := by simpa using c5))
        clear c5
        obtain rfl := Option.some.inj H
        go_enter Try.func17, Try.ntmps17
        go_wp2_with (first | ((with_reducible refine gate_callee (f := 19) rfl ?_); refine goesL_ (some 6) rfl rfl Try.func19 (by kernel_rfl) rfl #[.int .u8 7, .int .i64 (-7), .int .i64 2] rfl (by (try simp only [List.map_toArray, List.map_cons, List.map_nil]); first | done | rfl | (simp only [List.length_drop, List.length_take]; rfl)) ?_; (with_reducible refine (number_Work.calls 7 (-7) 2 t164 t165 _ A1.out).mono ?_); rintro e w6 ⟨rfl, hb⟩; refine ⟨_, rfl, ?_⟩; have n0_ := Aside0.mk (below_step (by repeat (first | (with_reducible first | exact HB.out | apply below_alloc | apply pw_below_drewN | apply below_drew1) | exact HB.out)) hb); clear HB; have HB := n0_; clear n0_; (try clear hb); (try clear hb2); (try clear hk); (try clear hi)) | ((with_reducible refine gate_dst (N := 12) rfl ?_); refine Kd.R_lit k54 _ 54 ?hg (N := 12) ?hd (xs := ([(⟨(⟨#[97]⟩ : ByteArray), 9⟩ : S54)] : List (S54))) (inner := [.string (⟨#[97]⟩ : ByteArray), .int .i64 9]) (ok := fun _ => True) (okp := fun _ => True) ?hr ?hp (fun _ hk => hk) trivial (Below.refl _ _) (Nat.le_refl _) (by simp) ?_; (case hd => rfl); (case hg => rfl); (case hr => first | (go_simp; done) | (go_simp; rfl)); (case hp => exact (Reps.c2 (show Kd.M k54 _ _ _ (⟨(⟨#[97]⟩ : ByteArray), 9⟩ : S54) [.string (⟨#[97]⟩ : ByteArray), .int .i64 9] from (k54_mkM _ _ _ (⟨(⟨#[97]⟩ : ByteArray), 9⟩ : S54) )) (Reps.none _ _))); intro v167 w7 ho8 hb hg_ hnew_; clear hg_ hnew_; (first | rw [← Ny166.out] at ho8 | (simp only [Int.reduceToNat] at ho8; rw [← Ny166.out] at ho8)); have n0_ := Aside0.mk (Kd.R_lower ho8 (below_size (by repeat (first | (with_reducible first | exact HB.out | apply below_alloc | apply pw_below_drewN | apply below_drew1) | exact HB.out)))); have n1_ := Aside0.mk (below_step (by repeat (first | (with_reducible first | exact HB.out | apply below_alloc | apply pw_below_drewN | apply below_drew1) | exact HB.out)) hb); clear HB; have HO168 := n0_; have HB := n1_; clear n0_ n1_; clear hb ho8; obtain ⟨Ao9, co9, eo9⟩ := Kd.R_slice HO168.out; subst eo9) | ((with_reducible refine gate_callee (f := 8) rfl ?_); refine goesL_ (some 13) rfl rfl Try.func8 (by kernel_rfl) rfl #[.agg #[.int .u8 2, .int .i64 0, .string (⟨#[97]⟩ : ByteArray), .slice none 0 0, .int .i64 0, .int .i64 0], .slice Ao9 y166.length co9] rfl (by (try simp only [List.map_toArray, List.map_cons, List.map_nil]); first | done | rfl | (simp only [List.length_drop, List.length_take]; rfl)) ?_; (refine (number_Eval.calls 2 0 (⟨#[97]⟩ : ByteArray) _ _ ([] : List (S25)) 0 0 _ _ y166 t169 t170 t171 t172 _ ?side1 ?side2 ?side3 ?side4 A2.out).mono ?_); (case side1 => exact Kd.C_nil _ _); (case side2 => exact Nat.le_refl _); (case side3 => repeat (first | exact (Kd.R_reads' HO168.out).2.2 | (with_reducible refine Kd.C_alloc ?_ _) | (with_reducible refine Kd.C_drewN ?_ _) | (with_reducible refine Kd.C_drew ?_))); (case side4 => exact (Kd.R_reads' HO168.out).2.1); rintro e w10 ⟨rfl, hb⟩; refine ⟨_, rfl, ?_⟩; have n0_ := Aside0.mk (Kd.R_below (by (with_reducible repeat (first | apply Kd.R_alloc | apply Kd.R_drewN | apply Kd.R_drew)); exact HO168.out) hb); have n1_ := Aside0.mk (below_step (by repeat (first | (with_reducible first | exact HB.out | apply below_alloc | apply pw_below_drewN | apply below_drew1) | exact HB.out)) hb); clear HO168; clear HB; have HO168 := n0_; have HB := n1_; clear n0_ n1_; (try clear hb); (try clear hb2); (try clear hk); (try clear hi)) | ((with_reducible refine gate_dst (N := 4) rfl ?_); refine box_event ?hg (N := 4) ?hd (cs := #[.int .i64 0, .int .i64 0, .int .i64 0]) (t := 29) ?hr ?_; (case hd => rfl); (case hg => rfl); (case hr => first | (go_simp; done) | (go_simp; rfl)); intro gb173 hg w11 hbox hb; have n0_ := Aside0.mk (Kd.R_below (by (with_reducible repeat (first | apply Kd.R_alloc | apply Kd.R_drewN | apply Kd.R_drew)); exact HO168.out) hb); have n1_ := Aside0.mk (below_step (by repeat (first | (with_reducible first | exact HB.out | apply below_alloc | apply pw_below_drewN | apply below_drew1) | exact HB.out)) hb); have n2_ := Aside0.mk (hbox); have n3_ := Aside0.mk ((by rw [hg]; exact (below_size (by repeat (first | (with_reducible first | exact HB.out | apply below_alloc | apply pw_below_drewN | apply below_drew1) | exact HB.out))) : w.heap.size ≤ gb173)); have n4_ := Aside0.mk ((by rw [hg]; exact (below_size (by repeat (first | (with_reducible first | exact HB.out | apply below_alloc | apply pw_below_drewN | apply below_drew1) | exact HB.out))) : w.heap.size ≤ gb173)); clear HO168; clear HB; have HO168 := n0_; have HB := n1_; have BK173 := n2_; have GW173 := n3_; have GE173 := n4_; clear n0_ n1_ n2_ n3_ n4_; clear hb hbox hg; have hcz12_0 : w11.cell? ⟨gb173, 0, none⟩ = some (.int .i64 0) := (blk_cell BK173.out 0).trans rfl; have hcz12_1 : w11.cell? ⟨gb173, 1, none⟩ = some (.int .i64 0) := (blk_cell BK173.out 1).trans rfl; have hcz12_2 : w11.cell? ⟨gb173, 2, none⟩ = some (.int .i64 0) := (blk_cell BK173.out 2).trans rfl; have hfz12_0 := blk_frozen BK173.out 0; have hfz12_1 := blk_frozen BK173.out 1; have hfz12_2 := blk_frozen BK173.out 2))
        go_ret
        exact ⟨by first | rfl | (simp [errW_none, errW_some] <;> rfl) | (simp [*, errW_none, errW_some] <;> rfl), by repeat (first | (with_reducible first | exact HB.out | apply below_alloc | apply pw_below_drewN | apply below_drew1 | refine below_set ?_ GE173.out) | exact HB.out)⟩
      · rw [if_neg c5] at H
        have c5b0 : (t170 == 0 && (t171 == 0 && (t172 == 0))) = false := by simpa using c5
        (try (have c5b1 : decide (t170 = 0 && (t171 == 0 && (t172 == 0))) = false := by simpa using c5))
        (try (have c5b2 : (t170 == 0 && (t171 == 0 && (t172 == 0))) = false := by simpa using c5))
        (try (have c5b3 : ¬ (t170 = 0 && (t171 == 0 && (t172 == 0))) := by simpa using c5))
        clear c5
        obtain rfl := Option.some.inj H
        go_enter Try.func17, Try.ntmps17
        go_wp2_with (first | ((with_reducible refine gate_callee (f := 19) rfl ?_); refine goesL_ (some 6) rfl rfl Try.func19 (by kernel_rfl) rfl #[.int .u8 7, .int .i64 (-7), .int .i64 2] rfl (by (try simp only [List.map_toArray, List.map_cons, List.map_nil]); first | done | rfl | (simp only [List.length_drop, List.length_take]; rfl)) ?_; (with_reducible refine (number_Work.calls 7 (-7) 2 t164 t165 _ A1.out).mono ?_); rintro e w13 ⟨rfl, hb⟩; refine ⟨_, rfl, ?_⟩; have n0_ := Aside0.mk (below_step (by repeat (first | (with_reducible first | exact HB.out | apply below_alloc | apply pw_below_drewN | apply below_drew1) | exact HB.out)) hb); clear HB; have HB := n0_; clear n0_; (try clear hb); (try clear hb2); (try clear hk); (try clear hi)) | ((with_reducible refine gate_dst (N := 12) rfl ?_); refine Kd.R_lit k54 _ 54 ?hg (N := 12) ?hd (xs := ([(⟨(⟨#[97]⟩ : ByteArray), 9⟩ : S54)] : List (S54))) (inner := [.string (⟨#[97]⟩ : ByteArray), .int .i64 9]) (ok := fun _ => True) (okp := fun _ => True) ?hr ?hp (fun _ hk => hk) trivial (Below.refl _ _) (Nat.le_refl _) (by simp) ?_; (case hd => rfl); (case hg => rfl); (case hr => first | (go_simp; done) | (go_simp; rfl)); (case hp => exact (Reps.c2 (show Kd.M k54 _ _ _ (⟨(⟨#[97]⟩ : ByteArray), 9⟩ : S54) [.string (⟨#[97]⟩ : ByteArray), .int .i64 9] from (k54_mkM _ _ _ (⟨(⟨#[97]⟩ : ByteArray), 9⟩ : S54) )) (Reps.none _ _))); intro v167 w14 ho15 hb hg_ hnew_; clear hg_ hnew_; (first | rw [← Ny166.out] at ho15 | (simp only [Int.reduceToNat] at ho15; rw [← Ny166.out] at ho15)); have n0_ := Aside0.mk (Kd.R_lower ho15 (below_size (by repeat (first | (with_reducible first | exact HB.out | apply below_alloc | apply pw_below_drewN | apply below_drew1) | exact HB.out)))); have n1_ := Aside0.mk (below_step (by repeat (first | (with_reducible first | exact HB.out | apply below_alloc | apply pw_below_drewN | apply below_drew1) | exact HB.out)) hb); clear HB; have HO168 := n0_; have HB := n1_; clear n0_ n1_; clear hb ho15; obtain ⟨Ao16, co16, eo16⟩ := Kd.R_slice HO168.out; subst eo16) | ((with_reducible refine gate_callee (f := 8) rfl ?_); refine goesL_ (some 13) rfl rfl Try.func8 (by kernel_rfl) rfl #[.agg #[.int .u8 2, .int .i64 0, .string (⟨#[97]⟩ : ByteArray), .slice none 0 0, .int .i64 0, .int .i64 0], .slice Ao16 y166.length co16] rfl (by (try simp only [List.map_toArray, List.map_cons, List.map_nil]); first | done | rfl | (simp only [List.length_drop, List.length_take]; rfl)) ?_; (refine (number_Eval.calls 2 0 (⟨#[97]⟩ : ByteArray) _ _ ([] : List (S25)) 0 0 _ _ y166 t169 t170 t171 t172 _ ?side1 ?side2 ?side3 ?side4 A2.out).mono ?_); (case side1 => exact Kd.C_nil _ _); (case side2 => exact Nat.le_refl _); (case side3 => repeat (first | exact (Kd.R_reads' HO168.out).2.2 | (with_reducible refine Kd.C_alloc ?_ _) | (with_reducible refine Kd.C_drewN ?_ _) | (with_reducible refine Kd.C_drew ?_))); (case side4 => exact (Kd.R_reads' HO168.out).2.1); rintro e w17 ⟨rfl, hb⟩; refine ⟨_, rfl, ?_⟩; have n0_ := Aside0.mk (Kd.R_below (by (with_reducible repeat (first | apply Kd.R_alloc | apply Kd.R_drewN | apply Kd.R_drew)); exact HO168.out) hb); have n1_ := Aside0.mk (below_step (by repeat (first | (with_reducible first | exact HB.out | apply below_alloc | apply pw_below_drewN | apply below_drew1) | exact HB.out)) hb); clear HO168; clear HB; have HO168 := n0_; have HB := n1_; clear n0_ n1_; (try clear hb); (try clear hb2); (try clear hk); (try clear hi)) | ((with_reducible refine gate_dst (N := 4) rfl ?_); refine box_event ?hg (N := 4) ?hd (cs := #[.int .i64 0, .int .i64 0, .int .i64 0]) (t := 29) ?hr ?_; (case hd => rfl); (case hg => rfl); (case hr => first | (go_simp; done) | (go_simp; rfl)); intro gb173 hg w18 hbox hb; have n0_ := Aside0.mk (Kd.R_below (by (with_reducible repeat (first | apply Kd.R_alloc | apply Kd.R_drewN | apply Kd.R_drew)); exact HO168.out) hb); have n1_ := Aside0.mk (below_step (by repeat (first | (with_reducible first | exact HB.out | apply below_alloc | apply pw_below_drewN | apply below_drew1) | exact HB.out)) hb); have n2_ := Aside0.mk (hbox); have n3_ := Aside0.mk ((by rw [hg]; exact (below_size (by repeat (first | (with_reducible first | exact HB.out | apply below_alloc | apply pw_below_drewN | apply below_drew1) | exact HB.out))) : w.heap.size ≤ gb173)); have n4_ := Aside0.mk ((by rw [hg]; exact (below_size (by repeat (first | (with_reducible first | exact HB.out | apply below_alloc | apply pw_below_drewN | apply below_drew1) | exact HB.out))) : w.heap.size ≤ gb173)); clear HO168; clear HB; have HO168 := n0_; have HB := n1_; have BK173 := n2_; have GW173 := n3_; have GE173 := n4_; clear n0_ n1_ n2_ n3_ n4_; clear hb hbox hg; have hcz19_0 : w18.cell? ⟨gb173, 0, none⟩ = some (.int .i64 0) := (blk_cell BK173.out 0).trans rfl; have hcz19_1 : w18.cell? ⟨gb173, 1, none⟩ = some (.int .i64 0) := (blk_cell BK173.out 1).trans rfl; have hcz19_2 : w18.cell? ⟨gb173, 2, none⟩ = some (.int .i64 0) := (blk_cell BK173.out 2).trans rfl; have hfz19_0 := blk_frozen BK173.out 0; have hfz19_1 := blk_frozen BK173.out 1; have hfz19_2 := blk_frozen BK173.out 2))
        go_ret
        exact ⟨by first | rfl | (simp [errW_none, errW_some] <;> rfl) | (simp [*, errW_none, errW_some] <;> rfl), by repeat (first | (with_reducible first | exact HB.out | apply below_alloc | apply pw_below_drewN | apply below_drew1 | refine below_set ?_ GE173.out) | exact HB.out)⟩
    · rw [if_neg c4] at H
      have c4b0 : (t164 == (-3)) = false := beq_eq_false_iff_ne.mpr c4
      have c4b1 : (t164 != (-3)) = true := bne_iff_ne.mpr c4
      obtain rfl := Option.some.inj H
      go_enter Try.func17, Try.ntmps17
      go_wp2_with (first | ((with_reducible refine gate_callee (f := 19) rfl ?_); refine goesL_ (some 6) rfl rfl Try.func19 (by kernel_rfl) rfl #[.int .u8 7, .int .i64 (-7), .int .i64 2] rfl (by (try simp only [List.map_toArray, List.map_cons, List.map_nil]); first | done | rfl | (simp only [List.length_drop, List.length_take]; rfl)) ?_; (with_reducible refine (number_Work.calls 7 (-7) 2 t164 t165 _ A1.out).mono ?_); rintro e w20 ⟨rfl, hb⟩; refine ⟨_, rfl, ?_⟩; have n0_ := Aside0.mk (below_step (by repeat (first | (with_reducible first | exact HB.out | apply below_alloc | apply pw_below_drewN | apply below_drew1) | exact HB.out)) hb); clear HB; have HB := n0_; clear n0_; (try clear hb); (try clear hb2); (try clear hk); (try clear hi)) | ((with_reducible refine gate_dst (N := 12) rfl ?_); refine Kd.R_lit k54 _ 54 ?hg (N := 12) ?hd (xs := ([(⟨(⟨#[97]⟩ : ByteArray), 9⟩ : S54)] : List (S54))) (inner := [.string (⟨#[97]⟩ : ByteArray), .int .i64 9]) (ok := fun _ => True) (okp := fun _ => True) ?hr ?hp (fun _ hk => hk) trivial (Below.refl _ _) (Nat.le_refl _) (by simp) ?_; (case hd => rfl); (case hg => rfl); (case hr => first | (go_simp; done) | (go_simp; rfl)); (case hp => exact (Reps.c2 (show Kd.M k54 _ _ _ (⟨(⟨#[97]⟩ : ByteArray), 9⟩ : S54) [.string (⟨#[97]⟩ : ByteArray), .int .i64 9] from (k54_mkM _ _ _ (⟨(⟨#[97]⟩ : ByteArray), 9⟩ : S54) )) (Reps.none _ _))); intro v167 w21 ho22 hb hg_ hnew_; clear hg_ hnew_; (first | rw [← Ny166.out] at ho22 | (simp only [Int.reduceToNat] at ho22; rw [← Ny166.out] at ho22)); have n0_ := Aside0.mk (Kd.R_lower ho22 (below_size (by repeat (first | (with_reducible first | exact HB.out | apply below_alloc | apply pw_below_drewN | apply below_drew1) | exact HB.out)))); have n1_ := Aside0.mk (below_step (by repeat (first | (with_reducible first | exact HB.out | apply below_alloc | apply pw_below_drewN | apply below_drew1) | exact HB.out)) hb); clear HB; have HO168 := n0_; have HB := n1_; clear n0_ n1_; clear hb ho22; obtain ⟨Ao23, co23, eo23⟩ := Kd.R_slice HO168.out; subst eo23) | ((with_reducible refine gate_callee (f := 8) rfl ?_); refine goesL_ (some 13) rfl rfl Try.func8 (by kernel_rfl) rfl #[.agg #[.int .u8 2, .int .i64 0, .string (⟨#[97]⟩ : ByteArray), .slice none 0 0, .int .i64 0, .int .i64 0], .slice Ao23 y166.length co23] rfl (by (try simp only [List.map_toArray, List.map_cons, List.map_nil]); first | done | rfl | (simp only [List.length_drop, List.length_take]; rfl)) ?_; (refine (number_Eval.calls 2 0 (⟨#[97]⟩ : ByteArray) _ _ ([] : List (S25)) 0 0 _ _ y166 t169 t170 t171 t172 _ ?side1 ?side2 ?side3 ?side4 A2.out).mono ?_); (case side1 => exact Kd.C_nil _ _); (case side2 => exact Nat.le_refl _); (case side3 => repeat (first | exact (Kd.R_reads' HO168.out).2.2 | (with_reducible refine Kd.C_alloc ?_ _) | (with_reducible refine Kd.C_drewN ?_ _) | (with_reducible refine Kd.C_drew ?_))); (case side4 => exact (Kd.R_reads' HO168.out).2.1); rintro e w24 ⟨rfl, hb⟩; refine ⟨_, rfl, ?_⟩; have n0_ := Aside0.mk (Kd.R_below (by (with_reducible repeat (first | apply Kd.R_alloc | apply Kd.R_drewN | apply Kd.R_drew)); exact HO168.out) hb); have n1_ := Aside0.mk (below_step (by repeat (first | (with_reducible first | exact HB.out | apply below_alloc | apply pw_below_drewN | apply below_drew1) | exact HB.out)) hb); clear HO168; clear HB; have HO168 := n0_; have HB := n1_; clear n0_ n1_; (try clear hb); (try clear hb2); (try clear hk); (try clear hi)) | ((with_reducible refine gate_dst (N := 4) rfl ?_); refine box_event ?hg (N := 4) ?hd (cs := #[.int .i64 0, .int .i64 0, .int .i64 0]) (t := 29) ?hr ?_; (case hd => rfl); (case hg => rfl); (case hr => first | (go_simp; done) | (go_simp; rfl)); intro gb173 hg w25 hbox hb; have n0_ := Aside0.mk (Kd.R_below (by (with_reducible repeat (first | apply Kd.R_alloc | apply Kd.R_drewN | apply Kd.R_drew)); exact HO168.out) hb); have n1_ := Aside0.mk (below_step (by repeat (first | (with_reducible first | exact HB.out | apply below_alloc | apply pw_below_drewN | apply below_drew1) | exact HB.out)) hb); have n2_ := Aside0.mk (hbox); have n3_ := Aside0.mk ((by rw [hg]; exact (below_size (by repeat (first | (with_reducible first | exact HB.out | apply below_alloc | apply pw_below_drewN | apply below_drew1) | exact HB.out))) : w.heap.size ≤ gb173)); have n4_ := Aside0.mk ((by rw [hg]; exact (below_size (by repeat (first | (with_reducible first | exact HB.out | apply below_alloc | apply pw_below_drewN | apply below_drew1) | exact HB.out))) : w.heap.size ≤ gb173)); clear HO168; clear HB; have HO168 := n0_; have HB := n1_; have BK173 := n2_; have GW173 := n3_; have GE173 := n4_; clear n0_ n1_ n2_ n3_ n4_; clear hb hbox hg; have hcz26_0 : w25.cell? ⟨gb173, 0, none⟩ = some (.int .i64 0) := (blk_cell BK173.out 0).trans rfl; have hcz26_1 : w25.cell? ⟨gb173, 1, none⟩ = some (.int .i64 0) := (blk_cell BK173.out 1).trans rfl; have hcz26_2 : w25.cell? ⟨gb173, 2, none⟩ = some (.int .i64 0) := (blk_cell BK173.out 2).trans rfl; have hfz26_0 := blk_frozen BK173.out 0; have hfz26_1 := blk_frozen BK173.out 1; have hfz26_2 := blk_frozen BK173.out 2))
      go_ret
      exact ⟨by first | rfl | (simp [errW_none, errW_some] <;> rfl) | (simp [*, errW_none, errW_some] <;> rfl), by repeat (first | (with_reducible first | exact HB.out | apply below_alloc | apply pw_below_drewN | apply below_drew1 | refine below_set ?_ GE173.out) | exact HB.out)⟩
  · rw [if_neg c3] at H
    have c3b0 : (t165 == 0) = false := beq_eq_false_iff_ne.mpr c3
    have c3b1 : (t165 != 0) = true := bne_iff_ne.mpr c3
    obtain rfl := Option.some.inj H
    go_enter Try.func17, Try.ntmps17
    go_wp2_with (first | ((with_reducible refine gate_callee (f := 19) rfl ?_); refine goesL_ (some 6) rfl rfl Try.func19 (by kernel_rfl) rfl #[.int .u8 7, .int .i64 (-7), .int .i64 2] rfl (by (try simp only [List.map_toArray, List.map_cons, List.map_nil]); first | done | rfl | (simp only [List.length_drop, List.length_take]; rfl)) ?_; (with_reducible refine (number_Work.calls 7 (-7) 2 t164 t165 _ A1.out).mono ?_); rintro e w27 ⟨rfl, hb⟩; refine ⟨_, rfl, ?_⟩; have n0_ := Aside0.mk (below_step (by repeat (first | (with_reducible first | exact HB.out | apply below_alloc | apply pw_below_drewN | apply below_drew1) | exact HB.out)) hb); clear HB; have HB := n0_; clear n0_; (try clear hb); (try clear hb2); (try clear hk); (try clear hi)) | ((with_reducible refine gate_dst (N := 12) rfl ?_); refine Kd.R_lit k54 _ 54 ?hg (N := 12) ?hd (xs := ([(⟨(⟨#[97]⟩ : ByteArray), 9⟩ : S54)] : List (S54))) (inner := [.string (⟨#[97]⟩ : ByteArray), .int .i64 9]) (ok := fun _ => True) (okp := fun _ => True) ?hr ?hp (fun _ hk => hk) trivial (Below.refl _ _) (Nat.le_refl _) (by simp) ?_; (case hd => rfl); (case hg => rfl); (case hr => first | (go_simp; done) | (go_simp; rfl)); (case hp => exact (Reps.c2 (show Kd.M k54 _ _ _ (⟨(⟨#[97]⟩ : ByteArray), 9⟩ : S54) [.string (⟨#[97]⟩ : ByteArray), .int .i64 9] from (k54_mkM _ _ _ (⟨(⟨#[97]⟩ : ByteArray), 9⟩ : S54) )) (Reps.none _ _))); intro v167 w28 ho29 hb hg_ hnew_; clear hg_ hnew_; (first | rw [← Ny166.out] at ho29 | (simp only [Int.reduceToNat] at ho29; rw [← Ny166.out] at ho29)); have n0_ := Aside0.mk (Kd.R_lower ho29 (below_size (by repeat (first | (with_reducible first | exact HB.out | apply below_alloc | apply pw_below_drewN | apply below_drew1) | exact HB.out)))); have n1_ := Aside0.mk (below_step (by repeat (first | (with_reducible first | exact HB.out | apply below_alloc | apply pw_below_drewN | apply below_drew1) | exact HB.out)) hb); clear HB; have HO168 := n0_; have HB := n1_; clear n0_ n1_; clear hb ho29; obtain ⟨Ao30, co30, eo30⟩ := Kd.R_slice HO168.out; subst eo30) | ((with_reducible refine gate_callee (f := 8) rfl ?_); refine goesL_ (some 13) rfl rfl Try.func8 (by kernel_rfl) rfl #[.agg #[.int .u8 2, .int .i64 0, .string (⟨#[97]⟩ : ByteArray), .slice none 0 0, .int .i64 0, .int .i64 0], .slice Ao30 y166.length co30] rfl (by (try simp only [List.map_toArray, List.map_cons, List.map_nil]); first | done | rfl | (simp only [List.length_drop, List.length_take]; rfl)) ?_; (refine (number_Eval.calls 2 0 (⟨#[97]⟩ : ByteArray) _ _ ([] : List (S25)) 0 0 _ _ y166 t169 t170 t171 t172 _ ?side1 ?side2 ?side3 ?side4 A2.out).mono ?_); (case side1 => exact Kd.C_nil _ _); (case side2 => exact Nat.le_refl _); (case side3 => repeat (first | exact (Kd.R_reads' HO168.out).2.2 | (with_reducible refine Kd.C_alloc ?_ _) | (with_reducible refine Kd.C_drewN ?_ _) | (with_reducible refine Kd.C_drew ?_))); (case side4 => exact (Kd.R_reads' HO168.out).2.1); rintro e w31 ⟨rfl, hb⟩; refine ⟨_, rfl, ?_⟩; have n0_ := Aside0.mk (Kd.R_below (by (with_reducible repeat (first | apply Kd.R_alloc | apply Kd.R_drewN | apply Kd.R_drew)); exact HO168.out) hb); have n1_ := Aside0.mk (below_step (by repeat (first | (with_reducible first | exact HB.out | apply below_alloc | apply pw_below_drewN | apply below_drew1) | exact HB.out)) hb); clear HO168; clear HB; have HO168 := n0_; have HB := n1_; clear n0_ n1_; (try clear hb); (try clear hb2); (try clear hk); (try clear hi)) | ((with_reducible refine gate_dst (N := 4) rfl ?_); refine box_event ?hg (N := 4) ?hd (cs := #[.int .i64 0, .int .i64 0, .int .i64 0]) (t := 29) ?hr ?_; (case hd => rfl); (case hg => rfl); (case hr => first | (go_simp; done) | (go_simp; rfl)); intro gb173 hg w32 hbox hb; have n0_ := Aside0.mk (Kd.R_below (by (with_reducible repeat (first | apply Kd.R_alloc | apply Kd.R_drewN | apply Kd.R_drew)); exact HO168.out) hb); have n1_ := Aside0.mk (below_step (by repeat (first | (with_reducible first | exact HB.out | apply below_alloc | apply pw_below_drewN | apply below_drew1) | exact HB.out)) hb); have n2_ := Aside0.mk (hbox); have n3_ := Aside0.mk ((by rw [hg]; exact (below_size (by repeat (first | (with_reducible first | exact HB.out | apply below_alloc | apply pw_below_drewN | apply below_drew1) | exact HB.out))) : w.heap.size ≤ gb173)); have n4_ := Aside0.mk ((by rw [hg]; exact (below_size (by repeat (first | (with_reducible first | exact HB.out | apply below_alloc | apply pw_below_drewN | apply below_drew1) | exact HB.out))) : w.heap.size ≤ gb173)); clear HO168; clear HB; have HO168 := n0_; have HB := n1_; have BK173 := n2_; have GW173 := n3_; have GE173 := n4_; clear n0_ n1_ n2_ n3_ n4_; clear hb hbox hg; have hcz33_0 : w32.cell? ⟨gb173, 0, none⟩ = some (.int .i64 0) := (blk_cell BK173.out 0).trans rfl; have hcz33_1 : w32.cell? ⟨gb173, 1, none⟩ = some (.int .i64 0) := (blk_cell BK173.out 1).trans rfl; have hcz33_2 : w32.cell? ⟨gb173, 2, none⟩ = some (.int .i64 0) := (blk_cell BK173.out 2).trans rfl; have hfz33_0 := blk_frozen BK173.out 0; have hfz33_1 := blk_frozen BK173.out 1; have hfz33_2 := blk_frozen BK173.out 2))
    go_ret
    exact ⟨by first | rfl | (simp [errW_none, errW_some] <;> rfl) | (simp [*, errW_none, errW_some] <;> rfl), by repeat (first | (with_reducible first | exact HB.out | apply below_alloc | apply pw_below_drewN | apply below_drew1 | refine below_set ?_ GE173.out) | exact HB.out)⟩


end Go.Proofs.Ytnojokempdcikaa.PA

namespace Go.Proofs.Ytnojokempdcikaa.PA
open Go.RowKit Go.Proofs.YtnojokempdcikaaW.PrintWords Go.Proofs.YtnojokempdcikaaW.PrintLast Go.Proofs.YtnojokempdcikaaW.PrintMore
attribute [local go_sem] max2_int min2_int max_two min_two max_three min_three max_four min_four   -- for this text's walks alone
set_option linter.unusedVariables false
set_option linter.unusedSimpArgs false

/-! ### recoupref12_all: function 29 -/
mutual
def recoupref12_all.l0 : Nat → List ByteArray → Int → Int → Int → ByteArray → List (S25) → Int → Int → Option (List ByteArray)
  | 0, _, _, _, _, _, _, _, _ => none
  | k + 1, x3, x4, x228000, x228001, x228002, x228003, x228004, x228005 => if x4 < (x228003.length : Int) then (if 0 ≤ x4 then ((recoupref12_all.f k ((rd_T25 x228003 x4).f0) ((rd_T25 x228003 x4).f1) ((rd_T25 x228003 x4).f2) ((rd_T25 x228003 x4).f3) ((rd_T25 x228003 x4).f4) ((rd_T25 x228003 x4).f5)).bind fun t232 => (if x3.length + t232.length < 8796093022208 then (recoupref12_all.l0 k (x3 ++ t232) (wrap64 (x4 + 1)) x228000 x228001 x228002 x228003 x228004 x228005) else (none))) else (none)) else (some x3)
def recoupref12_all.f : Nat → Int → Int → ByteArray → List (S25) → Int → Int → Option (List ByteArray)
  | 0, _, _, _, _, _, _ => none
  | k + 1, a0_0, a0_1, a0_2, l0_3, a0_4, a0_5 => if a0_0 = 2 then (some (([a0_2] : List ByteArray))) else (recoupref12_all.l0 k ([] : List ByteArray) 0 a0_0 a0_1 a0_2 l0_3 a0_4 a0_5)
end
theorem recoupref12_all.mono_l : ∀ k, (∀ y0 y1 y2 y3 y4 y5, LeO (recoupref12_all.f k y0 y1 y2 y3 y4 y5) (recoupref12_all.f (k + 1) y0 y1 y2 y3 y4 y5)) ∧ (∀ y0 y1 y2 y3 y4 y5 y6 y7, LeO (recoupref12_all.l0 k y0 y1 y2 y3 y4 y5 y6 y7) (recoupref12_all.l0 (k + 1) y0 y1 y2 y3 y4 y5 y6 y7))
  | 0 => ⟨fun _ _ _ _ _ _ r h => by simp [recoupref12_all.f] at h, fun _ _ _ _ _ _ _ _ r h => by simp [recoupref12_all.l0] at h⟩
  | k + 1 => by
    obtain ⟨ih0, ih1⟩ := recoupref12_all.mono_l k
    refine ⟨?_, ?_⟩
    · intro y0 y1 y2 y3 y4 y5
      unfold recoupref12_all.f
      repeat' first
      | (with_reducible exact ih0 _ _ _ _ _ _)
      | (with_reducible exact ih1 _ _ _ _ _ _ _ _)
      | (with_reducible exact LeO.refl _)
      | (with_reducible exact LeO.none _)
      | (with_reducible refine LeO.ite ?_ ?_)
      | (with_reducible refine LeO.bind ?_ (fun _ => ?_))
      | exact ih0 _ _ _ _ _ _
      | exact ih1 _ _ _ _ _ _ _ _
      | exact LeO.none _
      | refine LeO.ite ?_ ?_
      | refine LeO.bind ?_ (fun _ => ?_)
    · intro y0 y1 y2 y3 y4 y5 y6 y7
      unfold recoupref12_all.l0
      repeat' first
      | (with_reducible exact ih0 _ _ _ _ _ _)
      | (with_reducible exact ih1 _ _ _ _ _ _ _ _)
      | (with_reducible exact LeO.refl _)
      | (with_reducible exact LeO.none _)
      | (with_reducible refine LeO.ite ?_ ?_)
      | (with_reducible refine LeO.bind ?_ (fun _ => ?_))
      | exact ih0 _ _ _ _ _ _
      | exact ih1 _ _ _ _ _ _ _ _
      | exact LeO.none _
      | refine LeO.ite ?_ ?_
      | refine LeO.bind ?_ (fun _ => ?_)
theorem recoupref12_all.mono : ∀ a0 a1 a2 a3 a4 a5 k, LeO (recoupref12_all.f k a0 a1 a2 a3 a4 a5) (recoupref12_all.f (k + 1) a0 a1 a2 a3 a4 a5) := by
  intro a0 a1 a2 a3 a4 a5 k
  obtain ⟨ih0, ih1⟩ := recoupref12_all.mono_l k
  exact ih0 a0 a1 a2 a3 a4 a5
set_option maxHeartbeats 8000000 in
set_option maxRecDepth 100000 in
theorem recoupref12_all.calls (k : Nat) : ∀ (a0_0 : Int) (a0_1 : Int) (a0_2 : ByteArray) (A0_3 : Option Addr) (c0_3 : Nat) (l0_3 : List (S25)) (a0_4 : Int) (a0_5 : Int) (r : List ByteArray) (w : World) (hr0_3 : Kd.C k25 w A0_3 l0_3.length l0_3) (hc0_3 : l0_3.length ≤ c0_3) (h : recoupref12_all.f k a0_0 a0_1 a0_2 l0_3 a0_4 a0_5 = some r),
    Calls Try.prog 29 #[.agg #[.int .u8 a0_0, .int .i64 a0_1, .string a0_2, .slice A0_3 l0_3.length c0_3, .int .i64 a0_4, .int .i64 a0_5]] w fun e w' => ∃ v0_ : Value, e = .returned (v0_) ∧ Kd.R Kd.string 9 w' w.heap.size (fun _ => True) v0_ r ∧ Below w.heap.size w w' := by
  induction k using Nat.strongRecOn with
  | _ k ih =>
  intro a0_0 a0_1 a0_2 A0_3 c0_3 l0_3 a0_4 a0_5 r w hr0_3 hc0_3 h
  cases k with
  | zero => exact absurd h (by simp [recoupref12_all.f])
  | succ k =>
  simp only [recoupref12_all.f] at h
  have hu25 := Try.underlying25
  have HR0_3 := Aside0.mk hr0_3
  have HC0_3 := Aside0.mk hc0_3
  clear hr0_3 hc0_3
  have HB := Aside0.mk (Below.refl w.heap.size w)
  have H : (if a0_0 = 2 then (some (([a0_2] : List ByteArray))) else (recoupref12_all.l0 k ([] : List ByteArray) 0 a0_0 a0_1 a0_2 l0_3 a0_4 a0_5)) = some r := h
  clear h
  by_cases c2 : a0_0 = 2
  · rw [if_pos c2] at H
    have c2b0 : (a0_0 == 2) = true := beq_iff_eq.mpr c2
    have c2b1 : (a0_0 != 2) = false := bne_eq_false_iff_eq.mpr c2
    clear c2
    obtain ⟨y228, hy228⟩ : ∃ y_ : List ByteArray, y_ = (([a0_2] : List ByteArray)) := ⟨_, rfl⟩
    replace H : (some y228) = some r := by first | (rw [hy228]; with_reducible exact H) | (have H2_ := (Option.bind_some _ _).symm.trans H; rw [hy228]; with_reducible exact H2_) | (have H2_ := (Option.bind_some _ _).symm.trans H; with_reducible exact H2_) | with_reducible exact H | (rw [hy228]; exact H) | exact H
    have Ny228 := Aside0.mk hy228
    clear hy228
    obtain rfl := Option.some.inj H
    go_enter Try.func29, Try.ntmps29
    go_wp2_with (first | ((with_reducible refine gate_dst (N := 1) rfl ?_); refine box_event ?hg (N := 1) ?hd (cs := #[.int .u8 a0_0, .int .i64 a0_1, .string a0_2, .slice A0_3 l0_3.length c0_3, .int .i64 a0_4, .int .i64 a0_5]) (t := 25) ?hr ?_; (case hd => rfl); (case hg => rfl); (case hr => first | (go_simp; done) | (go_simp; rfl)); intro gb227 hg w3 hbox hb; have n0_ := Aside0.mk (below_step (by repeat (first | (with_reducible first | exact HB.out | apply below_alloc | apply pw_below_drewN | apply below_drew1) | exact HB.out)) hb); have n1_ := Aside0.mk (hbox); have n2_ := Aside0.mk ((by rw [hg]; exact (below_size (by repeat (first | (with_reducible first | exact HB.out | apply below_alloc | apply pw_below_drewN | apply below_drew1) | exact HB.out))) : w.heap.size ≤ gb227)); have n3_ := Aside0.mk ((by rw [hg]; exact (below_size (by repeat (first | (with_reducible first | exact HB.out | apply below_alloc | apply pw_below_drewN | apply below_drew1) | exact HB.out))) : w.heap.size ≤ gb227)); clear HB; have HB := n0_; have BK227 := n1_; have GW227 := n2_; have GE227 := n3_; clear n0_ n1_ n2_ n3_; clear hb hbox hg; have hcz4_0 : w3.cell? ⟨gb227, 0, none⟩ = some (.int .u8 a0_0) := (blk_cell BK227.out 0).trans rfl; have hcz4_1 : w3.cell? ⟨gb227, 1, none⟩ = some (.int .i64 a0_1) := (blk_cell BK227.out 1).trans rfl; have hcz4_2 : w3.cell? ⟨gb227, 2, none⟩ = some (.string a0_2) := (blk_cell BK227.out 2).trans rfl; have hcz4_3 : w3.cell? ⟨gb227, 3, none⟩ = some (.slice A0_3 l0_3.length c0_3) := (blk_cell BK227.out 3).trans rfl; have hcz4_4 : w3.cell? ⟨gb227, 4, none⟩ = some (.int .i64 a0_4) := (blk_cell BK227.out 4).trans rfl; have hcz4_5 : w3.cell? ⟨gb227, 5, none⟩ = some (.int .i64 a0_5) := (blk_cell BK227.out 5).trans rfl; have hfz4_0 := blk_frozen BK227.out 0; have hfz4_1 := blk_frozen BK227.out 1; have hfz4_2 := blk_frozen BK227.out 2; have hfz4_3 := blk_frozen BK227.out 3; have hfz4_4 := blk_frozen BK227.out 4; have hfz4_5 := blk_frozen BK227.out 5) | ((with_reducible refine gate_dst (N := 10) rfl ?_); refine Kd.R_lit Kd.string _ 9 ?hg (N := 10) ?hd (xs := ([a0_2] : List ByteArray)) (inner := [.string a0_2]) (ok := fun _ => True) (okp := fun _ => True) ?hr ?hp (fun _ hk => hk) trivial (Below.refl _ _) (Nat.le_refl _) (by simp) ?_; (case hd => rfl); (case hg => rfl); (case hr => first | (go_simp; done) | (go_simp; rfl)); (case hp => exact (Reps.one (show Kd.M Kd.string _ _ _ a0_2 [.string a0_2] from rfl) (Reps.none _ _))); intro v229 w5 ho6 hb hg_ hnew_; clear hg_ hnew_; (first | rw [← Ny228.out] at ho6 | (simp only [Int.reduceToNat] at ho6; rw [← Ny228.out] at ho6)); have n0_ := Aside0.mk (Kd.R_lower ho6 (below_size (by repeat (first | (with_reducible first | exact HB.out | apply below_alloc | apply pw_below_drewN | apply below_drew1 | refine below_set ?_ GE227.out) | exact HB.out)))); have n1_ := Aside0.mk (blk_below (g := gb227) (o := .cells #[.int .u8 a0_0, .int .i64 a0_1, .string a0_2, .slice A0_3 l0_3.length c0_3, .int .i64 a0_4, .int .i64 a0_5] 25 (0, 0)) (by (with_reducible repeat (first | refine blk_drewN ?_ _ | refine blk_drew ?_ | refine blk_alloc ?_ _)); exact BK227.out) hb); have n2_ := Aside0.mk (below_step (by repeat (first | (with_reducible first | exact HB.out | apply below_alloc | apply pw_below_drewN | apply below_drew1 | refine below_set ?_ GE227.out) | exact HB.out)) hb); clear BK227; clear HB; have HO230 := n0_; have BK227 := n1_; have HB := n2_; clear n0_ n1_ n2_; clear hb ho6))
    go_ret
    exact ⟨_, by first | rfl | (simp [errW_none, errW_some] <;> rfl) | (simp [*, errW_none, errW_some] <;> rfl), by (with_reducible repeat (first | apply Kd.R_alloc | apply Kd.R_drewN | apply Kd.R_drew)); exact HO230.out, by repeat (first | (with_reducible first | exact HB.out | apply below_alloc | apply pw_below_drewN | apply below_drew1 | refine below_set ?_ GE227.out) | exact HB.out)⟩
  · rw [if_neg c2] at H
    have c2b0 : (a0_0 == 2) = false := beq_eq_false_iff_ne.mpr c2
    have c2b1 : (a0_0 != 2) = true := bne_iff_ne.mpr c2
    have H' := Aside0.mk H
    clear H
    go_enter Try.func29, Try.ntmps29
    go_wp2_with (first | ((with_reducible refine gate_dst (N := 1) rfl ?_); refine box_event ?hg (N := 1) ?hd (cs := #[.int .u8 a0_0, .int .i64 a0_1, .string a0_2, .slice A0_3 l0_3.length c0_3, .int .i64 a0_4, .int .i64 a0_5]) (t := 25) ?hr ?_; (case hd => rfl); (case hg => rfl); (case hr => first | (go_simp; done) | (go_simp; rfl)); intro gb227 hg w7 hbox hb; have n0_ := Aside0.mk (below_step (by repeat (first | (with_reducible first | exact HB.out | apply below_alloc | apply pw_below_drewN | apply below_drew1) | exact HB.out)) hb); have n1_ := Aside0.mk (hbox); have n2_ := Aside0.mk ((by rw [hg]; exact (below_size (by repeat (first | (with_reducible first | exact HB.out | apply below_alloc | apply pw_below_drewN | apply below_drew1) | exact HB.out))) : w.heap.size ≤ gb227)); have n3_ := Aside0.mk ((by rw [hg]; exact (below_size (by repeat (first | (with_reducible first | exact HB.out | apply below_alloc | apply pw_below_drewN | apply below_drew1) | exact HB.out))) : w.heap.size ≤ gb227)); clear HB; have HB := n0_; have BK227 := n1_; have GW227 := n2_; have GE227 := n3_; clear n0_ n1_ n2_ n3_; clear hb hbox hg; have hcz8_0 : w7.cell? ⟨gb227, 0, none⟩ = some (.int .u8 a0_0) := (blk_cell BK227.out 0).trans rfl; have hcz8_1 : w7.cell? ⟨gb227, 1, none⟩ = some (.int .i64 a0_1) := (blk_cell BK227.out 1).trans rfl; have hcz8_2 : w7.cell? ⟨gb227, 2, none⟩ = some (.string a0_2) := (blk_cell BK227.out 2).trans rfl; have hcz8_3 : w7.cell? ⟨gb227, 3, none⟩ = some (.slice A0_3 l0_3.length c0_3) := (blk_cell BK227.out 3).trans rfl; have hcz8_4 : w7.cell? ⟨gb227, 4, none⟩ = some (.int .i64 a0_4) := (blk_cell BK227.out 4).trans rfl; have hcz8_5 : w7.cell? ⟨gb227, 5, none⟩ = some (.int .i64 a0_5) := (blk_cell BK227.out 5).trans rfl; have hfz8_0 := blk_frozen BK227.out 0; have hfz8_1 := blk_frozen BK227.out 1; have hfz8_2 := blk_frozen BK227.out 2; have hfz8_3 := blk_frozen BK227.out 3; have hfz8_4 := blk_frozen BK227.out 4; have hfz8_5 := blk_frozen BK227.out 5))
    go_loopg [3, 4] k (fun kq v3 v4 w' => ∃ (x3_1 : List ByteArray) (x4_1 : Int), v4 = .int .i64 x4_1 ∧ Aside0 (recoupref12_all.l0 kq x3_1 x4_1 a0_0 a0_1 a0_2 l0_3 a0_4 a0_5 = some r) ∧ Aside0 (kq ≤ k) ∧ Aside0 (Kd.R Kd.string 9 w' w.heap.size (fun _ => True) v3 x3_1) ∧ Aside0 (w'.heap[gb227]? = some (.cells #[.int .u8 a0_0, .int .i64 a0_1, .string a0_2, (.slice A0_3 l0_3.length c0_3), .int .i64 a0_4, .int .i64 a0_5] 25 (0, 0))) ∧ Aside0 (Below w.heap.size w w'))
    case atStart => exact ⟨(([] : List ByteArray)), (0), (by first | rfl | (simp; done) | (simp [*]; done) | (simp [xbne_nil]; done)), H', ⟨Nat.le_refl _⟩, ⟨by first | exact Kd.R_nil _ _ _ _ _ | exact Kd.N_nil _ _ _ _ _ | exact Kd.V_nil _ _ _ _ _ | exact Kd.Q_nil _ _ _ _ _ | exact Kd.S_nil _ _ _ _ _⟩, ⟨by (with_reducible repeat (first | refine blk_drewN ?_ _ | refine blk_drew ?_ | refine blk_alloc ?_ _)); exact BK227.out⟩, ⟨by repeat (first | (with_reducible first | exact HB.out | apply below_alloc | apply pw_below_drewN | apply below_drew1 | refine below_set ?_ GE227.out) | exact HB.out)⟩⟩
    case round =>
      clear H'
      try clear c2
      try clear c2b0
      try clear c2b1
      try clear p2
      try clear hcz4_0
      try clear hcz4_1
      try clear hcz4_2
      try clear hcz4_3
      try clear hcz4_4
      try clear hcz4_5
      try clear hcz8_0
      try clear hcz8_1
      try clear hcz8_2
      try clear hcz8_3
      try clear hcz8_4
      try clear hcz8_5
      try clear hfz4_0
      try clear hfz4_1
      try clear hfz4_2
      try clear hfz4_3
      try clear hfz4_4
      try clear hfz4_5
      try clear hfz8_0
      try clear hfz8_1
      try clear hfz8_2
      try clear hfz8_3
      try clear hfz8_4
      try clear hfz8_5
      obtain ⟨x3_1, x4_1, rfl, HA, HK1, HO_3, BK227, HB⟩ := hrel
      cases gk with
      | zero => exact absurd HA.out (by simp [recoupref12_all.l0])
      | succ k1 =>
        have H := HA.out
        clear HA
        simp only [recoupref12_all.l0] at H
        by_cases c9 : x4_1 < (l0_3.length : Int)
        · rw [if_pos c9] at H
          have c9b0 : decide (x4_1 < (l0_3.length : Int)) = true := decide_eq_true c9
          clear c9
          by_cases c10 : 0 ≤ x4_1
          · rw [if_pos c10] at H
            have c10b0 : decide (0 ≤ x4_1) = true := decide_eq_true c10
            clear c10
            replace H := Option.bind_eq_some_iff.mp H
            obtain ⟨t232, A110, H⟩ := H
            replace H : (if x3_1.length + t232.length < 8796093022208 then (recoupref12_all.l0 k1 (x3_1 ++ t232) (wrap64 (x4_1 + 1)) a0_0 a0_1 a0_2 l0_3 a0_4 a0_5) else (none)) = some r := H
            have A11 := Aside0.mk A110
            clear A110
            by_cases c12 : x3_1.length + t232.length < 8796093022208
            · rw [if_pos c12] at H
              have LMc12 := Aside0.mk c12
              clear c12
              obtain ⟨y235, hy235⟩ : ∃ y_ : List ByteArray, y_ = (x3_1 ++ t232) := ⟨_, rfl⟩
              replace H : (recoupref12_all.l0 k1 y235 (wrap64 (x4_1 + 1)) a0_0 a0_1 a0_2 l0_3 a0_4 a0_5) = some r := by first | (rw [hy235]; with_reducible exact H) | (have H2_ := (Option.bind_some _ _).symm.trans H; rw [hy235]; with_reducible exact H2_) | (have H2_ := (Option.bind_some _ _).symm.trans H; with_reducible exact H2_) | with_reducible exact H | (rw [hy235]; exact H) | exact H
              have Ny235 := Aside0.mk hy235
              clear hy235
              have H' := Aside0.mk H
              clear H
              have hcz13_0 : wr.cell? ⟨gb227, 0, none⟩ = some (.int .u8 a0_0) := (blk_cell BK227.out 0).trans rfl
              have hcz13_1 : wr.cell? ⟨gb227, 1, none⟩ = some (.int .i64 a0_1) := (blk_cell BK227.out 1).trans rfl
              have hcz13_2 : wr.cell? ⟨gb227, 2, none⟩ = some (.string a0_2) := (blk_cell BK227.out 2).trans rfl
              have hcz13_3 : wr.cell? ⟨gb227, 3, none⟩ = some (.slice A0_3 l0_3.length c0_3) := (blk_cell BK227.out 3).trans rfl
              have hcz13_4 : wr.cell? ⟨gb227, 4, none⟩ = some (.int .i64 a0_4) := (blk_cell BK227.out 4).trans rfl
              have hcz13_5 : wr.cell? ⟨gb227, 5, none⟩ = some (.int .i64 a0_5) := (blk_cell BK227.out 5).trans rfl
              have hfz13_0 := blk_frozen BK227.out 0
              have hfz13_1 := blk_frozen BK227.out 1
              have hfz13_2 := blk_frozen BK227.out 2
              have hfz13_3 := blk_frozen BK227.out 3
              have hfz13_4 := blk_frozen BK227.out 4
              have hfz13_5 := blk_frozen BK227.out 5
              have p231 : 0 ≤ (x4_1 : Int) := of_decide_eq_true (by first | (with_reducible assumption) | assumption)
              have q231 : x4_1 < (l0_3.length : Int) := of_decide_eq_true (by first | (with_reducible assumption) | assumption)
              obtain ⟨ad231, A231_3, c231_3, e231, hx231_0, hx231_1, hx231_2, hx231_3, hx231_4, hx231_5, hl231_3, hi231_3⟩ := at_T25 HR0_3.out x4_1 p231 q231
              cases e231
              replace hx231_0 := (HB.out.cell (World.block_lt_of_cell? w _ hx231_0)).trans hx231_0
              replace hx231_1 := (HB.out.cell (World.block_lt_of_cell? w _ hx231_1)).trans hx231_1
              replace hx231_2 := (HB.out.cell (World.block_lt_of_cell? w _ hx231_2)).trans hx231_2
              replace hx231_3 := (HB.out.cell (World.block_lt_of_cell? w _ hx231_3)).trans hx231_3
              replace hx231_4 := (HB.out.cell (World.block_lt_of_cell? w _ hx231_4)).trans hx231_4
              replace hx231_5 := (HB.out.cell (World.block_lt_of_cell? w _ hx231_5)).trans hx231_5
              have HR231_3 := Aside0.mk hi231_3
              have HC231_3 := Aside0.mk hl231_3
              clear hi231_3 hl231_3
              replace p231 := eq_true p231
              replace q231 := eq_true q231
              go_wp2_with (first | ((with_reducible refine gate_callee (f := 29) rfl ?_); refine goesL_ (some 24) rfl rfl Try.func29 (by kernel_rfl) rfl #[.agg #[.int .u8 ((rd_T25 l0_3 x4_1).f0), .int .i64 ((rd_T25 l0_3 x4_1).f1), .string ((rd_T25 l0_3 x4_1).f2), .slice A231_3 ((rd_T25 l0_3 x4_1).f3).length c231_3, .int .i64 ((rd_T25 l0_3 x4_1).f4), .int .i64 ((rd_T25 l0_3 x4_1).f5)]] rfl (by (try simp only [List.map_toArray, List.map_cons, List.map_nil]); first | done | rfl | (simp only [List.length_drop, List.length_take]; rfl)) ?_; (with_reducible refine (ih k1 (by have := HK1.out; omega) ((rd_T25 l0_3 x4_1).f0) ((rd_T25 l0_3 x4_1).f1) ((rd_T25 l0_3 x4_1).f2) _ _ ((rd_T25 l0_3 x4_1).f3) ((rd_T25 l0_3 x4_1).f4) ((rd_T25 l0_3 x4_1).f5) t232 _ ?side1 ?side2 A11.out).mono ?_); (case side1 => repeat (first | exact (Kd.C_below HR231_3.out HB.out) | (with_reducible refine Kd.C_alloc ?_ _) | (with_reducible refine Kd.C_drewN ?_ _) | (with_reducible refine Kd.C_drew ?_))); (case side2 => exact HC231_3.out); rintro e w14 ⟨v233, rfl, ho0, hb⟩; refine ⟨_, rfl, ?_⟩; have n0_ := Aside0.mk (Kd.R_elder' (by (with_reducible repeat (first | apply Kd.R_alloc | apply Kd.R_drewN | apply Kd.R_drew)); exact HO_3.out) (Kd.R_base ho0) hb); have n1_ := Aside0.mk (Kd.R_lower (Kd.R_new' ho0 (Kd.R_lt (by (with_reducible repeat (first | apply Kd.R_alloc | apply Kd.R_drewN | apply Kd.R_drew)); exact HO_3.out))) (below_size (by repeat (first | (with_reducible first | exact HB.out | apply below_alloc | apply pw_below_drewN | apply below_drew1 | refine below_set ?_ GE227.out) | exact HB.out)))); have n2_ := Aside0.mk (blk_below (g := gb227) (o := .cells #[.int .u8 a0_0, .int .i64 a0_1, .string a0_2, .slice (some ad231) l0_3.length c0_3, .int .i64 a0_4, .int .i64 a0_5] 25 (0, 0)) (by (with_reducible repeat (first | refine blk_drewN ?_ _ | refine blk_drew ?_ | refine blk_alloc ?_ _)); exact BK227.out) hb); have n3_ := Aside0.mk (below_step (by repeat (first | (with_reducible first | exact HB.out | apply below_alloc | apply pw_below_drewN | apply below_drew1 | refine below_set ?_ GE227.out) | exact HB.out)) hb); clear HO_3; clear BK227; clear HB; have HO_3 := n0_; have HO234 := n1_; have BK227 := n2_; have HB := n3_; clear n0_ n1_ n2_ n3_; (try clear hb); (try clear hb2); (try clear hk); (try clear hi); (try clear ho0); obtain ⟨Ao16, co16, eo16⟩ := Kd.R_slice HO234.out; subst eo16) | ((with_reducible refine gate_builtin (b := .append) (xs := #[.tmp 18, .tmp 24]) rfl ?_); at_builtin; refine Kd.R_append_rows Kd.string (w0 := w) w.heap.size rfl (.tmp 18) (.tmp 24) 34 9 (.string ⟨#[]⟩) 16 rfl Try.underlying34 info9 rfl (by decide) (by omega) u3 x3_1 t232 _ _ _ (fun k_ => some k_ ≠ (.slice Ao16 t232.length co16 : Value).ownBlock) (fun _ => False) rfl rfl ?aO ?aR (fun _ _ h => h) (fun _ h => h.elim) ?aF ?aB ?aS ?aL ?_; (case aR => repeat (first | exact (Kd.R_reads' HO234.out).2.2 | (with_reducible refine Kd.C_alloc ?_ _) | (with_reducible refine Kd.C_drewN ?_ _) | (with_reducible refine Kd.C_drew ?_))); (case aB => exact (by repeat (first | (with_reducible first | exact HB.out | apply below_alloc | apply pw_below_drewN | apply below_drew1 | refine below_set ?_ GE227.out) | exact HB.out))); (case aF => exact (fun k_ hk => Kd.fresh' (Kd.R_lt (by (with_reducible repeat (first | apply Kd.R_alloc | apply Kd.R_drewN | apply Kd.R_drew)); exact HO234.out)) k_ hk)); (case aO => exact (by (with_reducible repeat (first | apply Kd.R_alloc | apply Kd.R_drewN | apply Kd.R_drew)); exact Kd.R_mono HO_3.out (fun _ hk => hk.2))); (case aS => exact (below_size (by repeat (first | (with_reducible first | exact HB.out | apply below_alloc | apply pw_below_drewN | apply below_drew1 | refine below_set ?_ GE227.out) | exact HB.out)))); (case aL => have := LMc12.out; omega); intro v236 w15 ho hb hg hat; rw [← Ny235.out] at ho; have n0_ := Aside0.mk (blk_grown (g := gb227) (o := .cells #[.int .u8 a0_0, .int .i64 a0_1, .string a0_2, .slice (some ad231) l0_3.length c0_3, .int .i64 a0_4, .int .i64 a0_5] 25 (0, 0)) (by (with_reducible repeat (first | refine blk_drewN ?_ _ | refine blk_drew ?_ | refine blk_alloc ?_ _)); exact BK227.out) hg (Kd.R_ne HO_3.out BK227.out (by decide))); have n1_ := Aside0.mk (Kd.R_after (ok := (fun _ => True)) (by (with_reducible repeat (first | apply Kd.R_alloc | apply Kd.R_drewN | apply Kd.R_drew)); exact HO234.out) hg hat); have n2_ := Aside0.mk (hb); have n3_ := Aside0.mk (ho); clear BK227; clear HO234; clear HB; clear HO_3; have BK227 := n0_; have HO234 := n1_; have HB := n2_; have HO237 := n3_; clear n0_ n1_ n2_ n3_; clear ho hb hg hat))
              go_roundg k1
              case measure => have := HK1.out; omega
              case rel => exact ⟨(y235), (wrap64 (x4_1 + 1)), (by first | rfl | (simp; done) | (simp [*]; done) | (simp [xbne_nil]; done)), H', ⟨by have := HK1.out; omega⟩, ⟨by (with_reducible repeat (first | apply Kd.R_alloc | apply Kd.R_drewN | apply Kd.R_drew)); exact Kd.R_mono HO237.out (fun _ hk => trivial)⟩, ⟨by (with_reducible repeat (first | refine blk_drewN ?_ _ | refine blk_drew ?_ | refine blk_alloc ?_ _)); exact BK227.out⟩, ⟨by repeat (first | (with_reducible first | exact HB.out | apply below_alloc | apply pw_below_drewN | apply below_drew1 | refine below_set ?_ GE227.out) | exact HB.out)⟩⟩
            · rw [if_neg c12] at H
              exact absurd H (by simp)
          · rw [if_neg c10] at H
            exact absurd H (by simp)
        · rw [if_neg c9] at H
          have c9b0 : decide (x4_1 < (l0_3.length : Int)) = false := decide_eq_false c9
          clear c9
          obtain rfl := Option.some.inj H
          have hcz17_0 : wr.cell? ⟨gb227, 0, none⟩ = some (.int .u8 a0_0) := (blk_cell BK227.out 0).trans rfl
          have hcz17_1 : wr.cell? ⟨gb227, 1, none⟩ = some (.int .i64 a0_1) := (blk_cell BK227.out 1).trans rfl
          have hcz17_2 : wr.cell? ⟨gb227, 2, none⟩ = some (.string a0_2) := (blk_cell BK227.out 2).trans rfl
          have hcz17_3 : wr.cell? ⟨gb227, 3, none⟩ = some (.slice A0_3 l0_3.length c0_3) := (blk_cell BK227.out 3).trans rfl
          have hcz17_4 : wr.cell? ⟨gb227, 4, none⟩ = some (.int .i64 a0_4) := (blk_cell BK227.out 4).trans rfl
          have hcz17_5 : wr.cell? ⟨gb227, 5, none⟩ = some (.int .i64 a0_5) := (blk_cell BK227.out 5).trans rfl
          have hfz17_0 := blk_frozen BK227.out 0
          have hfz17_1 := blk_frozen BK227.out 1
          have hfz17_2 := blk_frozen BK227.out 2
          have hfz17_3 := blk_frozen BK227.out 3
          have hfz17_4 := blk_frozen BK227.out 4
          have hfz17_5 := blk_frozen BK227.out 5
          go_wp2
          go_ret
          exact ⟨_, by first | rfl | (simp [errW_none, errW_some] <;> rfl) | (simp [*, errW_none, errW_some] <;> rfl), by (with_reducible repeat (first | apply Kd.R_alloc | apply Kd.R_drewN | apply Kd.R_drew)); exact HO_3.out, by repeat (first | (with_reducible first | exact HB.out | apply below_alloc | apply pw_below_drewN | apply below_drew1 | refine below_set ?_ GE227.out) | exact HB.out)⟩

end Go.Proofs.Ytnojokempdcikaa.PA

namespace Go.Proofs.Ytnojokempdcikaa.PA
open Go.RowKit Go.Proofs.YtnojokempdcikaaW.PrintWords Go.Proofs.YtnojokempdcikaaW.PrintLast Go.Proofs.YtnojokempdcikaaW.PrintMore
attribute [local go_sem] max2_int min2_int max_two min_two max_three min_three max_four min_four   -- for this text's walks alone
set_option linter.unusedVariables false
set_option linter.unusedSimpArgs false

/-! ### recoupref12_Names: function 11 -/
--OWNPART Derived.Laws.CopyOwn Derived.Deep.RegionLaw Derived.Deep.QuietTactic Derived.BigQuiet Derived.OwnWalk Derived.Deep.MidRow Derived.IntWalk Derived.Deep.AppendLies Derived.Maps.AppendAt
open Go.RowKit
theorem yw64 {x : Int} (h0 : -9223372036854775808 ≤ x) (h1 : x ≤ 9223372036854775807) : wrap64 x = x := by unfold wrap64; omega
/-- How many names at the front are less than s. -/
def cntLt (s : ByteArray) : List ByteArray → Nat
  | [] => 0
  | t :: ts => if Op.bytesLess t.toList s.toList = true then cntLt s ts + 1 else 0
/-- s in its place. -/
def insName (out : List ByteArray) (s : ByteArray) : List ByteArray := if out[cntLt s out]? = some s then out else out.take (cntLt s out) ++ s :: out.drop (cntLt s out)
theorem cntLt_le (s : ByteArray) : ∀ out : List ByteArray, cntLt s out ≤ out.length
  | [] => Nat.le_refl _
  | t :: ts => by
    simp only [cntLt, List.length_cons]
    have := cntLt_le s ts
    split <;> omega
theorem cntLt_less (s : ByteArray) : ∀ (out : List ByteArray) (k : Nat), k < cntLt s out → Op.bytesLess (out.getD k ⟨#[]⟩).toList s.toList = true
  | [], k, h => by simp [cntLt] at h
  | t :: ts, k, h => by
    simp only [cntLt] at h
    split at h
    · rename_i ht
      cases k with
      | zero => simpa using ht
      | succ k => simpa using cntLt_less s ts k (by omega)
    · omega
theorem cntLt_stop (s : ByteArray) : ∀ out : List ByteArray, cntLt s out < out.length → Op.bytesLess (out.getD (cntLt s out) ⟨#[]⟩).toList s.toList = false
  | [], h => by simp at h
  | t :: ts, h => by
    simp only [cntLt, List.length_cons] at h ⊢
    split
    · rename_i ht
      rw [if_pos ht] at h
      simpa using cntLt_stop s ts (by omega)
    · rename_i ht
      simpa using ht
theorem insName_len (out : List ByteArray) (s : ByteArray) : (insName out s).length ≤ out.length + 1 := by
  unfold insName
  have := cntLt_le s out
  split <;> simp <;> omega
theorem own_addr {w : World} {base e n c : Nat} {A : Option Addr} {xs : List ByteArray} (h : w.ownsRow base e 1 (.slice A n c) n (xs.map Value.string)) (h0 : 0 < n) : ∃ g, A = some ⟨g, 0, none⟩ ∧ base ≤ g ∧ n ≤ c ∧ c ≤ maxLen ∧ (∃ cur : Array Value, w.heap[g]? = some (.cells cur e (0, 0)) ∧ cur.size = c ∧ cur.toList.take n = xs.map Value.string) := by
  obtain ⟨_, ⟨h1, h2⟩ | ⟨g, cap, cur, h1, h2, h3, h4, h5, h6, h7⟩⟩ := h
  · omega
  · injection h1 with e1 e2 e3
    subst e1; subst e3
    exact ⟨g, rfl, h2, h4, h5, cur, h3, by simpa using h6, by simpa using h7⟩
theorem own_len {w : World} {base e n c : Nat} {A : Option Addr} {xs : List ByteArray} (h : w.ownsRow base e 1 (.slice A n c) n (xs.map Value.string)) : xs.length = n := by have := h.1; simpa using this
theorem own_cell {w : World} {base e n c g : Nat} {xs : List ByteArray} (h : w.ownsRow base e 1 (.slice (some ⟨g, 0, none⟩) n c) n (xs.map Value.string)) (j : Nat) (hj : j < n) : w.cell? ⟨g, j, none⟩ = some (.string (xs.getD j ⟨#[]⟩)) ∧ w.frozen? ⟨g, j, none⟩ = false := by
  obtain ⟨g', e1, _, _, _, cur, hg, hs, ht⟩ := own_addr h (by omega)
  injection e1 with e1; injection e1 with e1; subst e1
  have hl := own_len h
  have h1 : cur[j]? = some (.string (xs.getD j ⟨#[]⟩)) := by
    rw [← Array.getElem?_toList, ← List.getElem?_take_of_lt hj, ht, List.getElem?_map, List.getD_eq_getElem?_getD, List.getElem?_eq_getElem (by omega)]; rfl
  exact ⟨(blk_cell hg j).trans h1, blk_frozen hg j⟩
theorem own_set {w : World} {base e n c g : Nat} {xs : List ByteArray} (h : w.ownsRow base e 1 (.slice (some ⟨g, 0, none⟩) n c) n (xs.map Value.string)) (j : Nat) (hj : j < n) (s : ByteArray) : (w.setCell ⟨g, j, none⟩ (.string s)).ownsRow base e 1 (.slice (some ⟨g, 0, none⟩) n c) n ((xs.set j s).map Value.string) := by
  obtain ⟨g', e1, hb, hn, hc, cur, hg, hs, ht⟩ := own_addr h (by omega)
  injection e1 with e1; injection e1 with e1; subst e1
  refine ⟨by simpa using own_len h, .inr ⟨g, c, cur.setIfInBounds j (.string s), rfl, hb, blk_set hg j _, hn, hc, by simpa using hs, ?_⟩⟩
  rw [Nat.mul_one, Array.toList_setIfInBounds, List.take_set, ht, List.map_set]
/-- What a copy by one place, and a store, leave. -/
theorem own_splice {w' : World} {base e n c g : Nat} {xs : List ByteArray} {cur : Array Value} (z : ByteArray) (p : Nat) (hp : p ≤ n) (hc : n + 1 ≤ c) (hm : c ≤ maxLen) (hb : base ≤ g) (hl : xs.length = n) (hs : cur.size = c) (ht : cur.toList.take (n + 1) = (xs ++ [z]).map Value.string)
    (hg : w'.heap[g]? = some (.cells (splice cur.toList (p + 1) ((xs.drop p).map Value.string)).toArray e (0, 0))) : w'.ownsRow base e 1 (.slice (some ⟨g, 0, none⟩) (n + 1) c) (n + 1) ((xs.take p ++ ((xs ++ [z]).getD p ⟨#[]⟩ :: xs.drop p)).map Value.string) := by
  refine ⟨by simp; omega, .inr ⟨g, c, _, rfl, hb, hg, hc, hm, ?_, ?_⟩⟩
  · simp only [List.size_toArray, splice, List.length_append, List.length_take, List.length_map, List.length_drop, Array.length_toList]; omega
  · simp only [Nat.mul_one, splice]
    have hlen : (cur.toList.take (p + 1) ++ (xs.drop p).map Value.string).length = n + 1 := by simp; omega
    rw [← List.append_assoc, ← hlen, List.take_left]
    have h1 : cur.toList.take (p + 1) = ((xs ++ [z]).take (p + 1)).map Value.string := by
      rw [List.map_take, ← ht, List.take_take, Nat.min_eq_left (by omega)]
    have h2 : (xs ++ [z]).take (p + 1) = xs.take p ++ [(xs ++ [z]).getD p ⟨#[]⟩] := by
      rw [List.take_succ_eq_append_getElem (by simp; omega), List.getD_eq_getElem?_getD, List.getElem?_eq_getElem (by simp; omega), List.take_append_of_le_length (by omega)]; rfl
    rw [h1, h2]; simp
theorem ins_set (xs : List ByteArray) (z s : ByteArray) (p : Nat) (hp : p ≤ xs.length) : (xs.take p ++ ((xs ++ [z]).getD p ⟨#[]⟩ :: xs.drop p)).set p s = xs.take p ++ s :: xs.drop p := by
  rw [List.set_append_right _ _ (by simp; exact Nat.min_le_left _ _)]; simp [Nat.min_eq_left hp]
theorem own_move {w w' : World} {base e n c g : Nat} {xs : List ByteArray} (h : w.ownsRow base e 1 (.slice (some ⟨g, 0, none⟩) n c) n (xs.map Value.string)) (hg : w'.heap[g]? = w.heap[g]?) : w'.ownsRow base e 1 (.slice (some ⟨g, 0, none⟩) n c) n (xs.map Value.string) := by
  obtain ⟨h0, ⟨h1, h2⟩ | ⟨g', cap, cur, h1, h2, h3, h4, h5, h6, h7⟩⟩ := h
  · cases h1
  · injection h1 with e1 e2 e3
    injection e1 with e1; injection e1 with e1
    subst e1
    exact ⟨h0, .inr ⟨g, cap, cur, by rw [e3], h2, hg.trans h3, h4, h5, h6, h7⟩⟩
/-- A cut from m on, and where it lies. -/
theorem cut_at {P : Program} (t e : TypeId) {i : TypeInfo} (ht : P.underlying t = some (.slice e)) (hi : P.info? e = some i) (hsz : i.size = 1) (g n c m : Nat) (hm : m ≤ n) (hc : n ≤ c) :
    ∃ A' : Option Addr, (∀ W : World, (Instr.slice t (.slice (some ⟨g, 0, none⟩) n c) (some (.int .i64 (m : Int))) none none).run P W = .ok (.slice A' (n - m) (c - m)) W) ∧ (m < n → A' = some ⟨g, m, none⟩) := by
  refine ⟨if c = m then some ⟨g, 0, none⟩ else (some (⟨g, 0, none⟩ : Addr)).map (·.add m), fun W => ?_, fun h => ?_⟩
  · have hel : P.elem t = e := by simp [Program.elem, ht]
    have hu : P.underlying t = some (.slice (P.elem t)) := by rw [hel]; exact ht
    rw [run_slice_l W t (some ⟨g, 0, none⟩) n c hu .i64 (m : Int) (Int.natCast_nonneg _) (by omega), hel]
    simp [sizeOf, typeInfo, hi, hsz, sliced, Result.andThen]
  · rw [if_neg (by omega)]
    simp only [Option.map_some, Addr.add]
    by_cases h0 : m = 0
    · subst h0; rfl
    · rw [if_neg h0, Nat.zero_add]
theorem min_cut (n p : Nat) : n - p = Nat.min (n + 1 - p) (n - p) := by
  show n - p = min (n + 1 - p) (n - p)
  omega
theorem blk_far_eq {w : World} {g k j : Nat} {v : Value} (h : k ≠ g) : (w.setCell ⟨g, j, none⟩ v).heap[k]? = w.heap[k]? := Below.heap_setCell _ _ _ k h
theorem own_far {w : World} {base e n c k gl : Nat} {A : Option Addr} {xs : List Value} (h : w.ownsRow base e 1 (.slice A n c) n xs) (hne : ∀ g, A = some ⟨g, 0, none⟩ → gl < g) (hk : Value.ownBlock (.slice A n c) = some k) : gl < k := by
  obtain ⟨_, ⟨h1, _⟩ | ⟨g, cap, cur, h1, _⟩⟩ := h
  · injection h1 with e1; subst e1; cases hk
  · injection h1 with e1; subst e1
    have h3 : some g = some k := hk
    injection h3 with h3; subst h3
    exact hne g rfl
theorem own_lt_heap {w : World} {base e n c g : Nat} {xs : List ByteArray} (h : w.ownsRow base e 1 (.slice (some ⟨g, 0, none⟩) n c) n (xs.map Value.string)) (h0 : 0 < n) : g < w.heap.size := by
  obtain ⟨g', e1, _, _, _, cur, hg, _⟩ := own_addr h h0
  injection e1 with e1; injection e1 with e1
  subst e1
  exact (Array.getElem?_eq_some_iff.1 hg).1
def recoupref12_Names.f (k : Nat) (a0_0 a0_1 : Int) (a0_2 : ByteArray) (l0_3 : List S25) (a0_4 a0_5 : Int) : Option (List ByteArray × Int) :=
  (recoupref10_MayExpr.f k a0_0 a0_1 a0_2 l0_3 a0_4 a0_5).bind fun b => if b = true then ((recoupref12_all.f k a0_0 a0_1 a0_2 l0_3 a0_4 a0_5).bind fun l => if l.length ≤ 8796093022200 then some (l.foldl insName [], 0) else none) else some ([], 2)
theorem recoupref12_Names.mono : ∀ a0 a1 a2 a3 a4 a5 k, LeO (recoupref12_Names.f k a0 a1 a2 a3 a4 a5) (recoupref12_Names.f (k + 1) a0 a1 a2 a3 a4 a5) := by
  intros
  unfold recoupref12_Names.f
  refine LeO.bind (recoupref10_MayExpr.mono _ _ _ _ _ _ _) fun _ => LeO.ite (LeO.bind (recoupref12_all.mono _ _ _ _ _ _ _) fun _ => LeO.refl _) (LeO.refl _)
theorem str_info : (Try.prog.info? 9).map (fun i => (i.zero, i.size, i.bytes)) = some (some (.string (⟨#[]⟩ : ByteArray)), 1, 16) := by kernel_rfl
set_option maxHeartbeats 8000000 in
set_option maxRecDepth 100000 in
theorem recoupref12_Names.calls (k : Nat) (a0_0 a0_1 : Int) (a0_2 : ByteArray) (A0_3 : Option Addr) (c0_3 : Nat) (l0_3 : List S25) (a0_4 a0_5 : Int) (r1 : List ByteArray) (r2 : Int) (w : World) (hr0_3 : Kd.C k25 w A0_3 l0_3.length l0_3) (hc0_3 : l0_3.length ≤ c0_3) (h : recoupref12_Names.f k a0_0 a0_1 a0_2 l0_3 a0_4 a0_5 = some (r1, r2)) :
    Calls Try.prog 11 #[.agg #[.int .u8 a0_0, .int .i64 a0_1, .string a0_2, .slice A0_3 l0_3.length c0_3, .int .i64 a0_4, .int .i64 a0_5]] w fun e w' => ∃ v0_ : Value, e = .returned (.tuple #[v0_, .int .i64 r2]) ∧ Kd.R Kd.string 9 w' w.heap.size (fun _ => True) v0_ r1 ∧ Below w.heap.size w w' := by
  have HR := Aside0.mk hr0_3
  have HC := Aside0.mk hc0_3
  have HB := Aside0.mk (Below.refl w.heap.size w)
  unfold recoupref12_Names.f at h
  obtain ⟨b, hb, h⟩ := Option.bind_eq_some_iff.1 h
  have HM := Aside0.mk hb
  clear hr0_3 hc0_3 hb
  cases b with
  | false =>
    have e := Option.some.inj h
    obtain ⟨rfl, rfl⟩ := Prod.mk.inj e
    clear h e
    go_enter Try.func11, Try.ntmps11
    go_wp2_with (first | ((with_reducible refine gate_dst (N := 1) rfl ?_); refine box_event ?hg (N := 1) ?hd (cs := #[.int .u8 a0_0, .int .i64 a0_1, .string a0_2, .slice A0_3 l0_3.length c0_3, .int .i64 a0_4, .int .i64 a0_5]) (t := 25) ?hr ?_; (case hd => rfl); (case hg => rfl); (case hr => first | (go_simp; done) | (go_simp; rfl)); intro gx hg w1 hbox hb; have BX := Aside0.mk hbox; have HB1 := Aside0.mk hb; have hx0 : w1.cell? ⟨gx, 0, none⟩ = some (.int .u8 a0_0) := (blk_cell hbox 0).trans rfl; have hx1 : w1.cell? ⟨gx, 1, none⟩ = some (.int .i64 a0_1) := (blk_cell hbox 1).trans rfl; have hx2 : w1.cell? ⟨gx, 2, none⟩ = some (.string a0_2) := (blk_cell hbox 2).trans rfl; have hx3 : w1.cell? ⟨gx, 3, none⟩ = some (.slice A0_3 l0_3.length c0_3) := (blk_cell hbox 3).trans rfl; have hx4 : w1.cell? ⟨gx, 4, none⟩ = some (.int .i64 a0_4) := (blk_cell hbox 4).trans rfl; have hx5 : w1.cell? ⟨gx, 5, none⟩ = some (.int .i64 a0_5) := (blk_cell hbox 5).trans rfl; clear hbox hb hg) | (go_at_call 21; refine (recoupref10_MayExpr.calls k a0_0 a0_1 a0_2 A0_3 c0_3 l0_3 a0_4 a0_5 false _ (Kd.C_below HR.out HB1.out) HC.out HM.out).mono ?_; rintro e w2 ⟨rfl, hb⟩; have HB2 := Aside0.mk (below_step HB1.out hb); have hy0 : w2.cell? ⟨gx, 0, none⟩ = some (.int .u8 a0_0) := (blk_cell (blk_below BX.out hb) 0).trans rfl; have hy1 : w2.cell? ⟨gx, 1, none⟩ = some (.int .i64 a0_1) := (blk_cell (blk_below BX.out hb) 1).trans rfl; have hy2 : w2.cell? ⟨gx, 2, none⟩ = some (.string a0_2) := (blk_cell (blk_below BX.out hb) 2).trans rfl; have hy3 : w2.cell? ⟨gx, 3, none⟩ = some (.slice A0_3 l0_3.length c0_3) := (blk_cell (blk_below BX.out hb) 3).trans rfl; have hy4 : w2.cell? ⟨gx, 4, none⟩ = some (.int .i64 a0_4) := (blk_cell (blk_below BX.out hb) 4).trans rfl; have hy5 : w2.cell? ⟨gx, 5, none⟩ = some (.int .i64 a0_5) := (blk_cell (blk_below BX.out hb) 5).trans rfl; clear hb))
    go_ret2
    exact ⟨_, rfl, Kd.R_nil _ _ _ _ _, HB2.out⟩
  | true =>
    rw [if_pos rfl] at h
    obtain ⟨l, hl, h⟩ := Option.bind_eq_some_iff.1 h
    have HL := Aside0.mk hl
    clear hl
    by_cases hbd : l.length ≤ 8796093022200
    · rw [if_pos hbd] at h
      have e := Option.some.inj h
      obtain ⟨rfl, rfl⟩ := Prod.mk.inj e
      clear h e
      have HBD := Aside0.mk hbd
      clear hbd
      obtain ⟨i0, hi, hz0, hz1, hz2⟩ := info_parts str_info
      go_enter Try.func11, Try.ntmps11
      go_wp2_with (first | ((with_reducible refine gate_dst (N := 1) rfl ?_); refine box_event ?hg (N := 1) ?hd (cs := #[.int .u8 a0_0, .int .i64 a0_1, .string a0_2, .slice A0_3 l0_3.length c0_3, .int .i64 a0_4, .int .i64 a0_5]) (t := 25) ?hr ?_; (case hd => rfl); (case hg => rfl); (case hr => first | (go_simp; done) | (go_simp; rfl)); intro gx hg w1 hbox hb; have BX := Aside0.mk hbox; have HB1 := Aside0.mk hb; have hx0 : w1.cell? ⟨gx, 0, none⟩ = some (.int .u8 a0_0) := (blk_cell hbox 0).trans rfl; have hx1 : w1.cell? ⟨gx, 1, none⟩ = some (.int .i64 a0_1) := (blk_cell hbox 1).trans rfl; have hx2 : w1.cell? ⟨gx, 2, none⟩ = some (.string a0_2) := (blk_cell hbox 2).trans rfl; have hx3 : w1.cell? ⟨gx, 3, none⟩ = some (.slice A0_3 l0_3.length c0_3) := (blk_cell hbox 3).trans rfl; have hx4 : w1.cell? ⟨gx, 4, none⟩ = some (.int .i64 a0_4) := (blk_cell hbox 4).trans rfl; have hx5 : w1.cell? ⟨gx, 5, none⟩ = some (.int .i64 a0_5) := (blk_cell hbox 5).trans rfl; clear hbox hb hg) | (go_at_call 21; refine (recoupref10_MayExpr.calls k a0_0 a0_1 a0_2 A0_3 c0_3 l0_3 a0_4 a0_5 true _ (Kd.C_below HR.out HB1.out) HC.out HM.out).mono ?_; rintro e w2 ⟨rfl, hb⟩; have HB2 := Aside0.mk (below_step HB1.out hb); have hy0 : w2.cell? ⟨gx, 0, none⟩ = some (.int .u8 a0_0) := (blk_cell (blk_below BX.out hb) 0).trans rfl; have hy1 : w2.cell? ⟨gx, 1, none⟩ = some (.int .i64 a0_1) := (blk_cell (blk_below BX.out hb) 1).trans rfl; have hy2 : w2.cell? ⟨gx, 2, none⟩ = some (.string a0_2) := (blk_cell (blk_below BX.out hb) 2).trans rfl; have hy3 : w2.cell? ⟨gx, 3, none⟩ = some (.slice A0_3 l0_3.length c0_3) := (blk_cell (blk_below BX.out hb) 3).trans rfl; have hy4 : w2.cell? ⟨gx, 4, none⟩ = some (.int .i64 a0_4) := (blk_cell (blk_below BX.out hb) 4).trans rfl; have hy5 : w2.cell? ⟨gx, 5, none⟩ = some (.int .i64 a0_5) := (blk_cell (blk_below BX.out hb) 5).trans rfl; clear hb) | (go_at_call 29; refine (recoupref12_all.calls k a0_0 a0_1 a0_2 A0_3 c0_3 l0_3 a0_4 a0_5 l _ (Kd.C_below HR.out HB2.out) HC.out HL.out).mono ?_; rintro e w3 ⟨v0, rfl, ho, hb⟩; have HB3 := Aside0.mk (below_step HB2.out hb); obtain ⟨A4, c4, he⟩ := Kd.R_slice ho; subst he; have HO := Aside0.mk (Kd.own_of_R (Kd.R_lower ho HB2.out.size)); clear ho hb))
      clear HR HC HM HL HB1 HB2 BX hx0 hx1 hx2 hx3 hx4 hx5 hy0 hy1 hy2 hy3 hy4 hy5
      go_loopg [5, 6, 7] l.length (fun q v5 v6 v7 wx => ∃ (i : Nat) (out : List ByteArray) (A5 : Option Addr) (c5 : Nat), i + q = l.length ∧ v6 = .int .i64 i ∧ v5 = .slice A5 out.length c5 ∧ Aside0 (wx.ownsRow w.heap.size 9 1 (.slice A5 out.length c5) out.length (out.map Value.string)) ∧ Aside0 (wx.ownsRow w.heap.size 9 1 (.slice A4 l.length c4) l.length (l.map Value.string)) ∧ Aside0 (∀ g g', A5 = some ⟨g, 0, none⟩ → A4 = some ⟨g', 0, none⟩ → g' < g) ∧ Aside0 (out = (l.take i).foldl insName []) ∧ Aside0 (out.length ≤ i) ∧ Aside0 (Below w.heap.size w wx))
      case atStart => exact ⟨0, [], none, 0, by omega, rfl, rfl, ⟨World.ownsRow_nil _ _ _ _⟩, HO, ⟨fun g g' e => by cases e⟩, ⟨rfl⟩, ⟨Nat.le_refl _⟩, HB3⟩
      case round =>
        clear HO HB3
        obtain ⟨i, out, A5, c5, hi0, rfl, rfl, HW, HO, HNE, HF, HI, HB3⟩ := hrel
        cases gk with
        | zero =>
          obtain rfl : i = l.length := by omega
          go_wp2
          go_ret2
          refine ⟨_, rfl, ?_, HB3.out⟩
          have hf := HF.out
          rw [List.take_length] at hf
          rw [← hf]
          exact Kd.R_of_own HW.out (fun _ _ => trivial)
        | succ q =>
          have hik : i < l.length := by omega
          obtain ⟨gl, e4, hgl, _, _, _⟩ := own_addr HO.out (by omega)
          subst e4
          obtain ⟨s, hs⟩ : ∃ s, l.getD i ⟨#[]⟩ = s := ⟨_, rfl⟩
          have hlt : decide ((i : Int) < (l.length : Int)) = true := decide_eq_true (by omega)
          have HS := Aside0.mk hs
          have HII := Aside0.mk hik
          have HFS := Aside0.mk (show (l.take (i + 1)).foldl insName [] = insName out s by rw [← List.take_append_getElem hik, List.foldl_append, ← HF.out]; simp only [List.foldl_cons, List.foldl_nil]; rw [← hs, List.getD_eq_getElem?_getD, List.getElem?_eq_getElem hik]; rfl)
          have HGL := Aside0.mk hgl
          clear hs hgl HF
          go_wp2
          obtain ⟨wo, rfl⟩ : ∃ wo : World, wo = wr := ⟨_, rfl⟩
          go_loopg [7] (cntLt s out) (fun q v7 wx => ∃ (p : Nat), p + q = cntLt s out ∧ v7 = .int .i64 p ∧ Aside0 (wx.ownsRow w.heap.size 9 1 (.slice A5 out.length c5) out.length (out.map Value.string)) ∧ Aside0 (wx.ownsRow w.heap.size 9 1 (.slice (some ⟨gl, 0, none⟩) l.length c4) l.length (l.map Value.string)) ∧ Aside0 (Below w.heap.size w wx))
          case atStart => exact ⟨0, by omega, rfl, HW, HO, HB3⟩
          case round =>
            clear HW HO HB3
            obtain ⟨p, hp, rfl, HW, HO, HB3⟩ := hrel
            have hcl := cntLt_le s out
            cases gk with
            | succ q =>
              have hpo : p < out.length := by omega
              obtain ⟨go, e5, _, _, _, _⟩ := own_addr HW.out (by omega)
              subst e5
              have hc1 := (own_cell HW.out p hpo).1
              have hc2 : wr.cell? ⟨gl, i, none⟩ = some (.string s) := by rw [(own_cell HO.out i HII.out).1, HS.out]
              have hl1 := cntLt_less s out p (by omega)
              have d1 : decide ((p : Int) < (out.length : Int)) = true := decide_eq_true (by omega)
              have d2 : decide (p < out.length) = true := decide_eq_true hpo
              have b1 : (0 : Int) ≤ (p : Int) := by omega
              have b2 : (p : Int) < (out.length : Int) := by omega
              have b3 : (i : Int) < (l.length : Int) := by have := HII.out; omega
              generalize out.getD p ⟨#[]⟩ = t at hc1 hl1
              go_wp2
              go_quiet (fail)
              go_wp2
              go_roundg q
              case measure => omega
              case rel => exact ⟨p + 1, by omega, (by have h1 := HI.out; have h2 := HII.out; have h3 := HBD.out; rw [yw64 (by omega) (by omega)]; simp), ⟨pw_own_drewN HW.out _⟩, ⟨pw_own_drewN HO.out _⟩, ⟨pw_below_drewN HB3.out _⟩⟩
            | zero =>
              have hpe : p = cntLt s out := by omega
              have b3 : (i : Int) < (l.length : Int) := by have := HII.out; omega
              have hc2 : wr.cell? ⟨gl, i, none⟩ = some (.string s) := by rw [(own_cell HO.out i HII.out).1, HS.out]
              by_cases hpo : p < out.length
              · obtain ⟨go, e5, _, _, _, _⟩ := own_addr HW.out (by omega)
                subst e5
                have hc1 := (own_cell HW.out p hpo).1
                have hl1 : Op.bytesLess (out.getD p ⟨#[]⟩).toList s.toList = false := by rw [hpe]; exact cntLt_stop s out (by omega)
                have hat : out[p]? = some (out.getD p ⟨#[]⟩) := by rw [List.getD_eq_getElem?_getD, List.getElem?_eq_getElem hpo]; rfl
                have d1 : decide ((p : Int) < (out.length : Int)) = true := decide_eq_true (by omega)
                have d2 : decide (p < out.length) = true := decide_eq_true hpo
                have b1 : (0 : Int) ≤ (p : Int) := by omega
                have b2 : (p : Int) < (out.length : Int) := by omega
                generalize out.getD p ⟨#[]⟩ = t at hc1 hl1 hat
                have HAT := Aside0.mk hat
                have HPE := Aside0.mk hpe
                have HPO := Aside0.mk hpo
                clear hat hpe hcl hpo
                by_cases ht : t = s
                · have HT := Aside0.mk ht
                  have hq : (t.toList == s.toList) = true := by rw [ht]; simp
                  clear ht
                  go_wp2
                  go_quiet (fail)
                  go_wp2
                  go_quiet (fail)
                  go_wp2
                  go_roundg q
                  case measure => omega
                  case rel => exact ⟨i + 1, out, _, c5, by omega, (by have h2 := HII.out; have h3 := HBD.out; rw [yw64 (by omega) (by omega)]; simp), rfl, ⟨pw_own_drewN HW.out _⟩, ⟨pw_own_drewN HO.out _⟩, HNE, ⟨by rw [HFS.out]; unfold insName; rw [← HPE.out, HAT.out, HT.out, if_pos rfl]⟩, ⟨by have := HI.out; omega⟩, ⟨pw_below_drewN HB3.out _⟩⟩
                · have HT := Aside0.mk ht
                  have hq : (t.toList == s.toList) = false := beq_eq_false_iff_ne.2 (fun h => ht (by rw [Go.ByteArray.toList_eq, Go.ByteArray.toList_eq] at h; exact ByteArray.ext (Array.toList_inj.mp h)))
                  clear ht
                  have HIS := Aside0.mk (show insName out s = out.take p ++ s :: out.drop p by unfold insName; rw [← HPE.out, if_neg (by rw [HAT.out]; intro e; injection e with e; exact HT.out e)])
                  go_wp2
                  go_quiet (fail)
                  go_wp2
                  go_quiet (fail)
                  clear hc1 hl1 hq d1 d2
                  go_wp2_with (first | (at_builtin; refine wpList_append_lies _ rfl _ _ 34 rfl w.heap.size 9 i0 (.string (⟨#[]⟩ : ByteArray)) 1 16 Try.underlying34 hi hz0 hz1 hz2 rfl (by decide) _ _ _ rfl ((pw_own_drewN HW.out _).alloc _) ⟨_, 0, none⟩ 1 1 [.string (⟨#[]⟩ : ByteArray)] rfl rfl ?c1 ?c2 (by decide) ?c3 ?c4 ?c5 _ rfl ?_; (case c1 => exact cell_one_new _ _ _); (case c2 => simp [Value.oneCell']); (case c3 => have h1 := HI.out; have h2 := HII.out; have h3 := HBD.out; unfold maxLen; omega); (case c4 => have h1 := HI.out; have h2 := HII.out; have h3 := HBD.out; omega); (case c5 => have := HB3.out.size; simp; omega); intro g1 cap1 w1 hown1 hgrow1 hlies1 hlt1))
                  have hnd : gl < g1 := by
                    rcases hlies1 with h | h
                    · have h2 := HNE.out go gl rfl rfl; have h3 : some go = some g1 := h; injection h3 with h3; omega
                    · rw [h]; have := own_lt_heap HO.out (by have := HII.out; omega); simp; omega
                  have ho1 : w1.ownsRow w.heap.size 9 1 (.slice (some ⟨gl, 0, none⟩) l.length c4) l.length (l.map Value.string) := ((pw_own_drewN HO.out _).alloc _).kept hgrow1 (.inr (fun e => by have h2 := HNE.out go gl rfl rfl; have h3 : some gl = some go := e; injection h3 with h3; omega))
                  have hb1w := (below_alloc (pw_below_drewN HB3.out _) _).grown hgrow1 (by have := HB3.out.size; simp; omega) (fun k e => by have h2 := HNE.out go gl rfl rfl; have h3 : some go = some k := e; injection h3 with h3; have := HGL.out; omega)
                  have hown1' : w1.ownsRow w.heap.size 9 1 (.slice (some ⟨g1, 0, none⟩) (out.length + 1) cap1) (out.length + 1) ((out ++ [(⟨#[]⟩ : ByteArray)]).map Value.string) := by rw [List.map_append]; exact hown1
                  obtain ⟨_, eg, hbg, hnc, hcm, cur, hcur, hcs, hct⟩ := own_addr hown1' (by omega)
                  injection eg with eg; injection eg with eg; subst eg
                  have hpl : p ≤ out.length := by have := cntLt_le s out; have := HPE.out; omega
                  obtain ⟨A57, h57, ha57⟩ := cut_at (P := Try.prog) 34 9 Try.underlying34 hi hz1 g1 (out.length + 1) cap1 (p + 1) (by omega) hnc
                  obtain ⟨A60, h60, ha60⟩ := cut_at (P := Try.prog) 34 9 Try.underlying34 hi hz1 g1 (out.length + 1) cap1 p (by omega) hnc
                  rw [show ((p + 1 : Nat) : Int) = (p : Int) + 1 by omega] at h57
                  have HH := Aside0.mk (And.intro hnd (And.intro ho1 (And.intro hb1w (And.intro hnc (And.intro hcm (And.intro hcur (And.intro hcs hct)))))))
                  have HA := Aside0.mk (And.intro ha57 ha60)
                  have HW1 := Aside0.mk hown1'
                  have HPL := Aside0.mk hpl
                  have HBG := Aside0.mk hbg
                  clear hnd ho1 hb1w hown1 hown1' hgrow1 hlies1 hlt1 hnc hcm hcur hcs hct ha57 ha60 hpl hbg b1 b2 b3
                  obtain ⟨cs, hcsd⟩ : ∃ cs : List Value, cs = (out.drop p).map Value.string := ⟨_, rfl⟩
                  have hsz1 : (Try.prog.info? 9).map (·.size) = some 1 := by kernel_rfl
                  have C1 := Aside0.mk (show w1.drew.heap[g1]? = some (.cells cur.toList.toArray 9 (0, 0)) by rw [Array.toArray_toList]; exact blk_drew HH.out.2.2.2.2.2.1)
                  have C2 := Aside0.mk (show cs.length = Nat.min (out.length + 1 - p) (out.length - p) by rw [hcsd, List.length_map, List.length_drop]; exact min_cut _ _)
                  have C3 := Aside0.mk (show 0 < cs.length → A57 = some ⟨g1, p + 1, none⟩ ∧ ∃ ad, A60 = some ad ∧ ∀ j v, cs[j]? = some v → w1.drew.cell? (ad.add j) = some v by
                    intro h
                    rw [hcsd] at h
                    simp only [List.length_map, List.length_drop] at h
                    refine ⟨HA.out.1 (by omega), ⟨g1, p, none⟩, HA.out.2 (by omega), fun j v hj => ?_⟩
                    rw [hcsd, List.getElem?_map, List.getElem?_drop] at hj
                    have hjl : p + j < out.length := by
                      rcases Nat.lt_or_ge (p + j) out.length with h2 | h2
                      · exact h2
                      · rw [List.getElem?_eq_none h2] at hj; cases hj
                    have hcell := (own_cell (w := w1) HW1.out (p + j) (by omega)).1
                    rw [Addr.add_mid]
                    have hge : (out ++ [(⟨#[]⟩ : ByteArray)]).getD (p + j) ⟨#[]⟩ = out.getD (p + j) ⟨#[]⟩ := by rw [List.getD_eq_getElem?_getD, List.getElem?_append_left hjl, ← List.getD_eq_getElem?_getD]
                    rw [hge] at hcell
                    rw [List.getElem?_eq_getElem hjl] at hj
                    rw [List.getD_eq_getElem?_getD, List.getElem?_eq_getElem hjl] at hcell
                    have hj2 : some (Value.string out[p + j]) = some v := hj
                    exact hcell.trans hj2)
                  have C4 := Aside0.mk (show p + 1 + cs.length ≤ cur.toList.length by rw [hcsd]; have := HH.out.2.2.2.2.2.2.1; have := HH.out.2.2.2.1; have := HPL.out; simp; omega)
                  have C5 := Aside0.mk (show ∀ v ∈ cs, v.oneCell' = true by rw [hcsd]; intro v hv; obtain ⟨x, _, rfl⟩ := List.mem_map.1 hv; rfl)
                  have C6 := Aside0.mk (show gl + 1 ≤ g1 from HH.out.1)
                  have HCS := Aside0.mk hcsd
                  clear hcsd
                  obtain ⟨hwr, hwr2⟩ : IntKind.i64.wrap ((p : Int) + 1) = (p : Int) + 1 ∧ wrap64 ((p : Int) + 1) = (p : Int) + 1 := by
                    have h1 := HI.out; have h2 := HII.out; have h3 := HBD.out; have h4 := HPL.out
                    exact ⟨IntWalk.i64_in _ (by omega), yw64 (by omega) (by omega)⟩
                  go_region_law (refine step_copy_splice rfl (.tmp 57) (.tmp 60) 34 34 rfl 9 Try.underlying34 hsz1 A57 A60 (out.length - p) (cap1 - (p + 1)) (out.length + 1 - p) (cap1 - p) (by simp [Act.eval, Act.put]) (by simp [Act.eval, Act.put]) g1 (p + 1) cur.toList 9 C1.out cs C2.out C3.out C4.out C5.out (gl + 1) w1.drew (Below.refl _ _) C6.out ?_; intro w2 hg2 hb2)
                  have HW2 := Aside0.mk (own_splice (⟨#[]⟩ : ByteArray) p HPL.out HH.out.2.2.2.1 HH.out.2.2.2.2.1 HBG.out rfl HH.out.2.2.2.2.2.2.1 HH.out.2.2.2.2.2.2.2 (by have h := hg2.out; rw [HCS.out] at h; exact h))
                  have HO2 := Aside0.mk (own_move (w' := w2) HH.out.2.1 (hb2.block gl (by omega)))
                  have HB2w := Aside0.mk ((below_drew1 HH.out.2.2.1).trans (hb2.mono (B' := w.heap.size) (by have := HGL.out; omega)))
                  clear hg2 hb2 hwr hwr2 h57 h60 hsz1
                  have hs1 : w2.cell? ⟨gl, i, none⟩ = some (.string s) := by rw [(own_cell HO2.out i HII.out).1, HS.out]
                  have hs2 := (own_cell HW2.out p (by have := HPL.out; omega)).1
                  have hs3 := (own_cell HW2.out p (by have := HPL.out; omega)).2
                  have b3 : (i : Int) < (l.length : Int) := by have := HII.out; omega
                  have b4 : (p : Int) < ((out.length + 1 : Nat) : Int) := by have := HPL.out; omega
                  have b5 : (0 : Int) ≤ (p : Int) := by omega
                  go_wp2
                  have HLEN := Aside0.mk (show (insName out s).length = out.length + 1 by rw [HIS.out]; have := HPL.out; simp; omega)
                  go_roundg q
                  case measure => omega
                  case rel =>
                    refine ⟨i + 1, insName out s, _, cap1, by omega, (by have h2 := HII.out; have h3 := HBD.out; rw [yw64 (by omega) (by omega)]; simp), (by rw [HLEN.out]), ⟨?_⟩, ⟨?_⟩, ⟨fun g g' e1 e2 => ?_⟩, ⟨HFS.out.symm⟩, ⟨by have h1 := HLEN.out; have h2 := HI.out; omega⟩, ⟨below_set HB2w.out HBG.out⟩⟩
                    · have h := own_set HW2.out p (by have := HPL.out; omega) s
                      rw [ins_set _ _ _ _ HPL.out, ← HIS.out] at h
                      rw [HLEN.out]; exact h
                    · exact own_move HO2.out (by have h := C6.out; exact blk_far_eq (by omega))
                    · have h := C6.out
                      injection e1 with e1; injection e1 with e1; injection e2 with e2; injection e2 with e2
                      omega
              · have hpl : p = out.length := by omega
                have HIS := Aside0.mk (show insName out s = out.take p ++ s :: out.drop p by unfold insName; rw [← hpe, hpl, if_neg (by simp)])
                have d1 : decide ((p : Int) < (out.length : Int)) = false := decide_eq_false (by omega)
                have d2 : decide (p < out.length) = false := decide_eq_false (by omega)
                have HPE := Aside0.mk hpe
                have b1 : (0 : Int) ≤ (p : Int) := by omega
                clear hpe hcl hpo hpl
                go_wp2
                go_quiet (fail)
                go_wp2
                go_quiet (fail)
                clear d1 d2
                go_wp2_with (first | (at_builtin; refine wpList_append_lies _ rfl _ _ 34 rfl w.heap.size 9 i0 (.string (⟨#[]⟩ : ByteArray)) 1 16 Try.underlying34 hi hz0 hz1 hz2 rfl (by decide) _ _ _ rfl ((pw_own_drewN HW.out _).alloc _) ⟨_, 0, none⟩ 1 1 [.string (⟨#[]⟩ : ByteArray)] rfl rfl ?c1 ?c2 (by decide) ?c3 ?c4 ?c5 _ rfl ?_; (case c1 => exact cell_one_new _ _ _); (case c2 => simp [Value.oneCell']); (case c3 => have h1 := HI.out; have h2 := HII.out; have h3 := HBD.out; unfold maxLen; omega); (case c4 => have h1 := HI.out; have h2 := HII.out; have h3 := HBD.out; omega); (case c5 => have := HB3.out.size; simp; omega); intro g1 cap1 w1 hown1 hgrow1 hlies1 hlt1))
                have hnd : gl < g1 := by
                  rcases hlies1 with h | h
                  · exact own_far HW.out (fun go e5 => HNE.out go gl e5 rfl) h
                  · rw [h]; have := own_lt_heap HO.out (by have := HII.out; omega); simp; omega
                have ho1 : w1.ownsRow w.heap.size 9 1 (.slice (some ⟨gl, 0, none⟩) l.length c4) l.length (l.map Value.string) := ((pw_own_drewN HO.out _).alloc _).kept hgrow1 (.inr (fun e => by have h2 := own_far HW.out (fun go e5 => HNE.out go gl e5 rfl) (e.symm.trans rfl : _ = some gl); omega))
                have hb1w := (below_alloc (pw_below_drewN HB3.out _) _).grown hgrow1 (by have := HB3.out.size; simp; omega) (fun k e => by have h2 := own_far HW.out (fun go e5 => HNE.out go gl e5 rfl) e; have := HGL.out; omega)
                have hown1' : w1.ownsRow w.heap.size 9 1 (.slice (some ⟨g1, 0, none⟩) (out.length + 1) cap1) (out.length + 1) ((out ++ [(⟨#[]⟩ : ByteArray)]).map Value.string) := by rw [List.map_append]; exact hown1
                obtain ⟨_, eg, hbg, hnc, hcm, cur, hcur, hcs, hct⟩ := own_addr hown1' (by omega)
                injection eg with eg; injection eg with eg; subst eg
                have hpl : p ≤ out.length := by have := cntLt_le s out; have := HPE.out; omega
                obtain ⟨A57, h57, ha57⟩ := cut_at (P := Try.prog) 34 9 Try.underlying34 hi hz1 g1 (out.length + 1) cap1 (p + 1) (by omega) hnc
                obtain ⟨A60, h60, ha60⟩ := cut_at (P := Try.prog) 34 9 Try.underlying34 hi hz1 g1 (out.length + 1) cap1 p (by omega) hnc
                rw [show ((p + 1 : Nat) : Int) = (p : Int) + 1 by omega] at h57
                have HH := Aside0.mk (And.intro hnd (And.intro ho1 (And.intro hb1w (And.intro hnc (And.intro hcm (And.intro hcur (And.intro hcs hct)))))))
                have HA := Aside0.mk (And.intro ha57 ha60)
                have HW1 := Aside0.mk hown1'
                have HPL := Aside0.mk hpl
                have HBG := Aside0.mk hbg
                clear hnd ho1 hb1w hown1 hown1' hgrow1 hlies1 hlt1 hnc hcm hcur hcs hct ha57 ha60 hpl hbg b1 b3
                obtain ⟨cs, hcsd⟩ : ∃ cs : List Value, cs = (out.drop p).map Value.string := ⟨_, rfl⟩
                have hsz1 : (Try.prog.info? 9).map (·.size) = some 1 := by kernel_rfl
                have C1 := Aside0.mk (show w1.drew.heap[g1]? = some (.cells cur.toList.toArray 9 (0, 0)) by rw [Array.toArray_toList]; exact blk_drew HH.out.2.2.2.2.2.1)
                have C2 := Aside0.mk (show cs.length = Nat.min (out.length + 1 - p) (out.length - p) by rw [hcsd, List.length_map, List.length_drop]; exact min_cut _ _)
                have C3 := Aside0.mk (show 0 < cs.length → A57 = some ⟨g1, p + 1, none⟩ ∧ ∃ ad, A60 = some ad ∧ ∀ j v, cs[j]? = some v → w1.drew.cell? (ad.add j) = some v by
                  intro h
                  rw [hcsd] at h
                  simp only [List.length_map, List.length_drop] at h
                  refine ⟨HA.out.1 (by omega), ⟨g1, p, none⟩, HA.out.2 (by omega), fun j v hj => ?_⟩
                  rw [hcsd, List.getElem?_map, List.getElem?_drop] at hj
                  have hjl : p + j < out.length := by
                    rcases Nat.lt_or_ge (p + j) out.length with h2 | h2
                    · exact h2
                    · rw [List.getElem?_eq_none h2] at hj; cases hj
                  have hcell := (own_cell (w := w1) HW1.out (p + j) (by omega)).1
                  rw [Addr.add_mid]
                  have hge : (out ++ [(⟨#[]⟩ : ByteArray)]).getD (p + j) ⟨#[]⟩ = out.getD (p + j) ⟨#[]⟩ := by rw [List.getD_eq_getElem?_getD, List.getElem?_append_left hjl, ← List.getD_eq_getElem?_getD]
                  rw [hge] at hcell
                  rw [List.getElem?_eq_getElem hjl] at hj
                  rw [List.getD_eq_getElem?_getD, List.getElem?_eq_getElem hjl] at hcell
                  have hj2 : some (Value.string out[p + j]) = some v := hj
                  exact hcell.trans hj2)
                have C4 := Aside0.mk (show p + 1 + cs.length ≤ cur.toList.length by rw [hcsd]; have := HH.out.2.2.2.2.2.2.1; have := HH.out.2.2.2.1; have := HPL.out; simp; omega)
                have C5 := Aside0.mk (show ∀ v ∈ cs, v.oneCell' = true by rw [hcsd]; intro v hv; obtain ⟨x, _, rfl⟩ := List.mem_map.1 hv; rfl)
                have C6 := Aside0.mk (show gl + 1 ≤ g1 from HH.out.1)
                have HCS := Aside0.mk hcsd
                clear hcsd
                obtain ⟨hwr, hwr2⟩ : IntKind.i64.wrap ((p : Int) + 1) = (p : Int) + 1 ∧ wrap64 ((p : Int) + 1) = (p : Int) + 1 := by
                  have h1 := HI.out; have h2 := HII.out; have h3 := HBD.out; have h4 := HPL.out
                  exact ⟨IntWalk.i64_in _ (by omega), yw64 (by omega) (by omega)⟩
                go_region_law (refine step_copy_splice rfl (.tmp 57) (.tmp 60) 34 34 rfl 9 Try.underlying34 hsz1 A57 A60 (out.length - p) (cap1 - (p + 1)) (out.length + 1 - p) (cap1 - p) (by simp [Act.eval, Act.put]) (by simp [Act.eval, Act.put]) g1 (p + 1) cur.toList 9 C1.out cs C2.out C3.out C4.out C5.out (gl + 1) w1.drew (Below.refl _ _) C6.out ?_; intro w2 hg2 hb2)
                have HW2 := Aside0.mk (own_splice (⟨#[]⟩ : ByteArray) p HPL.out HH.out.2.2.2.1 HH.out.2.2.2.2.1 HBG.out rfl HH.out.2.2.2.2.2.2.1 HH.out.2.2.2.2.2.2.2 (by have h := hg2.out; rw [HCS.out] at h; exact h))
                have HO2 := Aside0.mk (own_move (w' := w2) HH.out.2.1 (hb2.block gl (by omega)))
                have HB2w := Aside0.mk ((below_drew1 HH.out.2.2.1).trans (hb2.mono (B' := w.heap.size) (by have := HGL.out; omega)))
                clear hg2 hb2 hwr hwr2 h57 h60 hsz1
                have hs1 : w2.cell? ⟨gl, i, none⟩ = some (.string s) := by rw [(own_cell HO2.out i HII.out).1, HS.out]
                have hs2 := (own_cell HW2.out p (by have := HPL.out; omega)).1
                have hs3 := (own_cell HW2.out p (by have := HPL.out; omega)).2
                have b3 : (i : Int) < (l.length : Int) := by have := HII.out; omega
                have b4 : (p : Int) < ((out.length + 1 : Nat) : Int) := by have := HPL.out; omega
                have b5 : (0 : Int) ≤ (p : Int) := by omega
                go_wp2
                have HLEN := Aside0.mk (show (insName out s).length = out.length + 1 by rw [HIS.out]; have := HPL.out; simp; omega)
                go_roundg q
                case measure => omega
                case rel =>
                  refine ⟨i + 1, insName out s, _, cap1, by omega, (by have h2 := HII.out; have h3 := HBD.out; rw [yw64 (by omega) (by omega)]; simp), (by rw [HLEN.out]), ⟨?_⟩, ⟨?_⟩, ⟨fun g g' e1 e2 => ?_⟩, ⟨HFS.out.symm⟩, ⟨by have h1 := HLEN.out; have h2 := HI.out; omega⟩, ⟨below_set HB2w.out HBG.out⟩⟩
                  · have h := own_set HW2.out p (by have := HPL.out; omega) s
                    rw [ins_set _ _ _ _ HPL.out, ← HIS.out] at h
                    rw [HLEN.out]; exact h
                  · exact own_move HO2.out (by have h := C6.out; exact blk_far_eq (by omega))
                  · have h := C6.out
                    injection e1 with e1; injection e1 with e1; injection e2 with e2; injection e2 with e2
                    omega
    · rw [if_neg hbd] at h
      exact absurd h (by simp)

end Go.Proofs.Ytnojokempdcikaa.PA
