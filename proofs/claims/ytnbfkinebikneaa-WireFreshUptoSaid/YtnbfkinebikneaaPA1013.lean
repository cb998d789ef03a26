/- Printed by a program of this repo over the kit's printer: functions of the given program as plain Lean functions, each with the proof that the call does what it says. -/
import Derived.Test.YtnbfkinebikneaaPA0
import Derived.Test.YtnbfkinebikneaaPA1018
import Derived.Test.YtnbfkinebikneaaPA1019
import Derived.Test.YtnbfkinebikneaaPA1022
import Derived.Test.YtnbfkinebikneaaPA1025
import Derived.Test.YtnbfkinebikneaaPA1027
import Derived.Test.YtnbfkinebikneaaPA1031
import Derived.Test.YtnbfkinebikneaaPA1039
import Derived.Laws.Tables
namespace Go.Proofs.Ytnbfkinebikneaa.PA
open Go.RowKit Go.Proofs.YtnbfkinebikneaaW.PrintWords Go.Proofs.YtnbfkinebikneaaW.PrintLast Go.Proofs.YtnbfkinebikneaaW.PrintMore
attribute [local go_sem] max2_int min2_int max_two min_two max_three min_three max_four min_four   -- for this text's walks alone
set_option linter.unusedVariables false
set_option linter.unusedSimpArgs false

/-! ### recouplaw08_WireFresh: function 13 -/
--OWNPART Derived.Laws.Tables
open Go.RowKit
/-- What is called, in the order of the text; where all goes well: is the answer true? -/
def recouplaw08_WireFresh.f (k : Nat) (l0 : List Int) (a1 : Int) : Option Bool :=
  (recoupref01_Copy.f l0).bind fun p => (wire_Text.f k p).bind fun t => (wire_Write.f k a1 p).bind fun w => (wire_ReadText.f k p 100).bind fun x => (wire_Read.f k p).bind fun c => (wire_All.f k p).bind fun l =>
  (recoupref01_Spoil.f k t.1 1).bind fun _ => (recoupref01_Spoil.f k x.1 60).bind fun _ => (recoupref01_Spoil.f k c.2.1 120).bind fun _ =>
  if l.1.all (fun y => (recoupref01_Spoil.f k y.f1 9).isSome) = true then (recoupref08_Write.f k a1 l0).bind fun y => (recouplaw08_anchored.f).bind fun an => (recoupref01_Same.f p l0).bind fun s1 => (recoupref01_Same.f w.1 y.1).bind fun s2 =>
    if an = true then if s1 = true then some s2 else none else none
  else none
theorem xw64' {n : Int} (h : -9223372036854775808 ≤ n) (h1 : n < 9223372036854775808) : wrap64 n = n := by unfold wrap64; omega
theorem chunkInfo : (Try.prog.info? 53).map (·.size) = some 2 := by kernel_rfl
theorem xone_chunk {w : World} {base : Nat} {ok : Nat → Prop} {v : Value} {xs : List Int} (h : Kd.R (Kd.int .u8) 5 w base ok v xs) (t : Int) : (#[.int .u8 t, v] : Array Value).all (·.oneCell') = true := by
  obtain ⟨A, c, rfl⟩ := Kd.R_slice h
  simp [Value.oneCell']
theorem xstore_row {P : Program} {ops : Array Oper} {rest : List Oper} {o : Oper} {a : Act} {w : World} {Q : Exit → Act → World → Prop} (hgd : o.guard = none) (ty : TypeId) (x y : Operand) (ho : o.op = .store ty x y)
    (g : Nat) (cells : Array Value) (hx : a.eval x = .pointer (some ⟨g, 0, none⟩)) (hy : a.eval y = .agg cells)
    (t : TypeId) (old : Array Value) (hg : w.heap[g]? = some (.cells old t (0, 0))) (hi : (P.info? ty).map (·.size) = some cells.size)
    (hold : old.size = cells.size) (h1 : cells.all (·.oneCell') = true)
    (h : ∀ w', w'.heap[g]? = some (.cells cells t (0, 0)) → w.grownBy w' (some g) → (∀ b w0, Below b w0 w → b ≤ g → Below b w0 w') → wpList P ops Q rest (a.put o.dst undef) w') : wpList P ops Q (o :: rest) a w :=
  wpList_store_row hgd ty x y ho g cells hx hy t old hg hi hold h1 (h _ (setRow_heap _ _ _ _ _ _ hg) ⟨rfl, rfl, rfl, by simp, fun k hk hne => setRow_other _ _ _ _ (fun e => hne (by rw [e]))⟩
    (fun b w0 hb hbg => hb.trans ⟨rfl, rfl, rfl, by simp, fun k hk => setRow_other w g k cells (by omega)⟩))
/-- A flat row's own block: between the base and the heap's end. -/
theorem flat_in {w : World} {base : Nat} {ok : Nat → Prop} {v : Value} {xs : List Int} (h : Kd.R (Kd.int .u8) 5 w base ok v xs) (k : Nat) (e : v.ownBlock = some k) : base ≤ k ∧ k < w.heap.size := by
  have := (Kd.R_bound h).1 k e
  exact ⟨this.2.1, this.2.2.1⟩
/-- A flat row stays in a world in which its own block is what it was. -/
theorem flat_to {w w1 : World} {base : Nat} {ok : Nat → Prop} {v : Value} {xs : List Int} (h : Kd.R (Kd.int .u8) 5 w base ok v xs) (hs : ∀ k, v.ownBlock = some k → w1.heap[k]? = w.heap[k]?) : Kd.R (Kd.int .u8) 5 w1 base (fun k => some k = v.ownBlock) v xs :=
  Kd.R_step (Kd.R_tight rfl h) (fun k hk _ => hs k hk.symm)
theorem kept_trans {w w1 w2 : World} {S : Nat → Prop} {S1 S2 : Nat → Prop} (h : Kept w w1 S1) (k : Kept w1 w2 S2) (h1 : ∀ i, S1 i → S i) (h2 : ∀ i, S2 i → S i) : Kept w w2 S :=
  ⟨Nat.le_trans h.1 k.1, fun i hi hn => (k.2 i (Nat.lt_of_lt_of_le hi h.1) (fun e => hn (h2 i e))).trans (h.2 i hi (fun e => hn (h1 i e)))⟩
set_option maxHeartbeats 1500000 in
set_option maxRecDepth 100000 in
theorem recouplaw08_WireFresh.calls (k : Nat) (A0 : Option Addr) (c0 : Nat) (l0 : List Int) (a1 : Int) (r : Bool) (w : World) (hr0 : Kd.C (Kd.int .u8) w A0 l0.length l0) (hc0 : l0.length ≤ c0) (h : recouplaw08_WireFresh.f k l0 a1 = some r) :
    Calls Try.prog 13 #[.slice A0 l0.length c0, .int .u8 a1] w fun e w' => e = .returned (.bool r) ∧ Below w.heap.size w w' := by
  unfold recouplaw08_WireFresh.f at h
  obtain ⟨p, hp, h⟩ := Option.bind_eq_some_iff.1 h
  obtain ⟨⟨t, te⟩, ht, h⟩ := Option.bind_eq_some_iff.1 h
  obtain ⟨⟨wl, we⟩, hw, h⟩ := Option.bind_eq_some_iff.1 h
  obtain ⟨⟨x, xn, xe⟩, hx, h⟩ := Option.bind_eq_some_iff.1 h
  obtain ⟨⟨ct, cl, cn, ce⟩, hc, h⟩ := Option.bind_eq_some_iff.1 h
  obtain ⟨⟨ll, ln, le_⟩, hl, h⟩ := Option.bind_eq_some_iff.1 h
  obtain ⟨⟨⟩, hst, h⟩ := Option.bind_eq_some_iff.1 h
  obtain ⟨⟨⟩, hsx, h⟩ := Option.bind_eq_some_iff.1 h
  obtain ⟨⟨⟩, hsc, h⟩ := Option.bind_eq_some_iff.1 h
  by_cases ha : ll.all (fun y => (recoupref01_Spoil.f k y.f1 9).isSome) = true
  case neg => rw [if_neg ha] at h; exact absurd h (by simp)
  rw [if_pos ha] at h
  obtain ⟨⟨yl, ye⟩, hy, h⟩ := Option.bind_eq_some_iff.1 h
  obtain ⟨an, han, h⟩ := Option.bind_eq_some_iff.1 h
  obtain ⟨s1, hs1, h⟩ := Option.bind_eq_some_iff.1 h
  obtain ⟨s2, hs2, h⟩ := Option.bind_eq_some_iff.1 h
  cases an with
  | false => simp at h
  | true =>
  cases s1 with
  | false => simp at h
  | true =>
  obtain rfl : s2 = r := by simpa using h
  clear h
  have Hp := Aside0.mk hp
  have Ht := Aside0.mk ht
  have Hw := Aside0.mk hw
  have Hx := Aside0.mk hx
  have Hc := Aside0.mk hc
  have Hl := Aside0.mk hl
  have Hst := Aside0.mk hst
  have Hsx := Aside0.mk hsx
  have Hsc := Aside0.mk hsc
  have Ha := Aside0.mk ha
  have Hy := Aside0.mk hy
  have Han := Aside0.mk han
  have Hs1 := Aside0.mk hs1
  have Hs2 := Aside0.mk hs2
  have HR0 := Aside0.mk hr0
  have HC0 := Aside0.mk hc0
  clear hp ht hw hx hc hl hst hsx hsc ha hy han hs1 hs2 hr0 hc0
  go_enter Try.func13, Try.ntmps13
  go_upto_region 7 with (first | (go_at_call 34; refine (recoupref01_Copy.calls A0 c0 l0 p _ HR0.out HC0.out Hp.out).mono ?_; rintro e w1 ⟨pv, rfl, hr, hb⟩; have Rp := Aside0.mk hr; have HB1 := Aside0.mk hb; have B1 := Aside0.mk (Below.refl w1.heap.size w1); clear hr hb; obtain ⟨Ap, cp, hpe⟩ := Kd.R_slice Rp.out; subst hpe; have Cp := Aside0.mk (Kd.R_reads' Rp.out)) | (go_at_call 23; refine (wire_Text.calls k Ap cp p t te _ Cp.out.2.2 Cp.out.2.1 Ht.out).mono ?_; rintro e w2 ⟨tv, rfl, hr, hb⟩; have Rt := Aside0.mk hr; have B2 := Aside0.mk (below_step B1.out hb); have S2 := Aside0.mk hb; clear hr hb) | (go_at_call 30; refine (wire_Write.calls k a1 Ap cp p wl we _ (Kd.C_below Cp.out.2.2 B2.out) Cp.out.2.1 Hw.out).mono ?_; rintro e w3 ⟨wv, rfl, hr, hb⟩; have Rw := Aside0.mk hr; have B3 := Aside0.mk (below_step B2.out hb); have S3 := Aside0.mk hb; clear hr hb; obtain ⟨Aw, cw, hwe⟩ := Kd.R_slice Rw.out; subst hwe) | (go_at_call 25; refine (wire_ReadText.calls k Ap cp p 100 x xn xe _ (Kd.C_below Cp.out.2.2 B3.out) Cp.out.2.1 Hx.out).mono ?_; rintro e w4 ⟨xv, rfl, hr, hb⟩; have Rx := Aside0.mk hr; have B4 := Aside0.mk (below_step B3.out hb); have S4 := Aside0.mk hb; clear hr hb) | (go_at_call 32; refine (wire_Read.calls k Ap cp p ct cl cn ce _ (Kd.C_below Cp.out.2.2 B4.out) Cp.out.2.1 Hc.out).mono ?_; rintro e w5 ⟨cv, rfl, hr, hb⟩; have Rc := Aside0.mk hr; have B5 := Aside0.mk (below_step B4.out hb); have S5 := Aside0.mk hb; clear hr hb) | ((with_reducible refine gate_dst (N := 13) rfl ?_); refine box_event ?hg (N := 13) ?hd (cs := #[.int .u8 0, .slice none 0 0]) (t := 53) ?hr ?_; (case hd => rfl); (case hg => rfl); (case hr => first | (go_simp; done) | (go_simp; rfl)); intro gc hg w6 hbox hb; have BC := Aside0.mk hbox; have B6 := Aside0.mk (below_step B5.out hb); have S6 := Aside0.mk hb; have GC := Aside0.mk (show w5.heap.size ≤ gc from by rw [hg]; exact Nat.le_refl _); clear hbox hb hg) | (refine xstore_row rfl 53 _ _ rfl gc #[.int .u8 ct, cv] rfl rfl 53 _ BC.out chunkInfo rfl (xone_chunk Rc.out ct) ?_; intro w7 hbk hgr hbl; have BC7 := Aside0.mk hbk; have G7 := Aside0.mk hgr; have B7 := Aside0.mk (hbl _ _ B6.out (Nat.le_trans (B5.out.size) GC.out)); clear hbk hgr hbl) | (go_at_call 27; refine (wire_All.calls k Ap cp p ll ln le_ _ (Kd.C_below Cp.out.2.2 B7.out) Cp.out.2.1 Hl.out).mono ?_; rintro e w8 ⟨lv, rfl, hr, hb⟩; have Sl := Aside0.mk hr; have B8 := Aside0.mk (below_step B7.out hb); have S8 := Aside0.mk hb; clear hr hb))
  (try simp only [Act.put, List.setIfInBounds_toArray, List.set_cons_zero, List.set_cons_succ])
  -- what each world keeps of the elder ones
  have Z := Aside0.mk (show w1.heap.size ≤ w2.heap.size ∧ w2.heap.size ≤ w3.heap.size ∧ w3.heap.size ≤ w4.heap.size ∧ w4.heap.size ≤ w5.heap.size ∧ w5.heap.size ≤ w6.heap.size ∧ w6.heap.size ≤ w7.heap.size ∧ w7.heap.size ≤ w8.heap.size from ⟨S2.out.size, S3.out.size, S4.out.size, S5.out.size, S6.out.size, G7.out.size, S8.out.size⟩)
  have T8 := Aside0.mk (show ∀ k, k < w5.heap.size → w8.heap[k]? = w5.heap[k]? from fun k hk => by
    have z := Z.out
    have g := GC.out
    exact (S8.out.block k (by omega)).trans ((G7.out.block k (by omega) (fun e => by cases e; omega)).trans (S6.out.block k hk)))
  have T2 := Aside0.mk (show ∀ k, k < w2.heap.size → w8.heap[k]? = w2.heap[k]? from fun k hk => by
    have z := Z.out
    exact (T8.out k (by omega)).trans ((S5.out.block k (by omega)).trans ((S4.out.block k (by omega)).trans (S3.out.block k (by omega)))))
  have T3 := Aside0.mk (show ∀ k, k < w3.heap.size → w8.heap[k]? = w3.heap[k]? from fun k hk => by
    have z := Z.out
    exact (T8.out k (by omega)).trans ((S5.out.block k (by omega)).trans (S4.out.block k hk)))
  have T4 := Aside0.mk (show ∀ k, k < w4.heap.size → w8.heap[k]? = w4.heap[k]? from fun k hk => by
    have z := Z.out
    exact (T8.out k (by omega)).trans (S5.out.block k (by omega)))
  have BC8 := Aside0.mk (show w8.heap[gc]? = some (.cells #[.int .u8 ct, cv] 53 (0, 0)) from (S8.out.block gc (blk_lt BC7.out)).trans BC7.out)
  have RT8 := Aside0.mk (flat_to Rt.out (fun k hk => T2.out k (flat_in Rt.out k hk).2))
  have RW8 := Aside0.mk (flat_to Rw.out (fun k hk => T3.out k (flat_in Rw.out k hk).2))
  have RX8 := Aside0.mk (flat_to Rx.out (fun k hk => T4.out k (flat_in Rx.out k hk).2))
  have RC8 := Aside0.mk (flat_to Rc.out (fun k hk => T8.out k (flat_in Rc.out k hk).2))
  have IT := Aside0.mk (show ∀ k, tv.ownBlock = some k → w1.heap.size ≤ k ∧ k < w2.heap.size from fun k hk => flat_in Rt.out k hk)
  have IW := Aside0.mk (show ∀ k, (Value.slice Aw wl.length cw).ownBlock = some k → w2.heap.size ≤ k ∧ k < w3.heap.size from fun k hk => flat_in Rw.out k hk)
  have IX := Aside0.mk (show ∀ k, xv.ownBlock = some k → w3.heap.size ≤ k ∧ k < w4.heap.size from fun k hk => flat_in Rx.out k hk)
  have IC := Aside0.mk (show ∀ k, cv.ownBlock = some k → w4.heap.size ≤ k ∧ k < w5.heap.size from fun k hk => flat_in Rc.out k hk)
  have C1 := Aside0.mk (recoupref01_Spoil.calls k (fun k => some k = tv.ownBlock) tv t 1 w1 w8 B8.out (Kd.R_lower RT8.out (Nat.le_refl _)) Hst.out)
  go_upto_region 8 with (go_at_call 35; refine C1.out.mono ?_; rintro e w9 ⟨rfl, hb, hk⟩; have B9 := Aside0.mk hb; have K9 := Aside0.mk hk; clear hb hk)
  (try simp only [Act.put, List.setIfInBounds_toArray, List.set_cons_zero, List.set_cons_succ])
  have RX9 := Aside0.mk (flat_to RX8.out (fun k hk => K9.out.2 k (by have z := Z.out; have := IX.out k hk; omega) (fun e => by have z := Z.out; have := IX.out k hk; have := IT.out k e.symm; omega)))
  have RC9 := Aside0.mk (flat_to RC8.out (fun k hk => K9.out.2 k (by have z := Z.out; have := IC.out k hk; omega) (fun e => by have z := Z.out; have := IC.out k hk; have := IT.out k e.symm; omega)))
  have BC9 := Aside0.mk (show w9.heap[gc]? = some (.cells #[.int .u8 ct, cv] 53 (0, 0)) from (K9.out.2 gc (blk_lt BC8.out) (fun e => by have z := Z.out; have := GC.out; have := IT.out gc e.symm; omega)).trans BC8.out)
  have C2 := Aside0.mk (recoupref01_Spoil.calls k (fun k => some k = xv.ownBlock) xv x 60 w1 w9 B9.out (Kd.R_lower RX9.out (by have z := Z.out; omega)) Hsx.out)
  go_upto_region 9 with (go_at_call 35; refine C2.out.mono ?_; rintro e w10 ⟨rfl, hb, hk⟩; have B10 := Aside0.mk hb; have K10 := Aside0.mk hk; clear hb hk)
  (try simp only [Act.put, List.setIfInBounds_toArray, List.set_cons_zero, List.set_cons_succ])
  have RC10 := Aside0.mk (flat_to RC9.out (fun k hk => K10.out.2 k (by have z := Z.out; have := K9.out.1; have := IC.out k hk; omega) (fun e => by have z := Z.out; have := IC.out k hk; have := IX.out k e.symm; omega)))
  have BC10 := Aside0.mk (show w10.heap[gc]? = some (.cells #[.int .u8 ct, cv] 53 (0, 0)) from (K10.out.2 gc (blk_lt BC9.out) (fun e => by have z := Z.out; have := GC.out; have := IX.out gc e.symm; omega)).trans BC9.out)
  have hbc : w10.cell? ⟨gc, 1, none⟩ = some cv := (blk_cell BC10.out 1).trans rfl
  have C3 := Aside0.mk (recoupref01_Spoil.calls k (fun k => some k = cv.ownBlock) cv cl 120 w1 w10 B10.out (Kd.R_lower RC10.out (by have z := Z.out; omega)) Hsc.out)
  go_upto_region 10 with (go_at_call 35; refine C3.out.mono ?_; rintro e w11 ⟨rfl, hb, hk⟩; have B11 := Aside0.mk hb; have K11 := Aside0.mk hk; clear hb hk)
  (try simp only [Act.put, List.setIfInBounds_toArray, List.set_cons_zero, List.set_cons_succ])
  clear hbc
  -- the list of chunks, apart
  obtain ⟨f, hf⟩ := Sl.out
  have KK := Aside0.mk (show Kept w8 w11 (fun k => w1.heap.size ≤ k ∧ k < w5.heap.size ∧ some k ≠ (Value.slice Aw wl.length cw).ownBlock) from by
    have z := Z.out
    refine kept_trans (kept_trans (S := fun k => w1.heap.size ≤ k ∧ k < w5.heap.size ∧ some k ≠ (Value.slice Aw wl.length cw).ownBlock) K9.out K10.out ?_ ?_) K11.out (fun i hi => hi) ?_
    · intro i hi
      have := IT.out i hi.symm
      exact ⟨this.1, by omega, fun e => by have := IW.out i e.symm; omega⟩
    · intro i hi
      have := IX.out i hi.symm
      exact ⟨by omega, by omega, fun e => by have := IW.out i e.symm; omega⟩
    · intro i hi
      have := IC.out i hi.symm
      exact ⟨by omega, by omega, fun e => by have := IW.out i e.symm; omega⟩)
  have FR := Aside0.mk (Kd.R_step (w1 := w11) (Kd.R_bound hf) (fun k hk hlt => KK.out.2 k hlt (fun e => by have z := Z.out; have := hk.2.1; omega)))
  clear hf
  obtain ⟨Al, cpl, hle⟩ := Kd.R_slice FR.out
  rw [List.length_zipIdx] at hle
  subst hle
  have LLB := Aside0.mk (show ll.length ≤ 9223372036854775807 from by have h := Kd.C_max (Kd.R_reads' FR.out).2.2; rw [List.length_zipIdx] at h; exact h)
  go_wp2
  go_loopg [19] ll.length (fun q v19 wx => ∃ i : Nat, i + q = ll.length ∧ v19 = .int .i64 i ∧ Aside0 (Below w1.heap.size w1 wx) ∧ Aside0 (Kept w11 wx (fun k => w7.heap.size ≤ k ∧ f k < i ∧ some k ≠ (Value.slice Al ll.length cpl).ownBlock)))
  case atStart => exact ⟨0, by omega, rfl, B11, ⟨Kept.refl _ _⟩⟩
  case round =>
    obtain ⟨i, hi, rfl, HB, HK⟩ := hrel
    cases gk with
    | zero =>
      obtain rfl : i = ll.length := by omega
      have HBw := Aside0.mk (below_step HB1.out HB.out)
      have RWx := Aside0.mk (flat_to RW8.out (fun k hk => by
        have z := Z.out
        have hw := IW.out k hk
        refine (HK.out.2 k (by have := KK.out.1; omega) (fun e => by omega)).trans (KK.out.2 k (by omega) (fun e => e.2.2 hk.symm))))
      have CY := Aside0.mk (recoupref08_Write.calls k a1 A0 c0 l0 yl ye wr (Kd.C_below HR0.out HBw.out) HC0.out Hy.out)
      clear FR KK
      go_upto_region 15 with (go_at_call 31; refine CY.out.mono ?_; rintro e w12 ⟨yv, rfl, hr, hb⟩; have Ry := Aside0.mk hr; have HB12 := Aside0.mk (below_step HBw.out hb); have S12 := Aside0.mk hb; have HW12 := Aside0.mk (below_step HB.out hb); clear hr hb; obtain ⟨Ay, cy, hye⟩ := Kd.R_slice Ry.out; subst hye)
      (try simp only [Act.put, List.setIfInBounds_toArray, List.set_cons_zero, List.set_cons_succ])
      go_wp2_with (first | (go_at_call 22; refine (recouplaw08_anchored.calls true _ Han.out).mono ?_; rintro e w13 ⟨rfl, hb⟩; have HB13 := Aside0.mk (below_step HB12.out hb); have CP13 := Aside0.mk (Kd.C_below Cp.out.2.2 (below_step HW12.out hb)); have CB13 := Aside0.mk (Kd.C_below HR0.out HB13.out); have CW13 := Aside0.mk (Kd.C_below (Kd.R_reads' RWx.out).2.2 (below_step S12.out hb)); have CY13 := Aside0.mk (Kd.C_below (Kd.R_reads' Ry.out).2.2 hb); clear hb) | (go_at_call 19; (with_reducible refine (recoupref01_Same.calls Aw cw wl Ay cy yl _ _ (Kd.C_drewN CW13.out nd) (Kd.R_reads' RWx.out).2.1 (Kd.C_drewN CY13.out nd) (Kd.R_reads' Ry.out).2.1 Hs2.out).mono ?_); rintro e w15 ⟨rfl, ⟨nd2, rfl⟩⟩) | (go_at_call 19; (with_reducible refine (recoupref01_Same.calls Ap cp p A0 c0 l0 true _ CP13.out Cp.out.2.1 CB13.out HC0.out Hs1.out).mono ?_); rintro e w14 ⟨rfl, ⟨nd, rfl⟩⟩))
      go_ret
      exact ⟨rfl, pw_below_drewN HB13.out (nd + nd2)⟩
    | succ q =>
      have hik : i < ll.length := by omega
      have hlt : decide ((i : Int) < (ll.length : Int)) = true := decide_eq_true (by omega)
      have hC := (Kd.R_reads' FR.out).2.2
      obtain ⟨ad, _, he, _⟩ := Kd.C_get hC (z53, 0) (i : Int) (by omega) (by rw [List.length_zipIdx]; omega)
      clear hC
      subst he
      obtain ⟨g, hg⟩ := Kd.R_head FR.out
      subst hg
      obtain ⟨c, hcl, hM, hcell, hfr⟩ := Kd.R_elem FR.out (z53, 0) (i : Int) (by omega) (by omega)
      have hz : ll.zipIdx.getD i (z53, 0) = (ll[i], i) := by
        rw [List.getD_eq_getElem?_getD, List.getElem?_zipIdx, List.getElem?_eq_getElem hik, Nat.zero_add]; rfl
      rw [Int.toNat_natCast, hz] at hM
      rw [Int.toNat_natCast] at hcell
      obtain ⟨v1, hce, hR1⟩ := k53_openM (show k53.M w11 w7.heap.size _ ll[i] c from hM)
      subst hce
      have hkg : ∀ k, v1.ownBlock = some k → f k = i ∧ k ≠ g ∧ w7.heap.size ≤ k ∧ k < w11.heap.size := fun k hk => by
        have h1 := hR1.1 k hk
        have h2 := flat_in hR1 k hk
        exact ⟨h1.2, h1.1.2, h2.1, h2.2⟩
      have hgl : g < w11.heap.size := World.block_lt_of_cell? w11 ⟨g, i * 2 + 1, none⟩ (hcell 1 v1 rfl)
      have hc1 : wr.cell? ⟨g, i * 2 + 1, none⟩ = some v1 := (World.cell?_of_block (HK.out.2 g hgl (fun e => e.2.2 (by simp [Value.ownBlock])))).trans (hcell 1 v1 rfl)
      have hbody := flat_to hR1 (w1 := wr) (fun k hk => HK.out.2 k (hkg k hk).2.2.2 (fun e => by have := (hkg k hk).1; omega))
      have hs : recoupref01_Spoil.f k ll[i].f1 9 = some () := by
        have h := List.all_eq_true.1 Ha.out ll[i] (List.getElem_mem hik)
        cases h2 : recoupref01_Spoil.f k ll[i].f1 9 with
        | none => rw [h2] at h; simp at h
        | some u => rfl
      have CS := Aside0.mk (recoupref01_Spoil.calls k (fun k => some k = v1.ownBlock) v1 ll[i].f1 9 w1 wr HB.out (Kd.R_lower hbody (by have z := Z.out; omega)) hs)
      have HKG := Aside0.mk hkg
      have HI := Aside0.mk (show i + 1 ≤ ll.length from hik)
      have HL := Aside0.mk (show ll.length ≤ 9223372036854775807 from LLB.out)
      clear hcl hM hcell hfr hz hR1 hbody hs hkg hgl FR
      go_wp2_with (first | (go_at_call 35; refine CS.out.mono ?_; rintro e w12 ⟨rfl, hb, hk⟩; have HB12 := Aside0.mk hb; have HK12 := Aside0.mk hk; clear hb hk))
      go_roundg q
      case measure => omega
      case rel =>
        refine ⟨i + 1, by omega, ?_, HB12, ⟨kept_trans HK.out HK12.out (fun k e => ⟨e.1, by omega, e.2.2⟩) (fun k e => ?_)⟩⟩
        · have h1 := HI.out; have h2 := HL.out; first | rfl | (rw [xw64' (by omega) (by omega)]; simp) | simp
        · have h := HKG.out k e.symm
          exact ⟨h.2.2.1, by omega, fun e2 => h.2.1 (by simpa [Value.ownBlock] using e2)⟩



end Go.Proofs.Ytnbfkinebikneaa.PA
