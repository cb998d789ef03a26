/- What YtibaidddhmdafaaDoorRTreeFresh's proof reaches of its texts, part 6. Conditions: as each says. -/
import Derived.ArgAppend
import Derived.Below
import Derived.BigQuiet
import Derived.ChangeArms
import Derived.DataReads
import Derived.Deep.AppendLies
import Derived.Deep.CutBlock
import Derived.Deep.DeepCutAuto
import Derived.Deep.Draws
import Derived.Deep.LoopGhost
import Derived.Deep.OwnRows
import Derived.Deep.QuietTactic
import Derived.Deep.RegionHeld3
import Derived.Deep.Slices
import Derived.Deep.WholeRow
import Derived.KernelRfl
import Derived.Laws.BitsLemmas
import Derived.Laws.BytesArg
import Derived.Laws.IdiomCopy
import Derived.Laws.MakeOwn
import Derived.Laws.OwnMore
import Derived.Laws.Rows
import Derived.Laws.Slices
import Derived.Laws.StructEq
import Derived.Laws.Tables
import Derived.Lib.AppendStr
import Derived.Lib.Bytealg
import Derived.Lib.ConvBytes
import Derived.Lib.Strings
import Derived.Lib.Walk
import Derived.Maps.AppendAt
import Derived.OrdersHeld
import Derived.OwnWalk
import Derived.ProofKit
import Derived.RowKit
import Derived.RowKit3
import Derived.SizedLaws
import Derived.Tactics
import Derived.Test.YtibaidddhmdafaaDoorProg
import Derived.Test.YtibaidddhmdafaaDoorRows
import Derived.WalkKit
import Derived.WideLaws
import Derived.Test.YtibaidddhmdafaaDoorZTreeFresh1
import Derived.Test.YtibaidddhmdafaaDoorZTreeFresh5
section
namespace Go.Proofs.YtibaidddhmdafaaDoor.PA
open Go Go.RowKit Go.Proofs.YtibaidddhmdafaaDoorW.PrintWords Go.Proofs.YtibaidddhmdafaaDoorW.PrintLast Go.Proofs.YtibaidddhmdafaaDoorW.PrintMore Go.Proofs.YtibaidddhmdafaaDoor.Open
set_option linter.unusedVariables false
set_option linter.unusedSimpArgs false
theorem cat_seg (cs : List Value) (o s : Nat) : cs.drop o = (cs.drop o).take s ++ cs.drop (o + s) := by rw [← List.drop_drop, List.take_append_drop]
-- recursive: struct 25
inductive G25 : S25 → Prop where
  | mk (x : S25) (h0 : (Lit.int .u8 x.f0).wf = true) (h1 : (Lit.int .i64 x.f1).wf = true) (h2 : x.f2.size ≤ maxLen) (h3 : x.f3.length ≤ 9223372036854775807) (r3 : ∀ y ∈ x.f3, G25 y) (h4 : (Lit.int .i64 x.f4).wf = true) (h5 : (Lit.int .i64 x.f5).wf = true) : G25 x
theorem G25_iff (x : S25) : G25 x ↔ ((Lit.int .u8 x.f0).wf = true) ∧ ((Lit.int .i64 x.f1).wf = true) ∧ (x.f2.size ≤ maxLen) ∧ (x.f3.length ≤ 9223372036854775807 ∧ ∀ y ∈ x.f3, G25 y) ∧ ((Lit.int .i64 x.f4).wf = true) ∧ ((Lit.int .i64 x.f5).wf = true) := by
  constructor
  · intro h
    cases h with
    | mk _ h0 h1 h2 h3 r3 h4 h5 => exact ⟨h0, h1, h2, ⟨h3, r3⟩, h4, h5⟩
  · rintro ⟨h0, h1, h2, ⟨h3, r3⟩, h4, h5⟩
    exact G25.mk x h0 h1 h2 h3 r3 h4 h5
def m25 (x : S25) : Nat := 0
theorem opens25 (N : Nat) : Opens k25 25 G25 m25 N := by
  induction N with
  | zero =>
    intro H enc W spare held fuel cs dat ps hfu h
    obtain ⟨xs, n, hn, hx, hl, hxl, hf⟩ := DataW.trod_struct Tryd.underlying25 h
    omega
  | succ N ih =>
    intro H enc W spare held fuel cs dat ps hfu h
    obtain ⟨xs, n, hn, hx, hl, hxl, hf⟩ := DataW.trod_struct Tryd.underlying25 h
    obtain ⟨rfl, _⟩ := Prod.mk.inj hx
    obtain ⟨q0, q1, q2, q3, q4, q5, rfl⟩ : ∃ q0 q1 q2 q3 q4 q5, xs = [q0, q1, q2, q3, q4, q5] := by
      match xs, hxl with
      | [q0, q1, q2, q3, q4, q5], _ => exact ⟨_, _, _, _, _, _, rfl⟩
    have h0 : DataW.trod enc Tryd.prog W 0 spare held n 22 ((cs.drop 0).take (Tryd.prog.cellsOf 22)) = some (q0.1, q0.2) := hf 0 _ rfl
    rw [show Tryd.prog.cellsOf 22 = 1 by kernel_rfl] at h0
    obtain ⟨x0, K0, g0, m0_⟩ := (opens_int Tryd.underlying22 N) enc W spare held n _ _ _ (by omega) h0
    have e0 : _ = [Value.int .u8 x0] := K0
    have h1 : DataW.trod enc Tryd.prog W 0 spare held n 3 ((cs.drop 1).take (Tryd.prog.cellsOf 3)) = some (q1.1, q1.2) := hf 1 _ rfl
    rw [show Tryd.prog.cellsOf 3 = 1 by kernel_rfl] at h1
    obtain ⟨x1, K1, g1, m1_⟩ := (opens_int Tryd.underlying3 N) enc W spare held n _ _ _ (by omega) h1
    have e1 : _ = [Value.int .i64 x1] := K1
    have h2 : DataW.trod enc Tryd.prog W 0 spare held n 9 ((cs.drop 2).take (Tryd.prog.cellsOf 9)) = some (q2.1, q2.2) := hf 2 _ rfl
    rw [show Tryd.prog.cellsOf 9 = 1 by kernel_rfl] at h2
    obtain ⟨x2, K2, g2, m2_⟩ := (opens_string Tryd.underlying9 N) enc W spare held n _ _ _ (by omega) h2
    have e2 : _ = [Value.string x2] := K2
    have h3 : DataW.trod enc Tryd.prog W 0 spare held n 23 ((cs.drop 3).take (Tryd.prog.cellsOf 23)) = some (q3.1, q3.2) := hf 3 _ rfl
    rw [show Tryd.prog.cellsOf 23 = 1 by kernel_rfl] at h3
    obtain ⟨x3, K3, g3, m3_⟩ := (opens_slice (T := 23) Tryd.underlying23 (by kernel_rfl) ih) enc W spare held n _ _ _ (by omega) h3
    obtain ⟨A3_, c3_, e3, l3_, r3_⟩ := K3
    have h4 : DataW.trod enc Tryd.prog W 0 spare held n 3 ((cs.drop 4).take (Tryd.prog.cellsOf 3)) = some (q4.1, q4.2) := hf 4 _ rfl
    rw [show Tryd.prog.cellsOf 3 = 1 by kernel_rfl] at h4
    obtain ⟨x4, K4, g4, m4_⟩ := (opens_int Tryd.underlying3 N) enc W spare held n _ _ _ (by omega) h4
    have e4 : _ = [Value.int .i64 x4] := K4
    have h5 : DataW.trod enc Tryd.prog W 0 spare held n 3 ((cs.drop 5).take (Tryd.prog.cellsOf 3)) = some (q5.1, q5.2) := hf 5 _ rfl
    rw [show Tryd.prog.cellsOf 3 = 1 by kernel_rfl] at h5
    obtain ⟨x5, K5, g5, m5_⟩ := (opens_int Tryd.underlying3 N) enc W spare held n _ _ _ (by omega) h5
    have e5 : _ = [Value.int .i64 x5] := K5
    have hcl : cs.length = 6 := hl.trans (by kernel_rfl)
    have hcs : cs = [Value.int .u8 x0, Value.int .i64 x1, Value.string x2, Value.slice A3_ x3.length c3_, Value.int .i64 x4, Value.int .i64 x5] := by
      have z0 := cat_seg cs 0 1; rw [e0] at z0
      have z1 := cat_seg cs 1 1; rw [e1] at z1
      have z2 := cat_seg cs 2 1; rw [e2] at z2
      have z3 := cat_seg cs 3 1; rw [e3] at z3
      have z4 := cat_seg cs 4 1; rw [e4] at z4
      have z5 := cat_seg cs 5 1; rw [e5] at z5
      have ze : cs.drop 6 = [] := List.drop_eq_nil_of_le (by omega)
      simp only [Nat.reduceAdd, Nat.zero_add] at z5; rw [ze] at z5
      simp only [Nat.reduceAdd, Nat.zero_add] at z4; rw [z5] at z4
      simp only [Nat.reduceAdd, Nat.zero_add] at z3; rw [z4] at z3
      simp only [Nat.reduceAdd, Nat.zero_add] at z2; rw [z3] at z2
      simp only [Nat.reduceAdd, Nat.zero_add] at z1; rw [z2] at z1
      simp only [Nat.reduceAdd, Nat.zero_add] at z0; rw [z1] at z0
      rw [List.drop_zero] at z0; rw [z0]; rfl
    clear h0 h1 h2 h3 h4 h5 e0 e1 e2 e3 e4 e5 hf hl hcl
    subst hcs
    refine ⟨⟨x0, x1, x2, x3, x4, x5⟩, k25_mk W _ l3_ r3_, (G25_iff _).2 ⟨g0, g1, g2, g3, g4, g5⟩, Nat.zero_le _⟩
-- recursive: struct 42
inductive G42 : S42 → Prop where
  | mk (x : S42) (h0 : (Lit.int .u8 x.f0).wf = true) (h1 : x.f1.size ≤ maxLen) (h2 : (x.f2.length ≤ 9223372036854775807 ∧ ∀ y1 ∈ x.f2, G25 y1)) (h3 : x.f3.length ≤ 9223372036854775807) (r3 : ∀ y ∈ x.f3, G42 y) (h4 : (x.f4.length ≤ 9223372036854775807 ∧ ∀ y2 ∈ x.f4, (y2.length ≤ 9223372036854775807 ∧ ∀ y3 ∈ y2, G25 y3))) (h5 : (Lit.int .i64 x.f5).wf = true) (h6 : (Lit.int .i64 x.f6).wf = true) : G42 x
theorem G42_iff (x : S42) : G42 x ↔ ((Lit.int .u8 x.f0).wf = true) ∧ (x.f1.size ≤ maxLen) ∧ ((x.f2.length ≤ 9223372036854775807 ∧ ∀ y4 ∈ x.f2, G25 y4)) ∧ (x.f3.length ≤ 9223372036854775807 ∧ ∀ y ∈ x.f3, G42 y) ∧ ((x.f4.length ≤ 9223372036854775807 ∧ ∀ y5 ∈ x.f4, (y5.length ≤ 9223372036854775807 ∧ ∀ y6 ∈ y5, G25 y6))) ∧ ((Lit.int .i64 x.f5).wf = true) ∧ ((Lit.int .i64 x.f6).wf = true) := by
  constructor
  · intro h
    cases h with
    | mk _ h0 h1 h2 h3 r3 h4 h5 h6 => exact ⟨h0, h1, h2, ⟨h3, r3⟩, h4, h5, h6⟩
  · rintro ⟨h0, h1, h2, ⟨h3, r3⟩, h4, h5, h6⟩
    exact G42.mk x h0 h1 h2 h3 r3 h4 h5 h6
def m42 (x : S42) : Nat := 0
theorem opens42 (N : Nat) : Opens k42 42 G42 m42 N := by
  induction N with
  | zero =>
    intro H enc W spare held fuel cs dat ps hfu h
    obtain ⟨xs, n, hn, hx, hl, hxl, hf⟩ := DataW.trod_struct Tryd.underlying42 h
    omega
  | succ N ih =>
    intro H enc W spare held fuel cs dat ps hfu h
    obtain ⟨xs, n, hn, hx, hl, hxl, hf⟩ := DataW.trod_struct Tryd.underlying42 h
    obtain ⟨rfl, _⟩ := Prod.mk.inj hx
    obtain ⟨q0, q1, q2, q3, q4, q5, q6, rfl⟩ : ∃ q0 q1 q2 q3 q4 q5 q6, xs = [q0, q1, q2, q3, q4, q5, q6] := by
      match xs, hxl with
      | [q0, q1, q2, q3, q4, q5, q6], _ => exact ⟨_, _, _, _, _, _, _, rfl⟩
    have h0 : DataW.trod enc Tryd.prog W 0 spare held n 38 ((cs.drop 0).take (Tryd.prog.cellsOf 38)) = some (q0.1, q0.2) := hf 0 _ rfl
    rw [show Tryd.prog.cellsOf 38 = 1 by kernel_rfl] at h0
    obtain ⟨x0, K0, g0, m0_⟩ := (opens_int Tryd.underlying38 N) enc W spare held n _ _ _ (by omega) h0
    have e0 : _ = [Value.int .u8 x0] := K0
    have h1 : DataW.trod enc Tryd.prog W 0 spare held n 9 ((cs.drop 1).take (Tryd.prog.cellsOf 9)) = some (q1.1, q1.2) := hf 1 _ rfl
    rw [show Tryd.prog.cellsOf 9 = 1 by kernel_rfl] at h1
    obtain ⟨x1, K1, g1, m1_⟩ := (opens_string Tryd.underlying9 N) enc W spare held n _ _ _ (by omega) h1
    have e1 : _ = [Value.string x1] := K1
    have h2 : DataW.trod enc Tryd.prog W 0 spare held n 23 ((cs.drop 2).take (Tryd.prog.cellsOf 23)) = some (q2.1, q2.2) := hf 2 _ rfl
    rw [show Tryd.prog.cellsOf 23 = 1 by kernel_rfl] at h2
    obtain ⟨x2, K2, g2, m2_⟩ := (opens_slice (T := 23) Tryd.underlying23 (by kernel_rfl) (opens25 N)) enc W spare held n _ _ _ (by omega) h2
    obtain ⟨A2_, c2_, e2, l2_, r2_⟩ := K2
    have h3 : DataW.trod enc Tryd.prog W 0 spare held n 39 ((cs.drop 3).take (Tryd.prog.cellsOf 39)) = some (q3.1, q3.2) := hf 3 _ rfl
    rw [show Tryd.prog.cellsOf 39 = 1 by kernel_rfl] at h3
    obtain ⟨x3, K3, g3, m3_⟩ := (opens_slice (T := 39) Tryd.underlying39 (by kernel_rfl) ih) enc W spare held n _ _ _ (by omega) h3
    obtain ⟨A3_, c3_, e3, l3_, r3_⟩ := K3
    have h4 : DataW.trod enc Tryd.prog W 0 spare held n 40 ((cs.drop 4).take (Tryd.prog.cellsOf 40)) = some (q4.1, q4.2) := hf 4 _ rfl
    rw [show Tryd.prog.cellsOf 40 = 1 by kernel_rfl] at h4
    obtain ⟨x4, K4, g4, m4_⟩ := (opens_slice (T := 40) Tryd.underlying40 (by kernel_rfl) (opens_slice (T := 23) Tryd.underlying23 (by kernel_rfl) (opens25 N))) enc W spare held n _ _ _ (by omega) h4
    obtain ⟨A4_, c4_, e4, l4_, r4_⟩ := K4
    have h5 : DataW.trod enc Tryd.prog W 0 spare held n 3 ((cs.drop 5).take (Tryd.prog.cellsOf 3)) = some (q5.1, q5.2) := hf 5 _ rfl
    rw [show Tryd.prog.cellsOf 3 = 1 by kernel_rfl] at h5
    obtain ⟨x5, K5, g5, m5_⟩ := (opens_int Tryd.underlying3 N) enc W spare held n _ _ _ (by omega) h5
    have e5 : _ = [Value.int .i64 x5] := K5
    have h6 : DataW.trod enc Tryd.prog W 0 spare held n 3 ((cs.drop 6).take (Tryd.prog.cellsOf 3)) = some (q6.1, q6.2) := hf 6 _ rfl
    rw [show Tryd.prog.cellsOf 3 = 1 by kernel_rfl] at h6
    obtain ⟨x6, K6, g6, m6_⟩ := (opens_int Tryd.underlying3 N) enc W spare held n _ _ _ (by omega) h6
    have e6 : _ = [Value.int .i64 x6] := K6
    have hcl : cs.length = 7 := hl.trans (by kernel_rfl)
    have hcs : cs = [Value.int .u8 x0, Value.string x1, Value.slice A2_ x2.length c2_, Value.slice A3_ x3.length c3_, Value.slice A4_ x4.length c4_, Value.int .i64 x5, Value.int .i64 x6] := by
      have z0 := cat_seg cs 0 1; rw [e0] at z0
      have z1 := cat_seg cs 1 1; rw [e1] at z1
      have z2 := cat_seg cs 2 1; rw [e2] at z2
      have z3 := cat_seg cs 3 1; rw [e3] at z3
      have z4 := cat_seg cs 4 1; rw [e4] at z4
      have z5 := cat_seg cs 5 1; rw [e5] at z5
      have z6 := cat_seg cs 6 1; rw [e6] at z6
      have ze : cs.drop 7 = [] := List.drop_eq_nil_of_le (by omega)
      simp only [Nat.reduceAdd, Nat.zero_add] at z6; rw [ze] at z6
      simp only [Nat.reduceAdd, Nat.zero_add] at z5; rw [z6] at z5
      simp only [Nat.reduceAdd, Nat.zero_add] at z4; rw [z5] at z4
      simp only [Nat.reduceAdd, Nat.zero_add] at z3; rw [z4] at z3
      simp only [Nat.reduceAdd, Nat.zero_add] at z2; rw [z3] at z2
      simp only [Nat.reduceAdd, Nat.zero_add] at z1; rw [z2] at z1
      simp only [Nat.reduceAdd, Nat.zero_add] at z0; rw [z1] at z0
      rw [List.drop_zero] at z0; rw [z0]; rfl
    clear h0 h1 h2 h3 h4 h5 h6 e0 e1 e2 e3 e4 e5 e6 hf hl hcl
    subst hcs
    refine ⟨⟨x0, x1, x2, x3, x4, x5, x6⟩, k42_mk W _ l2_ r2_ l3_ r3_ l4_ r4_, (G42_iff _).2 ⟨g0, g1, g2, g3, g4, g5, g6⟩, Nat.zero_le _⟩
def G45 (x : S45) : Prop := (Lit.int .u8 x.f0).wf = true ∧ x.f1.size ≤ maxLen ∧ G25 x.f2 ∧ G42 x.f3 ∧ (Lit.int .u8 x.f4).wf = true ∧ (x.f5.length ≤ 9223372036854775807 ∧ ∀ y7 ∈ x.f5, G25 y7) ∧ (Lit.int .i64 x.f6).wf = true ∧ (Lit.int .i64 x.f7).wf = true
def m45 (x : S45) : Nat := 0
theorem opens45 (N : Nat) : Opens k45 45 G45 m45 N := by
  intro H enc W spare held fuel cs dat ps hfu h
  obtain ⟨xs, n, hn, hx, hl, hxl, hf⟩ := DataW.trod_struct Tryd.underlying45 h
  obtain ⟨rfl, _⟩ := Prod.mk.inj hx
  obtain ⟨q0, q1, q2, q3, q4, q5, q6, q7, rfl⟩ : ∃ q0 q1 q2 q3 q4 q5 q6 q7, xs = [q0, q1, q2, q3, q4, q5, q6, q7] := by
    match xs, hxl with
    | [q0, q1, q2, q3, q4, q5, q6, q7], _ => exact ⟨_, _, _, _, _, _, _, _, rfl⟩
  have h0 : DataW.trod enc Tryd.prog W 0 spare held n 37 ((cs.drop 0).take (Tryd.prog.cellsOf 37)) = some (q0.1, q0.2) := hf 0 _ rfl
  rw [show Tryd.prog.cellsOf 37 = 1 by kernel_rfl] at h0
  obtain ⟨x0, K0, g0, m0_⟩ := (opens_int Tryd.underlying37 N) enc W spare held n _ _ _ (by omega) h0
  have e0 : _ = [Value.int .u8 x0] := K0
  have h1 : DataW.trod enc Tryd.prog W 0 spare held n 9 ((cs.drop 1).take (Tryd.prog.cellsOf 9)) = some (q1.1, q1.2) := hf 1 _ rfl
  rw [show Tryd.prog.cellsOf 9 = 1 by kernel_rfl] at h1
  obtain ⟨x1, K1, g1, m1_⟩ := (opens_string Tryd.underlying9 N) enc W spare held n _ _ _ (by omega) h1
  have e1 : _ = [Value.string x1] := K1
  have h2 : DataW.trod enc Tryd.prog W 0 spare held n 25 ((cs.drop 2).take (Tryd.prog.cellsOf 25)) = some (q2.1, q2.2) := hf 2 _ rfl
  rw [show Tryd.prog.cellsOf 25 = 6 by kernel_rfl] at h2
  obtain ⟨x2, K2, g2, m2_⟩ := (opens25 N) enc W spare held n _ _ _ (by omega) h2
  obtain ⟨A2_3_, c2_3_, e2, l2_3_, r2_3_⟩ := k25_open K2
  have h3 : DataW.trod enc Tryd.prog W 0 spare held n 42 ((cs.drop 8).take (Tryd.prog.cellsOf 42)) = some (q3.1, q3.2) := hf 3 _ rfl
  rw [show Tryd.prog.cellsOf 42 = 7 by kernel_rfl] at h3
  obtain ⟨x3, K3, g3, m3_⟩ := (opens42 N) enc W spare held n _ _ _ (by omega) h3
  obtain ⟨A3_2_, c3_2_, A3_3_, c3_3_, A3_4_, c3_4_, e3, l3_2_, r3_2_, l3_3_, r3_3_, l3_4_, r3_4_⟩ := k42_open K3
  have h4 : DataW.trod enc Tryd.prog W 0 spare held n 43 ((cs.drop 15).take (Tryd.prog.cellsOf 43)) = some (q4.1, q4.2) := hf 4 _ rfl
  rw [show Tryd.prog.cellsOf 43 = 1 by kernel_rfl] at h4
  obtain ⟨x4, K4, g4, m4_⟩ := (opens_int Tryd.underlying43 N) enc W spare held n _ _ _ (by omega) h4
  have e4 : _ = [Value.int .u8 x4] := K4
  have h5 : DataW.trod enc Tryd.prog W 0 spare held n 23 ((cs.drop 16).take (Tryd.prog.cellsOf 23)) = some (q5.1, q5.2) := hf 5 _ rfl
  rw [show Tryd.prog.cellsOf 23 = 1 by kernel_rfl] at h5
  obtain ⟨x5, K5, g5, m5_⟩ := (opens_slice (T := 23) Tryd.underlying23 (by kernel_rfl) (opens25 N)) enc W spare held n _ _ _ (by omega) h5
  obtain ⟨A5_, c5_, e5, l5_, r5_⟩ := K5
  have h6 : DataW.trod enc Tryd.prog W 0 spare held n 3 ((cs.drop 17).take (Tryd.prog.cellsOf 3)) = some (q6.1, q6.2) := hf 6 _ rfl
  rw [show Tryd.prog.cellsOf 3 = 1 by kernel_rfl] at h6
  obtain ⟨x6, K6, g6, m6_⟩ := (opens_int Tryd.underlying3 N) enc W spare held n _ _ _ (by omega) h6
  have e6 : _ = [Value.int .i64 x6] := K6
  have h7 : DataW.trod enc Tryd.prog W 0 spare held n 3 ((cs.drop 18).take (Tryd.prog.cellsOf 3)) = some (q7.1, q7.2) := hf 7 _ rfl
  rw [show Tryd.prog.cellsOf 3 = 1 by kernel_rfl] at h7
  obtain ⟨x7, K7, g7, m7_⟩ := (opens_int Tryd.underlying3 N) enc W spare held n _ _ _ (by omega) h7
  have e7 : _ = [Value.int .i64 x7] := K7
  have hcl : cs.length = 19 := hl.trans (by kernel_rfl)
  have hcs : cs = [Value.int .u8 x0, Value.string x1, Value.int .u8 x2.f0, Value.int .i64 x2.f1, Value.string x2.f2, Value.slice A2_3_ x2.f3.length c2_3_, Value.int .i64 x2.f4, Value.int .i64 x2.f5, Value.int .u8 x3.f0, Value.string x3.f1, Value.slice A3_2_ x3.f2.length c3_2_, Value.slice A3_3_ x3.f3.length c3_3_, Value.slice A3_4_ x3.f4.length c3_4_, Value.int .i64 x3.f5, Value.int .i64 x3.f6, Value.int .u8 x4, Value.slice A5_ x5.length c5_, Value.int .i64 x6, Value.int .i64 x7] := by
    have z0 := cat_seg cs 0 1; rw [e0] at z0
    have z1 := cat_seg cs 1 1; rw [e1] at z1
    have z2 := cat_seg cs 2 6; rw [e2] at z2
    have z3 := cat_seg cs 8 7; rw [e3] at z3
    have z4 := cat_seg cs 15 1; rw [e4] at z4
    have z5 := cat_seg cs 16 1; rw [e5] at z5
    have z6 := cat_seg cs 17 1; rw [e6] at z6
    have z7 := cat_seg cs 18 1; rw [e7] at z7
    have ze : cs.drop 19 = [] := List.drop_eq_nil_of_le (by omega)
    simp only [Nat.reduceAdd, Nat.zero_add] at z7; rw [ze] at z7
    simp only [Nat.reduceAdd, Nat.zero_add] at z6; rw [z7] at z6
    simp only [Nat.reduceAdd, Nat.zero_add] at z5; rw [z6] at z5
    simp only [Nat.reduceAdd, Nat.zero_add] at z4; rw [z5] at z4
    simp only [Nat.reduceAdd, Nat.zero_add] at z3; rw [z4] at z3
    simp only [Nat.reduceAdd, Nat.zero_add] at z2; rw [z3] at z2
    simp only [Nat.reduceAdd, Nat.zero_add] at z1; rw [z2] at z1
    simp only [Nat.reduceAdd, Nat.zero_add] at z0; rw [z1] at z0
    rw [List.drop_zero] at z0; rw [z0]; rfl
  clear h0 h1 h2 h3 h4 h5 h6 h7 e0 e1 e2 e3 e4 e5 e6 e7 hf hl hcl
  subst hcs
  refine ⟨⟨x0, x1, x2, x3, x4, x5, x6, x7⟩, k45_mk W _ l2_3_ r2_3_ l3_2_ r3_2_ l3_3_ r3_3_ l3_4_ r3_4_ l5_ r5_, ⟨g0, g1, g2, g3, g4, g5, g6, g7⟩, ?_⟩
  exact Nat.zero_le _
end Go.Proofs.YtibaidddhmdafaaDoor.PA
end
