/- Printed by a program of this repo over the kit's printer: functions of the given program as plain Lean functions, each with the proof that the call does what it says. -/
import Derived.Test.YtnojokempdcikaaProg
import Derived.Below
import Derived.Deep.Draws
import Derived.Deep.AppendLies
import Derived.Maps.AppendAt
import Derived.OwnWalk
import Derived.Laws.BytesArg
import Derived.Laws.MakeOwn
import Derived.Laws.OwnMore
import Derived.Deep.OwnRows
import Derived.Tactics
import Derived.Lib.ConvBytes
import Derived.Laws.Slices
import Derived.WalkKit
import Derived.KernelRfl
import Derived.RowKit3
import Derived.Deep.LoopGhost
import Derived.Deep.QuietTactic
import Derived.BigQuiet
import Derived.WideLaws
import Derived.Deep.DeepCutAuto
import Derived.Deep.CutBlock
import Derived.Deep.RegionHeld3
import Derived.Laws.Rows
import Derived.Lib.AppendStr
import Derived.ArgAppend
import Derived.Laws.IdiomCopy
import Derived.OrdersHeld
import Derived.Laws.BitsLemmas
import Derived.RowKit
import Derived.Test.YtnojokempdcikaaWWords
import Derived.Test.YtnojokempdcikaaWLast
import Derived.Test.YtnojokempdcikaaWTab
import Derived.Test.YtnojokempdcikaaWFour
import Derived.Test.YtnojokempdcikaaWQPut
import Derived.Test.YtnojokempdcikaaWApart
import Derived.Test.YtnojokempdcikaaWArr
import Derived.Test.YtnojokempdcikaaWZeros
import Derived.Test.YtnojokempdcikaaWFoot
import Derived.Test.YtnojokempdcikaaWKept
import Derived.Test.YtnojokempdcikaaWShare
import Derived.Test.YtnojokempdcikaaWN
import Derived.Test.YtnojokempdcikaaWFootNe
import Derived.Test.YtnojokempdcikaaWAt
import Derived.Test.YtnojokempdcikaaWEqStruct
import Derived.Test.YtnojokempdcikaaWRepsOne
import Derived.Test.YtnojokempdcikaaWInv
import Derived.Test.YtnojokempdcikaaWInvWords
import Derived.Test.YtnojokempdcikaaWGuard
import Derived.Test.YtnojokempdcikaaWNEv
import Derived.Test.YtnojokempdcikaaWMore
import Derived.Deep.WholeRow
import Derived.Laws.Tables
import Derived.Lib.Strings
import Derived.Lib.Walk
import Derived.Lib.Bytealg
import Derived.Maps.Own
import Derived.Maps.OwnOps
import Derived.Maps.OwnSet
import Derived.Maps.Views
import Derived.Deep.RegionWith
namespace Go.Proofs.Ytnojokempdcikaa.PA
open Go.RowKit Go.Proofs.YtnojokempdcikaaW.PrintWords Go.Proofs.YtnojokempdcikaaW.PrintLast Go.Proofs.YtnojokempdcikaaW.PrintMore
attribute [local go_sem] max2_int min2_int max_two min_two max_three min_three max_four min_four   -- for this text's walks alone
set_option linter.unusedVariables false
set_option linter.unusedSimpArgs false



def errW : Option Int → Value
  | none => .nilIface
  | some c => .iface 0 (.int .i64 c)
theorem errW_none : errW none = .nilIface := rfl
theorem errW_some (c : Int) : errW (some c) = .iface 0 (.int .i64 c) := rfl


theorem xbne_nil (l : List UInt8) : (l != []) = !l.isEmpty := by cases l <;> rfl
theorem xprint_mid3_of {P : Program} {α : Type} (enc : α → Value) (d : α) (t e : TypeId) (kl kh km : IntKind) {i : TypeInfo} (ht : P.underlying t = some (.slice e)) (hi : P.info? e = some i) (hsz : i.size = 1) (A : Option Addr) (c : Nat) (xs : List α) (a b : Int) (h0 : 0 ≤ a) (h1 : a ≤ b) (hm : b ≤ xs.length) (hc : xs.length ≤ c) :
    ∃ A' : Option Addr, (∀ W : World, (Instr.slice t (.slice A xs.length c) (some (.int kl a)) (some (.int kh b)) (some (.int km b))).run P W = .ok (.slice A' ((xs.take b.toNat).drop a.toNat).length (b.toNat - a.toNat)) W) ∧
      (∀ w : World, ReadsOf enc d w A xs.length xs → ReadsOf enc d w A' ((xs.take b.toNat).drop a.toNat).length ((xs.take b.toNat).drop a.toNat)) ∧ ((xs.take b.toNat).drop a.toNat).length ≤ b.toNat - a.toNat := by
  have hlt : (xs.take b.toNat).length = b.toNat := by rw [List.length_take]; omega
  have hl : ((xs.take b.toNat).drop a.toNat).length = b.toNat - a.toNat := by rw [List.length_drop, hlt]
  refine ⟨if b.toNat = a.toNat then A else A.map (·.add a.toNat), fun W => ?_, fun w h => ?_, by rw [hl]; omega⟩
  · have hel : P.elem t = e := by simp [Program.elem, ht]
    have hu : P.underlying t = some (.slice (P.elem t)) := by rw [hel]; exact ht
    rw [run_slice_lhm W t A xs.length c hu kl kh km a b b h0 h1 (by omega) (by omega), hel, hl]
    simp [sizeOf, typeInfo, hi, hsz, sliced, Result.andThen]
  · have h2 := (h.take_ b.toNat (by omega)).drop_ (c := b.toNat) a.toNat (by omega) (by omega)
    rw [hl]
    exact h2

theorem info9 : (Try.prog.info? 9).map (fun i => (i.zero, i.size, i.bytes)) = some (some (.string ⟨#[]⟩), 1, 16) := by kernel_rfl
theorem info25 : (Try.prog.info? 25).map (fun i => (i.zero, i.size, i.bytes)) = some (some (.agg #[(.int .u8 0), (.int .i64 0), (.string ⟨#[]⟩), (.slice none 0 0), (.int .i64 0), (.int .i64 0)]), 6, 72) := by kernel_rfl
theorem info54 : (Try.prog.info? 54).map (fun i => (i.zero, i.size, i.bytes)) = some (some (.agg #[(.string ⟨#[]⟩), (.int .i64 0)]), 2, 24) := by kernel_rfl
-- the values' own types
/-! #### struct type 25, nested in itself -/
structure S25 where
  f0 : Int
  f1 : Int
  f2 : ByteArray
  f3 : (List S25)
  f4 : Int
  f5 : Int
def z25 : S25 := ⟨(0 : Int), (0 : Int), (⟨#[]⟩ : ByteArray), ([] : List S25), (0 : Int), (0 : Int)⟩
def F25 (d : Kd S25) : Kd S25 := Kd.iso (Kd.pair (Kd.int .u8) (Kd.pair (Kd.int .i64) (Kd.pair Kd.string (Kd.pair (Kd.slice 25 d) (Kd.pair (Kd.int .i64) (Kd.int .i64)))))) (fun x : S25 => (x.f0, x.f1, x.f2, x.f3, x.f4, x.f5))
theorem mono25 : Kd.Mono F25 := Kd.mono_iso _ (Kd.mono_pair (Kd.mono_const _) (Kd.mono_pair (Kd.mono_const _) (Kd.mono_pair (Kd.mono_const _) (Kd.mono_pair (Kd.mono_slice 25 Kd.mono_id) (Kd.mono_pair (Kd.mono_const _) (Kd.mono_const _))))))
theorem sub25 : Kd.Sub F25 [25] := Kd.sub_iso _ (Kd.sub_pair (Kd.sub_const _ (by decide)) (Kd.sub_pair (Kd.sub_const _ (by decide)) (Kd.sub_pair (Kd.sub_const _ (by decide)) (Kd.sub_pair (Kd.sub_slice 25 (by decide) Kd.sub_id) (Kd.sub_pair (Kd.sub_const _ (by decide)) (Kd.sub_const _ (by decide)))))))
theorem sz25 : ∀ n, (Kd.upto F25 6 [25] n).sz = 6 := Kd.upto_sz (fun _ => rfl)
def k25 : Kd S25 := Kd.fix F25 6 [25] sz25 (Kd.upto_E sub25)
theorem k25_heap : Kd.Heap k25 := Kd.heap_fix (fun _ h_ => Kd.heap_iso _ (Kd.heap_pair (Kd.heap_int .u8) (Kd.heap_pair (Kd.heap_int .i64) (Kd.heap_pair Kd.heap_string (Kd.heap_pair (Kd.heap_slice 25 h_) (Kd.heap_pair (Kd.heap_int .i64) (Kd.heap_int .i64)))))))
theorem k25_open {w : World} {x : S25} {cs : List Value} (h : k25.K w x cs) : ∃ A3 c3, cs = [.int .u8 x.f0, .int .i64 x.f1, .string x.f2, .slice A3 x.f3.length c3, .int .i64 x.f4, .int .i64 x.f5] ∧ x.f3.length ≤ c3 ∧ k25.C w A3 x.f3.length x.f3 := by
  obtain ⟨n, h⟩ := h
  cases n with
  | zero => exact h.elim
  | succ n =>
    obtain ⟨_, _, rfl, rfl, ⟨_, _, rfl, rfl, ⟨_, _, rfl, rfl, ⟨_, _, rfl, ⟨A3, c3, rfl, l3, g3⟩, ⟨_, _, rfl, rfl, rfl⟩⟩⟩⟩⟩ := h
    exact ⟨A3, c3, rfl, l3, Kd.fix_C g3⟩
theorem k25_openM {w : World} {base : Nat} {ok : Nat → Prop} {x : S25} {cs : List Value} (h : k25.M w base ok x cs) : ∃ v3, cs = [.int .u8 x.f0, .int .i64 x.f1, .string x.f2, v3, .int .i64 x.f4, .int .i64 x.f5] ∧ k25.R 25 w base ok v3 x.f3 := by
  obtain ⟨n, h⟩ := h
  cases n with
  | zero => exact h.elim
  | succ n =>
    obtain ⟨_, _, rfl, rfl, ⟨_, _, rfl, rfl, ⟨_, _, rfl, rfl, ⟨_, _, rfl, ⟨v3, rfl, g3⟩, ⟨_, _, rfl, rfl, rfl⟩⟩⟩⟩⟩ := h
    exact ⟨v3, rfl, Kd.fix_R g3⟩
theorem k25_mk (w : World) (x : S25) {A3 : Option Addr} {c3 : Nat} (l3 : x.f3.length ≤ c3) (g3 : k25.C w A3 x.f3.length x.f3) : k25.K w x [.int .u8 x.f0, .int .i64 x.f1, .string x.f2, .slice A3 x.f3.length c3, .int .i64 x.f4, .int .i64 x.f5] := by
  obtain ⟨n3, q3⟩ := Kd.fix_C_back mono25 g3
  have r3 := Kd.upto_C_le mono25 sz25 (show n3 ≤ n3 by omega) q3
  exact ⟨n3 + 1, ⟨[.int .u8 x.f0], [.int .i64 x.f1, .string x.f2, .slice A3 x.f3.length c3, .int .i64 x.f4, .int .i64 x.f5], rfl, rfl, ⟨[.int .i64 x.f1], [.string x.f2, .slice A3 x.f3.length c3, .int .i64 x.f4, .int .i64 x.f5], rfl, rfl, ⟨[.string x.f2], [.slice A3 x.f3.length c3, .int .i64 x.f4, .int .i64 x.f5], rfl, rfl, ⟨[.slice A3 x.f3.length c3], [.int .i64 x.f4, .int .i64 x.f5], rfl, ⟨A3, c3, rfl, l3, r3⟩, ⟨[.int .i64 x.f4], [.int .i64 x.f5], rfl, rfl, rfl⟩⟩⟩⟩⟩⟩
theorem k25_mkM (w : World) (base : Nat) (ok : Nat → Prop) (x : S25) {v3 : Value} (g3 : k25.R 25 w base ok v3 x.f3) : k25.M w base ok x [.int .u8 x.f0, .int .i64 x.f1, .string x.f2, v3, .int .i64 x.f4, .int .i64 x.f5] := by
  obtain ⟨n3, q3⟩ := Kd.fix_R_back mono25 g3
  have r3 := Kd.upto_R_le mono25 sz25 (show n3 ≤ n3 by omega) q3
  exact ⟨n3 + 1, ⟨[.int .u8 x.f0], [.int .i64 x.f1, .string x.f2, v3, .int .i64 x.f4, .int .i64 x.f5], rfl, rfl, ⟨[.int .i64 x.f1], [.string x.f2, v3, .int .i64 x.f4, .int .i64 x.f5], rfl, rfl, ⟨[.string x.f2], [v3, .int .i64 x.f4, .int .i64 x.f5], rfl, rfl, ⟨[v3], [.int .i64 x.f4, .int .i64 x.f5], rfl, ⟨v3, rfl, r3⟩, ⟨[.int .i64 x.f4], [.int .i64 x.f5], rfl, rfl, rfl⟩⟩⟩⟩⟩⟩
theorem k25_openF {W : World} {ok : Nat → Prop} {x : S25} {cs : List Value} (h : Kd.FK k25 W ok x cs) : ∃ A3 c3, cs = [.int .u8 x.f0, .int .i64 x.f1, .string x.f2, .slice A3 x.f3.length c3, .int .i64 x.f4, .int .i64 x.f5] ∧ x.f3.length ≤ c3 ∧ Kd.F k25 W ok A3 x.f3.length x.f3 := by
  obtain ⟨A3, c3, rfl, l3, _⟩ := k25_open (Kd.FK_now h)
  exact ⟨A3, c3, rfl, l3, (fun W' hW => by obtain ⟨A3_, c3_, he, l3_, g3_⟩ := k25_open (h W' hW); injection (Option.some.inj (show some (Value.slice A3 x.f3.length c3) = some (Value.slice A3_ x.f3.length c3_) from congrArg (fun l => l[3]?) he)) with ha_ _ _; rw [ha_]; exact g3_)⟩
theorem k25_mkF (W : World) (ok : Nat → Prop) (x : S25) {A3 : Option Addr} {c3 : Nat} (l3 : x.f3.length ≤ c3) (g3 : Kd.F k25 W ok A3 x.f3.length x.f3) : Kd.FK k25 W ok x [.int .u8 x.f0, .int .i64 x.f1, .string x.f2, .slice A3 x.f3.length c3, .int .i64 x.f4, .int .i64 x.f5] := fun W2 hW => k25_mk W2 x l3 (g3 W2 hW)
def rd_T25 (xs : List S25) (i : Int) : S25 := xs.getD i.toNat z25
theorem at_T25 {w : World} {A : Option Addr} {n : Nat} {xs : List S25} (h : Kd.C k25 w A n xs) (i : Int) (h0 : 0 ≤ i) (h1 : i < n) : ∃ ad A3 c3, A = some ad ∧ w.cell? (ad.add (i.toNat * 6)) = some (.int .u8 (rd_T25 xs i).f0) ∧ w.cell? ⟨(ad.add (i.toNat * 6)).block, (ad.add (i.toNat * 6)).off + 1, none⟩ = some (.int .i64 (rd_T25 xs i).f1) ∧ w.cell? ⟨(ad.add (i.toNat * 6)).block, (ad.add (i.toNat * 6)).off + 2, none⟩ = some (.string (rd_T25 xs i).f2) ∧ w.cell? ⟨(ad.add (i.toNat * 6)).block, (ad.add (i.toNat * 6)).off + 3, none⟩ = some (.slice A3 (rd_T25 xs i).f3.length c3) ∧ w.cell? ⟨(ad.add (i.toNat * 6)).block, (ad.add (i.toNat * 6)).off + 4, none⟩ = some (.int .i64 (rd_T25 xs i).f4) ∧ w.cell? ⟨(ad.add (i.toNat * 6)).block, (ad.add (i.toNat * 6)).off + 5, none⟩ = some (.int .i64 (rd_T25 xs i).f5) ∧ (rd_T25 xs i).f3.length ≤ c3 ∧ k25.C w A3 (rd_T25 xs i).f3.length (rd_T25 xs i).f3 := by
  obtain ⟨ad, c, e, _, hK, hc0⟩ := Kd.C_get h z25 i h0 h1
  have hc : ∀ j u, c[j]? = some u → w.cell? (ad.add (i.toNat * 6 + j)) = some u := hc0
  obtain ⟨A3, c3, rfl, l3, g3⟩ := k25_open hK
  exact ⟨ad, A3, c3, e, hc 0 _ rfl, by rw [← add_field _ _ 1 (by omega)]; exact hc 1 _ rfl, by rw [← add_field _ _ 2 (by omega)]; exact hc 2 _ rfl, by rw [← add_field _ _ 3 (by omega)]; exact hc 3 _ rfl, by rw [← add_field _ _ 4 (by omega)]; exact hc 4 _ rfl, by rw [← add_field _ _ 5 (by omega)]; exact hc 5 _ rfl, l3, g3⟩

/-! #### struct type 54 -/
structure S54 where
  f0 : ByteArray
  f1 : Int
def z54 : S54 := ⟨(⟨#[]⟩ : ByteArray), (0 : Int)⟩
def k54 : Kd S54 := Kd.iso (Kd.pair Kd.string (Kd.int .i64)) (fun x : S54 => (x.f0, x.f1))
theorem k54_heap : Kd.Heap k54 := Kd.heap_iso _ (Kd.heap_pair Kd.heap_string (Kd.heap_int .i64))
theorem k54_open {w : World} {x : S54} {cs : List Value} (h : k54.K w x cs) : cs = [.string x.f0, .int .i64 x.f1] := by
  obtain ⟨_, _, rfl, rfl, rfl⟩ := h
  exact rfl
theorem k54_openM {w : World} {base : Nat} {ok : Nat → Prop} {x : S54} {cs : List Value} (h : k54.M w base ok x cs) : cs = [.string x.f0, .int .i64 x.f1] := by
  obtain ⟨_, _, rfl, rfl, rfl⟩ := h
  exact rfl
theorem k54_mk (w : World) (x : S54)  : k54.K w x [.string x.f0, .int .i64 x.f1] := ⟨[.string x.f0], [.int .i64 x.f1], rfl, rfl, rfl⟩
theorem k54_mkM (w : World) (base : Nat) (ok : Nat → Prop) (x : S54)  : k54.M w base ok x [.string x.f0, .int .i64 x.f1] := ⟨[.string x.f0], [.int .i64 x.f1], rfl, rfl, rfl⟩
theorem k54_mkF (W : World) (ok : Nat → Prop) (x : S54) : Kd.FK k54 W ok x [.string x.f0, .int .i64 x.f1] := fun W2 _ => k54_mk W2 x
def rd_T54 (xs : List S54) (i : Int) : S54 := xs.getD i.toNat z54
theorem at_T54 {w : World} {A : Option Addr} {n : Nat} {xs : List S54} (h : Kd.C k54 w A n xs) (i : Int) (h0 : 0 ≤ i) (h1 : i < n) : ∃ ad , A = some ad ∧ w.cell? (ad.add (i.toNat * 2)) = some (.string (rd_T54 xs i).f0) ∧ w.cell? ⟨(ad.add (i.toNat * 2)).block, (ad.add (i.toNat * 2)).off + 1, none⟩ = some (.int .i64 (rd_T54 xs i).f1) := by
  obtain ⟨ad, c, e, _, hK, hc0⟩ := Kd.C_get h z54 i h0 h1
  have hc : ∀ j u, c[j]? = some u → w.cell? (ad.add (i.toNat * 2 + j)) = some u := hc0
  obtain rfl := k54_open hK
  exact ⟨ad, e, hc 0 _ rfl, by rw [← add_field _ _ 1 (by omega)]; exact hc 1 _ rfl⟩

def rd_L6 (xs : List (List S54)) (i : Int) : (List S54) := xs.getD i.toNat ([] : List S54)
theorem at_L6 {w : World} {A : Option Addr} {n : Nat} {xs : List (List S54)} (h : Kd.C (Kd.slice 54 k54) w A n xs) (i : Int) (h0 : 0 ≤ i) (h1 : i < n) : ∃ ad A0 c0, A = some ad ∧ w.cell? (ad.add i.toNat) = some (.slice A0 (rd_L6 xs i).length c0) ∧ (rd_L6 xs i).length ≤ c0 ∧ k54.C w A0 (rd_L6 xs i).length (rd_L6 xs i) := by
  obtain ⟨ad, c, e, _, hK, hc0⟩ := Kd.C_get h ([] : List S54) i h0 h1
  have hc : ∀ j u, c[j]? = some u → w.cell? (ad.add (i.toNat * 1 + j)) = some u := hc0
  obtain ⟨A0, c0, rfl, l0, g0⟩ := hK
  exact ⟨ad, A0, c0, e, by have hq := hc 0 _ rfl; rwa [Nat.mul_one, Nat.add_zero] at hq, l0, g0⟩

/-! #### struct type 29 -/
structure S29 where
  f0 : Int
  f1 : Int
  f2 : Int
def z29 : S29 := ⟨(0 : Int), (0 : Int), (0 : Int)⟩
def k29 : Kd S29 := Kd.iso (Kd.pair (Kd.int .i64) (Kd.pair (Kd.int .i64) (Kd.int .i64))) (fun x : S29 => (x.f0, x.f1, x.f2))
theorem k29_heap : Kd.Heap k29 := Kd.heap_iso _ (Kd.heap_pair (Kd.heap_int .i64) (Kd.heap_pair (Kd.heap_int .i64) (Kd.heap_int .i64)))
theorem k29_open {w : World} {x : S29} {cs : List Value} (h : k29.K w x cs) : cs = [.int .i64 x.f0, .int .i64 x.f1, .int .i64 x.f2] := by
  obtain ⟨_, _, rfl, rfl, ⟨_, _, rfl, rfl, rfl⟩⟩ := h
  exact rfl
theorem k29_openM {w : World} {base : Nat} {ok : Nat → Prop} {x : S29} {cs : List Value} (h : k29.M w base ok x cs) : cs = [.int .i64 x.f0, .int .i64 x.f1, .int .i64 x.f2] := by
  obtain ⟨_, _, rfl, rfl, ⟨_, _, rfl, rfl, rfl⟩⟩ := h
  exact rfl
theorem k29_mk (w : World) (x : S29)  : k29.K w x [.int .i64 x.f0, .int .i64 x.f1, .int .i64 x.f2] := ⟨[.int .i64 x.f0], [.int .i64 x.f1, .int .i64 x.f2], rfl, rfl, ⟨[.int .i64 x.f1], [.int .i64 x.f2], rfl, rfl, rfl⟩⟩
theorem k29_mkM (w : World) (base : Nat) (ok : Nat → Prop) (x : S29)  : k29.M w base ok x [.int .i64 x.f0, .int .i64 x.f1, .int .i64 x.f2] := ⟨[.int .i64 x.f0], [.int .i64 x.f1, .int .i64 x.f2], rfl, rfl, ⟨[.int .i64 x.f1], [.int .i64 x.f2], rfl, rfl, rfl⟩⟩
theorem k29_mkF (W : World) (ok : Nat → Prop) (x : S29) : Kd.FK k29 W ok x [.int .i64 x.f0, .int .i64 x.f1, .int .i64 x.f2] := fun W2 _ => k29_mk W2 x
def rd_T29 (xs : List S29) (i : Int) : S29 := xs.getD i.toNat z29
theorem at_T29 {w : World} {A : Option Addr} {n : Nat} {xs : List S29} (h : Kd.C k29 w A n xs) (i : Int) (h0 : 0 ≤ i) (h1 : i < n) : ∃ ad , A = some ad ∧ w.cell? (ad.add (i.toNat * 3)) = some (.int .i64 (rd_T29 xs i).f0) ∧ w.cell? ⟨(ad.add (i.toNat * 3)).block, (ad.add (i.toNat * 3)).off + 1, none⟩ = some (.int .i64 (rd_T29 xs i).f1) ∧ w.cell? ⟨(ad.add (i.toNat * 3)).block, (ad.add (i.toNat * 3)).off + 2, none⟩ = some (.int .i64 (rd_T29 xs i).f2) := by
  obtain ⟨ad, c, e, _, hK, hc0⟩ := Kd.C_get h z29 i h0 h1
  have hc : ∀ j u, c[j]? = some u → w.cell? (ad.add (i.toNat * 3 + j)) = some u := hc0
  obtain rfl := k29_open hK
  exact ⟨ad, e, hc 0 _ rfl, by rw [← add_field _ _ 1 (by omega)]; exact hc 1 _ rfl, by rw [← add_field _ _ 2 (by omega)]; exact hc 2 _ rfl⟩

def rd_L8 (xs : List (List ByteArray)) (i : Int) : (List ByteArray) := xs.getD i.toNat ([] : List ByteArray)
theorem at_L8 {w : World} {A : Option Addr} {n : Nat} {xs : List (List ByteArray)} (h : Kd.C (Kd.slice 9 Kd.string) w A n xs) (i : Int) (h0 : 0 ≤ i) (h1 : i < n) : ∃ ad A0 c0, A = some ad ∧ w.cell? (ad.add i.toNat) = some (.slice A0 (rd_L8 xs i).length c0) ∧ (rd_L8 xs i).length ≤ c0 ∧ Kd.string.C w A0 (rd_L8 xs i).length (rd_L8 xs i) := by
  obtain ⟨ad, c, e, _, hK, hc0⟩ := Kd.C_get h ([] : List ByteArray) i h0 h1
  have hc : ∀ j u, c[j]? = some u → w.cell? (ad.add (i.toNat * 1 + j)) = some u := hc0
  obtain ⟨A0, c0, rfl, l0, g0⟩ := hK
  exact ⟨ad, A0, c0, e, by have hq := hc 0 _ rfl; rwa [Nat.mul_one, Nat.add_zero] at hq, l0, g0⟩

end Go.Proofs.Ytnojokempdcikaa.PA

namespace Go.Proofs.Ytnojokempdcikaa.PA
open Go.RowKit Go.Proofs.YtnojokempdcikaaW.PrintWords Go.Proofs.YtnojokempdcikaaW.PrintLast Go.Proofs.YtnojokempdcikaaW.PrintMore
attribute [local go_sem] max2_int min2_int max_two min_two max_three min_three max_four min_four   -- for this text's walks alone
set_option linter.unusedVariables false
set_option linter.unusedSimpArgs false

/-! ### token_words: function 79 -/
--OWNPART Derived.Deep.WholeRow Derived.Laws.Tables
open Go.RowKit
/-- The words. -/
def wordList : List ByteArray := [(⟨#[99, 111, 100, 101]⟩ : ByteArray), (⟨#[99, 111, 110, 115, 116]⟩ : ByteArray), (⟨#[99, 114, 111, 115, 115]⟩ : ByteArray), (⟨#[100, 111, 109, 97, 105, 110, 115]⟩ : ByteArray), (⟨#[106, 111, 105, 110]⟩ : ByteArray), (⟨#[108, 105, 115, 116]⟩ : ByteArray), (⟨#[108, 111, 99, 97, 108]⟩ : ByteArray), (⟨#[109, 97, 116, 114, 105, 120]⟩ : ByteArray), (⟨#[112, 108, 97, 99, 101]⟩ : ByteArray), (⟨#[112, 114, 111, 100, 117, 99, 116]⟩ : ByteArray), (⟨#[112, 121, 114, 97, 109, 105, 100]⟩ : ByteArray), (⟨#[114, 101, 101, 100]⟩ : ByteArray), (⟨#[114, 111, 119]⟩ : ByteArray), (⟨#[115, 112, 105, 114, 97, 108]⟩ : ByteArray), (⟨#[115, 112, 114, 101, 97, 100]⟩ : ByteArray), (⟨#[116, 111, 108, 101, 114, 97, 116, 101]⟩ : ByteArray), (⟨#[117, 115, 101]⟩ : ByteArray)]
def wordCells : Array Value := #[.string (⟨#[99, 111, 100, 101]⟩ : ByteArray), .string (⟨#[99, 111, 110, 115, 116]⟩ : ByteArray), .string (⟨#[99, 114, 111, 115, 115]⟩ : ByteArray), .string (⟨#[100, 111, 109, 97, 105, 110, 115]⟩ : ByteArray), .string (⟨#[106, 111, 105, 110]⟩ : ByteArray), .string (⟨#[108, 105, 115, 116]⟩ : ByteArray), .string (⟨#[108, 111, 99, 97, 108]⟩ : ByteArray), .string (⟨#[109, 97, 116, 114, 105, 120]⟩ : ByteArray), .string (⟨#[112, 108, 97, 99, 101]⟩ : ByteArray), .string (⟨#[112, 114, 111, 100, 117, 99, 116]⟩ : ByteArray), .string (⟨#[112, 121, 114, 97, 109, 105, 100]⟩ : ByteArray), .string (⟨#[114, 101, 101, 100]⟩ : ByteArray), .string (⟨#[114, 111, 119]⟩ : ByteArray), .string (⟨#[115, 112, 105, 114, 97, 108]⟩ : ByteArray), .string (⟨#[115, 112, 114, 101, 97, 100]⟩ : ByteArray), .string (⟨#[116, 111, 108, 101, 114, 97, 116, 101]⟩ : ByteArray), .string (⟨#[117, 115, 101]⟩ : ByteArray)]
def wordNone : Array Value := #[.string ⟨#[]⟩, .string ⟨#[]⟩, .string ⟨#[]⟩, .string ⟨#[]⟩, .string ⟨#[]⟩, .string ⟨#[]⟩, .string ⟨#[]⟩, .string ⟨#[]⟩, .string ⟨#[]⟩, .string ⟨#[]⟩, .string ⟨#[]⟩, .string ⟨#[]⟩, .string ⟨#[]⟩, .string ⟨#[]⟩, .string ⟨#[]⟩, .string ⟨#[]⟩, .string ⟨#[]⟩]
theorem words_info : (Try.prog.info? 115).map (fun i => (i.zero, i.size)) = some (some (.agg wordNone), 17) := by kernel_rfl
theorem words_heap (w : World) (a : Obj) : (w.alloc a).heap[w.heap.size]? = some a := heap_alloc_last w a
theorem words_below {b : Nat} {w w1 : World} {g : Nat} (h : Below b w w1) (hg : b ≤ g) (cs : Array Value) : Below b w (w1.setRow g cs) :=
  h.trans ⟨rfl, rfl, rfl, by simp, fun k hk => setRow_other w1 g k cs (by omega)⟩
theorem wordCells_one : wordCells.all (·.oneCell') = true := by simp [wordCells, Value.oneCell']
theorem token_words.calls (w : World) : Calls Try.prog 79 #[] w fun e w' => e = .returned (.agg wordCells) ∧ Below w.heap.size w w' := by
  obtain ⟨hz, hi0⟩ := zero_of_info words_info
  have HI := Aside0.mk (show (Try.prog.info? 115).map (·.size) = some wordCells.size from hi0)
  clear hi0
  go_enter Try.func79, Try.ntmps79
  go_wp2_with (first | (refine wpList_store_row rfl 115 _ _ rfl w.heap.size wordCells rfl rfl 115 wordNone (words_heap _ _) HI.out rfl wordCells_one ?_))
  refine bodyPost_ret (v := .agg wordCells) ?_ rfl ⟨rfl, ?_⟩
  · refine results_cell_row rfl _ _ w.heap.size 115 wordCells (0, 0) _ rfl ?_ Try.underlying115 rfl HI.out
    exact setRow_heap _ _ _ _ _ _ (words_heap _ _)
  · exact words_below ((Below.refl _ _).alloc (Nat.le_refl _) _) (Nat.le_refl _) _
theorem word_at (i : Nat) (hi : i < 17) : wordCells[i]? = some (.string (rdOf ByteArray.empty wordList i)) := by
  revert hi
  have : ∀ i : Fin 17, wordCells[i.1]? = some (.string (rdOf ByteArray.empty wordList (i.1 : Int))) := by
    intro i
    have h : i = 0 ∨ i = 1 ∨ i = 2 ∨ i = 3 ∨ i = 4 ∨ i = 5 ∨ i = 6 ∨ i = 7 ∨ i = 8 ∨ i = 9 ∨ i = 10 ∨ i = 11 ∨ i = 12 ∨ i = 13 ∨ i = 14 ∨ i = 15 ∨ i = 16 := by omega
    rcases h with rfl | rfl | rfl | rfl | rfl | rfl | rfl | rfl | rfl | rfl | rfl | rfl | rfl | rfl | rfl | rfl | rfl <;> rfl
  exact fun hi => this ⟨i, hi⟩
theorem wordList_length : wordList.length = 17 := rfl
theorem words_C (w : World) (g : Nat) (hg : w.heap[g]? = some (.cells wordCells 115)) : Kd.C Kd.string w (some ⟨g, 0, none⟩) wordList.length wordList := by
  refine ⟨rfl, by decide, fun _ => ⟨_, rfl, fun j p hj => ⟨[.string p], rfl, rfl, fun i u hu => ?_⟩⟩⟩
  have hi : i = 0 := by
    have := (List.getElem?_eq_some_iff.1 hu).1
    simpa using this
  subst hi
  have hu' : u = .string p := by simpa using hu.symm
  subst hu'
  rw [add_plain]
  simp only [World.cell?, hg]
  show wordCells[j * 1 + 0]? = _
  have hlt : j < 17 := (List.getElem?_eq_some_iff.1 hj).1
  rw [Nat.mul_one, Nat.add_zero, word_at j hlt]
  unfold rdOf
  rw [Int.toNat_natCast, List.getD_eq_getElem?_getD, hj]; rfl

end Go.Proofs.Ytnojokempdcikaa.PA

namespace Go.Proofs.Ytnojokempdcikaa.PA
open Go.RowKit Go.Proofs.YtnojokempdcikaaW.PrintWords Go.Proofs.YtnojokempdcikaaW.PrintLast Go.Proofs.YtnojokempdcikaaW.PrintMore
attribute [local go_sem] max2_int min2_int max_two min_two max_three min_three max_four min_four   -- for this text's walks alone
set_option linter.unusedVariables false
set_option linter.unusedSimpArgs false

/-! ### slices_Index_string_string: function 88 -/
def slices_Index_string_string.l0 : Nat → List ByteArray → ByteArray → Int → Int → Option (Int)
  | 0, _, _, _, _ => none
  | k + 1, x0, x1, x7, x8 => if x8 < x7 then (if 0 ≤ x8 then (if x8 < (x0.length : Int) then (if x1.toList = (rdOf ByteArray.empty x0 x8).toList then (some x8) else (slices_Index_string_string.l0 k x0 x1 x7 (wrap64 (x8 + 1)))) else (none)) else (none)) else (some (-1))
def slices_Index_string_string.f (k : Nat) (l0 : List ByteArray) (a1 : ByteArray) : Option (Int) := slices_Index_string_string.l0 k l0 a1 (l0.length : Int) 0
theorem slices_Index_string_string.mono_l : ∀ k, (∀ y0 y1 y2 y3, LeO (slices_Index_string_string.l0 k y0 y1 y2 y3) (slices_Index_string_string.l0 (k + 1) y0 y1 y2 y3))
  | 0 => fun _ _ _ _ r h => by simp [slices_Index_string_string.l0] at h
  | k + 1 => by
    have ih0 := slices_Index_string_string.mono_l k
    · intro y0 y1 y2 y3
      unfold slices_Index_string_string.l0
      repeat' first
      | (with_reducible exact ih0 _ _ _ _)
      | (with_reducible exact LeO.refl _)
      | (with_reducible exact LeO.none _)
      | (with_reducible refine LeO.ite ?_ ?_)
      | (with_reducible refine LeO.bind ?_ (fun _ => ?_))
      | exact ih0 _ _ _ _
      | exact LeO.none _
      | refine LeO.ite ?_ ?_
      | refine LeO.bind ?_ (fun _ => ?_)
theorem slices_Index_string_string.mono : ∀ a0 a1 k, LeO (slices_Index_string_string.f k a0 a1) (slices_Index_string_string.f (k + 1) a0 a1) := by
  intro a0 a1 k
  have ih0 := slices_Index_string_string.mono_l k
  unfold slices_Index_string_string.f
  repeat' first
      | (with_reducible exact ih0 _ _ _ _)
      | (with_reducible exact LeO.refl _)
      | (with_reducible exact LeO.none _)
      | (with_reducible refine LeO.ite ?_ ?_)
      | (with_reducible refine LeO.bind ?_ (fun _ => ?_))
      | exact ih0 _ _ _ _
      | exact LeO.none _
      | refine LeO.ite ?_ ?_
      | refine LeO.bind ?_ (fun _ => ?_)
set_option maxHeartbeats 8000000 in
set_option maxRecDepth 100000 in
theorem slices_Index_string_string.calls (k : Nat) (A0 : Option Addr) (c0 : Nat) (l0 : List ByteArray) (a1 : ByteArray) (r : Int) (w : World) (hr0 : Kd.C Kd.string w A0 l0.length l0) (hc0 : l0.length ≤ c0) (h : slices_Index_string_string.f k l0 a1 = some r) :
    Calls Try.prog 88 #[.slice A0 l0.length c0, .string a1] w fun e w' => e = .returned (.int .i64 r) ∧ Drawn0 w w' := by
  have HR0 := Aside0.mk hr0
  have HC0 := Aside0.mk hc0
  clear hr0 hc0
  have H : (slices_Index_string_string.l0 k l0 a1 (l0.length : Int) 0) = some r := h
  clear h
  have H' := Aside0.mk H
  clear H
  go_enter Try.func88, Try.ntmps88
  go_wp2
  go_loopg [8] k (fun kq v8 w' => ∃ (x8_1 : Int), v8 = .int .i64 x8_1 ∧ Aside0 (slices_Index_string_string.l0 kq l0 a1 (l0.length : Int) x8_1 = some r) ∧ Aside0 (kq ≤ k) ∧ Drawn0 w w')
  case atStart => exact ⟨(0), (by first | rfl | (simp; done) | (simp [*]; done) | (simp [xbne_nil]; done)), H', ⟨Nat.le_refl _⟩, by repeat (first | exact Drawn0.refl _ | apply Drawn0.step)⟩
  case round =>
    clear H'
    try clear p2
    obtain ⟨x8_1, rfl, HA, HK1, ⟨m1, rfl⟩⟩ := hrel
    cases gk with
    | zero => exact absurd HA.out (by simp [slices_Index_string_string.l0])
    | succ k1 =>
      have H := HA.out
      clear HA
      simp only [slices_Index_string_string.l0] at H
      by_cases c3 : x8_1 < (l0.length : Int)
      · rw [if_pos c3] at H
        have c3b0 : decide (x8_1 < (l0.length : Int)) = true := decide_eq_true c3
        clear c3
        by_cases c4 : 0 ≤ x8_1
        · rw [if_pos c4] at H
          have c4b0 : decide (0 ≤ x8_1) = true := decide_eq_true c4
          clear c4
          by_cases c5 : x8_1 < (l0.length : Int)
          · rw [if_pos c5] at H
            have c5b0 : decide (x8_1 < (l0.length : Int)) = true := decide_eq_true c5
            clear c5
            by_cases c6 : a1.toList = (rdOf ByteArray.empty l0 x8_1).toList
            · rw [if_pos c6] at H
              have c6b0 : (a1.toList == (rdOf ByteArray.empty l0 x8_1).toList) = true := beq_iff_eq.mpr c6
              have c6b1 : (a1.toList != (rdOf ByteArray.empty l0 x8_1).toList) = false := bne_eq_false_iff_eq.mpr c6
              clear c6
              obtain rfl := Option.some.inj H
              have p103 : 0 ≤ (x8_1 : Int) := of_decide_eq_true (by first | (with_reducible assumption) | assumption)
              have q103 : x8_1 < (l0.length : Int) := of_decide_eq_true (by first | (with_reducible assumption) | assumption)
              obtain ⟨ad103, e103, hx103_0⟩ := Kd.at_string HR0.out x8_1 p103 q103
              cases e103
              replace p103 := eq_true p103
              replace q103 := eq_true q103
              go_wp2
              go_ret
              exact ⟨by first | rfl | (simp; done) | (simp [*]; done), by repeat (first | exact Drawn0.refl _ | apply Drawn0.step)⟩
            · rw [if_neg c6] at H
              have c6b0 : (a1.toList == (rdOf ByteArray.empty l0 x8_1).toList) = false := beq_eq_false_iff_ne.mpr c6
              have c6b1 : (a1.toList != (rdOf ByteArray.empty l0 x8_1).toList) = true := bne_iff_ne.mpr c6
              have H' := Aside0.mk H
              clear H
              have p103 : 0 ≤ (x8_1 : Int) := of_decide_eq_true (by first | (with_reducible assumption) | assumption)
              have q103 : x8_1 < (l0.length : Int) := of_decide_eq_true (by first | (with_reducible assumption) | assumption)
              obtain ⟨ad103, e103, hx103_0⟩ := Kd.at_string HR0.out x8_1 p103 q103
              cases e103
              replace p103 := eq_true p103
              replace q103 := eq_true q103
              go_wp2
              go_roundg k1
              case measure => have := HK1.out; omega
              case rel => exact ⟨(wrap64 (x8_1 + 1)), (by first | rfl | (simp; done) | (simp [*]; done) | (simp [xbne_nil]; done)), H', ⟨by have := HK1.out; omega⟩, by repeat (first | exact Drawn0.refl _ | apply Drawn0.step)⟩
          · rw [if_neg c5] at H
            exact absurd H (by simp)
        · rw [if_neg c4] at H
          exact absurd H (by simp)
      · rw [if_neg c3] at H
        have c3b0 : decide (x8_1 < (l0.length : Int)) = false := decide_eq_false c3
        clear c3
        obtain rfl := Option.some.inj H
        go_wp2
        go_ret
        exact ⟨by first | rfl | (simp; done) | (simp [*]; done), by repeat (first | exact Drawn0.refl _ | apply Drawn0.step)⟩

/-! ### slices_Contains_string_string: function 80 -/
def slices_Contains_string_string.f (k : Nat) (l0 : List ByteArray) (a1 : ByteArray) : Option (Bool) := (slices_Index_string_string.f k l0 a1).bind fun t104 => (some (decide (t104 ≥ 0)))
theorem slices_Contains_string_string.mono : ∀ a0 a1 k, LeO (slices_Contains_string_string.f k a0 a1) (slices_Contains_string_string.f (k + 1) a0 a1) := by
  intro a0 a1 k
  unfold slices_Contains_string_string.f
  repeat' first
      | (with_reducible exact slices_Index_string_string.mono _ _ _)
      | (with_reducible exact LeO.refl _)
      | (with_reducible exact LeO.none _)
      | (with_reducible refine LeO.ite ?_ ?_)
      | (with_reducible refine LeO.bind ?_ (fun _ => ?_))
      | exact slices_Index_string_string.mono _ _ _
      | exact LeO.none _
      | refine LeO.ite ?_ ?_
      | refine LeO.bind ?_ (fun _ => ?_)
set_option maxHeartbeats 8000000 in
set_option maxRecDepth 100000 in
theorem slices_Contains_string_string.calls (k : Nat) (A0 : Option Addr) (c0 : Nat) (l0 : List ByteArray) (a1 : ByteArray) (r : Bool) (w : World) (hr0 : Kd.C Kd.string w A0 l0.length l0) (hc0 : l0.length ≤ c0) (h : slices_Contains_string_string.f k l0 a1 = some r) :
    Calls Try.prog 80 #[.slice A0 l0.length c0, .string a1] w fun e w' => e = .returned (.bool r) ∧ Drawn0 w w' := by
  have HR0 := Aside0.mk hr0
  have HC0 := Aside0.mk hc0
  clear hr0 hc0
  have H : ((slices_Index_string_string.f k l0 a1).bind fun t104 => (some (decide (t104 ≥ 0)))) = some r := h
  clear h
  replace H := Option.bind_eq_some_iff.mp H
  obtain ⟨t104, A30, H⟩ := H
  replace H : (some (decide (t104 ≥ 0))) = some r := H
  have A3 := Aside0.mk A30
  clear A30
  obtain rfl := Option.some.inj H
  go_enter Try.func80, Try.ntmps80
  go_wp2_with (first | ((with_reducible refine gate_callee (f := 88) rfl ?_); refine goesL_ (some 7) rfl rfl Try.func88 (by kernel_rfl) rfl #[.slice A0 l0.length c0, .string a1] rfl (by (try simp only [List.map_toArray, List.map_cons, List.map_nil]); first | done | rfl | (simp only [List.length_drop, List.length_take]; rfl)) ?_; (with_reducible refine (slices_Index_string_string.calls k _ _ l0 a1 t104 _ ?side1 ?side2 A3.out).mono ?_); (case side1 => repeat (first | exact HR0.out | (with_reducible refine Kd.C_alloc ?_ _) | (with_reducible refine Kd.C_drewN ?_ _) | (with_reducible refine Kd.C_drew ?_))); (case side2 => exact HC0.out); rintro e w' ⟨rfl, ⟨nd, rfl⟩⟩; refine ⟨_, rfl, ?_⟩))
  go_ret
  exact ⟨by first | rfl | (simp; done) | (simp [*]; done), by repeat (first | exact Drawn0.refl _ | apply Drawn0.step)⟩

end Go.Proofs.Ytnojokempdcikaa.PA

namespace Go.Proofs.Ytnojokempdcikaa.PA
open Go.RowKit Go.Proofs.YtnojokempdcikaaW.PrintWords Go.Proofs.YtnojokempdcikaaW.PrintLast Go.Proofs.YtnojokempdcikaaW.PrintMore
attribute [local go_sem] max2_int min2_int max_two min_two max_three min_three max_four min_four   -- for this text's walks alone
set_option linter.unusedVariables false
set_option linter.unusedSimpArgs false

/-! ### token_is: function 63 -/
--OWNPART Derived.Deep.WholeRow Derived.Laws.Tables
open Go.RowKit
/-- Is a text a word? -/
def wordIn (l : List ByteArray) (a : ByteArray) : Bool := l.any (fun s => decide (a.toList = s.toList))
def token_is.f (a0 : ByteArray) : Option Bool := some (wordIn wordList a0)
theorem xw64 {n : Int} (h : -9223372036854775808 ≤ n) (h1 : n < 9223372036854775808) : wrap64 n = n := by unfold wrap64; omega
theorem xindex_words (a : ByteArray) : ∀ (k i : Nat), 17 ≤ i + k → i ≤ 17 → ∃ r, slices_Index_string_string.l0 (k + 1) wordList a 17 (i : Int) = some r ∧ (decide (r ≥ 0) = wordIn (wordList.drop i) a)
  | k, i, hk, hi => by
    by_cases c : i < 17
    · have c1 : ((i : Int) < 17) := by omega
      have hl : ((i : Int) < (wordList.length : Int)) := by rw [wordList_length]; omega
      have hg : wordList.drop i = rdOf ByteArray.empty wordList (i : Int) :: wordList.drop (i + 1) := by
        have h1 : i < wordList.length := by rw [wordList_length]; exact c
        rw [List.drop_eq_getElem_cons h1]
        unfold rdOf
        rw [Int.toNat_natCast, List.getD_eq_getElem?_getD, List.getElem?_eq_getElem h1]; rfl
      rw [hg]
      simp only [slices_Index_string_string.l0]
      rw [if_pos c1, if_pos (by omega), if_pos hl]
      by_cases e : a.toList = (rdOf ByteArray.empty wordList (i : Int)).toList
      · rw [if_pos e]
        refine ⟨_, rfl, ?_⟩
        have h0 : ((i : Int) ≥ 0) := by omega
        rw [decide_eq_true h0]
        unfold wordIn
        rw [List.any_cons, decide_eq_true e]; rfl
      · rw [if_neg e]
        obtain ⟨k', rfl⟩ : ∃ k', k = k' + 1 := ⟨k - 1, by omega⟩
        obtain ⟨r, hr, hd⟩ := xindex_words a k' (i + 1) (by omega) (by omega)
        refine ⟨r, ?_, ?_⟩
        · rw [show wrap64 ((i : Int) + 1) = ((i + 1 : Nat) : Int) by rw [xw64 (by omega) (by omega)]; omega]
          exact hr
        · rw [hd]
          unfold wordIn
          rw [List.any_cons, decide_eq_false e]; rfl
    · have c1 : ¬ ((i : Int) < 17) := by omega
      simp only [slices_Index_string_string.l0]
      rw [if_neg c1]
      refine ⟨_, rfl, ?_⟩
      rw [List.drop_eq_nil_of_le (by rw [wordList_length]; omega)]
      rfl
theorem xcontains_words (a : ByteArray) : slices_Contains_string_string.f 18 wordList a = some (wordIn wordList a) := by
  obtain ⟨r, hr, hd⟩ := xindex_words a 17 0 (by omega) (by omega)
  unfold slices_Contains_string_string.f slices_Index_string_string.f
  rw [wordList_length]
  have hr' : slices_Index_string_string.l0 18 wordList a ((17 : Nat) : Int) 0 = some r := hr
  rw [hr', Option.bind_some, hd, List.drop_zero]
set_option maxHeartbeats 1000000 in
theorem token_is.calls (a0 : ByteArray) (r : Bool) (w : World) (h : token_is.f a0 = some r) :
    Calls Try.prog 63 #[.string a0] w fun e w' => e = .returned (.bool r) ∧ Below w.heap.size w w' := by
  obtain rfl := Option.some.inj h
  clear h
  obtain ⟨hz, hi0⟩ := zero_of_info words_info
  have HI := Aside0.mk (show (Try.prog.info? 115).map (·.size) = some wordCells.size from hi0)
  clear hi0
  go_enter Try.func63, Try.ntmps63
  go_wp2_with (first | (go_at_call 79; refine (token_words.calls _).mono ?_; rintro e w1 ⟨rfl, hb⟩; have HB := Aside0.mk hb; clear hb) | (refine wpList_store_row rfl 115 _ _ rfl w1.heap.size wordCells rfl rfl 115 wordNone (words_heap _ _) HI.out rfl wordCells_one ?_; rw [World.setRow_alloc_new]) | (go_at_call 80; refine (slices_Contains_string_string.calls 18 _ 17 wordList a0 (wordIn wordList a0) _ (words_C _ w1.heap.size (words_heap _ _)) (by rw [wordList_length]; omega) (xcontains_words a0)).mono ?_; rintro e w2 ⟨rfl, hd⟩; obtain ⟨nd, rfl⟩ := hd))
  go_ret
  exact ⟨rfl, pw_below_drewN (HB.out.alloc HB.out.size _) nd⟩

end Go.Proofs.Ytnojokempdcikaa.PA

namespace Go.Proofs.Ytnojokempdcikaa.PA
open Go.RowKit Go.Proofs.YtnojokempdcikaaW.PrintWords Go.Proofs.YtnojokempdcikaaW.PrintLast Go.Proofs.YtnojokempdcikaaW.PrintMore
attribute [local go_sem] max2_int min2_int max_two min_two max_three min_three max_four min_four   -- for this text's walks alone
set_option linter.unusedVariables false
set_option linter.unusedSimpArgs false

/-! ### strings_IndexByte: function 81 -/
--OWNPART Derived.Lib.Strings Derived.Lib.Walk Derived.Lib.Bytealg
/-- Where a byte first stands in a string. -/
def strings_IndexByte.f (a0 : ByteArray) (a1 : Int) : Option Int := some (Lib.indexByte a0.data.toList a1.toNat.toUInt8)
set_option maxHeartbeats 1000000 in
set_option maxRecDepth 100000 in
theorem xstringslite_IndexByte (s : ByteArray) (c : Int) (w : World) :
    Calls Try.prog 89 #[.string s, .int .u8 c] w fun e w' => e = .returned (.int .i64 (Lib.indexByte s.data.toList c.toNat.toUInt8)) ∧ w' = w := by
  go_enter Try.func89, Try.ntmps89
  go_wp2
  rw [run_callFunc_extern Try.func91 (by kernel_rfl) (by kernel_rfl) (by kernel_rfl) (e := Extern.BytealgIndexByte.indexByte) (by kernel_rfl), Lib.run_indexByteString]
  simp only [Result.andThen]
  rw [Oper.upon_value]
  go_wp2
  go_ret
  exact ⟨rfl, rfl⟩
theorem strings_IndexByte.calls (a0 : ByteArray) (a1 : Int) (r : Int) (w : World) (h : strings_IndexByte.f a0 a1 = some r) :
    Calls Try.prog 81 #[.string a0, .int .u8 a1] w fun e w' => e = .returned (.int .i64 r) ∧ Drawn0 w w' := by
  obtain rfl := Option.some.inj h
  go_enter Try.func81, Try.ntmps81
  go_wp2_with (first | (go_at_call 89; refine (xstringslite_IndexByte _ _ _).mono ?_; rintro e w' ⟨rfl, rfl⟩))
  go_ret
  exact ⟨rfl, Drawn0.refl _⟩

end Go.Proofs.Ytnojokempdcikaa.PA

namespace Go.Proofs.Ytnojokempdcikaa.PA
open Go.RowKit Go.Proofs.YtnojokempdcikaaW.PrintWords Go.Proofs.YtnojokempdcikaaW.PrintLast Go.Proofs.YtnojokempdcikaaW.PrintMore
attribute [local go_sem] max2_int min2_int max_two min_two max_three min_three max_four min_four   -- for this text's walks alone
set_option linter.unusedVariables false
set_option linter.unusedSimpArgs false

/-! ### token_kind: function 64 -/
mutual
def token_kind.j1 : Nat → Int → Option (Int)
  | 0, _ => none
  | k + 1, x0 => if x0 = 32 then (some 4) else (if x0 = 9 then (some 4) else (if x0 = 10 then (some 4) else (if x0 = 35 then (some 5) else ((strings_IndexByte.f (⟨#[61, 59, 44, 40, 41, 91, 93, 43, 45, 42, 47, 37]⟩ : ByteArray) x0).bind fun t101 => (if t101 ≥ 0 then (some 3) else (some 0))))))
def token_kind.j0 : Nat → Int → Bool → Option (Int)
  | 0, _, _ => none
  | k + 1, x0, x3 => if x3 = true then (some 1) else (if x0 ≥ 48 then (if x0 ≤ 57 then (some 2) else (token_kind.j1 k x0)) else (token_kind.j1 k x0))
end
def token_kind.f (k : Nat) (a0 : Int) : Option (Int) := if a0 ≥ 97 then (token_kind.j0 k a0 (decide (a0 ≤ 122))) else (token_kind.j0 k a0 false)
theorem token_kind.mono_l : ∀ k, (∀ y0, LeO (token_kind.j1 k y0) (token_kind.j1 (k + 1) y0)) ∧ (∀ y0 y1, LeO (token_kind.j0 k y0 y1) (token_kind.j0 (k + 1) y0 y1))
  | 0 => ⟨fun _ r h => by simp [token_kind.j1] at h, fun _ _ r h => by simp [token_kind.j0] at h⟩
  | k + 1 => by
    obtain ⟨ih0, ih1⟩ := token_kind.mono_l k
    refine ⟨?_, ?_⟩
    · intro y0
      unfold token_kind.j1
      repeat' first
      | (with_reducible exact ih0 _)
      | (with_reducible exact ih1 _ _)
      | (with_reducible exact LeO.refl _)
      | (with_reducible exact LeO.none _)
      | (with_reducible refine LeO.ite ?_ ?_)
      | (with_reducible refine LeO.bind ?_ (fun _ => ?_))
      | exact ih0 _
      | exact ih1 _ _
      | exact LeO.none _
      | refine LeO.ite ?_ ?_
      | refine LeO.bind ?_ (fun _ => ?_)
    · intro y0 y1
      unfold token_kind.j0
      repeat' first
      | (with_reducible exact ih0 _)
      | (with_reducible exact ih1 _ _)
      | (with_reducible exact LeO.refl _)
      | (with_reducible exact LeO.none _)
      | (with_reducible refine LeO.ite ?_ ?_)
      | (with_reducible refine LeO.bind ?_ (fun _ => ?_))
      | exact ih0 _
      | exact ih1 _ _
      | exact LeO.none _
      | refine LeO.ite ?_ ?_
      | refine LeO.bind ?_ (fun _ => ?_)
theorem token_kind.mono : ∀ a0 k, LeO (token_kind.f k a0) (token_kind.f (k + 1) a0) := by
  intro a0 k
  obtain ⟨ih0, ih1⟩ := token_kind.mono_l k
  unfold token_kind.f
  repeat' first
      | (with_reducible exact ih0 _)
      | (with_reducible exact ih1 _ _)
      | (with_reducible exact LeO.refl _)
      | (with_reducible exact LeO.none _)
      | (with_reducible refine LeO.ite ?_ ?_)
      | (with_reducible refine LeO.bind ?_ (fun _ => ?_))
      | exact ih0 _
      | exact ih1 _ _
      | exact LeO.none _
      | refine LeO.ite ?_ ?_
      | refine LeO.bind ?_ (fun _ => ?_)
set_option maxHeartbeats 8000000 in
set_option maxRecDepth 100000 in
theorem token_kind.calls (k : Nat) (a0 : Int) (r : Int) (w : World) (h : token_kind.f k a0 = some r) :
    Calls Try.prog 64 #[.int .u8 a0] w fun e w' => e = .returned (.int .i64 r) ∧ Drawn0 w w' := by
  have H : (if a0 ≥ 97 then (token_kind.j0 k a0 (decide (a0 ≤ 122))) else (token_kind.j0 k a0 false)) = some r := h
  clear h
  have HC2 := Aside0.mk H
  clear H
  go_enter Try.func64, Try.ntmps64
  go_upto_block 0 with (fail)
  go_cut [] (fun wc => ∃ (kq : Nat), Aside0 (token_kind.j1 kq a0 = some r) ∧ Aside0 (kq ≤ k) ∧ Drawn0 w wc)
  case first =>
    have H := HC2.out
    clear HC2
    have HC3 := Aside0.mk H
    clear H
    go_upto_region 1 with (fail)
    go_cut [3] (fun v3 wc => ∃ (kq : Nat) (x3_2 : Bool), v3 = .bool x3_2 ∧ Aside0 (token_kind.j0 kq a0 x3_2 = some r) ∧ Aside0 (kq ≤ k) ∧ Drawn0 w wc)
    case first =>
      have H := HC3.out
      clear HC3
      by_cases c4 : a0 ≥ 97
      · rw [if_pos c4] at H
        have c4b0 : decide (97 ≤ a0) = true := decide_eq_true c4
        clear c4
        (first | rw [c4b0] | (simp only [i64_w, i32_w]; rw [c4b0]) | skip)
        have H' := Aside0.mk H
        clear H
        go_wp2
        go_meet
        case rel => exact ⟨_, (decide (a0 ≤ 122)), (by first | rfl | (simp; done) | (simp [*]; done) | (simp [xbne_nil]; done)), H', ⟨by first | omega | exact Nat.le_refl _⟩, by repeat (first | exact Drawn0.refl _ | apply Drawn0.step)⟩
      · rw [if_neg c4] at H
        have c4b0 : decide (97 ≤ a0) = false := decide_eq_false c4
        clear c4
        (first | rw [c4b0] | (simp only [i64_w, i32_w]; rw [c4b0]) | skip)
        have H' := Aside0.mk H
        clear H
        go_wp2
        go_meet
        case rel => exact ⟨_, (false), (by first | rfl | (simp; done) | (simp [*]; done) | (simp [xbne_nil]; done)), H', ⟨by first | omega | exact Nat.le_refl _⟩, by repeat (first | exact Drawn0.refl _ | apply Drawn0.step)⟩
    case rest =>
      clear HC3
      try clear p2
      try clear c4
      try clear c4b0
      obtain ⟨kq, x3_2, rfl, HA, HJ2, ⟨mc2, rfl⟩⟩ := hcut
      cases kq with
      | zero => exact absurd HA.out (by simp [token_kind.j0])
      | succ kj2 =>
        have H := HA.out
        clear HA
        simp only [token_kind.j0] at H
        by_cases c5 : x3_2 = true
        · subst c5
          have H1 : (some 1) = some r := by rw [if_pos rfl] at H; exact H
          clear H
          have H := H1
          clear H1
          obtain rfl := Option.some.inj H
          go_wp2
          go_ret
          exact ⟨by first | rfl | (simp; done) | (simp [*]; done), by repeat (first | exact Drawn0.refl _ | apply Drawn0.step)⟩
        · replace c5 := Bool.eq_false_iff.mpr c5
          subst c5
          have H1 : (if a0 ≥ 48 then (if a0 ≤ 57 then (some 2) else (token_kind.j1 kj2 a0)) else (token_kind.j1 kj2 a0)) = some r := by rw [if_neg (show ¬ (false = true) by decide)] at H; exact H
          clear H
          have H := H1
          clear H1
          by_cases c6 : a0 ≥ 48
          · rw [if_pos c6] at H
            have c6b0 : decide (48 ≤ a0) = true := decide_eq_true c6
            clear c6
            by_cases c7 : a0 ≤ 57
            · rw [if_pos c7] at H
              have c7b0 : decide (a0 ≤ 57) = true := decide_eq_true c7
              clear c7
              obtain rfl := Option.some.inj H
              go_wp2
              go_ret
              exact ⟨by first | rfl | (simp; done) | (simp [*]; done), by repeat (first | exact Drawn0.refl _ | apply Drawn0.step)⟩
            · rw [if_neg c7] at H
              have c7b0 : decide (a0 ≤ 57) = false := decide_eq_false c7
              clear c7
              have H' := Aside0.mk H
              clear H
              go_wp2
              go_meet
              case rel => exact ⟨_, H', ⟨by have := HJ2.out; first | omega | exact Nat.le_refl _⟩, by repeat (first | exact Drawn0.refl _ | apply Drawn0.step)⟩
          · rw [if_neg c6] at H
            have c6b0 : decide (48 ≤ a0) = false := decide_eq_false c6
            clear c6
            have H' := Aside0.mk H
            clear H
            go_wp2
            go_meet
            case rel => exact ⟨_, H', ⟨by have := HJ2.out; first | omega | exact Nat.le_refl _⟩, by repeat (first | exact Drawn0.refl _ | apply Drawn0.step)⟩
  case rest =>
    clear HC2
    try clear c2
    try clear p2
    try clear c4
    try clear c4b0
    try clear c5
    try clear c6
    try clear c6b0
    try clear c7
    try clear c7b0
    try clear p2
    obtain ⟨kq, HA, HJ1, ⟨mc1, rfl⟩⟩ := hcut
    cases kq with
    | zero => exact absurd HA.out (by simp [token_kind.j1])
    | succ kj1 =>
      have H := HA.out
      clear HA
      simp only [token_kind.j1] at H
      by_cases c8 : a0 = 32
      · rw [if_pos c8] at H
        have c8b0 : (a0 == 32) = true := beq_iff_eq.mpr c8
        have c8b1 : (a0 != 32) = false := bne_eq_false_iff_eq.mpr c8
        clear c8
        obtain rfl := Option.some.inj H
        go_wp2
        go_ret
        exact ⟨by first | rfl | (simp; done) | (simp [*]; done), by repeat (first | exact Drawn0.refl _ | apply Drawn0.step)⟩
      · rw [if_neg c8] at H
        have c8b0 : (a0 == 32) = false := beq_eq_false_iff_ne.mpr c8
        have c8b1 : (a0 != 32) = true := bne_iff_ne.mpr c8
        by_cases c9 : a0 = 9
        · rw [if_pos c9] at H
          have c9b0 : (a0 == 9) = true := beq_iff_eq.mpr c9
          have c9b1 : (a0 != 9) = false := bne_eq_false_iff_eq.mpr c9
          clear c9
          obtain rfl := Option.some.inj H
          go_wp2
          go_ret
          exact ⟨by first | rfl | (simp; done) | (simp [*]; done), by repeat (first | exact Drawn0.refl _ | apply Drawn0.step)⟩
        · rw [if_neg c9] at H
          have c9b0 : (a0 == 9) = false := beq_eq_false_iff_ne.mpr c9
          have c9b1 : (a0 != 9) = true := bne_iff_ne.mpr c9
          by_cases c10 : a0 = 10
          · rw [if_pos c10] at H
            have c10b0 : (a0 == 10) = true := beq_iff_eq.mpr c10
            have c10b1 : (a0 != 10) = false := bne_eq_false_iff_eq.mpr c10
            clear c10
            obtain rfl := Option.some.inj H
            go_wp2
            go_ret
            exact ⟨by first | rfl | (simp; done) | (simp [*]; done), by repeat (first | exact Drawn0.refl _ | apply Drawn0.step)⟩
          · rw [if_neg c10] at H
            have c10b0 : (a0 == 10) = false := beq_eq_false_iff_ne.mpr c10
            have c10b1 : (a0 != 10) = true := bne_iff_ne.mpr c10
            by_cases c11 : a0 = 35
            · rw [if_pos c11] at H
              have c11b0 : (a0 == 35) = true := beq_iff_eq.mpr c11
              have c11b1 : (a0 != 35) = false := bne_eq_false_iff_eq.mpr c11
              clear c11
              obtain rfl := Option.some.inj H
              go_wp2
              go_ret
              exact ⟨by first | rfl | (simp; done) | (simp [*]; done), by repeat (first | exact Drawn0.refl _ | apply Drawn0.step)⟩
            · rw [if_neg c11] at H
              have c11b0 : (a0 == 35) = false := beq_eq_false_iff_ne.mpr c11
              have c11b1 : (a0 != 35) = true := bne_iff_ne.mpr c11
              replace H := Option.bind_eq_some_iff.mp H
              obtain ⟨t101, A120, H⟩ := H
              replace H : (if t101 ≥ 0 then (some 3) else (some 0)) = some r := H
              have A12 := Aside0.mk A120
              clear A120
              by_cases c13 : t101 ≥ 0
              · rw [if_pos c13] at H
                have c13b0 : decide (0 ≤ t101) = true := decide_eq_true c13
                clear c13
                obtain rfl := Option.some.inj H
                go_wp2_with (first | ((with_reducible refine gate_callee (f := 81) rfl ?_); refine goesL_ (some 27) rfl rfl Try.func81 (by kernel_rfl) rfl #[.string (⟨#[61, 59, 44, 40, 41, 91, 93, 43, 45, 42, 47, 37]⟩ : ByteArray), .int .u8 a0] rfl (by (try simp only [List.map_toArray, List.map_cons, List.map_nil]); first | done | rfl | (simp only [List.length_drop, List.length_take]; rfl)) ?_; (with_reducible refine (strings_IndexByte.calls (⟨#[61, 59, 44, 40, 41, 91, 93, 43, 45, 42, 47, 37]⟩ : ByteArray) a0 t101 _ A12.out).mono ?_); rintro e w' ⟨rfl, ⟨nd, rfl⟩⟩; refine ⟨_, rfl, ?_⟩))
                go_ret
                exact ⟨by first | rfl | (simp; done) | (simp [*]; done), by repeat (first | exact Drawn0.refl _ | apply Drawn0.step)⟩
              · rw [if_neg c13] at H
                have c13b0 : decide (0 ≤ t101) = false := decide_eq_false c13
                clear c13
                obtain rfl := Option.some.inj H
                go_wp2_with (first | ((with_reducible refine gate_callee (f := 81) rfl ?_); refine goesL_ (some 27) rfl rfl Try.func81 (by kernel_rfl) rfl #[.string (⟨#[61, 59, 44, 40, 41, 91, 93, 43, 45, 42, 47, 37]⟩ : ByteArray), .int .u8 a0] rfl (by (try simp only [List.map_toArray, List.map_cons, List.map_nil]); first | done | rfl | (simp only [List.length_drop, List.length_take]; rfl)) ?_; (with_reducible refine (strings_IndexByte.calls (⟨#[61, 59, 44, 40, 41, 91, 93, 43, 45, 42, 47, 37]⟩ : ByteArray) a0 t101 _ A12.out).mono ?_); rintro e w' ⟨rfl, ⟨nd, rfl⟩⟩; refine ⟨_, rfl, ?_⟩))
                go_ret
                exact ⟨by first | rfl | (simp; done) | (simp [*]; done), by repeat (first | exact Drawn0.refl _ | apply Drawn0.step)⟩

/-! ### token_named: function 62 -/
def token_named.l0 : Nat → ByteArray → Int → Int → Option (Bool)
  | 0, _, _, _ => none
  | k + 1, x0, x6, x7 => if x7 < x6 then (if 0 ≤ x7 then (if x7 < (x0.size : Int) then ((token_kind.f k (bt x0 x7)).bind fun t102 => (if t102 = 1 then (token_named.l0 k x0 x6 (wrap64 (x7 + 1))) else (if t102 = 2 then (if x7 = 0 then (some false) else (token_named.l0 k x0 x6 (wrap64 (x7 + 1)))) else (some false)))) else (none)) else (none)) else (if (x0.size : Int) ≥ 1 then (some (decide ((x0.size : Int) ≤ 16))) else (some false))
def token_named.f (k : Nat) (a0 : ByteArray) : Option (Bool) := token_named.l0 k a0 (a0.size : Int) 0
theorem token_named.mono_l : ∀ k, (∀ y0 y1 y2, LeO (token_named.l0 k y0 y1 y2) (token_named.l0 (k + 1) y0 y1 y2))
  | 0 => fun _ _ _ r h => by simp [token_named.l0] at h
  | k + 1 => by
    have ih0 := token_named.mono_l k
    · intro y0 y1 y2
      unfold token_named.l0
      repeat' first
      | (with_reducible exact ih0 _ _ _)
      | (with_reducible exact token_kind.mono _ _)
      | (with_reducible exact LeO.refl _)
      | (with_reducible exact LeO.none _)
      | (with_reducible refine LeO.ite ?_ ?_)
      | (with_reducible refine LeO.bind ?_ (fun _ => ?_))
      | exact ih0 _ _ _
      | exact token_kind.mono _ _
      | exact LeO.none _
      | refine LeO.ite ?_ ?_
      | refine LeO.bind ?_ (fun _ => ?_)
theorem token_named.mono : ∀ a0 k, LeO (token_named.f k a0) (token_named.f (k + 1) a0) := by
  intro a0 k
  have ih0 := token_named.mono_l k
  unfold token_named.f
  repeat' first
      | (with_reducible exact ih0 _ _ _)
      | (with_reducible exact token_kind.mono _ _)
      | (with_reducible exact LeO.refl _)
      | (with_reducible exact LeO.none _)
      | (with_reducible refine LeO.ite ?_ ?_)
      | (with_reducible refine LeO.bind ?_ (fun _ => ?_))
      | exact ih0 _ _ _
      | exact token_kind.mono _ _
      | exact LeO.none _
      | refine LeO.ite ?_ ?_
      | refine LeO.bind ?_ (fun _ => ?_)
set_option maxHeartbeats 8000000 in
set_option maxRecDepth 100000 in
theorem token_named.calls (k : Nat) (a0 : ByteArray) (r : Bool) (w : World) (h : token_named.f k a0 = some r) :
    Calls Try.prog 62 #[.string a0] w fun e w' => e = .returned (.bool r) ∧ Drawn0 w w' := by
  have H : (token_named.l0 k a0 (a0.size : Int) 0) = some r := h
  clear h
  have H' := Aside0.mk H
  clear H
  go_enter Try.func62, Try.ntmps62
  go_wp2
  go_loopg [7] k (fun kq v7 w' => ∃ (x7_1 : Int), v7 = .int .i64 x7_1 ∧ Aside0 (token_named.l0 kq a0 (a0.size : Int) x7_1 = some r) ∧ Aside0 (kq ≤ k) ∧ Drawn0 w w')
  case atStart => exact ⟨(0), (by first | rfl | (simp; done) | (simp [*]; done) | (simp [xbne_nil]; done)), H', ⟨Nat.le_refl _⟩, by repeat (first | exact Drawn0.refl _ | apply Drawn0.step)⟩
  case round =>
    clear H'
    obtain ⟨x7_1, rfl, HA, HK1, ⟨m1, rfl⟩⟩ := hrel
    cases gk with
    | zero => exact absurd HA.out (by simp [token_named.l0])
    | succ k1 =>
      have H := HA.out
      clear HA
      simp only [token_named.l0] at H
      by_cases c2 : x7_1 < (a0.size : Int)
      · rw [if_pos c2] at H
        have c2b0 : decide (x7_1 < (a0.size : Int)) = true := decide_eq_true c2
        clear c2
        by_cases c3 : 0 ≤ x7_1
        · rw [if_pos c3] at H
          have c3b0 : decide (0 ≤ x7_1) = true := decide_eq_true c3
          clear c3
          by_cases c4 : x7_1 < (a0.size : Int)
          · rw [if_pos c4] at H
            have c4b0 : decide (x7_1 < (a0.size : Int)) = true := decide_eq_true c4
            clear c4
            replace H := Option.bind_eq_some_iff.mp H
            obtain ⟨t102, A60, H⟩ := H
            replace H : (if t102 = 1 then (token_named.l0 k1 a0 (a0.size : Int) (wrap64 (x7_1 + 1))) else (if t102 = 2 then (if x7_1 = 0 then (some false) else (token_named.l0 k1 a0 (a0.size : Int) (wrap64 (x7_1 + 1)))) else (some false))) = some r := H
            have A6 := Aside0.mk A60
            clear A60
            by_cases c7 : t102 = 1
            · rw [if_pos c7] at H
              have c7b0 : (t102 == 1) = true := beq_iff_eq.mpr c7
              have c7b1 : (t102 != 1) = false := bne_eq_false_iff_eq.mpr c7
              clear c7
              have H' := Aside0.mk H
              clear H
              have p5 : 0 ≤ (x7_1 : Int) := of_decide_eq_true (by first | (with_reducible assumption) | assumption)
              have q5 : x7_1 < (a0.size : Int) := of_decide_eq_true (by first | (with_reducible assumption) | assumption)
              have hx5 := bt_at a0 x7_1
              replace p5 := eq_true p5
              replace q5 := eq_true q5
              go_wp2_with (first | ((with_reducible refine gate_callee (f := 64) rfl ?_); refine goesL_ (some 13) rfl rfl Try.func64 (by kernel_rfl) rfl #[.int .u8 (bt a0 x7_1)] rfl (by (try simp only [List.map_toArray, List.map_cons, List.map_nil]); first | done | rfl | (simp only [List.length_drop, List.length_take]; rfl)) ?_; (with_reducible refine (token_kind.calls k1 (bt a0 x7_1) t102 _ A6.out).mono ?_); rintro e w' ⟨rfl, ⟨nd, rfl⟩⟩; refine ⟨_, rfl, ?_⟩))
              go_roundg k1
              case measure => have := HK1.out; omega
              case rel => exact ⟨(wrap64 (x7_1 + 1)), (by first | rfl | (simp; done) | (simp [*]; done) | (simp [xbne_nil]; done)), H', ⟨by have := HK1.out; omega⟩, by repeat (first | exact Drawn0.refl _ | apply Drawn0.step)⟩
            · rw [if_neg c7] at H
              have c7b0 : (t102 == 1) = false := beq_eq_false_iff_ne.mpr c7
              have c7b1 : (t102 != 1) = true := bne_iff_ne.mpr c7
              by_cases c8 : t102 = 2
              · rw [if_pos c8] at H
                have c8b0 : (t102 == 2) = true := beq_iff_eq.mpr c8
                have c8b1 : (t102 != 2) = false := bne_eq_false_iff_eq.mpr c8
                clear c8
                by_cases c9 : x7_1 = 0
                · rw [if_pos c9] at H
                  have c9b0 : (x7_1 == 0) = true := beq_iff_eq.mpr c9
                  have c9b1 : (x7_1 != 0) = false := bne_eq_false_iff_eq.mpr c9
                  clear c9
                  obtain rfl := Option.some.inj H
                  have p5 : 0 ≤ (x7_1 : Int) := of_decide_eq_true (by first | (with_reducible assumption) | assumption)
                  have q5 : x7_1 < (a0.size : Int) := of_decide_eq_true (by first | (with_reducible assumption) | assumption)
                  have hx5 := bt_at a0 x7_1
                  replace p5 := eq_true p5
                  replace q5 := eq_true q5
                  go_wp2_with (first | ((with_reducible refine gate_callee (f := 64) rfl ?_); refine goesL_ (some 13) rfl rfl Try.func64 (by kernel_rfl) rfl #[.int .u8 (bt a0 x7_1)] rfl (by (try simp only [List.map_toArray, List.map_cons, List.map_nil]); first | done | rfl | (simp only [List.length_drop, List.length_take]; rfl)) ?_; (with_reducible refine (token_kind.calls k1 (bt a0 x7_1) t102 _ A6.out).mono ?_); rintro e w' ⟨rfl, ⟨nd, rfl⟩⟩; refine ⟨_, rfl, ?_⟩))
                  go_ret
                  exact ⟨by first | rfl | (simp; done) | (simp [*]; done), by repeat (first | exact Drawn0.refl _ | apply Drawn0.step)⟩
                · rw [if_neg c9] at H
                  have c9b0 : (x7_1 == 0) = false := beq_eq_false_iff_ne.mpr c9
                  have c9b1 : (x7_1 != 0) = true := bne_iff_ne.mpr c9
                  have H' := Aside0.mk H
                  clear H
                  have p5 : 0 ≤ (x7_1 : Int) := of_decide_eq_true (by first | (with_reducible assumption) | assumption)
                  have q5 : x7_1 < (a0.size : Int) := of_decide_eq_true (by first | (with_reducible assumption) | assumption)
                  have hx5 := bt_at a0 x7_1
                  replace p5 := eq_true p5
                  replace q5 := eq_true q5
                  go_wp2_with (first | ((with_reducible refine gate_callee (f := 64) rfl ?_); refine goesL_ (some 13) rfl rfl Try.func64 (by kernel_rfl) rfl #[.int .u8 (bt a0 x7_1)] rfl (by (try simp only [List.map_toArray, List.map_cons, List.map_nil]); first | done | rfl | (simp only [List.length_drop, List.length_take]; rfl)) ?_; (with_reducible refine (token_kind.calls k1 (bt a0 x7_1) t102 _ A6.out).mono ?_); rintro e w' ⟨rfl, ⟨nd, rfl⟩⟩; refine ⟨_, rfl, ?_⟩))
                  go_roundg k1
                  case measure => have := HK1.out; omega
                  case rel => exact ⟨(wrap64 (x7_1 + 1)), (by first | rfl | (simp; done) | (simp [*]; done) | (simp [xbne_nil]; done)), H', ⟨by have := HK1.out; omega⟩, by repeat (first | exact Drawn0.refl _ | apply Drawn0.step)⟩
              · rw [if_neg c8] at H
                have c8b0 : (t102 == 2) = false := beq_eq_false_iff_ne.mpr c8
                have c8b1 : (t102 != 2) = true := bne_iff_ne.mpr c8
                obtain rfl := Option.some.inj H
                have p5 : 0 ≤ (x7_1 : Int) := of_decide_eq_true (by first | (with_reducible assumption) | assumption)
                have q5 : x7_1 < (a0.size : Int) := of_decide_eq_true (by first | (with_reducible assumption) | assumption)
                have hx5 := bt_at a0 x7_1
                replace p5 := eq_true p5
                replace q5 := eq_true q5
                go_wp2_with (first | ((with_reducible refine gate_callee (f := 64) rfl ?_); refine goesL_ (some 13) rfl rfl Try.func64 (by kernel_rfl) rfl #[.int .u8 (bt a0 x7_1)] rfl (by (try simp only [List.map_toArray, List.map_cons, List.map_nil]); first | done | rfl | (simp only [List.length_drop, List.length_take]; rfl)) ?_; (with_reducible refine (token_kind.calls k1 (bt a0 x7_1) t102 _ A6.out).mono ?_); rintro e w' ⟨rfl, ⟨nd, rfl⟩⟩; refine ⟨_, rfl, ?_⟩))
                go_ret
                exact ⟨by first | rfl | (simp; done) | (simp [*]; done), by repeat (first | exact Drawn0.refl _ | apply Drawn0.step)⟩
          · rw [if_neg c4] at H
            exact absurd H (by simp)
        · rw [if_neg c3] at H
          exact absurd H (by simp)
      · rw [if_neg c2] at H
        have c2b0 : decide (x7_1 < (a0.size : Int)) = false := decide_eq_false c2
        clear c2
        by_cases c10 : (a0.size : Int) ≥ 1
        · rw [if_pos c10] at H
          have c10b0 : decide (1 ≤ (a0.size : Int)) = true := decide_eq_true c10
          have c10b1 : decide (1 ≤ a0.size) = true := decide_eq_true (by omega)
          clear c10
          obtain rfl := Option.some.inj H
          go_wp2
          go_ret
          exact ⟨by first | rfl | (simp; done) | (simp [*]; done), by repeat (first | exact Drawn0.refl _ | apply Drawn0.step)⟩
        · rw [if_neg c10] at H
          have c10b0 : decide (1 ≤ (a0.size : Int)) = false := decide_eq_false c10
          have c10b1 : decide (1 ≤ a0.size) = false := decide_eq_false (by omega)
          clear c10
          obtain rfl := Option.some.inj H
          go_wp2
          go_ret
          exact ⟨by first | rfl | (simp; done) | (simp [*]; done), by repeat (first | exact Drawn0.refl _ | apply Drawn0.step)⟩

end Go.Proofs.Ytnojokempdcikaa.PA

namespace Go.Proofs.Ytnojokempdcikaa.PA
open Go.RowKit Go.Proofs.YtnojokempdcikaaW.PrintWords Go.Proofs.YtnojokempdcikaaW.PrintLast Go.Proofs.YtnojokempdcikaaW.PrintMore
attribute [local go_sem] max2_int min2_int max_two min_two max_three min_three max_four min_four   -- for this text's walks alone
set_option linter.unusedVariables false
set_option linter.unusedSimpArgs false

/-! ### token_May: function 45 -/
def token_May.f (k : Nat) (a0_0 : Int) (a0_1 : ByteArray) (a0_2 : Int) (a0_3 : Int) (a0_4 : Int) : Option (Bool) := if a0_0 = 1 then (if a0_2 = 0 then ((token_named.f k a0_1).bind fun t106 => (if t106 = true then ((token_is.f a0_1).bind fun t107 => (some (!t107))) else (some false))) else (some false)) else (if a0_0 = 2 then (if a0_2 = 0 then ((token_is.f a0_1).bind fun t108 => (some t108)) else (some false)) else (if a0_0 = 3 then (if a0_1.toList = ([] : List UInt8) then (if a0_2 ≥ 0 then (some (decide (a0_2 ≤ 2147483647))) else (some false)) else (some false)) else (if a0_0 = 4 then (if a0_2 = 0 then (if (a0_1.size : Int) = 1 then (if 0 < (a0_1.size : Int) then ((token_kind.f k (bt a0_1 0)).bind fun t109 => (some (t109 == 3))) else (none)) else (some false)) else (some false)) else (some false))))
theorem token_May.mono : ∀ a0 a1 a2 a3 a4 k, LeO (token_May.f k a0 a1 a2 a3 a4) (token_May.f (k + 1) a0 a1 a2 a3 a4) := by
  intro a0 a1 a2 a3 a4 k
  unfold token_May.f
  repeat' first
      | (with_reducible exact token_kind.mono _ _)
      | (with_reducible exact token_named.mono _ _)
      | (with_reducible exact LeO.refl _)
      | (with_reducible exact LeO.none _)
      | (with_reducible refine LeO.ite ?_ ?_)
      | (with_reducible refine LeO.bind ?_ (fun _ => ?_))
      | exact token_kind.mono _ _
      | exact token_named.mono _ _
      | exact LeO.none _
      | refine LeO.ite ?_ ?_
      | refine LeO.bind ?_ (fun _ => ?_)
set_option maxHeartbeats 8000000 in
set_option maxRecDepth 100000 in
theorem token_May.calls (k : Nat) (a0_0 : Int) (a0_1 : ByteArray) (a0_2 : Int) (a0_3 : Int) (a0_4 : Int) (r : Bool) (w : World) (h : token_May.f k a0_0 a0_1 a0_2 a0_3 a0_4 = some r) :
    Calls Try.prog 45 #[.agg #[.int .u8 a0_0, .string a0_1, .int .i64 a0_2, .int .i64 a0_3, .int .i64 a0_4]] w fun e w' => e = .returned (.bool r) ∧ Below w.heap.size w w' := by
  have hu88 := Try.underlying88
  have HB := Aside0.mk (Below.refl w.heap.size w)
  have H : (if a0_0 = 1 then (if a0_2 = 0 then ((token_named.f k a0_1).bind fun t106 => (if t106 = true then ((token_is.f a0_1).bind fun t107 => (some (!t107))) else (some false))) else (some false)) else (if a0_0 = 2 then (if a0_2 = 0 then ((token_is.f a0_1).bind fun t108 => (some t108)) else (some false)) else (if a0_0 = 3 then (if a0_1.toList = ([] : List UInt8) then (if a0_2 ≥ 0 then (some (decide (a0_2 ≤ 2147483647))) else (some false)) else (some false)) else (if a0_0 = 4 then (if a0_2 = 0 then (if (a0_1.size : Int) = 1 then (if 0 < (a0_1.size : Int) then ((token_kind.f k (bt a0_1 0)).bind fun t109 => (some (t109 == 3))) else (none)) else (some false)) else (some false)) else (some false))))) = some r := h
  clear h
  by_cases c2 : a0_0 = 1
  · rw [if_pos c2] at H
    have c2b0 : (a0_0 == 1) = true := beq_iff_eq.mpr c2
    have c2b1 : (a0_0 != 1) = false := bne_eq_false_iff_eq.mpr c2
    clear c2
    by_cases c3 : a0_2 = 0
    · rw [if_pos c3] at H
      have c3b0 : (a0_2 == 0) = true := beq_iff_eq.mpr c3
      have c3b1 : (a0_2 != 0) = false := bne_eq_false_iff_eq.mpr c3
      clear c3
      replace H := Option.bind_eq_some_iff.mp H
      obtain ⟨t106, A40, H⟩ := H
      replace H : (if t106 = true then ((token_is.f a0_1).bind fun t107 => (some (!t107))) else (some false)) = some r := H
      have A4 := Aside0.mk A40
      clear A40
      by_cases c5 : t106 = true
      · subst c5
        have H1 : ((token_is.f a0_1).bind fun t107 => (some (!t107))) = some r := by rw [if_pos rfl] at H; exact H
        clear H
        have H := H1
        clear H1
        replace H := Option.bind_eq_some_iff.mp H
        obtain ⟨t107, A60, H⟩ := H
        replace H : (some (!t107)) = some r := H
        have A6 := Aside0.mk A60
        clear A60
        obtain rfl := Option.some.inj H
        go_enter Try.func45, Try.ntmps45
        go_wp2_with (first | ((with_reducible refine gate_dst (N := 1) rfl ?_); (try (refine gate_guard (by rfl) ?_; dsimp only)); refine box_event ?hg (N := 1) ?hd (cs := #[.int .u8 a0_0, .string a0_1, .int .i64 a0_2, .int .i64 a0_3, .int .i64 a0_4]) (t := 88) ?hr ?_; (case hd => rfl); (case hg => rfl); (case hr => first | (go_simp; done) | (go_simp; rfl)); intro gb105 hg w7 hbox hb; have n0_ := Aside0.mk (below_step (by repeat (first | (with_reducible first | exact HB.out | apply below_alloc | apply pw_below_drewN | apply below_drew1) | exact HB.out)) hb); have n1_ := Aside0.mk (hbox); have n2_ := Aside0.mk ((by rw [hg]; exact (below_size (by repeat (first | (with_reducible first | exact HB.out | apply below_alloc | apply pw_below_drewN | apply below_drew1) | exact HB.out))) : w.heap.size ≤ gb105)); have n3_ := Aside0.mk ((by rw [hg]; exact (below_size (by repeat (first | (with_reducible first | exact HB.out | apply below_alloc | apply pw_below_drewN | apply below_drew1) | exact HB.out))) : w.heap.size ≤ gb105)); clear HB; have HB := n0_; have BK105 := n1_; have GW105 := n2_; have GE105 := n3_; clear n0_ n1_ n2_ n3_; clear hb hbox hg; have hcz8_0 : w7.cell? ⟨gb105, 0, none⟩ = some (.int .u8 a0_0) := (blk_cell BK105.out 0).trans rfl; have hcz8_1 : w7.cell? ⟨gb105, 1, none⟩ = some (.string a0_1) := (blk_cell BK105.out 1).trans rfl; have hcz8_2 : w7.cell? ⟨gb105, 2, none⟩ = some (.int .i64 a0_2) := (blk_cell BK105.out 2).trans rfl; have hcz8_3 : w7.cell? ⟨gb105, 3, none⟩ = some (.int .i64 a0_3) := (blk_cell BK105.out 3).trans rfl; have hcz8_4 : w7.cell? ⟨gb105, 4, none⟩ = some (.int .i64 a0_4) := (blk_cell BK105.out 4).trans rfl; have hfz8_0 := blk_frozen BK105.out 0; have hfz8_1 := blk_frozen BK105.out 1; have hfz8_2 := blk_frozen BK105.out 2; have hfz8_3 := blk_frozen BK105.out 3; have hfz8_4 := blk_frozen BK105.out 4) | (go_at_call 62; (with_reducible refine (token_named.calls k a0_1 true _ A4.out).mono ?_); rintro e w' ⟨rfl, ⟨nd, rfl⟩⟩) | (go_at_call 63; (with_reducible refine (token_is.calls a0_1 t107 _ A6.out).mono ?_); rintro e w9 ⟨rfl, hb⟩; have n0_ := Aside0.mk (blk_below (g := gb105) (o := .cells #[.int .u8 a0_0, .string a0_1, .int .i64 a0_2, .int .i64 a0_3, .int .i64 a0_4] 88 (0, 0)) (by (with_reducible repeat (first | refine blk_drewN ?_ _ | refine blk_drew ?_ | refine blk_alloc ?_ _)); exact BK105.out) hb); have n1_ := Aside0.mk (below_step (by repeat (first | (with_reducible first | exact HB.out | apply below_alloc | apply pw_below_drewN | apply below_drew1 | refine below_set ?_ GE105.out) | exact HB.out)) hb); clear BK105; clear HB; have BK105 := n0_; have HB := n1_; clear n0_ n1_; (try clear hb); (try clear hb2); (try clear hk); (try clear hi)))
        go_ret
        exact ⟨by first | rfl | (simp [errW_none, errW_some] <;> rfl) | (simp [*, errW_none, errW_some] <;> rfl), by repeat (first | (with_reducible first | exact HB.out | apply below_alloc | apply pw_below_drewN | apply below_drew1 | refine below_set ?_ GE105.out) | exact HB.out)⟩
      · replace c5 := Bool.eq_false_iff.mpr c5
        subst c5
        have H1 : (some false) = some r := by rw [if_neg (show ¬ (false = true) by decide)] at H; exact H
        clear H
        have H := H1
        clear H1
        obtain rfl := Option.some.inj H
        go_enter Try.func45, Try.ntmps45
        go_wp2_with (first | ((with_reducible refine gate_dst (N := 1) rfl ?_); (try (refine gate_guard (by rfl) ?_; dsimp only)); refine box_event ?hg (N := 1) ?hd (cs := #[.int .u8 a0_0, .string a0_1, .int .i64 a0_2, .int .i64 a0_3, .int .i64 a0_4]) (t := 88) ?hr ?_; (case hd => rfl); (case hg => rfl); (case hr => first | (go_simp; done) | (go_simp; rfl)); intro gb105 hg w10 hbox hb; have n0_ := Aside0.mk (below_step (by repeat (first | (with_reducible first | exact HB.out | apply below_alloc | apply pw_below_drewN | apply below_drew1) | exact HB.out)) hb); have n1_ := Aside0.mk (hbox); have n2_ := Aside0.mk ((by rw [hg]; exact (below_size (by repeat (first | (with_reducible first | exact HB.out | apply below_alloc | apply pw_below_drewN | apply below_drew1) | exact HB.out))) : w.heap.size ≤ gb105)); have n3_ := Aside0.mk ((by rw [hg]; exact (below_size (by repeat (first | (with_reducible first | exact HB.out | apply below_alloc | apply pw_below_drewN | apply below_drew1) | exact HB.out))) : w.heap.size ≤ gb105)); clear HB; have HB := n0_; have BK105 := n1_; have GW105 := n2_; have GE105 := n3_; clear n0_ n1_ n2_ n3_; clear hb hbox hg; have hcz11_0 : w10.cell? ⟨gb105, 0, none⟩ = some (.int .u8 a0_0) := (blk_cell BK105.out 0).trans rfl; have hcz11_1 : w10.cell? ⟨gb105, 1, none⟩ = some (.string a0_1) := (blk_cell BK105.out 1).trans rfl; have hcz11_2 : w10.cell? ⟨gb105, 2, none⟩ = some (.int .i64 a0_2) := (blk_cell BK105.out 2).trans rfl; have hcz11_3 : w10.cell? ⟨gb105, 3, none⟩ = some (.int .i64 a0_3) := (blk_cell BK105.out 3).trans rfl; have hcz11_4 : w10.cell? ⟨gb105, 4, none⟩ = some (.int .i64 a0_4) := (blk_cell BK105.out 4).trans rfl; have hfz11_0 := blk_frozen BK105.out 0; have hfz11_1 := blk_frozen BK105.out 1; have hfz11_2 := blk_frozen BK105.out 2; have hfz11_3 := blk_frozen BK105.out 3; have hfz11_4 := blk_frozen BK105.out 4) | (go_at_call 62; (with_reducible refine (token_named.calls k a0_1 false _ A4.out).mono ?_); rintro e w' ⟨rfl, ⟨nd, rfl⟩⟩))
        go_ret
        exact ⟨by first | rfl | (simp [errW_none, errW_some] <;> rfl) | (simp [*, errW_none, errW_some] <;> rfl), by repeat (first | (with_reducible first | exact HB.out | apply below_alloc | apply pw_below_drewN | apply below_drew1 | refine below_set ?_ GE105.out) | exact HB.out)⟩
    · rw [if_neg c3] at H
      have c3b0 : (a0_2 == 0) = false := beq_eq_false_iff_ne.mpr c3
      have c3b1 : (a0_2 != 0) = true := bne_iff_ne.mpr c3
      obtain rfl := Option.some.inj H
      go_enter Try.func45, Try.ntmps45
      go_wp2_with (first | ((with_reducible refine gate_dst (N := 1) rfl ?_); (try (refine gate_guard (by rfl) ?_; dsimp only)); refine box_event ?hg (N := 1) ?hd (cs := #[.int .u8 a0_0, .string a0_1, .int .i64 a0_2, .int .i64 a0_3, .int .i64 a0_4]) (t := 88) ?hr ?_; (case hd => rfl); (case hg => rfl); (case hr => first | (go_simp; done) | (go_simp; rfl)); intro gb105 hg w12 hbox hb; have n0_ := Aside0.mk (below_step (by repeat (first | (with_reducible first | exact HB.out | apply below_alloc | apply pw_below_drewN | apply below_drew1) | exact HB.out)) hb); have n1_ := Aside0.mk (hbox); have n2_ := Aside0.mk ((by rw [hg]; exact (below_size (by repeat (first | (with_reducible first | exact HB.out | apply below_alloc | apply pw_below_drewN | apply below_drew1) | exact HB.out))) : w.heap.size ≤ gb105)); have n3_ := Aside0.mk ((by rw [hg]; exact (below_size (by repeat (first | (with_reducible first | exact HB.out | apply below_alloc | apply pw_below_drewN | apply below_drew1) | exact HB.out))) : w.heap.size ≤ gb105)); clear HB; have HB := n0_; have BK105 := n1_; have GW105 := n2_; have GE105 := n3_; clear n0_ n1_ n2_ n3_; clear hb hbox hg; have hcz13_0 : w12.cell? ⟨gb105, 0, none⟩ = some (.int .u8 a0_0) := (blk_cell BK105.out 0).trans rfl; have hcz13_1 : w12.cell? ⟨gb105, 1, none⟩ = some (.string a0_1) := (blk_cell BK105.out 1).trans rfl; have hcz13_2 : w12.cell? ⟨gb105, 2, none⟩ = some (.int .i64 a0_2) := (blk_cell BK105.out 2).trans rfl; have hcz13_3 : w12.cell? ⟨gb105, 3, none⟩ = some (.int .i64 a0_3) := (blk_cell BK105.out 3).trans rfl; have hcz13_4 : w12.cell? ⟨gb105, 4, none⟩ = some (.int .i64 a0_4) := (blk_cell BK105.out 4).trans rfl; have hfz13_0 := blk_frozen BK105.out 0; have hfz13_1 := blk_frozen BK105.out 1; have hfz13_2 := blk_frozen BK105.out 2; have hfz13_3 := blk_frozen BK105.out 3; have hfz13_4 := blk_frozen BK105.out 4))
      go_ret
      exact ⟨by first | rfl | (simp [errW_none, errW_some] <;> rfl) | (simp [*, errW_none, errW_some] <;> rfl), by repeat (first | (with_reducible first | exact HB.out | apply below_alloc | apply pw_below_drewN | apply below_drew1 | refine below_set ?_ GE105.out) | exact HB.out)⟩
  · rw [if_neg c2] at H
    have c2b0 : (a0_0 == 1) = false := beq_eq_false_iff_ne.mpr c2
    have c2b1 : (a0_0 != 1) = true := bne_iff_ne.mpr c2
    by_cases c14 : a0_0 = 2
    · rw [if_pos c14] at H
      have c14b0 : (a0_0 == 2) = true := beq_iff_eq.mpr c14
      have c14b1 : (a0_0 != 2) = false := bne_eq_false_iff_eq.mpr c14
      clear c14
      by_cases c15 : a0_2 = 0
      · rw [if_pos c15] at H
        have c15b0 : (a0_2 == 0) = true := beq_iff_eq.mpr c15
        have c15b1 : (a0_2 != 0) = false := bne_eq_false_iff_eq.mpr c15
        clear c15
        replace H := Option.bind_eq_some_iff.mp H
        obtain ⟨t108, A160, H⟩ := H
        replace H : (some t108) = some r := H
        have A16 := Aside0.mk A160
        clear A160
        obtain rfl := Option.some.inj H
        go_enter Try.func45, Try.ntmps45
        go_wp2_with (first | ((with_reducible refine gate_dst (N := 1) rfl ?_); (try (refine gate_guard (by rfl) ?_; dsimp only)); refine box_event ?hg (N := 1) ?hd (cs := #[.int .u8 a0_0, .string a0_1, .int .i64 a0_2, .int .i64 a0_3, .int .i64 a0_4]) (t := 88) ?hr ?_; (case hd => rfl); (case hg => rfl); (case hr => first | (go_simp; done) | (go_simp; rfl)); intro gb105 hg w17 hbox hb; have n0_ := Aside0.mk (below_step (by repeat (first | (with_reducible first | exact HB.out | apply below_alloc | apply pw_below_drewN | apply below_drew1) | exact HB.out)) hb); have n1_ := Aside0.mk (hbox); have n2_ := Aside0.mk ((by rw [hg]; exact (below_size (by repeat (first | (with_reducible first | exact HB.out | apply below_alloc | apply pw_below_drewN | apply below_drew1) | exact HB.out))) : w.heap.size ≤ gb105)); have n3_ := Aside0.mk ((by rw [hg]; exact (below_size (by repeat (first | (with_reducible first | exact HB.out | apply below_alloc | apply pw_below_drewN | apply below_drew1) | exact HB.out))) : w.heap.size ≤ gb105)); clear HB; have HB := n0_; have BK105 := n1_; have GW105 := n2_; have GE105 := n3_; clear n0_ n1_ n2_ n3_; clear hb hbox hg; have hcz18_0 : w17.cell? ⟨gb105, 0, none⟩ = some (.int .u8 a0_0) := (blk_cell BK105.out 0).trans rfl; have hcz18_1 : w17.cell? ⟨gb105, 1, none⟩ = some (.string a0_1) := (blk_cell BK105.out 1).trans rfl; have hcz18_2 : w17.cell? ⟨gb105, 2, none⟩ = some (.int .i64 a0_2) := (blk_cell BK105.out 2).trans rfl; have hcz18_3 : w17.cell? ⟨gb105, 3, none⟩ = some (.int .i64 a0_3) := (blk_cell BK105.out 3).trans rfl; have hcz18_4 : w17.cell? ⟨gb105, 4, none⟩ = some (.int .i64 a0_4) := (blk_cell BK105.out 4).trans rfl; have hfz18_0 := blk_frozen BK105.out 0; have hfz18_1 := blk_frozen BK105.out 1; have hfz18_2 := blk_frozen BK105.out 2; have hfz18_3 := blk_frozen BK105.out 3; have hfz18_4 := blk_frozen BK105.out 4) | (go_at_call 63; (with_reducible refine (token_is.calls a0_1 t108 _ A16.out).mono ?_); rintro e w19 ⟨rfl, hb⟩; have n0_ := Aside0.mk (blk_below (g := gb105) (o := .cells #[.int .u8 a0_0, .string a0_1, .int .i64 a0_2, .int .i64 a0_3, .int .i64 a0_4] 88 (0, 0)) (by (with_reducible repeat (first | refine blk_drewN ?_ _ | refine blk_drew ?_ | refine blk_alloc ?_ _)); exact BK105.out) hb); have n1_ := Aside0.mk (below_step (by repeat (first | (with_reducible first | exact HB.out | apply below_alloc | apply pw_below_drewN | apply below_drew1 | refine below_set ?_ GE105.out) | exact HB.out)) hb); clear BK105; clear HB; have BK105 := n0_; have HB := n1_; clear n0_ n1_; (try clear hb); (try clear hb2); (try clear hk); (try clear hi)))
        go_ret
        exact ⟨by first | rfl | (simp [errW_none, errW_some] <;> rfl) | (simp [*, errW_none, errW_some] <;> rfl), by repeat (first | (with_reducible first | exact HB.out | apply below_alloc | apply pw_below_drewN | apply below_drew1 | refine below_set ?_ GE105.out) | exact HB.out)⟩
      · rw [if_neg c15] at H
        have c15b0 : (a0_2 == 0) = false := beq_eq_false_iff_ne.mpr c15
        have c15b1 : (a0_2 != 0) = true := bne_iff_ne.mpr c15
        obtain rfl := Option.some.inj H
        go_enter Try.func45, Try.ntmps45
        go_wp2_with (first | ((with_reducible refine gate_dst (N := 1) rfl ?_); (try (refine gate_guard (by rfl) ?_; dsimp only)); refine box_event ?hg (N := 1) ?hd (cs := #[.int .u8 a0_0, .string a0_1, .int .i64 a0_2, .int .i64 a0_3, .int .i64 a0_4]) (t := 88) ?hr ?_; (case hd => rfl); (case hg => rfl); (case hr => first | (go_simp; done) | (go_simp; rfl)); intro gb105 hg w20 hbox hb; have n0_ := Aside0.mk (below_step (by repeat (first | (with_reducible first | exact HB.out | apply below_alloc | apply pw_below_drewN | apply below_drew1) | exact HB.out)) hb); have n1_ := Aside0.mk (hbox); have n2_ := Aside0.mk ((by rw [hg]; exact (below_size (by repeat (first | (with_reducible first | exact HB.out | apply below_alloc | apply pw_below_drewN | apply below_drew1) | exact HB.out))) : w.heap.size ≤ gb105)); have n3_ := Aside0.mk ((by rw [hg]; exact (below_size (by repeat (first | (with_reducible first | exact HB.out | apply below_alloc | apply pw_below_drewN | apply below_drew1) | exact HB.out))) : w.heap.size ≤ gb105)); clear HB; have HB := n0_; have BK105 := n1_; have GW105 := n2_; have GE105 := n3_; clear n0_ n1_ n2_ n3_; clear hb hbox hg; have hcz21_0 : w20.cell? ⟨gb105, 0, none⟩ = some (.int .u8 a0_0) := (blk_cell BK105.out 0).trans rfl; have hcz21_1 : w20.cell? ⟨gb105, 1, none⟩ = some (.string a0_1) := (blk_cell BK105.out 1).trans rfl; have hcz21_2 : w20.cell? ⟨gb105, 2, none⟩ = some (.int .i64 a0_2) := (blk_cell BK105.out 2).trans rfl; have hcz21_3 : w20.cell? ⟨gb105, 3, none⟩ = some (.int .i64 a0_3) := (blk_cell BK105.out 3).trans rfl; have hcz21_4 : w20.cell? ⟨gb105, 4, none⟩ = some (.int .i64 a0_4) := (blk_cell BK105.out 4).trans rfl; have hfz21_0 := blk_frozen BK105.out 0; have hfz21_1 := blk_frozen BK105.out 1; have hfz21_2 := blk_frozen BK105.out 2; have hfz21_3 := blk_frozen BK105.out 3; have hfz21_4 := blk_frozen BK105.out 4))
        go_ret
        exact ⟨by first | rfl | (simp [errW_none, errW_some] <;> rfl) | (simp [*, errW_none, errW_some] <;> rfl), by repeat (first | (with_reducible first | exact HB.out | apply below_alloc | apply pw_below_drewN | apply below_drew1 | refine below_set ?_ GE105.out) | exact HB.out)⟩
    · rw [if_neg c14] at H
      have c14b0 : (a0_0 == 2) = false := beq_eq_false_iff_ne.mpr c14
      have c14b1 : (a0_0 != 2) = true := bne_iff_ne.mpr c14
      by_cases c22 : a0_0 = 3
      · rw [if_pos c22] at H
        have c22b0 : (a0_0 == 3) = true := beq_iff_eq.mpr c22
        have c22b1 : (a0_0 != 3) = false := bne_eq_false_iff_eq.mpr c22
        clear c22
        by_cases c23 : a0_1.toList = ([] : List UInt8)
        · rw [if_pos c23] at H
          have c23b0 : (a0_1.toList == ([] : List UInt8)) = true := beq_iff_eq.mpr c23
          have c23b1 : (a0_1.toList != ([] : List UInt8)) = false := bne_eq_false_iff_eq.mpr c23
          clear c23
          by_cases c24 : a0_2 ≥ 0
          · rw [if_pos c24] at H
            have c24b0 : decide (0 ≤ a0_2) = true := decide_eq_true c24
            clear c24
            obtain rfl := Option.some.inj H
            go_enter Try.func45, Try.ntmps45
            go_wp2_with (first | ((with_reducible refine gate_dst (N := 1) rfl ?_); (try (refine gate_guard (by rfl) ?_; dsimp only)); refine box_event ?hg (N := 1) ?hd (cs := #[.int .u8 a0_0, .string a0_1, .int .i64 a0_2, .int .i64 a0_3, .int .i64 a0_4]) (t := 88) ?hr ?_; (case hd => rfl); (case hg => rfl); (case hr => first | (go_simp; done) | (go_simp; rfl)); intro gb105 hg w25 hbox hb; have n0_ := Aside0.mk (below_step (by repeat (first | (with_reducible first | exact HB.out | apply below_alloc | apply pw_below_drewN | apply below_drew1) | exact HB.out)) hb); have n1_ := Aside0.mk (hbox); have n2_ := Aside0.mk ((by rw [hg]; exact (below_size (by repeat (first | (with_reducible first | exact HB.out | apply below_alloc | apply pw_below_drewN | apply below_drew1) | exact HB.out))) : w.heap.size ≤ gb105)); have n3_ := Aside0.mk ((by rw [hg]; exact (below_size (by repeat (first | (with_reducible first | exact HB.out | apply below_alloc | apply pw_below_drewN | apply below_drew1) | exact HB.out))) : w.heap.size ≤ gb105)); clear HB; have HB := n0_; have BK105 := n1_; have GW105 := n2_; have GE105 := n3_; clear n0_ n1_ n2_ n3_; clear hb hbox hg; have hcz26_0 : w25.cell? ⟨gb105, 0, none⟩ = some (.int .u8 a0_0) := (blk_cell BK105.out 0).trans rfl; have hcz26_1 : w25.cell? ⟨gb105, 1, none⟩ = some (.string a0_1) := (blk_cell BK105.out 1).trans rfl; have hcz26_2 : w25.cell? ⟨gb105, 2, none⟩ = some (.int .i64 a0_2) := (blk_cell BK105.out 2).trans rfl; have hcz26_3 : w25.cell? ⟨gb105, 3, none⟩ = some (.int .i64 a0_3) := (blk_cell BK105.out 3).trans rfl; have hcz26_4 : w25.cell? ⟨gb105, 4, none⟩ = some (.int .i64 a0_4) := (blk_cell BK105.out 4).trans rfl; have hfz26_0 := blk_frozen BK105.out 0; have hfz26_1 := blk_frozen BK105.out 1; have hfz26_2 := blk_frozen BK105.out 2; have hfz26_3 := blk_frozen BK105.out 3; have hfz26_4 := blk_frozen BK105.out 4))
            go_ret
            exact ⟨by first | rfl | (simp [errW_none, errW_some] <;> rfl) | (simp [*, errW_none, errW_some] <;> rfl), by repeat (first | (with_reducible first | exact HB.out | apply below_alloc | apply pw_below_drewN | apply below_drew1 | refine below_set ?_ GE105.out) | exact HB.out)⟩
          · rw [if_neg c24] at H
            have c24b0 : decide (0 ≤ a0_2) = false := decide_eq_false c24
            clear c24
            obtain rfl := Option.some.inj H
            go_enter Try.func45, Try.ntmps45
            go_wp2_with (first | ((with_reducible refine gate_dst (N := 1) rfl ?_); (try (refine gate_guard (by rfl) ?_; dsimp only)); refine box_event ?hg (N := 1) ?hd (cs := #[.int .u8 a0_0, .string a0_1, .int .i64 a0_2, .int .i64 a0_3, .int .i64 a0_4]) (t := 88) ?hr ?_; (case hd => rfl); (case hg => rfl); (case hr => first | (go_simp; done) | (go_simp; rfl)); intro gb105 hg w27 hbox hb; have n0_ := Aside0.mk (below_step (by repeat (first | (with_reducible first | exact HB.out | apply below_alloc | apply pw_below_drewN | apply below_drew1) | exact HB.out)) hb); have n1_ := Aside0.mk (hbox); have n2_ := Aside0.mk ((by rw [hg]; exact (below_size (by repeat (first | (with_reducible first | exact HB.out | apply below_alloc | apply pw_below_drewN | apply below_drew1) | exact HB.out))) : w.heap.size ≤ gb105)); have n3_ := Aside0.mk ((by rw [hg]; exact (below_size (by repeat (first | (with_reducible first | exact HB.out | apply below_alloc | apply pw_below_drewN | apply below_drew1) | exact HB.out))) : w.heap.size ≤ gb105)); clear HB; have HB := n0_; have BK105 := n1_; have GW105 := n2_; have GE105 := n3_; clear n0_ n1_ n2_ n3_; clear hb hbox hg; have hcz28_0 : w27.cell? ⟨gb105, 0, none⟩ = some (.int .u8 a0_0) := (blk_cell BK105.out 0).trans rfl; have hcz28_1 : w27.cell? ⟨gb105, 1, none⟩ = some (.string a0_1) := (blk_cell BK105.out 1).trans rfl; have hcz28_2 : w27.cell? ⟨gb105, 2, none⟩ = some (.int .i64 a0_2) := (blk_cell BK105.out 2).trans rfl; have hcz28_3 : w27.cell? ⟨gb105, 3, none⟩ = some (.int .i64 a0_3) := (blk_cell BK105.out 3).trans rfl; have hcz28_4 : w27.cell? ⟨gb105, 4, none⟩ = some (.int .i64 a0_4) := (blk_cell BK105.out 4).trans rfl; have hfz28_0 := blk_frozen BK105.out 0; have hfz28_1 := blk_frozen BK105.out 1; have hfz28_2 := blk_frozen BK105.out 2; have hfz28_3 := blk_frozen BK105.out 3; have hfz28_4 := blk_frozen BK105.out 4))
            go_ret
            exact ⟨by first | rfl | (simp [errW_none, errW_some] <;> rfl) | (simp [*, errW_none, errW_some] <;> rfl), by repeat (first | (with_reducible first | exact HB.out | apply below_alloc | apply pw_below_drewN | apply below_drew1 | refine below_set ?_ GE105.out) | exact HB.out)⟩
        · rw [if_neg c23] at H
          have c23b0 : (a0_1.toList == ([] : List UInt8)) = false := beq_eq_false_iff_ne.mpr c23
          have c23b1 : (a0_1.toList != ([] : List UInt8)) = true := bne_iff_ne.mpr c23
          obtain rfl := Option.some.inj H
          go_enter Try.func45, Try.ntmps45
          go_wp2_with (first | ((with_reducible refine gate_dst (N := 1) rfl ?_); (try (refine gate_guard (by rfl) ?_; dsimp only)); refine box_event ?hg (N := 1) ?hd (cs := #[.int .u8 a0_0, .string a0_1, .int .i64 a0_2, .int .i64 a0_3, .int .i64 a0_4]) (t := 88) ?hr ?_; (case hd => rfl); (case hg => rfl); (case hr => first | (go_simp; done) | (go_simp; rfl)); intro gb105 hg w29 hbox hb; have n0_ := Aside0.mk (below_step (by repeat (first | (with_reducible first | exact HB.out | apply below_alloc | apply pw_below_drewN | apply below_drew1) | exact HB.out)) hb); have n1_ := Aside0.mk (hbox); have n2_ := Aside0.mk ((by rw [hg]; exact (below_size (by repeat (first | (with_reducible first | exact HB.out | apply below_alloc | apply pw_below_drewN | apply below_drew1) | exact HB.out))) : w.heap.size ≤ gb105)); have n3_ := Aside0.mk ((by rw [hg]; exact (below_size (by repeat (first | (with_reducible first | exact HB.out | apply below_alloc | apply pw_below_drewN | apply below_drew1) | exact HB.out))) : w.heap.size ≤ gb105)); clear HB; have HB := n0_; have BK105 := n1_; have GW105 := n2_; have GE105 := n3_; clear n0_ n1_ n2_ n3_; clear hb hbox hg; have hcz30_0 : w29.cell? ⟨gb105, 0, none⟩ = some (.int .u8 a0_0) := (blk_cell BK105.out 0).trans rfl; have hcz30_1 : w29.cell? ⟨gb105, 1, none⟩ = some (.string a0_1) := (blk_cell BK105.out 1).trans rfl; have hcz30_2 : w29.cell? ⟨gb105, 2, none⟩ = some (.int .i64 a0_2) := (blk_cell BK105.out 2).trans rfl; have hcz30_3 : w29.cell? ⟨gb105, 3, none⟩ = some (.int .i64 a0_3) := (blk_cell BK105.out 3).trans rfl; have hcz30_4 : w29.cell? ⟨gb105, 4, none⟩ = some (.int .i64 a0_4) := (blk_cell BK105.out 4).trans rfl; have hfz30_0 := blk_frozen BK105.out 0; have hfz30_1 := blk_frozen BK105.out 1; have hfz30_2 := blk_frozen BK105.out 2; have hfz30_3 := blk_frozen BK105.out 3; have hfz30_4 := blk_frozen BK105.out 4))
          go_ret
          exact ⟨by first | rfl | (simp [errW_none, errW_some] <;> rfl) | (simp [*, errW_none, errW_some] <;> rfl), by repeat (first | (with_reducible first | exact HB.out | apply below_alloc | apply pw_below_drewN | apply below_drew1 | refine below_set ?_ GE105.out) | exact HB.out)⟩
      · rw [if_neg c22] at H
        have c22b0 : (a0_0 == 3) = false := beq_eq_false_iff_ne.mpr c22
        have c22b1 : (a0_0 != 3) = true := bne_iff_ne.mpr c22
        by_cases c31 : a0_0 = 4
        · rw [if_pos c31] at H
          have c31b0 : (a0_0 == 4) = true := beq_iff_eq.mpr c31
          have c31b1 : (a0_0 != 4) = false := bne_eq_false_iff_eq.mpr c31
          clear c31
          by_cases c32 : a0_2 = 0
          · rw [if_pos c32] at H
            have c32b0 : (a0_2 == 0) = true := beq_iff_eq.mpr c32
            have c32b1 : (a0_2 != 0) = false := bne_eq_false_iff_eq.mpr c32
            clear c32
            by_cases c33 : (a0_1.size : Int) = 1
            · rw [if_pos c33] at H
              have c33b0 : ((a0_1.size : Int) == 1) = true := beq_iff_eq.mpr c33
              have c33b1 : ((a0_1.size : Int) != 1) = false := bne_eq_false_iff_eq.mpr c33
              clear c33
              by_cases c34 : 0 < (a0_1.size : Int)
              · rw [if_pos c34] at H
                have c34b0 : decide (0 < (a0_1.size : Int)) = true := decide_eq_true c34
                have c34b1 : decide (0 < a0_1.size) = true := decide_eq_true (by omega)
                clear c34
                replace H := Option.bind_eq_some_iff.mp H
                obtain ⟨t109, A360, H⟩ := H
                replace H : (some (t109 == 3)) = some r := H
                have A36 := Aside0.mk A360
                clear A360
                obtain rfl := Option.some.inj H
                go_enter Try.func45, Try.ntmps45
                go_wp2_with (first | ((with_reducible refine gate_dst (N := 1) rfl ?_); (try (refine gate_guard (by rfl) ?_; dsimp only)); refine box_event ?hg (N := 1) ?hd (cs := #[.int .u8 a0_0, .string a0_1, .int .i64 a0_2, .int .i64 a0_3, .int .i64 a0_4]) (t := 88) ?hr ?_; (case hd => rfl); (case hg => rfl); (case hr => first | (go_simp; done) | (go_simp; rfl)); intro gb105 hg w37 hbox hb; have n0_ := Aside0.mk (below_step (by repeat (first | (with_reducible first | exact HB.out | apply below_alloc | apply pw_below_drewN | apply below_drew1) | exact HB.out)) hb); have n1_ := Aside0.mk (hbox); have n2_ := Aside0.mk ((by rw [hg]; exact (below_size (by repeat (first | (with_reducible first | exact HB.out | apply below_alloc | apply pw_below_drewN | apply below_drew1) | exact HB.out))) : w.heap.size ≤ gb105)); have n3_ := Aside0.mk ((by rw [hg]; exact (below_size (by repeat (first | (with_reducible first | exact HB.out | apply below_alloc | apply pw_below_drewN | apply below_drew1) | exact HB.out))) : w.heap.size ≤ gb105)); clear HB; have HB := n0_; have BK105 := n1_; have GW105 := n2_; have GE105 := n3_; clear n0_ n1_ n2_ n3_; clear hb hbox hg; have hcz38_0 : w37.cell? ⟨gb105, 0, none⟩ = some (.int .u8 a0_0) := (blk_cell BK105.out 0).trans rfl; have hcz38_1 : w37.cell? ⟨gb105, 1, none⟩ = some (.string a0_1) := (blk_cell BK105.out 1).trans rfl; have hcz38_2 : w37.cell? ⟨gb105, 2, none⟩ = some (.int .i64 a0_2) := (blk_cell BK105.out 2).trans rfl; have hcz38_3 : w37.cell? ⟨gb105, 3, none⟩ = some (.int .i64 a0_3) := (blk_cell BK105.out 3).trans rfl; have hcz38_4 : w37.cell? ⟨gb105, 4, none⟩ = some (.int .i64 a0_4) := (blk_cell BK105.out 4).trans rfl; have hfz38_0 := blk_frozen BK105.out 0; have hfz38_1 := blk_frozen BK105.out 1; have hfz38_2 := blk_frozen BK105.out 2; have hfz38_3 := blk_frozen BK105.out 3; have hfz38_4 := blk_frozen BK105.out 4; have p35 : 0 ≤ (0 : Int) := (by omega); have q35 : 0 < a0_1.size := (by have : (0 : Int) < (a0_1.size : Int) := of_decide_eq_true (by first | (with_reducible assumption) | assumption); omega); have hx35 : ∀ h : 0 < a0_1.size, ((a0_1[0]'h).toNat : Int) = bt a0_1 0 := bt_at a0_1 0; clear p35; have qi35 : (0 < (a0_1.size : Int)) = True := eq_true (of_decide_eq_true (by first | (with_reducible assumption) | assumption)); replace q35 := eq_true q35) | (go_at_call 64; (with_reducible refine (token_kind.calls k (bt a0_1 0) t109 _ A36.out).mono ?_); rintro e w' ⟨rfl, ⟨nd, rfl⟩⟩))
                go_ret
                exact ⟨by first | rfl | (simp [errW_none, errW_some] <;> rfl) | (simp [*, errW_none, errW_some] <;> rfl), by repeat (first | (with_reducible first | exact HB.out | apply below_alloc | apply pw_below_drewN | apply below_drew1 | refine below_set ?_ GE105.out) | exact HB.out)⟩
              · rw [if_neg c34] at H
                exact absurd H (by simp)
            · rw [if_neg c33] at H
              have c33b0 : ((a0_1.size : Int) == 1) = false := beq_eq_false_iff_ne.mpr c33
              have c33b1 : ((a0_1.size : Int) != 1) = true := bne_iff_ne.mpr c33
              obtain rfl := Option.some.inj H
              go_enter Try.func45, Try.ntmps45
              go_wp2_with (first | ((with_reducible refine gate_dst (N := 1) rfl ?_); (try (refine gate_guard (by rfl) ?_; dsimp only)); refine box_event ?hg (N := 1) ?hd (cs := #[.int .u8 a0_0, .string a0_1, .int .i64 a0_2, .int .i64 a0_3, .int .i64 a0_4]) (t := 88) ?hr ?_; (case hd => rfl); (case hg => rfl); (case hr => first | (go_simp; done) | (go_simp; rfl)); intro gb105 hg w39 hbox hb; have n0_ := Aside0.mk (below_step (by repeat (first | (with_reducible first | exact HB.out | apply below_alloc | apply pw_below_drewN | apply below_drew1) | exact HB.out)) hb); have n1_ := Aside0.mk (hbox); have n2_ := Aside0.mk ((by rw [hg]; exact (below_size (by repeat (first | (with_reducible first | exact HB.out | apply below_alloc | apply pw_below_drewN | apply below_drew1) | exact HB.out))) : w.heap.size ≤ gb105)); have n3_ := Aside0.mk ((by rw [hg]; exact (below_size (by repeat (first | (with_reducible first | exact HB.out | apply below_alloc | apply pw_below_drewN | apply below_drew1) | exact HB.out))) : w.heap.size ≤ gb105)); clear HB; have HB := n0_; have BK105 := n1_; have GW105 := n2_; have GE105 := n3_; clear n0_ n1_ n2_ n3_; clear hb hbox hg; have hcz40_0 : w39.cell? ⟨gb105, 0, none⟩ = some (.int .u8 a0_0) := (blk_cell BK105.out 0).trans rfl; have hcz40_1 : w39.cell? ⟨gb105, 1, none⟩ = some (.string a0_1) := (blk_cell BK105.out 1).trans rfl; have hcz40_2 : w39.cell? ⟨gb105, 2, none⟩ = some (.int .i64 a0_2) := (blk_cell BK105.out 2).trans rfl; have hcz40_3 : w39.cell? ⟨gb105, 3, none⟩ = some (.int .i64 a0_3) := (blk_cell BK105.out 3).trans rfl; have hcz40_4 : w39.cell? ⟨gb105, 4, none⟩ = some (.int .i64 a0_4) := (blk_cell BK105.out 4).trans rfl; have hfz40_0 := blk_frozen BK105.out 0; have hfz40_1 := blk_frozen BK105.out 1; have hfz40_2 := blk_frozen BK105.out 2; have hfz40_3 := blk_frozen BK105.out 3; have hfz40_4 := blk_frozen BK105.out 4))
              go_ret
              exact ⟨by first | rfl | (simp [errW_none, errW_some] <;> rfl) | (simp [*, errW_none, errW_some] <;> rfl), by repeat (first | (with_reducible first | exact HB.out | apply below_alloc | apply pw_below_drewN | apply below_drew1 | refine below_set ?_ GE105.out) | exact HB.out)⟩
          · rw [if_neg c32] at H
            have c32b0 : (a0_2 == 0) = false := beq_eq_false_iff_ne.mpr c32
            have c32b1 : (a0_2 != 0) = true := bne_iff_ne.mpr c32
            obtain rfl := Option.some.inj H
            go_enter Try.func45, Try.ntmps45
            go_wp2_with (first | ((with_reducible refine gate_dst (N := 1) rfl ?_); (try (refine gate_guard (by rfl) ?_; dsimp only)); refine box_event ?hg (N := 1) ?hd (cs := #[.int .u8 a0_0, .string a0_1, .int .i64 a0_2, .int .i64 a0_3, .int .i64 a0_4]) (t := 88) ?hr ?_; (case hd => rfl); (case hg => rfl); (case hr => first | (go_simp; done) | (go_simp; rfl)); intro gb105 hg w41 hbox hb; have n0_ := Aside0.mk (below_step (by repeat (first | (with_reducible first | exact HB.out | apply below_alloc | apply pw_below_drewN | apply below_drew1) | exact HB.out)) hb); have n1_ := Aside0.mk (hbox); have n2_ := Aside0.mk ((by rw [hg]; exact (below_size (by repeat (first | (with_reducible first | exact HB.out | apply below_alloc | apply pw_below_drewN | apply below_drew1) | exact HB.out))) : w.heap.size ≤ gb105)); have n3_ := Aside0.mk ((by rw [hg]; exact (below_size (by repeat (first | (with_reducible first | exact HB.out | apply below_alloc | apply pw_below_drewN | apply below_drew1) | exact HB.out))) : w.heap.size ≤ gb105)); clear HB; have HB := n0_; have BK105 := n1_; have GW105 := n2_; have GE105 := n3_; clear n0_ n1_ n2_ n3_; clear hb hbox hg; have hcz42_0 : w41.cell? ⟨gb105, 0, none⟩ = some (.int .u8 a0_0) := (blk_cell BK105.out 0).trans rfl; have hcz42_1 : w41.cell? ⟨gb105, 1, none⟩ = some (.string a0_1) := (blk_cell BK105.out 1).trans rfl; have hcz42_2 : w41.cell? ⟨gb105, 2, none⟩ = some (.int .i64 a0_2) := (blk_cell BK105.out 2).trans rfl; have hcz42_3 : w41.cell? ⟨gb105, 3, none⟩ = some (.int .i64 a0_3) := (blk_cell BK105.out 3).trans rfl; have hcz42_4 : w41.cell? ⟨gb105, 4, none⟩ = some (.int .i64 a0_4) := (blk_cell BK105.out 4).trans rfl; have hfz42_0 := blk_frozen BK105.out 0; have hfz42_1 := blk_frozen BK105.out 1; have hfz42_2 := blk_frozen BK105.out 2; have hfz42_3 := blk_frozen BK105.out 3; have hfz42_4 := blk_frozen BK105.out 4))
            go_ret
            exact ⟨by first | rfl | (simp [errW_none, errW_some] <;> rfl) | (simp [*, errW_none, errW_some] <;> rfl), by repeat (first | (with_reducible first | exact HB.out | apply below_alloc | apply pw_below_drewN | apply below_drew1 | refine below_set ?_ GE105.out) | exact HB.out)⟩
        · rw [if_neg c31] at H
          have c31b0 : (a0_0 == 4) = false := beq_eq_false_iff_ne.mpr c31
          have c31b1 : (a0_0 != 4) = true := bne_iff_ne.mpr c31
          obtain rfl := Option.some.inj H
          go_enter Try.func45, Try.ntmps45
          go_wp2_with (first | ((with_reducible refine gate_dst (N := 1) rfl ?_); (try (refine gate_guard (by rfl) ?_; dsimp only)); refine box_event ?hg (N := 1) ?hd (cs := #[.int .u8 a0_0, .string a0_1, .int .i64 a0_2, .int .i64 a0_3, .int .i64 a0_4]) (t := 88) ?hr ?_; (case hd => rfl); (case hg => rfl); (case hr => first | (go_simp; done) | (go_simp; rfl)); intro gb105 hg w43 hbox hb; have n0_ := Aside0.mk (below_step (by repeat (first | (with_reducible first | exact HB.out | apply below_alloc | apply pw_below_drewN | apply below_drew1) | exact HB.out)) hb); have n1_ := Aside0.mk (hbox); have n2_ := Aside0.mk ((by rw [hg]; exact (below_size (by repeat (first | (with_reducible first | exact HB.out | apply below_alloc | apply pw_below_drewN | apply below_drew1) | exact HB.out))) : w.heap.size ≤ gb105)); have n3_ := Aside0.mk ((by rw [hg]; exact (below_size (by repeat (first | (with_reducible first | exact HB.out | apply below_alloc | apply pw_below_drewN | apply below_drew1) | exact HB.out))) : w.heap.size ≤ gb105)); clear HB; have HB := n0_; have BK105 := n1_; have GW105 := n2_; have GE105 := n3_; clear n0_ n1_ n2_ n3_; clear hb hbox hg; have hcz44_0 : w43.cell? ⟨gb105, 0, none⟩ = some (.int .u8 a0_0) := (blk_cell BK105.out 0).trans rfl; have hcz44_1 : w43.cell? ⟨gb105, 1, none⟩ = some (.string a0_1) := (blk_cell BK105.out 1).trans rfl; have hcz44_2 : w43.cell? ⟨gb105, 2, none⟩ = some (.int .i64 a0_2) := (blk_cell BK105.out 2).trans rfl; have hcz44_3 : w43.cell? ⟨gb105, 3, none⟩ = some (.int .i64 a0_3) := (blk_cell BK105.out 3).trans rfl; have hcz44_4 : w43.cell? ⟨gb105, 4, none⟩ = some (.int .i64 a0_4) := (blk_cell BK105.out 4).trans rfl; have hfz44_0 := blk_frozen BK105.out 0; have hfz44_1 := blk_frozen BK105.out 1; have hfz44_2 := blk_frozen BK105.out 2; have hfz44_3 := blk_frozen BK105.out 3; have hfz44_4 := blk_frozen BK105.out 4))
          go_ret
          exact ⟨by first | rfl | (simp [errW_none, errW_some] <;> rfl) | (simp [*, errW_none, errW_some] <;> rfl), by repeat (first | (with_reducible first | exact HB.out | apply below_alloc | apply pw_below_drewN | apply below_drew1 | refine below_set ?_ GE105.out) | exact HB.out)⟩

end Go.Proofs.Ytnojokempdcikaa.PA

namespace Go.Proofs.Ytnojokempdcikaa.PA
open Go.RowKit Go.Proofs.YtnojokempdcikaaW.PrintWords Go.Proofs.YtnojokempdcikaaW.PrintLast Go.Proofs.YtnojokempdcikaaW.PrintMore
attribute [local go_sem] max2_int min2_int max_two min_two max_three min_three max_four min_four   -- for this text's walks alone
set_option linter.unusedVariables false
set_option linter.unusedSimpArgs false

/-! ### number_named: function 30 -/
def number_named.f (k : Nat) (a0 : ByteArray) : Option (Bool) := (token_May.f k 1 a0 0 0 0).bind fun t110 => (some t110)
theorem number_named.mono : ∀ a0 k, LeO (number_named.f k a0) (number_named.f (k + 1) a0) := by
  intro a0 k
  unfold number_named.f
  repeat' first
      | (with_reducible exact token_May.mono _ _ _ _ _ _)
      | (with_reducible exact LeO.refl _)
      | (with_reducible exact LeO.none _)
      | (with_reducible refine LeO.ite ?_ ?_)
      | (with_reducible refine LeO.bind ?_ (fun _ => ?_))
      | exact token_May.mono _ _ _ _ _ _
      | exact LeO.none _
      | refine LeO.ite ?_ ?_
      | refine LeO.bind ?_ (fun _ => ?_)
set_option maxHeartbeats 8000000 in
set_option maxRecDepth 100000 in
theorem number_named.calls (k : Nat) (a0 : ByteArray) (r : Bool) (w : World) (h : number_named.f k a0 = some r) :
    Calls Try.prog 30 #[.string a0] w fun e w' => e = .returned (.bool r) ∧ Below w.heap.size w w' := by
  have hu88 := Try.underlying88
  have HB := Aside0.mk (Below.refl w.heap.size w)
  have H : ((token_May.f k 1 a0 0 0 0).bind fun t110 => (some t110)) = some r := h
  clear h
  replace H := Option.bind_eq_some_iff.mp H
  obtain ⟨t110, A20, H⟩ := H
  replace H : (some t110) = some r := H
  have A2 := Aside0.mk A20
  clear A20
  obtain rfl := Option.some.inj H
  go_enter Try.func30, Try.ntmps30
  go_wp2_with (first | ((with_reducible refine gate_callee (f := 45) rfl ?_); refine goesL_ (some 5) rfl rfl Try.func45 (by kernel_rfl) rfl #[.agg #[.int .u8 1, .string a0, .int .i64 0, .int .i64 0, .int .i64 0]] rfl (by (try simp only [List.map_toArray, List.map_cons, List.map_nil]); first | done | rfl | (simp only [List.length_drop, List.length_take]; rfl)) ?_; (with_reducible refine (token_May.calls k 1 a0 0 0 0 t110 _ A2.out).mono ?_); rintro e w3 ⟨rfl, hb⟩; refine ⟨_, rfl, ?_⟩; have n0_ := Aside0.mk (below_step (by repeat (first | (with_reducible first | exact HB.out | apply below_alloc | apply pw_below_drewN | apply below_drew1) | exact HB.out)) hb); clear HB; have HB := n0_; clear n0_; (try clear hb); (try clear hb2); (try clear hk); (try clear hi)))
  go_ret
  exact ⟨by first | rfl | (simp [errW_none, errW_some] <;> rfl) | (simp [*, errW_none, errW_some] <;> rfl), by repeat (first | (with_reducible first | exact HB.out | apply below_alloc | apply pw_below_drewN | apply below_drew1) | exact HB.out)⟩

/-! ### number_is: function 37 -/
def number_is.f (a0 : Int) : Option (Bool) := if a0 ≥ (-2147483647) then (some (decide (a0 ≤ 2147483647))) else (some false)
set_option maxHeartbeats 8000000 in
set_option maxRecDepth 100000 in
theorem number_is.calls (a0 : Int) (r : Bool) (w : World) (h : number_is.f a0 = some r) :
    Calls Try.prog 37 #[.int .i64 a0] w fun e w' => e = .returned (.bool r) ∧ Drawn0 w w' := by
  have H : (if a0 ≥ (-2147483647) then (some (decide (a0 ≤ 2147483647))) else (some false)) = some r := h
  clear h
  by_cases c2 : a0 ≥ (-2147483647)
  · rw [if_pos c2] at H
    have c2b0 : decide ((-2147483647) ≤ a0) = true := decide_eq_true c2
    clear c2
    obtain rfl := Option.some.inj H
    go_enter Try.func37, Try.ntmps37
    go_wp2
    go_ret
    exact ⟨by first | rfl | (simp; done) | (simp [*]; done), by repeat (first | exact Drawn0.refl _ | apply Drawn0.step)⟩
  · rw [if_neg c2] at H
    have c2b0 : decide ((-2147483647) ≤ a0) = false := decide_eq_false c2
    clear c2
    obtain rfl := Option.some.inj H
    go_enter Try.func37, Try.ntmps37
    go_wp2
    go_ret
    exact ⟨by first | rfl | (simp; done) | (simp [*]; done), by repeat (first | exact Drawn0.refl _ | apply Drawn0.step)⟩

end Go.Proofs.Ytnojokempdcikaa.PA

namespace Go.Proofs.Ytnojokempdcikaa.PA
open Go.RowKit Go.Proofs.YtnojokempdcikaaW.PrintWords Go.Proofs.YtnojokempdcikaaW.PrintLast Go.Proofs.YtnojokempdcikaaW.PrintMore
attribute [local go_sem] max2_int min2_int max_two min_two max_three min_three max_four min_four   -- for this text's walks alone
set_option linter.unusedVariables false
set_option linter.unusedSimpArgs false

--OWNPART 
/-! Names, in plain words. -/
def kindOf (c : Int) : Int := if 97 ≤ c ∧ c ≤ 122 then 1 else if 48 ≤ c ∧ c ≤ 57 then 2 else if c = 32 ∨ c = 9 ∨ c = 10 then 4 else if c = 35 then 5 else
  if Lib.indexByte (⟨#[61, 59, 44, 40, 41, 91, 93, 43, 45, 42, 47, 37]⟩ : ByteArray).data.toList c.toNat.toUInt8 ≥ 0 then 3 else 0
theorem kind_ok (k : Nat) (c : Int) : token_kind.f (k + 2) c = some (kindOf c) := by
  unfold token_kind.f kindOf
  simp only [token_kind.j0, token_kind.j1, strings_IndexByte.f, Option.bind_some]
  by_cases c1 : 97 ≤ c
  · by_cases c2 : c ≤ 122
    · simp [c1, c2]
    · have c3 : ¬ c ≤ 57 := by omega
      have c4 : 48 ≤ c := by omega
      have c5 : ¬ c = 32 := by omega
      have c6 : ¬ c = 9 := by omega
      have c7 : ¬ c = 10 := by omega
      have c8 : ¬ c = 35 := by omega
      simp only [ge_iff_le, c1, c2, c3, c4, c5, c6, c7, c8, if_true, if_false, decide_false, and_false, or_self, Bool.false_eq_true]
      split <;> rfl
  · by_cases d1 : 48 ≤ c
    · by_cases d2 : c ≤ 57
      · simp [c1, d1, d2]
      · have c5 : ¬ c = 32 := by omega
        have c6 : ¬ c = 9 := by omega
        have c7 : ¬ c = 10 := by omega
        have c8 : ¬ c = 35 := by omega
        simp only [ge_iff_le, c1, d1, d2, c5, c6, c7, c8, if_true, if_false, false_and, and_false, or_self, Bool.false_eq_true]
        split <;> rfl
    · by_cases e1 : c = 32
      · subst e1; rfl
      · by_cases e2 : c = 9
        · subst e2; rfl
        · by_cases e3 : c = 10
          · subst e3; rfl
          · by_cases e4 : c = 35
            · subst e4; rfl
            · simp only [ge_iff_le, c1, d1, e1, e2, e3, e4, if_true, if_false, false_and, and_false, or_self, Bool.false_eq_true]
              split <;> rfl
def isLetter (c : Int) : Bool := decide (97 ≤ c ∧ c ≤ 122)
def isDigit (c : Int) : Bool := decide (48 ≤ c ∧ c ≤ 57)
theorem kindOf_letter (c : Int) : kindOf c = 1 ↔ isLetter c = true := by
  unfold kindOf isLetter
  rw [decide_eq_true_iff]
  constructor
  · intro h
    by_cases c1 : 97 ≤ c ∧ c ≤ 122
    · exact c1
    · rw [if_neg c1] at h
      repeat' split at h
      all_goals omega
  · intro h; rw [if_pos h]
theorem kindOf_digit (c : Int) : kindOf c = 2 ↔ isDigit c = true := by
  unfold kindOf isDigit
  rw [decide_eq_true_iff]
  constructor
  · intro h
    by_cases c1 : 48 ≤ c ∧ c ≤ 57
    · exact c1
    · repeat' split at h
      all_goals omega
  · intro h; rw [if_neg (by omega), if_pos h]
/-- Letters and digits from place i on, at the very first place a letter. -/
def nameFrom (s : ByteArray) : Nat → Nat → Bool
  | 0, _ => true
  | m + 1, i => (isLetter (bt s i) || (isDigit (bt s i) && decide (i ≠ 0))) && nameFrom s m (i + 1)
def nameText (s : ByteArray) : Bool := nameFrom s s.size 0 && (decide (1 ≤ s.size) && decide (s.size ≤ 16))
def nameOk (s : ByteArray) : Bool := nameText s && !wordIn wordList s
theorem named_loop (s : ByteArray) (hs : s.size ≤ 9223372036854775807) : ∀ (m i k : Nat), i + m = s.size → token_named.l0 (k + m + 3) s (s.size : Int) (i : Int) = some (nameFrom s m i && (decide (1 ≤ s.size) && decide (s.size ≤ 16)))
  | 0, i, k, h => by
    show token_named.l0 ((k + 2) + 1) s _ _ = _
    simp only [token_named.l0]
    rw [if_neg (by omega)]
    unfold nameFrom
    by_cases c : (s.size : Int) ≥ 1
    · rw [if_pos c]
      have c' : 1 ≤ s.size := by omega
      have e : decide ((s.size : Int) ≤ 16) = decide (s.size ≤ 16) := decide_eq_decide.2 (by omega)
      rw [e, decide_eq_true c']; rfl
    · rw [if_neg c]
      have c' : ¬ 1 ≤ s.size := by omega
      rw [decide_eq_false c']; rfl
  | m + 1, i, k, h => by
    have ew : wrap64 ((i : Int) + 1) = ((i + 1 : Nat) : Int) := by rw [xw64 (by omega) (by omega)]; omega
    have ih := named_loop s hs m (i + 1) k (by omega)
    have hk := kind_ok (k + m + 1) (bt s i)
    show token_named.l0 ((k + m + 3) + 1) s _ _ = _
    generalize k + m + 3 = K at ih hk ⊢
    simp only [token_named.l0]
    rw [if_pos (by omega), if_pos (by omega), if_pos (by omega), hk, Option.bind_some, ew, ih]
    show _ = some ((isLetter (bt s i) || (isDigit (bt s i) && decide (i ≠ 0))) && nameFrom s m (i + 1) && _)
    by_cases c1 : kindOf (bt s i) = 1
    · rw [if_pos c1, (kindOf_letter _).1 c1]; simp
    · rw [if_neg c1, Bool.eq_false_iff.2 (fun e => c1 ((kindOf_letter _).2 e))]
      by_cases c2 : kindOf (bt s i) = 2
      · rw [if_pos c2, (kindOf_digit _).1 c2]
        by_cases c3 : i = 0
        · subst c3; simp
        · rw [if_neg (by omega)]; simp [c3]
      · rw [if_neg c2, Bool.eq_false_iff.2 (fun e => c2 ((kindOf_digit _).2 e))]; simp
theorem named_ok (s : ByteArray) (hs : s.size ≤ 9223372036854775807) : token_named.f (s.size + 3) s = some (nameText s) := by
  unfold token_named.f
  have h := named_loop s hs s.size 0 0 (by omega)
  rw [Nat.zero_add] at h
  exact h
theorem may_name (s : ByteArray) (hs : s.size ≤ 9223372036854775807) : token_May.f (s.size + 3) 1 s 0 0 0 = some (nameOk s) := by
  unfold token_May.f
  rw [if_pos rfl, if_pos rfl, named_ok s hs, Option.bind_some]
  unfold nameOk
  cases h : nameText s
  · rfl
  · rw [if_pos rfl]; rfl
/-- Is it a number? -/
def numOk (n : Int) : Bool := decide (-2147483647 ≤ n ∧ n ≤ 2147483647)

end Go.Proofs.Ytnojokempdcikaa.PA

namespace Go.Proofs.Ytnojokempdcikaa.PA
open Go.RowKit Go.Proofs.YtnojokempdcikaaW.PrintWords Go.Proofs.YtnojokempdcikaaW.PrintLast Go.Proofs.YtnojokempdcikaaW.PrintMore
attribute [local go_sem] max2_int min2_int max_two min_two max_three min_three max_four min_four   -- for this text's walks alone
set_option linter.unusedVariables false
set_option linter.unusedSimpArgs false

/-! ### number_known: function 22 -/
--OWNPART Derived.Deep.WholeRow Derived.Laws.Tables Derived.Maps.Own Derived.Maps.OwnOps Derived.Maps.OwnSet Derived.Maps.Views
open Go.RowKit Go.Maps
/-- A whole value put into a block: some world in which the block holds it, and all others what they held. -/
theorem xstore_row {P : Program} {ops : Array Oper} {rest : List Oper} {o : Oper} {a : Act} {w : World} {Q : Exit → Act → World → Prop} (hgd : o.guard = none) (ty : TypeId) (x y : Operand) (ho : o.op = .store ty x y)
    (g : Nat) (cells : Array Value) (hx : a.eval x = .pointer (some ⟨g, 0, none⟩)) (hy : a.eval y = .agg cells)
    (t : TypeId) (old : Array Value) (hg : w.heap[g]? = some (.cells old t (0, 0))) (hi : (P.info? ty).map (·.size) = some cells.size)
    (hold : old.size = cells.size) (h1 : cells.all (·.oneCell') = true)
    (h : ∀ w', w'.heap[g]? = some (.cells cells t (0, 0)) → w.grownBy w' (some g) → (∀ b w0, Below b w0 w → b ≤ g → Below b w0 w') → wpList P ops Q rest (a.put o.dst undef) w') : wpList P ops Q (o :: rest) a w :=
  wpList_store_row hgd ty x y ho g cells hx hy t old hg hi hold h1 (h _ (setRow_heap _ _ _ _ _ _ hg) ⟨rfl, rfl, rfl, by simp, fun k hk hne => setRow_other _ _ _ _ (fun e => hne (by rw [e]))⟩
    (fun b w0 hb hbg => hb.trans ⟨rfl, rfl, rfl, by simp, fun k hk => setRow_other w g k cells (by omega)⟩))
/-- Block g is a map of at most n entries that holds F. -/
def envIs (w : World) (g n : Nat) (F : ByteArray → Option Int) : Prop :=
  ∃ D : DataW Unit, w.ownsMap Try.prog 9 (plainElem Try.prog 3) g n D ∧ ∀ s : ByteArray, Maps.has D (.string s.data.toList) = (F s).isSome ∧ ∀ v, F s = some v → D.atKey (.string s.data.toList) (.lit (.int .i64 0)) = .lit (.int .i64 v)
theorem zeroInt (w : World) : (zeroValue 3).run Try.prog w = .ok (.int .i64 0) w := by kernel_rfl
theorem envIs_made (w : World) : envIs (w.alloc (.map #[] 0)) w.heap.size 0 (fun _ => none) :=
  ⟨.map [], World.ownsMap_made _ _ _ _, fun _ => ⟨rfl, fun _ h => by cases h⟩⟩
theorem envIs.kept {w w' : World} {g n : Nat} {F : ByteArray → Option Int} {row : Option Nat} (h : envIs w g n F) (hg : w.grownBy w' row) (hne : some g ≠ row) : envIs w' g n F := by
  obtain ⟨D, h1, h2⟩ := h
  exact ⟨D, h1.kept hg hne, h2⟩
theorem envIs.setCell {w : World} {g n : Nat} {F : ByteArray → Option Int} (h : envIs w g n F) {a : Addr} (ha : g ≠ a.block) (v : Value) : envIs (w.setCell a v) g n F := by
  obtain ⟨D, h1, h2⟩ := h
  exact ⟨D, h1.setCell ha v, h2⟩
theorem envIs.lt {w : World} {g n : Nat} {F : ByteArray → Option Int} (h : envIs w g n F) : g < w.heap.size := by
  obtain ⟨D, h1, _⟩ := h
  exact h1.lt
theorem envIs.below {w w' : World} {g n : Nat} {F : ByteArray → Option Int} (h : envIs w g n F) (hb : Below w.heap.size w w') : envIs w' g n F := h.kept (grown_of_below hb none) (by simp)
theorem xmap_look {w : World} {ops : Array Oper} {rest : List Oper} {o : Oper} {a : Act} {Q : Exit → Act → World → Prop}
    (hg : o.guard = none) (m x : Operand) (hop : o.op = Op.lookup 57 m x true) {b n : Nat} {F : ByteArray → Option Int} (hm : a.eval m = .map (some b)) (henv : envIs w b n F) (s : ByteArray) (hx : a.eval x = .string s) (hs : s.size ≤ 9223372036854775807)
    (hK : wpList Try.prog ops Q rest (a.put o.dst (.tuple #[.int .i64 ((F s).getD 0), .bool (F s).isSome])) w) : wpList Try.prog ops Q (o :: rest) a w := by
  obtain ⟨D, hown, hF⟩ := henv
  refine wpList_lookup_own_ok_int _ hg m x 57 hop 9 3 .i64 (string_keyed Try.underlying9) Try.underlying57 Try.underlying3 (zeroInt _) b n D hm hown _ _ hx (Go.WideMaps.keyOf_string_mk Try.underlying9 hs) ?_
  intro c hat hwc
  rw [(hF s).1]
  cases hFs : F s with
  | none =>
    have h1 := (hF s).1
    rw [hFs] at h1
    rw [atKey_of_not_has h1] at hat
    injection hat with e; injection e with e1 e2
    subst e2
    rw [hFs] at hK
    exact hK
  | some v =>
    have h1 := (hF s).2 v hFs
    rw [h1] at hat
    injection hat with e; injection e with e1 e2
    subst e2
    rw [hFs] at hK
    exact hK
theorem xmap_look1 {w : World} {ops : Array Oper} {rest : List Oper} {o : Oper} {a : Act} {Q : Exit → Act → World → Prop}
    (hg : o.guard = none) (m x : Operand) (hop : o.op = Op.lookup 57 m x false) {b n : Nat} {F : ByteArray → Option Int} (hm : a.eval m = .map (some b)) (henv : envIs w b n F) (s : ByteArray) (hx : a.eval x = .string s) (hs : s.size ≤ 9223372036854775807)
    (hK : wpList Try.prog ops Q rest (a.put o.dst (.int .i64 ((F s).getD 0))) w) : wpList Try.prog ops Q (o :: rest) a w := by
  obtain ⟨D, hown, hF⟩ := henv
  refine wpList_lookup_own_int _ hg m x 57 hop 9 3 .i64 (string_keyed Try.underlying9) Try.underlying57 Try.underlying3 (zeroInt _) b n D hm hown _ _ hx (Go.WideMaps.keyOf_string_mk Try.underlying9 hs) ?_
  intro c hat hwc
  cases hFs : F s with
  | none =>
    have h1 := (hF s).1
    rw [hFs] at h1
    rw [atKey_of_not_has h1] at hat
    injection hat with e; injection e with e1 e2
    subst e2
    rw [hFs] at hK
    exact hK
  | some v =>
    have h1 := (hF s).2 v hFs
    rw [h1] at hat
    injection hat with e; injection e with e1 e2
    subst e2
    rw [hFs] at hK
    exact hK
def envPut (F : ByteArray → Option Int) (s : ByteArray) (v : Int) : ByteArray → Option Int := fun s' => if s'.data.toList = s.data.toList then some v else F s'
theorem xmap_put {w : World} {ops : Array Oper} {rest : List Oper} {o : Oper} {a : Act} {Q : Exit → Act → World → Prop}
    (hg : o.guard = none) (m x y : Operand) (hop : o.op = Op.mapUpdate 57 m x y) {b n : Nat} {F : ByteArray → Option Int} (hm : a.eval m = .map (some b)) (henv : envIs w b n F) (hn : n < 9223372036854775807) (s : ByteArray) (v : Int) (hx : a.eval x = .string s) (hy : a.eval y = .int .i64 v) (hs : s.size ≤ 9223372036854775807) (hv : (Lit.int .i64 v).wf = true)
    (hK : ∀ w', envIs w' b (n + 1) (envPut F s v) → w.grownBy w' (some b) → wpList Try.prog ops Q rest (a.put o.dst undef) w') : wpList Try.prog ops Q (o :: rest) a w := by
  obtain ⟨D, hown, hF⟩ := henv
  refine wpList_mapUpdate_own _ hg m x y 57 hop 9 3 (string_keyed Try.underlying9) Try.underlying57 (plainElem Try.prog 3) b n D hm hown hn _ _ _ hx hy (Go.WideMaps.keyOf_string_mk Try.underlying9 hs) (.lit (.int .i64 v)) [] (plainElem_int Try.underlying3 hv) ?_
  intro w' h1 h2
  refine hK w' ⟨_, h1, fun s' => ?_⟩ h2
  unfold envPut
  by_cases e : s'.data.toList = s.data.toList
  · rw [if_pos e, e]
    exact ⟨has_put_same (k := .string s.data.toList) hown.isMap trivial _, fun v' hv' => by cases hv'; exact atKey_put_same (k := .string s.data.toList) hown.isMap trivial _ _⟩
  · rw [if_neg e]
    have hne : Lit.string s'.data.toList ≠ Lit.string s.data.toList := fun h => e (by injection h)
    rw [has_put_other hne]
    exact ⟨(hF s').1, fun v' hv' => by rw [atKey_put_other hne]; exact (hF s').2 v' hv'⟩
/-- What an environment says of a name. -/
def envGet : List S54 → ByteArray → Option Int
  | [], _ => none
  | c :: l, s => if s.data.toList = c.f0.data.toList then some c.f1 else envGet l s
/-- May the environment be? (seen: what was put already) -/
def knownGo : List S54 → List S54 → Option Bool
  | [], _ => some true
  | c :: l, seen => if c.f0.size ≤ 9223372036854775807 then (if (envGet seen c.f0).isSome then some false else if nameOk c.f0 && numOk c.f1 then knownGo l (seen ++ [c]) else some false) else none
theorem envGet_snoc (c : S54) : ∀ (l : List S54), (envGet l c.f0).isSome = false → envGet (l ++ [c]) = envPut (envGet l) c.f0 c.f1
  | [], _ => by funext s; rfl
  | d :: l, h => by
    funext s
    have hd : ¬ c.f0.data.toList = d.f0.data.toList := by
      intro e
      simp [envGet, e] at h
    have hl : (envGet l c.f0).isSome = false := by
      simp only [envGet, if_neg hd] at h
      exact h
    have ih := congrFun (envGet_snoc c l hl) s
    simp only [List.cons_append, envGet, envPut] at ih ⊢
    by_cases e : s.data.toList = d.f0.data.toList
    · rw [if_pos e, if_pos e, if_neg (fun e2 => hd (e2.symm.trans e))]
    · rw [if_neg e, if_neg e]
      exact ih
/-! the walk -/
theorem constInfo : (Try.prog.info? 54).map (·.size) = some 2 := by kernel_rfl
theorem xone2 (s : ByteArray) (n : Int) : (#[.string s, .int .i64 n] : Array Value).all (·.oneCell') = true := by simp [Value.oneCell']
theorem numOk_wf {n : Int} (h : numOk n = true) : (Lit.int .i64 n).wf = true := by
  unfold numOk at h
  rw [decide_eq_true_iff] at h
  exact WalkArith.wf_i64 ⟨by omega, by omega⟩
theorem xbelow_grown {w w1 w2 : World} {g : Nat} (h : Below w.heap.size w w1) (hg : w1.grownBy w2 (some g)) (hge : w.heap.size ≤ g) : Below w.heap.size w w2 :=
  h.trans ⟨hg.os, hg.tape, hg.output, hg.size, fun k hk => hg.block k (Nat.lt_of_lt_of_le hk h.size) (fun e => by cases e; omega)⟩
theorem isok (n : Int) : number_is.f n = some (numOk n) := by
  unfold number_is.f numOk
  by_cases c : n ≥ -2147483647
  · rw [if_pos c]
    by_cases d : n ≤ 2147483647
    · rw [decide_eq_true d, decide_eq_true (⟨c, d⟩ : -2147483647 ≤ n ∧ n ≤ 2147483647)]
    · rw [decide_eq_false d, decide_eq_false (fun h => d h.2)]
  · rw [if_neg c, decide_eq_false (fun h => c h.1)]
theorem nnamed_ok (s : ByteArray) (hs : s.size ≤ 9223372036854775807) : number_named.f (s.size + 3) s = some (nameOk s) := by
  unfold number_named.f
  rw [may_name s hs]; rfl
theorem rd_drop54 (l : List S54) (i : Nat) (h : i < l.length) : l.drop i = rd_T54 l (i : Int) :: l.drop (i + 1) := by
  rw [List.drop_eq_getElem_cons h]
  unfold rd_T54
  rw [Int.toNat_natCast, List.getD_eq_getElem?_getD, List.getElem?_eq_getElem h]; rfl
theorem rd_take54 (l : List S54) (i : Nat) (h : i < l.length) : l.take (i + 1) = l.take i ++ [rd_T54 l (i : Int)] := by
  rw [List.take_succ_eq_append_getElem h]
  unfold rd_T54
  rw [Int.toNat_natCast, List.getD_eq_getElem?_getD, List.getElem?_eq_getElem h]; rfl
set_option maxHeartbeats 4000000 in
set_option maxRecDepth 100000 in
theorem number_known.walk (A0 : Option Addr) (c0 : Nat) (l0 : List S54) (r : Bool) (w : World) (hr0 : Kd.C k54 w A0 l0.length l0) (hl0 : l0.length ≤ 4611686018427387903) (h : knownGo l0 [] = some r) :
    Calls Try.prog 22 #[.slice A0 l0.length c0] w fun e w' => ∃ m, e = .returned (.tuple #[m, .bool r]) ∧ Below w.heap.size w w' ∧ (r = true → ∃ g, m = .map (some g) ∧ envIs w' g l0.length (envGet l0)) := by
  have HR0 := Aside0.mk hr0
  have HA := Aside0.mk (show knownGo (l0.drop 0) (l0.take 0) = some r from h)
  clear hr0 h
  have hmm := @run_makeMap Try.prog
  have HM := Aside0.mk (envIs_made w)
  have HB := Aside0.mk (below_alloc (Below.refl w.heap.size w) (.map #[] 0))
  obtain ⟨g, hg⟩ : ∃ g, g = w.heap.size := ⟨_, rfl⟩
  have HG := Aside0.mk (show w.heap.size ≤ g by omega)
  go_enter Try.func22, Try.ntmps22
  go_wp2
  rw [← hg] at HM ⊢
  clear hg hmm
  go_loopg [12] l0.length (fun q s12 wx => ∃ i : Nat, i + q = l0.length ∧ s12 = .int .i64 i ∧ Aside0 (Below w.heap.size w wx) ∧ Aside0 (envIs wx g i (envGet (l0.take i))) ∧ Aside0 (knownGo (l0.drop i) (l0.take i) = some r))
  case atStart => exact ⟨0, by omega, rfl, HB, HM, HA⟩
  case round =>
    clear HB HM HA
    obtain ⟨i, hi, rfl, HB, HM, HA⟩ := hrel
    cases gk with
    | zero =>
      obtain rfl : i = l0.length := by omega
      have hA := HA.out
      rw [List.drop_length] at hA
      have hr : true = r := by simpa [knownGo] using hA
      have hM := HM.out
      rw [List.take_length] at hM
      clear HA HM
      have HM := Aside0.mk hM
      clear hM hA
      go_wp2
      go_ret2
      subst hr
      exact ⟨_, rfl, HB.out, fun _ => ⟨g, rfl, HM.out⟩⟩
    | succ q =>
      have hik : i < l0.length := by omega
      have hlt : decide ((i : Int) < (l0.length : Int)) = true := decide_eq_true (by omega)
      have hA := HA.out
      clear HA
      rw [rd_drop54 l0 i hik] at hA
      have htk := rd_take54 l0 i hik
      obtain ⟨ad, e0, hx0, hx1⟩ := at_T54 HR0.out (i : Int) (by omega) (by omega)
      have hsnoc := envGet_snoc (rd_T54 l0 (i : Int)) (l0.take i)
      generalize rd_T54 l0 (i : Int) = c at hA htk hx0 hx1 hsnoc
      obtain ⟨cs, cn⟩ := c
      dsimp only at hA htk hx0 hx1 hsnoc
      subst e0
      rw [Int.toNat_natCast] at hx0 hx1
      replace hx0 := (HB.out.cell (World.block_lt_of_cell? w _ hx0)).trans hx0
      replace hx1 := (HB.out.cell (World.block_lt_of_cell? w _ hx1)).trans hx1
      simp only [knownGo] at hA
      by_cases hsz : cs.size ≤ 9223372036854775807
      · rw [if_pos hsz] at hA
        have hI := isok cn
        have hN := nnamed_ok cs hsz
        cases hT : (envGet (l0.take i) cs).isSome with
        | true =>
          rw [hT, if_pos rfl] at hA
          have hr := Aside0.mk (Option.some.inj hA)
          clear hA
          have HI := Aside0.mk hI; have HN := Aside0.mk hN; have HT := Aside0.mk hT; have HTK := Aside0.mk htk; have HSN := Aside0.mk hsnoc; have HSZ := Aside0.mk hsz; clear hI hN hT htk hsnoc hsz
          go_wp2_with (first | ((with_reducible refine gate_dst (N := 6) rfl ?_); refine box_event ?hg (N := 6) ?hd (cs := #[.string (⟨#[]⟩ : ByteArray), .int .i64 0]) (t := 54) ?hr ?_; (case hd => rfl); (case hg => rfl); (case hr => first | (go_simp; done) | (go_simp; rfl)); intro gb hg w1 hbox hb; have BK := Aside0.mk hbox; have HB1 := Aside0.mk (below_step HB.out hb); have HM1 := Aside0.mk (HM.out.below hb); have GE := Aside0.mk (show w.heap.size ≤ gb from by rw [hg]; exact HB.out.size); have GN := Aside0.mk (show some g ≠ some gb from fun e => by cases e; exact absurd HM.out.lt (by omega)); clear hbox hb hg) | (refine xstore_row rfl 54 _ _ rfl gb #[.string cs, .int .i64 cn] rfl rfl 54 _ BK.out constInfo rfl (xone2 _ _) ?_; intro w2 hbk hgr hbl; have hc0 : w2.cell? ⟨gb, 0, none⟩ = some (.string cs) := (blk_cell hbk 0).trans rfl; have hc1 : w2.cell? ⟨gb, 1, none⟩ = some (.int .i64 cn) := (blk_cell hbk 1).trans rfl; have HB2 := Aside0.mk (hbl _ _ HB1.out GE.out); have HM2 := Aside0.mk (HM1.out.kept hgr GN.out); have BK2 := Aside0.mk hbk; clear hbk hgr hbl) | (at_lookup; refine xmap_look rfl _ _ rfl rfl HM2.out cs rfl HSZ.out ?_; rw [HT.out]))
          go_ret2
          have hr' := hr.out; subst hr'
          exact ⟨_, rfl, HB2.out, fun h => by cases h⟩
        | false =>
          rw [hT, if_neg (by simp)] at hA
          cases hN0 : nameOk cs with
          | false =>
            rw [hN0] at hA hN
            have hr := Aside0.mk (show false = r by simpa using hA)
            clear hA hN0
            have HI := Aside0.mk hI; have HN := Aside0.mk hN; have HT := Aside0.mk hT; have HTK := Aside0.mk htk; have HSN := Aside0.mk hsnoc; have HSZ := Aside0.mk hsz; clear hI hN hT htk hsnoc hsz
            go_wp2_with (first | ((with_reducible refine gate_dst (N := 6) rfl ?_); refine box_event ?hg (N := 6) ?hd (cs := #[.string (⟨#[]⟩ : ByteArray), .int .i64 0]) (t := 54) ?hr ?_; (case hd => rfl); (case hg => rfl); (case hr => first | (go_simp; done) | (go_simp; rfl)); intro gb hg w1 hbox hb; have BK := Aside0.mk hbox; have HB1 := Aside0.mk (below_step HB.out hb); have HM1 := Aside0.mk (HM.out.below hb); have GE := Aside0.mk (show w.heap.size ≤ gb from by rw [hg]; exact HB.out.size); have GN := Aside0.mk (show some g ≠ some gb from fun e => by cases e; exact absurd HM.out.lt (by omega)); clear hbox hb hg) | (refine xstore_row rfl 54 _ _ rfl gb #[.string cs, .int .i64 cn] rfl rfl 54 _ BK.out constInfo rfl (xone2 _ _) ?_; intro w2 hbk hgr hbl; have hc0 : w2.cell? ⟨gb, 0, none⟩ = some (.string cs) := (blk_cell hbk 0).trans rfl; have hc1 : w2.cell? ⟨gb, 1, none⟩ = some (.int .i64 cn) := (blk_cell hbk 1).trans rfl; have HB2 := Aside0.mk (hbl _ _ HB1.out GE.out); have HM2 := Aside0.mk (HM1.out.kept hgr GN.out); have BK2 := Aside0.mk hbk; clear hbk hgr hbl) | (at_lookup; refine xmap_look rfl _ _ rfl rfl HM2.out cs rfl HSZ.out ?_; rw [HT.out]) | (go_at_call 30; refine (number_named.calls (cs.size + 3) cs false _ HN.out).mono ?_; rintro e w3 ⟨rfl, hb⟩; have HB3 := Aside0.mk (below_step HB2.out hb); have HM3 := Aside0.mk (HM2.out.below hb); have BK3 := Aside0.mk (blk_below BK2.out hb); clear hb; have hd0 : w3.cell? ⟨gb, 0, none⟩ = some (.string cs) := (blk_cell BK3.out 0).trans rfl; have hd1 : w3.cell? ⟨gb, 1, none⟩ = some (.int .i64 cn) := (blk_cell BK3.out 1).trans rfl))
            go_ret2
            have hr' := hr.out; subst hr'
            exact ⟨_, rfl, HB3.out, fun h => by cases h⟩
          | true =>
            rw [hN0] at hA hN
            cases hI0 : numOk cn with
            | false =>
              rw [hI0] at hA hI
              have hr := Aside0.mk (show false = r by simpa using hA)
              clear hA hN0 hI0
              have HI := Aside0.mk hI; have HN := Aside0.mk hN; have HT := Aside0.mk hT; have HTK := Aside0.mk htk; have HSN := Aside0.mk hsnoc; have HSZ := Aside0.mk hsz; clear hI hN hT htk hsnoc hsz
              go_wp2_with (first | ((with_reducible refine gate_dst (N := 6) rfl ?_); refine box_event ?hg (N := 6) ?hd (cs := #[.string (⟨#[]⟩ : ByteArray), .int .i64 0]) (t := 54) ?hr ?_; (case hd => rfl); (case hg => rfl); (case hr => first | (go_simp; done) | (go_simp; rfl)); intro gb hg w1 hbox hb; have BK := Aside0.mk hbox; have HB1 := Aside0.mk (below_step HB.out hb); have HM1 := Aside0.mk (HM.out.below hb); have GE := Aside0.mk (show w.heap.size ≤ gb from by rw [hg]; exact HB.out.size); have GN := Aside0.mk (show some g ≠ some gb from fun e => by cases e; exact absurd HM.out.lt (by omega)); clear hbox hb hg) | (refine xstore_row rfl 54 _ _ rfl gb #[.string cs, .int .i64 cn] rfl rfl 54 _ BK.out constInfo rfl (xone2 _ _) ?_; intro w2 hbk hgr hbl; have hc0 : w2.cell? ⟨gb, 0, none⟩ = some (.string cs) := (blk_cell hbk 0).trans rfl; have hc1 : w2.cell? ⟨gb, 1, none⟩ = some (.int .i64 cn) := (blk_cell hbk 1).trans rfl; have HB2 := Aside0.mk (hbl _ _ HB1.out GE.out); have HM2 := Aside0.mk (HM1.out.kept hgr GN.out); have BK2 := Aside0.mk hbk; clear hbk hgr hbl) | (at_lookup; refine xmap_look rfl _ _ rfl rfl HM2.out cs rfl HSZ.out ?_; rw [HT.out]) | (go_at_call 30; refine (number_named.calls (cs.size + 3) cs true _ HN.out).mono ?_; rintro e w3 ⟨rfl, hb⟩; have HB3 := Aside0.mk (below_step HB2.out hb); have HM3 := Aside0.mk (HM2.out.below hb); have BK3 := Aside0.mk (blk_below BK2.out hb); clear hb; have hd0 : w3.cell? ⟨gb, 0, none⟩ = some (.string cs) := (blk_cell BK3.out 0).trans rfl; have hd1 : w3.cell? ⟨gb, 1, none⟩ = some (.int .i64 cn) := (blk_cell BK3.out 1).trans rfl) | (go_at_call 37; refine (number_is.calls cn false _ HI.out).mono ?_; rintro e w4 ⟨rfl, ⟨nd, rfl⟩⟩))
              go_ret2
              have hr' := hr.out; subst hr'
              exact ⟨_, rfl, pw_below_drewN HB3.out nd, fun h => by cases h⟩
            | true =>
              rw [hI0] at hA hI
              have HI0 := Aside0.mk hI0
              have hA2 : knownGo (l0.drop (i + 1)) (l0.take i ++ [⟨cs, cn⟩]) = some r := by simpa using hA
              have HA2 := Aside0.mk hA2
              clear hA hA2 hI0 hN0
              have HI := Aside0.mk hI; have HN := Aside0.mk hN; have HT := Aside0.mk hT; have HTK := Aside0.mk htk; have HSN := Aside0.mk hsnoc; have HSZ := Aside0.mk hsz; clear hI hN hT htk hsnoc hsz
              go_wp2_with (first | ((with_reducible refine gate_dst (N := 6) rfl ?_); refine box_event ?hg (N := 6) ?hd (cs := #[.string (⟨#[]⟩ : ByteArray), .int .i64 0]) (t := 54) ?hr ?_; (case hd => rfl); (case hg => rfl); (case hr => first | (go_simp; done) | (go_simp; rfl)); intro gb hg w1 hbox hb; have BK := Aside0.mk hbox; have HB1 := Aside0.mk (below_step HB.out hb); have HM1 := Aside0.mk (HM.out.below hb); have GE := Aside0.mk (show w.heap.size ≤ gb from by rw [hg]; exact HB.out.size); have GN := Aside0.mk (show some g ≠ some gb from fun e => by cases e; exact absurd HM.out.lt (by omega)); clear hbox hb hg) | (refine xstore_row rfl 54 _ _ rfl gb #[.string cs, .int .i64 cn] rfl rfl 54 _ BK.out constInfo rfl (xone2 _ _) ?_; intro w2 hbk hgr hbl; have hc0 : w2.cell? ⟨gb, 0, none⟩ = some (.string cs) := (blk_cell hbk 0).trans rfl; have hc1 : w2.cell? ⟨gb, 1, none⟩ = some (.int .i64 cn) := (blk_cell hbk 1).trans rfl; have HB2 := Aside0.mk (hbl _ _ HB1.out GE.out); have HM2 := Aside0.mk (HM1.out.kept hgr GN.out); have BK2 := Aside0.mk hbk; clear hbk hgr hbl) | (at_lookup; refine xmap_look rfl _ _ rfl rfl HM2.out cs rfl HSZ.out ?_; rw [HT.out]) | (go_at_call 30; refine (number_named.calls (cs.size + 3) cs true _ HN.out).mono ?_; rintro e w3 ⟨rfl, hb⟩; have HB3 := Aside0.mk (below_step HB2.out hb); have HM3 := Aside0.mk (HM2.out.below hb); have BK3 := Aside0.mk (blk_below BK2.out hb); clear hb; have hd0 : w3.cell? ⟨gb, 0, none⟩ = some (.string cs) := (blk_cell BK3.out 0).trans rfl; have hd1 : w3.cell? ⟨gb, 1, none⟩ = some (.int .i64 cn) := (blk_cell BK3.out 1).trans rfl) | (go_at_call 37; refine (number_is.calls cn true _ HI.out).mono ?_; rintro e w4 ⟨rfl, ⟨nd, rfl⟩⟩) | (at_mapUpdate; refine xmap_put rfl _ _ _ rfl rfl (show envIs _ g i _ from HM3.out) (by omega) cs cn rfl rfl HSZ.out (numOk_wf HI0.out) ?_; intro w5 hm5 hgr5; have HM5 := Aside0.mk hm5; have HB5 := Aside0.mk (xbelow_grown (pw_below_drewN HB3.out nd) hgr5 HG.out); clear hm5 hgr5))
              go_roundg q
              case measure => omega
              case rel =>
                refine ⟨i + 1, by omega, by first | rfl | simp, HB5, ⟨?_⟩, ⟨by rw [HTK.out]; exact HA2.out⟩⟩
                rw [HTK.out, HSN.out HT.out]
                exact HM5.out
      · rw [if_neg hsz] at hA
        exact absurd hA (by simp)

end Go.Proofs.Ytnojokempdcikaa.PA

namespace Go.Proofs.Ytnojokempdcikaa.PA
open Go.RowKit Go.Proofs.YtnojokempdcikaaW.PrintWords Go.Proofs.YtnojokempdcikaaW.PrintLast Go.Proofs.YtnojokempdcikaaW.PrintMore
attribute [local go_sem] max2_int min2_int max_two min_two max_three min_three max_four min_four   -- for this text's walks alone
set_option linter.unusedVariables false
set_option linter.unusedSimpArgs false

/-- A state of type 102 at block g of W; what its slices lead to came in by w0. -/
def IsS102 (w0 W : World) (g : Nat) (f0 : Int) : Prop := W.heap[g]? = some (.cells #[.int .i64 f0] 102 (0, 0)) ∧ w0.heap.size ≤ g
theorem IsS102.grown {w0 W : World} {g : Nat} {f0 : Int} {W1 : World} {row : Option Nat} (h : IsS102 w0 W g f0) (hw : W.grownBy W1 row) (hne : some g ≠ row) : IsS102 w0 W1 g f0 := by
  obtain ⟨hb, hg⟩ := h
  exact ⟨blk_grown hb hw hne, hg⟩
theorem IsS102.own_neN {w0 W : World} {g : Nat} {f0 : Int} {α : Type} {d : Kd α} {e : Nat} {base : Nat} {ok : Nat → Prop} {v : Value} {xs : List α} (h : IsS102 w0 W g f0) (ho : Kd.N d e W base ok v xs) (ht : e ≠ 102) : some g ≠ v.ownBlock := by
  obtain ⟨hb, hg⟩ := h
  exact Kd.N_ne ho hb ht
theorem IsS102.fresh {w0 W : World} {g : Nat} {f0 : Int} (h : IsS102 w0 W g f0) : ∀ k, W.heap.size ≤ k → k ≠ g := by
  obtain ⟨hb, hg⟩ := h
  exact Kd.freshB hb
theorem IsS102.kept {w0 W : World} {g : Nat} {f0 : Int} {W1 : World} {S : Nat → Prop} (h : IsS102 w0 W g f0) (hk : Kept W W1 S) (hne : ¬ S g) : IsS102 w0 W1 g f0 := by
  obtain ⟨hb, hg⟩ := h
  exact ⟨blk_kept hb hk hne, hg⟩
theorem IsS102.below {w0 W : World} {g : Nat} {f0 : Int} {W1 : World} (h : IsS102 w0 W g f0) (hw : Below W.heap.size W W1) : IsS102 w0 W1 g f0 := h.grown (grown_of_below hw none) (by simp)
theorem IsS102.alloc {w0 W : World} {g : Nat} {f0 : Int} (h : IsS102 w0 W g f0) (o : Obj) : IsS102 w0 (W.alloc o) g f0 := h.below (below_alloc (Below.refl _ _) o)
theorem IsS102.drewN {w0 W : World} {g : Nat} {f0 : Int} (h : IsS102 w0 W g f0) (m : Nat) : IsS102 w0 (W.drewN m) g f0 := h
theorem IsS102.drew {w0 W : World} {g : Nat} {f0 : Int} (h : IsS102 w0 W g f0) : IsS102 w0 W.drew g f0 := h
theorem IsS102.at_ {w0 W : World} {g : Nat} {f0 : Int} {w' : World} {m : Nat} (hq : W.drewN m = w') (h : IsS102 w0 W g f0) : IsS102 w0 w' g f0 := by subst hq; exact IsS102.drewN h m
theorem IsS102.apart {w0 W : World} {g : Nat} {f0 : Int} {α : Type} {d : Kd α} {e : Nat} {base : Nat} {ok : Nat → Prop} {v : Value} {xs : List α} (h : IsS102 w0 W g f0) (ho : d.R e W base ok v xs) (ht : ∀ q, q ∈ e :: d.E → q ≠ 102) : d.R e W base (fun k => ok k ∧ k ≠ g) v xs := by
  obtain ⟨hb, hg⟩ := h
  exact Kd.R_types ho hb ht
theorem IsS102.own_ne {w0 W : World} {g : Nat} {f0 : Int} {α : Type} {d : Kd α} {e : Nat} {base : Nat} {ok : Nat → Prop} {v : Value} {xs : List α} (h : IsS102 w0 W g f0) (ho : d.R e W base ok v xs) (ht : e ≠ 102) : some g ≠ v.ownBlock := by
  obtain ⟨hb, hg⟩ := h
  exact Kd.R_ne ho hb ht
theorem IsS102.apartQ {w0 W : World} {g : Nat} {f0 : Int} {α : Type} {d : Kd α} {e : Nat} {base : Nat} {ok : Nat → Prop} {v : Value} {xs : List α} (h : IsS102 w0 W g f0) (ho : d.Q e W base ok v xs) (ht : ∀ q, q ∈ e :: d.E → q ≠ 102) : d.Q e W base (fun k => ok k ∧ k ≠ g) v xs := by
  obtain ⟨hb, hg⟩ := h
  exact Kd.Q_types ho hb ht
theorem IsS102.own_neQ {w0 W : World} {g : Nat} {f0 : Int} {α : Type} {d : Kd α} {e : Nat} {base : Nat} {ok : Nat → Prop} {v : Value} {xs : List α} (h : IsS102 w0 W g f0) (ho : d.Q e W base ok v xs) (ht : e ≠ 102) : some g ≠ v.ownBlock := by
  obtain ⟨hb, hg⟩ := h
  exact Kd.Q_ne ho hb ht
theorem IsS102.apartS {w0 W : World} {g : Nat} {f0 : Int} {α : Type} {d : Kd α} {e : Nat} {base : Nat} {ok : Nat → Prop} {v : Value} {xs : List α} (h : IsS102 w0 W g f0) (ho : d.S e W base ok v xs) (ht : ∀ q, q ∈ e :: d.E → q ≠ 102) : d.S e W base (fun k => ok k ∧ k ≠ g) v xs := by
  obtain ⟨hb, hg⟩ := h
  exact Kd.S_types ho hb ht
theorem IsS102.own_neS {w0 W : World} {g : Nat} {f0 : Int} {α : Type} {d : Kd α} {e : Nat} {base : Nat} {ok : Nat → Prop} {v : Value} {xs : List α} (h : IsS102 w0 W g f0) (ho : d.S e W base ok v xs) (ht : e ≠ 102) : some g ≠ v.ownBlock := by
  obtain ⟨hb, hg⟩ := h
  exact Kd.S_ne ho hb ht
theorem IsS102.lt {w0 W : World} {g : Nat} {f0 : Int} (h : IsS102 w0 W g f0) : g < W.heap.size := by
  obtain ⟨hb, hg⟩ := h
  exact blk_lt hb
theorem IsS102.ge {w0 W : World} {g : Nat} {f0 : Int} (h : IsS102 w0 W g f0) : w0.heap.size ≤ g := by
  obtain ⟨hb, hg⟩ := h
  exact hg
theorem IsS102.ne_blk {w0 W : World} {g : Nat} {f0 : Int} {a : Nat} {cs : Array Value} {t : TypeId} {fr : Nat × Nat} (h : IsS102 w0 W g f0) (hb2 : W.heap[a]? = some (.cells cs t fr)) (ht : t ≠ 102) : g ≠ a := by
  obtain ⟨hb, hg⟩ := h
  rintro rfl
  rw [hb] at hb2
  injection hb2 with hb2
  injection hb2 with _ ht2
  exact ht ht2.symm
theorem IsS102.far {w0 W : World} {g : Nat} {f0 : Int} {p : Addr} (h : IsS102 w0 W g f0) (hne : g ≠ p.block) (u : Value) : IsS102 w0 (W.setCell p u) g f0 := by
  obtain ⟨hb, hg⟩ := h
  exact ⟨blk_far hb hne u, hg⟩
theorem cellS102_0 {W : World} {g : Nat} {f0 : Int} (h : W.heap[g]? = some (.cells #[.int .i64 f0] 102 (0, 0))) : W.cell? ⟨g, 0, none⟩ = some (.int .i64 f0) := (blk_cell h 0).trans rfl
theorem IsS102.set_0 {w0 W : World} {g : Nat} {f0 : Int} (h : IsS102 w0 W g f0) (x : Int) : IsS102 w0 (W.setCell ⟨g, 0, none⟩ (.int .i64 x)) g x := by
  obtain ⟨hb, hg⟩ := h
  exact ⟨by simpa using blk_set hb 0 (.int .i64 x), hg⟩
theorem IsS102.new (w0 W : World) (f0 : Int) (hB : Below w0.heap.size w0 W) : IsS102 w0 (W.alloc (.cells #[.int .i64 f0] 102)) W.heap.size f0 := ⟨by simpa using heap_alloc_new W _, hB.size⟩

/-! ### tree_all: function 57 -/
def tree_all.f  : Option (Int) := some 8192
set_option maxHeartbeats 8000000 in
set_option maxRecDepth 100000 in
theorem tree_all.calls  (r : Int) (w0 w : World) (hB : Below w0.heap.size w0 w) (h : tree_all.f  = some r) :
    Calls Try.prog 57 #[] w fun e w' => ∃ g_ : Nat, e = .returned (.pointer (some ⟨g_, 0, none⟩)) ∧ IsS102 w0 w' g_ r ∧ Below w0.heap.size w0 w' ∧ Below w.heap.size w w' := by
  have hu102 := Try.underlying102
  have HBW := Aside0.mk (Below.refl w.heap.size w)
  have HW0 := Aside0.mk hB.size
  have HB := Aside0.mk hB
  clear hB
  have H : (some 8192) = some r := h
  clear h
  obtain rfl := Option.some.inj H
  go_enter Try.func57, Try.ntmps57
  go_wp2_with (first | ((with_reducible refine gate_dst (N := 2) rfl ?_); refine box_event ?hg (N := 2) ?hd (cs := #[.int .i64 8192]) (t := 102) ?hr ?_; (case hd => rfl); (case hg => rfl); (case hr => first | (go_simp; done) | (go_simp; rfl)); intro gb111 hg w1 hbox hb; have n0_ := Aside0.mk (below_step HBW.out hb); have n1_ := Aside0.mk (below_step (by repeat (first | (with_reducible first | exact HB.out | apply below_alloc | apply pw_below_drewN | apply below_drew1) | exact HB.out)) hb); have n2_ := Aside0.mk (hbox); have n3_ := Aside0.mk ((by rw [hg]; exact (below_size (by repeat (first | (with_reducible first | exact HBW.out | apply below_alloc | apply pw_below_drewN | apply below_drew1) | exact HBW.out))) : w.heap.size ≤ gb111)); have n4_ := Aside0.mk ((Nat.le_trans HW0.out (by rw [hg]; exact (below_size (by repeat (first | (with_reducible first | exact HBW.out | apply below_alloc | apply pw_below_drewN | apply below_drew1) | exact HBW.out))) : w.heap.size ≤ gb111) : w0.heap.size ≤ gb111)); clear HBW; clear HB; have HBW := n0_; have HB := n1_; have BK111 := n2_; have GW111 := n3_; have GE111 := n4_; clear n0_ n1_ n2_ n3_ n4_; clear hb hbox hg))
  go_ret
  exact ⟨_, rfl, (show IsS102 w0 _ gb111 8192 from ⟨by (with_reducible repeat (first | refine blk_drewN ?_ _ | refine blk_drew ?_ | refine blk_alloc ?_ _)); exact BK111.out, GE111.out⟩), by repeat (first | (with_reducible first | exact HB.out | apply below_alloc | apply pw_below_drewN | apply below_drew1 | refine below_set ?_ GE111.out) | exact HB.out), by repeat (first | (with_reducible first | exact HBW.out | apply below_alloc | apply pw_below_drewN | apply below_drew1 | refine below_set ?_ GW111.out) | exact HBW.out)⟩

/-! ### tree_walk_node: function 66 -/
def tree_walk_node.f (s0_0 : Int) : Option (Bool × Int) := some (decide ((wrap64 (s0_0 - 1)) ≥ 0), wrap64 (s0_0 - 1))
set_option maxHeartbeats 8000000 in
set_option maxRecDepth 100000 in
theorem tree_walk_node.calls (g : Nat) (s0_0 : Int) (r1 : Bool) (r2 : Int) (w0 w : World) (hI : IsS102 w0 w g s0_0) (hB : Below w0.heap.size w0 w) (h : tree_walk_node.f s0_0 = some (r1, r2)) :
    Calls Try.prog 66 #[.pointer (some ⟨g, 0, none⟩)] w fun e w' => e = .returned (.bool r1) ∧ IsS102 w0 w' g r2 ∧ Below w0.heap.size w0 w' ∧ KeepBut w w' g none := by
  have HI0 := Aside0.mk hI
  have HK := Aside0.mk (KeepBut.refl w g none)
  have HL := Aside0.mk hB.size
  clear hI
  have HW0 := Aside0.mk hB.size
  have HB := Aside0.mk hB
  clear hB
  have H : (some (decide ((wrap64 (s0_0 - 1)) ≥ 0), wrap64 (s0_0 - 1))) = some (r1, r2) := h
  clear h
  simp only [Option.some.injEq, Prod.mk.injEq] at H
  obtain ⟨rfl, rfl⟩ := H
  obtain ⟨HGz2, hgz2⟩ := HI0.out
  have hcz2_0 := cellS102_0 HGz2
  have hfz2_0 := blk_frozen HGz2 0
  clear HGz2 hgz2
  go_enter Try.func66, Try.ntmps66
  go_wp2
  go_ret
  exact ⟨by first | rfl | (simp [errW_none, errW_some] <;> rfl) | (simp [*, errW_none, errW_some] <;> rfl), by repeat (first | (with_reducible first | exact HI0.out | apply IsS102.alloc | apply IsS102.drewN | apply IsS102.drew | apply IsS102.set_0) | exact HI0.out), by repeat (first | (with_reducible first | exact HB.out | apply below_alloc | apply pw_below_drewN | apply below_drew1 | refine below_set ?_ (IsS102.ge HI0.out)) | exact HB.out), by repeat (first | (with_reducible first | exact HK.out | apply KeepBut.set_ | apply keep_drewN | apply keep_drew | apply keep_alloc) | exact HK.out)⟩

/-! ### tree_named: function 67 -/
def tree_named.f (k : Nat) (a0 : ByteArray) : Option (Bool) := (token_May.f k 1 a0 0 0 0).bind fun t112 => (some t112)
theorem tree_named.mono : ∀ a0 k, LeO (tree_named.f k a0) (tree_named.f (k + 1) a0) := by
  intro a0 k
  unfold tree_named.f
  repeat' first
      | (with_reducible exact token_May.mono _ _ _ _ _ _)
      | (with_reducible exact LeO.refl _)
      | (with_reducible exact LeO.none _)
      | (with_reducible refine LeO.ite ?_ ?_)
      | (with_reducible refine LeO.bind ?_ (fun _ => ?_))
      | exact token_May.mono _ _ _ _ _ _
      | exact LeO.none _
      | refine LeO.ite ?_ ?_
      | refine LeO.bind ?_ (fun _ => ?_)
set_option maxHeartbeats 8000000 in
set_option maxRecDepth 100000 in
theorem tree_named.calls (k : Nat) (a0 : ByteArray) (r : Bool) (w : World) (h : tree_named.f k a0 = some r) :
    Calls Try.prog 67 #[.string a0] w fun e w' => e = .returned (.bool r) ∧ Below w.heap.size w w' := by
  have hu88 := Try.underlying88
  have HB := Aside0.mk (Below.refl w.heap.size w)
  have H : ((token_May.f k 1 a0 0 0 0).bind fun t112 => (some t112)) = some r := h
  clear h
  replace H := Option.bind_eq_some_iff.mp H
  obtain ⟨t112, A20, H⟩ := H
  replace H : (some t112) = some r := H
  have A2 := Aside0.mk A20
  clear A20
  obtain rfl := Option.some.inj H
  go_enter Try.func67, Try.ntmps67
  go_wp2_with (first | ((with_reducible refine gate_callee (f := 45) rfl ?_); refine goesL_ (some 5) rfl rfl Try.func45 (by kernel_rfl) rfl #[.agg #[.int .u8 1, .string a0, .int .i64 0, .int .i64 0, .int .i64 0]] rfl (by (try simp only [List.map_toArray, List.map_cons, List.map_nil]); first | done | rfl | (simp only [List.length_drop, List.length_take]; rfl)) ?_; (with_reducible refine (token_May.calls k 1 a0 0 0 0 t112 _ A2.out).mono ?_); rintro e w3 ⟨rfl, hb⟩; refine ⟨_, rfl, ?_⟩; have n0_ := Aside0.mk (below_step (by repeat (first | (with_reducible first | exact HB.out | apply below_alloc | apply pw_below_drewN | apply below_drew1) | exact HB.out)) hb); clear HB; have HB := n0_; clear n0_; (try clear hb); (try clear hb2); (try clear hk); (try clear hi)))
  go_ret
  exact ⟨by first | rfl | (simp [errW_none, errW_some] <;> rfl) | (simp [*, errW_none, errW_some] <;> rfl), by repeat (first | (with_reducible first | exact HB.out | apply below_alloc | apply pw_below_drewN | apply below_drew1) | exact HB.out)⟩

end Go.Proofs.Ytnojokempdcikaa.PA

namespace Go.Proofs.Ytnojokempdcikaa.PA
open Go.RowKit Go.Proofs.YtnojokempdcikaaW.PrintWords Go.Proofs.YtnojokempdcikaaW.PrintLast Go.Proofs.YtnojokempdcikaaW.PrintMore
attribute [local go_sem] max2_int min2_int max_two min_two max_three min_three max_four min_four   -- for this text's walks alone
set_option linter.unusedVariables false
set_option linter.unusedSimpArgs false

/-! ### tree_walk_expr: function 58 -/
--OWNPART Derived.Deep.WholeRow Derived.Laws.Tables
open Go.RowKit
/-- How many parts an expression of its kind has; none: it may not be. -/
def exprParts (x : S25) : Option Int :=
  if x.f0 = 1 then (if x.f1 < 0 then none else if x.f1 > 2147483647 then none else if x.f2.toList = ([] : List UInt8) then some 0 else none)
  else if x.f0 = 2 then (if x.f1 = 0 then (if nameOk x.f2 = true then some 0 else none) else none)
  else if x.f0 = 3 then (if x.f1 = 0 then (if x.f2.toList = ([] : List UInt8) then some 1 else none) else none)
  else if x.f0 = 4 ∨ x.f0 = 5 ∨ x.f0 = 6 ∨ x.f0 = 7 ∨ x.f0 = 8 then (if x.f1 = 0 then (if x.f2.toList = ([] : List UInt8) then some 2 else none) else none)
  else none
def xexprs (f : S25 → Int → Int × Int) : List S25 → Int → Int → Int × Int
  | [], d, left => (wrap64 (d + 1), left)
  | p :: ps, d, left => if (f p left).1 = 0 then (0, (f p left).2) else xexprs f ps (if d < (f p left).1 then (f p left).1 else d) (f p left).2
/-- How deep an expression is, so many levels being allowed (0: it may not be), and how many nodes are left behind it. -/
def xexpr : Nat → S25 → Int → Int × Int
  | 0, _, left => (0, left)
  | n + 1, x, left => if wrap64 (left - 1) < 0 then (0, wrap64 (left - 1)) else
    match exprParts x with
    | none => (0, wrap64 (left - 1))
    | some p => if (x.f3.length : Int) = p then xexprs (xexpr n) x.f3 0 (wrap64 (left - 1)) else (0, wrap64 (left - 1))
def smallB : Nat → S25 → Bool
  | 0, _ => true
  | n + 1, x => decide (x.f2.size ≤ 9223372036854775807) && x.f3.all (smallB n)
theorem tnamed_ok (s : ByteArray) (hs : s.size ≤ 9223372036854775807) : tree_named.f (s.size + 3) s = some (nameOk s) := by
  unfold tree_named.f
  rw [may_name s hs]; rfl
theorem exprInfo : (Try.prog.info? 25).map (·.size) = some 6 := by kernel_rfl
theorem xone6 (a b c d : Int) (s : ByteArray) (A : Option Addr) (n m : Nat) : (#[.int .u8 a, .int .i64 b, .string s, .slice A n m, .int .i64 c, .int .i64 d] : Array Value).all (·.oneCell') = true := by simp [Value.oneCell']
theorem xbelow_base {w0 w w1 : World} (h : Below w0.heap.size w0 w) (k : Below w.heap.size w w1) : Below w0.heap.size w0 w1 := h.trans (k.mono h.size)
theorem rd_drop25 (l : List S25) (i : Nat) (h : i < l.length) : l.drop i = rd_T25 l (i : Int) :: l.drop (i + 1) := by
  rw [List.drop_eq_getElem_cons h]
  unfold rd_T25
  rw [Int.toNat_natCast, List.getD_eq_getElem?_getD, List.getElem?_eq_getElem h]; rfl
theorem rd_mem25 (l : List S25) (i : Nat) (h : i < l.length) : rd_T25 l (i : Int) ∈ l := by
  unfold rd_T25
  rw [Int.toNat_natCast, List.getD_eq_getElem?_getD, List.getElem?_eq_getElem h]; exact List.getElem_mem h
theorem exprParts_le (x : S25) (p : Int) (h : exprParts x = some p) : p ≤ 2 := by
  unfold exprParts at h
  repeat' split at h
  all_goals first | (cases h; omega) | cases h
set_option maxHeartbeats 8000000 in
set_option maxRecDepth 100000 in
theorem walk_expr.walk : ∀ (n : Nat) (L : Int) (K N : Int) (S : ByteArray) (A : Option Addr) (C : Nat) (l : List S25) (I O : Int) (g : Nat) (left : Int) (w0 w : World), L = n → n ≤ 1000000 → IsS102 w0 w g left → Below w0.heap.size w0 w → Kd.C k25 w0 A l.length l → smallB n ⟨K, N, S, l, I, O⟩ = true →
    Calls Try.prog 58 #[.pointer (some ⟨g, 0, none⟩), .agg #[.int .u8 K, .int .i64 N, .string S, .slice A l.length C, .int .i64 I, .int .i64 O], .int .i64 L] w fun e w' =>
      e = .returned (.int .i64 (xexpr n ⟨K, N, S, l, I, O⟩ left).1) ∧ IsS102 w0 w' g (xexpr n ⟨K, N, S, l, I, O⟩ left).2 ∧ Below w0.heap.size w0 w' ∧ KeepBut w w' g none := by
  intro n
  induction n with
  | zero =>
    intro L K N S A C l I O g left w0 w hL hn hI hB hR hsm
    subst hL
    have HI := Aside0.mk hI
    have HB := Aside0.mk hB
    clear hI hB hR hsm hn
    go_enter Try.func58, Try.ntmps58
    go_wp2_with (first | ((with_reducible refine gate_dst (N := 4) rfl ?_); refine box_event ?hg (N := 4) ?hd (cs := #[.int .u8 K, .int .i64 N, .string S, .slice A l.length C, .int .i64 I, .int .i64 O]) (t := 25) ?hr ?_; (case hd => rfl); (case hg => rfl); (case hr => first | (go_simp; done) | (go_simp; rfl)); intro gx hg w1 hbox hb; have BX := Aside0.mk hbox; have HB1 := Aside0.mk (xbelow_base HB.out hb); have HI1 := Aside0.mk (HI.out.below hb); have GX := Aside0.mk (show w.heap.size ≤ gx from by rw [hg]; exact Nat.le_refl _); have NX := Aside0.mk (show gx ≠ g from fun e => by have := HI.out.lt; omega); have HK1 := Aside0.mk (KeepBut.of_below hb g none); clear hbox hb hg))
    go_ret
    exact ⟨rfl, HI1.out, HB1.out, HK1.out⟩
  | succ n ih =>
    intro L K N S A C l I O g left w0 w hL hn hI hB hR hsm
    have HIH := Aside0.mk ih
    clear ih
    have hL0 : (L == 0) = false := by rw [hL]; exact beq_eq_false_iff_ne.2 (by omega)
    have HL1 := Aside0.mk (show wrap64 (L - 1) = (n : Int) by rw [hL, xw64 (by omega) (by omega)]; omega)
    have HN := Aside0.mk hn
    have HI := Aside0.mk hI
    have HB := Aside0.mk hB
    have HR := Aside0.mk hR
    have HS := Aside0.mk hsm
    clear hI hB hR hsm hn hL
    obtain ⟨R, hR⟩ : ∃ R, xexpr (n + 1) ⟨K, N, S, l, I, O⟩ left = R := ⟨_, rfl⟩
    have HRR := Aside0.mk hR
    rw [hR]
    clear hR
    go_enter Try.func58, Try.ntmps58
    by_cases c0 : wrap64 (left - 1) < 0
    · have d0 := Aside0.mk (show decide (wrap64 (left - 1) ≥ 0) = false from decide_eq_false (by omega))
      have hR : (0, wrap64 (left - 1)) = R := by
        have h := HRR.out
        simp only [xexpr] at h
        rw [if_pos c0] at h; exact h
      have HE := Aside0.mk hR
      clear hR c0
      go_wp2_with (first | ((with_reducible refine gate_dst (N := 4) rfl ?_); refine box_event ?hg (N := 4) ?hd (cs := #[.int .u8 K, .int .i64 N, .string S, .slice A l.length C, .int .i64 I, .int .i64 O]) (t := 25) ?hr ?_; (case hd => rfl); (case hg => rfl); (case hr => first | (go_simp; done) | (go_simp; rfl)); intro gx hg w1 hbox hb; have BX := Aside0.mk hbox; have HB1 := Aside0.mk (xbelow_base HB.out hb); have HI1 := Aside0.mk (HI.out.below hb); have GX := Aside0.mk (show w.heap.size ≤ gx from by rw [hg]; exact Nat.le_refl _); have NX := Aside0.mk (show gx ≠ g from fun e => by have := HI.out.lt; omega); have HK1 := Aside0.mk (KeepBut.of_below hb g none); clear hbox hb hg) | (go_at_call 66; refine (tree_walk_node.calls g left false (wrap64 (left - 1)) w0 _ HI1.out HB1.out (by unfold tree_walk_node.f; rw [d0.out])).mono ?_; rintro e w2 ⟨rfl, hi, hb, hk⟩; have HI2 := Aside0.mk hi; have HB2 := Aside0.mk hb; have HK2 := Aside0.mk (HK1.out.trans hk (.inl rfl)); have BX2 := Aside0.mk (hk.blk BX.out NX.out (by simp)); clear hi hb hk))
      go_ret
      have hE := HE.out
      subst hE
      exact ⟨rfl, HI2.out, HB2.out, HK2.out⟩
    · have d0 := Aside0.mk (show decide (wrap64 (left - 1) ≥ 0) = true from decide_eq_true (by omega))
      have HE := Aside0.mk (show (match exprParts ⟨K, N, S, l, I, O⟩ with
          | none => (0, wrap64 (left - 1))
          | some p => if (l.length : Int) = p then xexprs (xexpr n) l 0 (wrap64 (left - 1)) else (0, wrap64 (left - 1))) = R by
        have h := HRR.out
        simp only [xexpr] at h
        rw [if_neg c0] at h; exact h)
      clear c0
      have HNM := Aside0.mk (tnamed_ok S (by have h := HS.out; simp only [smallB, Bool.and_eq_true, decide_eq_true_iff] at h; exact h.1))
      clear HRR
      go_upto_region 4 with (first | ((with_reducible refine gate_dst (N := 4) rfl ?_); refine box_event ?hg (N := 4) ?hd (cs := #[.int .u8 K, .int .i64 N, .string S, .slice A l.length C, .int .i64 I, .int .i64 O]) (t := 25) ?hr ?_; (case hd => rfl); (case hg => rfl); (case hr => first | (go_simp; done) | (go_simp; rfl)); intro gx hg w1 hbox hb; have BX := Aside0.mk hbox; have HB1 := Aside0.mk (xbelow_base HB.out hb); have HI1 := Aside0.mk (HI.out.below hb); have GX := Aside0.mk (show w.heap.size ≤ gx from by rw [hg]; exact Nat.le_refl _); have NX := Aside0.mk (show gx ≠ g from fun e => by have := HI.out.lt; omega); have HK1 := Aside0.mk (KeepBut.of_below hb g none); clear hbox hb hg) | (go_at_call 66; refine (tree_walk_node.calls g left true (wrap64 (left - 1)) w0 _ HI1.out HB1.out (by unfold tree_walk_node.f; rw [d0.out])).mono ?_; rintro e w2 ⟨rfl, hi, hb, hk⟩; have HI2 := Aside0.mk hi; have HB2 := Aside0.mk hb; have HK2 := Aside0.mk (HK1.out.trans hk (.inl rfl)); have BX2 := Aside0.mk (hk.blk BX.out NX.out (by simp)); clear hi hb hk))
      have hz0 : w2.cell? ⟨gx, 0, none⟩ = some (.int .u8 K) := (blk_cell BX2.out 0).trans rfl; have hz1 : w2.cell? ⟨gx, 1, none⟩ = some (.int .i64 N) := (blk_cell BX2.out 1).trans rfl; have hz2 : w2.cell? ⟨gx, 2, none⟩ = some (.string S) := (blk_cell BX2.out 2).trans rfl; have hz3 : w2.cell? ⟨gx, 3, none⟩ = some (.slice A l.length C) := (blk_cell BX2.out 3).trans rfl; have hz4 : w2.cell? ⟨gx, 4, none⟩ = some (.int .i64 I) := (blk_cell BX2.out 4).trans rfl; have hz5 : w2.cell? ⟨gx, 5, none⟩ = some (.int .i64 O) := (blk_cell BX2.out 5).trans rfl
      (try simp only [Act.put, List.setIfInBounds_toArray, List.set_cons_zero, List.set_cons_succ])
      go_upto_block 0 with (fail)
      go_cut [7] (fun v7 wc => ∃ p : Int, v7 = .int .i64 p ∧ Aside0 (exprParts ⟨K, N, S, l, I, O⟩ = some p) ∧ Aside0 (wc.heap[gx]? = some (.cells #[.int .u8 K, .int .i64 N, .string S, .slice A l.length C, .int .i64 I, .int .i64 O] 25 (0, 0))) ∧ Aside0 (IsS102 w0 wc g (wrap64 (left - 1))) ∧ Aside0 (Below w0.heap.size w0 wc) ∧ Aside0 (KeepBut w wc g none))
      case first =>
          by_cases k1 : K = 1
          · subst k1
            by_cases c1 : N < 0
            · have c1b : decide (N < 0) = true := decide_eq_true c1
              have hP : exprParts ⟨1, N, S, l, I, O⟩ = none := by simp [exprParts, c1]
              have hE := HE.out
              rw [hP] at hE
              have HE2 := Aside0.mk (show (0, wrap64 (left - 1)) = R from hE)
              clear hE hP c1
              go_wp2
              go_ret
              have hE := HE2.out
              subst hE
              exact ⟨rfl, HI2.out, HB2.out, HK2.out⟩
            · have c1b : decide (N < 0) = false := decide_eq_false c1
              by_cases c2 : N > 2147483647
              · have c2b : decide (2147483647 < N) = true := decide_eq_true c2
                have hP : exprParts ⟨1, N, S, l, I, O⟩ = none := by simp [exprParts, c1, c2]
                have hE := HE.out
                rw [hP] at hE
                have HE2 := Aside0.mk (show (0, wrap64 (left - 1)) = R from hE)
                clear hE hP c1 c2
                go_wp2
                go_ret
                have hE := HE2.out
                subst hE
                exact ⟨rfl, HI2.out, HB2.out, HK2.out⟩
              · have c2b : decide (2147483647 < N) = false := decide_eq_false c2
                by_cases c3 : S.toList = ([] : List UInt8)
                · have c3b : S.toList.isEmpty = true := List.isEmpty_iff.2 c3
                  have hP : exprParts ⟨1, N, S, l, I, O⟩ = some 0 := by simp [exprParts, c1, c2, c3]
                  have HP := Aside0.mk hP
                  clear hP c1 c2 c3
                  go_wp2
                  go_meet
                  case rel => exact ⟨0, rfl, HP, BX2, HI2, HB2, HK2⟩
                · have c3b : S.toList.isEmpty = false := Bool.eq_false_iff.2 (fun h => c3 (List.isEmpty_iff.1 h))
                  have hP : exprParts ⟨1, N, S, l, I, O⟩ = none := by simp [exprParts, c1, c2, c3]
                  have hE := HE.out
                  rw [hP] at hE
                  have HE2 := Aside0.mk (show (0, wrap64 (left - 1)) = R from hE)
                  clear hE hP c1 c2 c3
                  go_wp2
                  go_ret
                  have hE := HE2.out
                  subst hE
                  exact ⟨rfl, HI2.out, HB2.out, HK2.out⟩
          · have k1b : (K == 1) = false := beq_eq_false_iff_ne.2 k1
            by_cases k2 : K = 2
            · subst k2
              by_cases c1 : N = 0
              · have c1b : (N != 0) = false := bne_eq_false_iff_eq.mpr c1
                cases c2 : nameOk S with
                | true =>
                  rw [c2] at HNM
                  have hP : exprParts ⟨2, N, S, l, I, O⟩ = some 0 := by simp [exprParts, c1, c2]
                  have HP := Aside0.mk hP
                  clear hP c1 c2
                  go_wp2_with (first | (go_at_call 67; refine (tree_named.calls (S.size + 3) S true _ HNM.out).mono ?_; rintro e w3 ⟨rfl, hb⟩; have HI3 := Aside0.mk (HI2.out.below hb); have HB3 := Aside0.mk (xbelow_base HB2.out hb); have HK3 := Aside0.mk (HK2.out.trans (KeepBut.of_below hb g none) (.inl rfl)); have BX3 := Aside0.mk (blk_below BX2.out hb); clear hb))
                  go_meet
                  case rel => exact ⟨0, rfl, HP, BX3, HI3, HB3, HK3⟩
                | false =>
                  rw [c2] at HNM
                  have hP : exprParts ⟨2, N, S, l, I, O⟩ = none := by simp [exprParts, c1, c2]
                  have hE := HE.out
                  rw [hP] at hE
                  have HE2 := Aside0.mk (show (0, wrap64 (left - 1)) = R from hE)
                  clear hE hP c1 c2
                  go_wp2_with (first | (go_at_call 67; refine (tree_named.calls (S.size + 3) S false _ HNM.out).mono ?_; rintro e w3 ⟨rfl, hb⟩; have HI3 := Aside0.mk (HI2.out.below hb); have HB3 := Aside0.mk (xbelow_base HB2.out hb); have HK3 := Aside0.mk (HK2.out.trans (KeepBut.of_below hb g none) (.inl rfl)); have BX3 := Aside0.mk (blk_below BX2.out hb); clear hb))
                  go_ret
                  have hE := HE2.out
                  subst hE
                  exact ⟨rfl, HI3.out, HB3.out, HK3.out⟩
              · have c1b : (N != 0) = true := bne_iff_ne.mpr c1
                have hP : exprParts ⟨2, N, S, l, I, O⟩ = none := by simp [exprParts, c1]
                have hE := HE.out
                rw [hP] at hE
                have HE2 := Aside0.mk (show (0, wrap64 (left - 1)) = R from hE)
                clear hE hP c1
                go_wp2
                go_ret
                have hE := HE2.out
                subst hE
                exact ⟨rfl, HI2.out, HB2.out, HK2.out⟩
            · have k2b : (K == 2) = false := beq_eq_false_iff_ne.2 k2
              by_cases k3 : K = 3
              · subst k3
                by_cases c1 : N = 0
                · have c1b : (N != 0) = false := bne_eq_false_iff_eq.mpr c1
                  by_cases c3 : S.toList = ([] : List UInt8)
                  · have c3b : S.toList.isEmpty = true := List.isEmpty_iff.2 c3
                    have hP : exprParts ⟨3, N, S, l, I, O⟩ = some 1 := by simp [exprParts, c1, c3]
                    have HP := Aside0.mk hP
                    clear hP c1 c3
                    go_wp2
                    go_meet
                    case rel => exact ⟨1, rfl, HP, BX2, HI2, HB2, HK2⟩
                  · have c3b : S.toList.isEmpty = false := Bool.eq_false_iff.2 (fun h => c3 (List.isEmpty_iff.1 h))
                    have hP : exprParts ⟨3, N, S, l, I, O⟩ = none := by simp [exprParts, c1, c3]
                    have hE := HE.out
                    rw [hP] at hE
                    have HE2 := Aside0.mk (show (0, wrap64 (left - 1)) = R from hE)
                    clear hE hP c1 c3
                    go_wp2
                    go_ret
                    have hE := HE2.out
                    subst hE
                    exact ⟨rfl, HI2.out, HB2.out, HK2.out⟩
                · have c1b : (N != 0) = true := bne_iff_ne.mpr c1
                  have hP : exprParts ⟨3, N, S, l, I, O⟩ = none := by simp [exprParts, c1]
                  have hE := HE.out
                  rw [hP] at hE
                  have HE2 := Aside0.mk (show (0, wrap64 (left - 1)) = R from hE)
                  clear hE hP c1
                  go_wp2
                  go_ret
                  have hE := HE2.out
                  subst hE
                  exact ⟨rfl, HI2.out, HB2.out, HK2.out⟩
              · have k3b : (K == 3) = false := beq_eq_false_iff_ne.2 k3
                by_cases k4 : K = 4
                · subst k4
                  by_cases c1 : N = 0
                  · have c1b : (N != 0) = false := bne_eq_false_iff_eq.mpr c1
                    by_cases c3 : S.toList = ([] : List UInt8)
                    · have c3b : S.toList.isEmpty = true := List.isEmpty_iff.2 c3
                      have hP : exprParts ⟨4, N, S, l, I, O⟩ = some 2 := by simp [exprParts, c1, c3]
                      have HP := Aside0.mk hP
                      clear hP c1 c3
                      go_wp2
                      go_meet
                      case rel => exact ⟨2, rfl, HP, BX2, HI2, HB2, HK2⟩
                    · have c3b : S.toList.isEmpty = false := Bool.eq_false_iff.2 (fun h => c3 (List.isEmpty_iff.1 h))
                      have hP : exprParts ⟨4, N, S, l, I, O⟩ = none := by simp [exprParts, c1, c3]
                      have hE := HE.out
                      rw [hP] at hE
                      have HE2 := Aside0.mk (show (0, wrap64 (left - 1)) = R from hE)
                      clear hE hP c1 c3
                      go_wp2
                      go_ret
                      have hE := HE2.out
                      subst hE
                      exact ⟨rfl, HI2.out, HB2.out, HK2.out⟩
                  · have c1b : (N != 0) = true := bne_iff_ne.mpr c1
                    have hP : exprParts ⟨4, N, S, l, I, O⟩ = none := by simp [exprParts, c1]
                    have hE := HE.out
                    rw [hP] at hE
                    have HE2 := Aside0.mk (show (0, wrap64 (left - 1)) = R from hE)
                    clear hE hP c1
                    go_wp2
                    go_ret
                    have hE := HE2.out
                    subst hE
                    exact ⟨rfl, HI2.out, HB2.out, HK2.out⟩
                · have k4b : (K == 4) = false := beq_eq_false_iff_ne.2 k4
                  by_cases k5 : K = 5
                  · subst k5
                    by_cases c1 : N = 0
                    · have c1b : (N != 0) = false := bne_eq_false_iff_eq.mpr c1
                      by_cases c3 : S.toList = ([] : List UInt8)
                      · have c3b : S.toList.isEmpty = true := List.isEmpty_iff.2 c3
                        have hP : exprParts ⟨5, N, S, l, I, O⟩ = some 2 := by simp [exprParts, c1, c3]
                        have HP := Aside0.mk hP
                        clear hP c1 c3
                        go_wp2
                        go_meet
                        case rel => exact ⟨2, rfl, HP, BX2, HI2, HB2, HK2⟩
                      · have c3b : S.toList.isEmpty = false := Bool.eq_false_iff.2 (fun h => c3 (List.isEmpty_iff.1 h))
                        have hP : exprParts ⟨5, N, S, l, I, O⟩ = none := by simp [exprParts, c1, c3]
                        have hE := HE.out
                        rw [hP] at hE
                        have HE2 := Aside0.mk (show (0, wrap64 (left - 1)) = R from hE)
                        clear hE hP c1 c3
                        go_wp2
                        go_ret
                        have hE := HE2.out
                        subst hE
                        exact ⟨rfl, HI2.out, HB2.out, HK2.out⟩
                    · have c1b : (N != 0) = true := bne_iff_ne.mpr c1
                      have hP : exprParts ⟨5, N, S, l, I, O⟩ = none := by simp [exprParts, c1]
                      have hE := HE.out
                      rw [hP] at hE
                      have HE2 := Aside0.mk (show (0, wrap64 (left - 1)) = R from hE)
                      clear hE hP c1
                      go_wp2
                      go_ret
                      have hE := HE2.out
                      subst hE
                      exact ⟨rfl, HI2.out, HB2.out, HK2.out⟩
                  · have k5b : (K == 5) = false := beq_eq_false_iff_ne.2 k5
                    by_cases k6 : K = 6
                    · subst k6
                      by_cases c1 : N = 0
                      · have c1b : (N != 0) = false := bne_eq_false_iff_eq.mpr c1
                        by_cases c3 : S.toList = ([] : List UInt8)
                        · have c3b : S.toList.isEmpty = true := List.isEmpty_iff.2 c3
                          have hP : exprParts ⟨6, N, S, l, I, O⟩ = some 2 := by simp [exprParts, c1, c3]
                          have HP := Aside0.mk hP
                          clear hP c1 c3
                          go_wp2
                          go_meet
                          case rel => exact ⟨2, rfl, HP, BX2, HI2, HB2, HK2⟩
                        · have c3b : S.toList.isEmpty = false := Bool.eq_false_iff.2 (fun h => c3 (List.isEmpty_iff.1 h))
                          have hP : exprParts ⟨6, N, S, l, I, O⟩ = none := by simp [exprParts, c1, c3]
                          have hE := HE.out
                          rw [hP] at hE
                          have HE2 := Aside0.mk (show (0, wrap64 (left - 1)) = R from hE)
                          clear hE hP c1 c3
                          go_wp2
                          go_ret
                          have hE := HE2.out
                          subst hE
                          exact ⟨rfl, HI2.out, HB2.out, HK2.out⟩
                      · have c1b : (N != 0) = true := bne_iff_ne.mpr c1
                        have hP : exprParts ⟨6, N, S, l, I, O⟩ = none := by simp [exprParts, c1]
                        have hE := HE.out
                        rw [hP] at hE
                        have HE2 := Aside0.mk (show (0, wrap64 (left - 1)) = R from hE)
                        clear hE hP c1
                        go_wp2
                        go_ret
                        have hE := HE2.out
                        subst hE
                        exact ⟨rfl, HI2.out, HB2.out, HK2.out⟩
                    · have k6b : (K == 6) = false := beq_eq_false_iff_ne.2 k6
                      by_cases k7 : K = 7
                      · subst k7
                        by_cases c1 : N = 0
                        · have c1b : (N != 0) = false := bne_eq_false_iff_eq.mpr c1
                          by_cases c3 : S.toList = ([] : List UInt8)
                          · have c3b : S.toList.isEmpty = true := List.isEmpty_iff.2 c3
                            have hP : exprParts ⟨7, N, S, l, I, O⟩ = some 2 := by simp [exprParts, c1, c3]
                            have HP := Aside0.mk hP
                            clear hP c1 c3
                            go_wp2
                            go_meet
                            case rel => exact ⟨2, rfl, HP, BX2, HI2, HB2, HK2⟩
                          · have c3b : S.toList.isEmpty = false := Bool.eq_false_iff.2 (fun h => c3 (List.isEmpty_iff.1 h))
                            have hP : exprParts ⟨7, N, S, l, I, O⟩ = none := by simp [exprParts, c1, c3]
                            have hE := HE.out
                            rw [hP] at hE
                            have HE2 := Aside0.mk (show (0, wrap64 (left - 1)) = R from hE)
                            clear hE hP c1 c3
                            go_wp2
                            go_ret
                            have hE := HE2.out
                            subst hE
                            exact ⟨rfl, HI2.out, HB2.out, HK2.out⟩
                        · have c1b : (N != 0) = true := bne_iff_ne.mpr c1
                          have hP : exprParts ⟨7, N, S, l, I, O⟩ = none := by simp [exprParts, c1]
                          have hE := HE.out
                          rw [hP] at hE
                          have HE2 := Aside0.mk (show (0, wrap64 (left - 1)) = R from hE)
                          clear hE hP c1
                          go_wp2
                          go_ret
                          have hE := HE2.out
                          subst hE
                          exact ⟨rfl, HI2.out, HB2.out, HK2.out⟩
                      · have k7b : (K == 7) = false := beq_eq_false_iff_ne.2 k7
                        by_cases k8 : K = 8
                        · subst k8
                          by_cases c1 : N = 0
                          · have c1b : (N != 0) = false := bne_eq_false_iff_eq.mpr c1
                            by_cases c3 : S.toList = ([] : List UInt8)
                            · have c3b : S.toList.isEmpty = true := List.isEmpty_iff.2 c3
                              have hP : exprParts ⟨8, N, S, l, I, O⟩ = some 2 := by simp [exprParts, c1, c3]
                              have HP := Aside0.mk hP
                              clear hP c1 c3
                              go_wp2
                              go_meet
                              case rel => exact ⟨2, rfl, HP, BX2, HI2, HB2, HK2⟩
                            · have c3b : S.toList.isEmpty = false := Bool.eq_false_iff.2 (fun h => c3 (List.isEmpty_iff.1 h))
                              have hP : exprParts ⟨8, N, S, l, I, O⟩ = none := by simp [exprParts, c1, c3]
                              have hE := HE.out
                              rw [hP] at hE
                              have HE2 := Aside0.mk (show (0, wrap64 (left - 1)) = R from hE)
                              clear hE hP c1 c3
                              go_wp2
                              go_ret
                              have hE := HE2.out
                              subst hE
                              exact ⟨rfl, HI2.out, HB2.out, HK2.out⟩
                          · have c1b : (N != 0) = true := bne_iff_ne.mpr c1
                            have hP : exprParts ⟨8, N, S, l, I, O⟩ = none := by simp [exprParts, c1]
                            have hE := HE.out
                            rw [hP] at hE
                            have HE2 := Aside0.mk (show (0, wrap64 (left - 1)) = R from hE)
                            clear hE hP c1
                            go_wp2
                            go_ret
                            have hE := HE2.out
                            subst hE
                            exact ⟨rfl, HI2.out, HB2.out, HK2.out⟩
                        · have k8b : (K == 8) = false := beq_eq_false_iff_ne.2 k8
                          have hP : exprParts ⟨K, N, S, l, I, O⟩ = none := by simp [exprParts, k1, k2, k3, k4, k5, k6, k7, k8]
                          have hE := HE.out
                          rw [hP] at hE
                          have HE2 := Aside0.mk (show (0, wrap64 (left - 1)) = R from hE)
                          clear hE hP k1 k2 k3 k4 k5 k6 k7 k8
                          go_wp2
                          go_ret
                          have hE := HE2.out
                          subst hE
                          exact ⟨rfl, HI2.out, HB2.out, HK2.out⟩
      case rest =>
        clear BX BX2 HI HI1 HI2 HB HB1 HB2 HK1 HK2 HNM
        clear hz0 hz1 hz2 hz3 hz4 hz5
        obtain ⟨p, rfl, HP, BX, HI, HB, HK⟩ := hcut
        have hE := HE.out
        clear HE
        rw [HP.out] at hE
        dsimp only at hE
        have hz0 : wc.cell? ⟨gx, 0, none⟩ = some (.int .u8 K) := (blk_cell BX.out 0).trans rfl; have hz1 : wc.cell? ⟨gx, 1, none⟩ = some (.int .i64 N) := (blk_cell BX.out 1).trans rfl; have hz2 : wc.cell? ⟨gx, 2, none⟩ = some (.string S) := (blk_cell BX.out 2).trans rfl; have hz3 : wc.cell? ⟨gx, 3, none⟩ = some (.slice A l.length C) := (blk_cell BX.out 3).trans rfl; have hz4 : wc.cell? ⟨gx, 4, none⟩ = some (.int .i64 I) := (blk_cell BX.out 4).trans rfl; have hz5 : wc.cell? ⟨gx, 5, none⟩ = some (.int .i64 O) := (blk_cell BX.out 5).trans rfl
        by_cases c1 : (l.length : Int) = p
        · rw [if_pos c1] at hE
          have c1b : ((l.length : Int) != p) = false := bne_eq_false_iff_eq.mpr c1
          have HLE := Aside0.mk (show l.length ≤ 2 by have := exprParts_le _ _ HP.out; omega)
          have HSM := Aside0.mk (show ∀ y ∈ l, smallB n y = true by have h := HS.out; simp only [smallB, Bool.and_eq_true, List.all_eq_true] at h; exact h.2)
          have HE := Aside0.mk (show xexprs (xexpr n) (l.drop 0) 0 (wrap64 (left - 1)) = R from hE)
          clear c1 hE HP HS
          go_wp2
          go_loopg [8, 75] l.length (fun q v8 v75 wx => ∃ (i : Nat) (d lf : Int), i + q = l.length ∧ v8 = .int .i64 d ∧ v75 = .int .i64 i ∧ Aside0 (xexprs (xexpr n) (l.drop i) d lf = R) ∧ Aside0 (wx.heap[gx]? = some (.cells #[.int .u8 K, .int .i64 N, .string S, .slice A l.length C, .int .i64 I, .int .i64 O] 25 (0, 0))) ∧ Aside0 (IsS102 w0 wx g lf) ∧ Aside0 (Below w0.heap.size w0 wx) ∧ Aside0 (KeepBut w wx g none))
          case atStart => exact ⟨0, 0, _, by omega, rfl, rfl, HE, BX, HI, HB, HK⟩
          case round =>
            clear BX HI HB HK HE c1b
            clear hz0 hz1 hz2 hz3 hz4 hz5
            obtain ⟨i, d, lf, hi, rfl, rfl, HE, BX, HI, HB, HK⟩ := hrel
            cases gk with
            | zero =>
              obtain rfl : i = l.length := by omega
              have hE := HE.out
              rw [List.drop_length] at hE
              simp only [xexprs] at hE
              have HE2 := Aside0.mk hE
              clear hE HE
              go_wp2
              go_ret
              have hE := HE2.out
              subst hE
              exact ⟨rfl, HI.out, HB.out, HK.out⟩
            | succ q =>
              have hik : i < l.length := by omega
              have hlt : decide ((i : Int) < (l.length : Int)) = true := decide_eq_true (by omega)
              have hE := HE.out
              clear HE
              rw [rd_drop25 l i hik] at hE
              have hmem := rd_mem25 l i hik
              obtain ⟨ad, A3, c3, e0, hx0, hx1, hx2, hx3, hx4, hx5, hlc, hRC⟩ := at_T25 HR.out (i : Int) (by omega) (by omega)
              subst e0
              rw [Int.toNat_natCast] at hx0 hx1 hx2 hx3 hx4 hx5
              generalize rd_T25 l (i : Int) = y at hE hmem hx0 hx1 hx2 hx3 hx4 hx5 hlc hRC
              obtain ⟨K2, N2, S2, l2, I2, O2⟩ := y
              dsimp only at hE hmem hx0 hx1 hx2 hx3 hx4 hx5 hlc hRC
              replace hx0 := (HB.out.cell (World.block_lt_of_cell? w0 _ hx0)).trans hx0
              replace hx1 := (HB.out.cell (World.block_lt_of_cell? w0 _ hx1)).trans hx1
              replace hx2 := (HB.out.cell (World.block_lt_of_cell? w0 _ hx2)).trans hx2
              replace hx3 := (HB.out.cell (World.block_lt_of_cell? w0 _ hx3)).trans hx3
              replace hx4 := (HB.out.cell (World.block_lt_of_cell? w0 _ hx4)).trans hx4
              replace hx5 := (HB.out.cell (World.block_lt_of_cell? w0 _ hx5)).trans hx5
              have HRC := Aside0.mk hRC
              have HSY := Aside0.mk (HSM.out _ hmem)
              have HII := Aside0.mk (show i + 1 ≤ 2 by have := HLE.out; omega)
              simp only [xexprs] at hE
              clear hRC hlc hmem
              generalize hY : xexpr n ⟨K2, N2, S2, l2, I2, O2⟩ lf = Y at hE
              obtain ⟨e, lf2⟩ := Y
              have HY := Aside0.mk hY
              clear hY
              dsimp only at hE
              by_cases c2 : e = 0
              · rw [if_pos c2] at hE
                have HE := Aside0.mk hE
                have c2b : (e == 0) = true := beq_iff_eq.mpr c2
                clear hE c2
                go_wp2_with (first | ((with_reducible refine gate_dst (N := 10) rfl ?_); refine box_event ?hg (N := 10) ?hd (cs := #[.int .u8 0, .int .i64 0, .string (⟨#[]⟩ : ByteArray), .slice none 0 0, .int .i64 0, .int .i64 0]) (t := 25) ?hr ?_; (case hd => rfl); (case hg => rfl); (case hr => first | (go_simp; done) | (go_simp; rfl)); intro gp hg w1 hbox hb; have BP := Aside0.mk hbox; have HI3 := Aside0.mk (HI.out.below hb); have HB3 := Aside0.mk (xbelow_base HB.out hb); have HK3 := Aside0.mk (HK.out.trans (KeepBut.of_below hb g none) (.inl rfl)); have BX3 := Aside0.mk (blk_below BX.out hb); have GP := Aside0.mk (show w.heap.size ≤ gp ∧ w0.heap.size ≤ gp from by rw [hg]; exact ⟨HK.out.1, HB.out.size⟩); have NP := Aside0.mk (show gp ≠ g ∧ gx ≠ gp from ⟨fun e => by have := HI.out.lt; omega, fun e => by have := blk_lt BX.out; omega⟩); clear hbox hb hg) | (refine xstore_row rfl 25 _ _ rfl gp #[.int .u8 K2, .int .i64 N2, .string S2, .slice A3 l2.length c3, .int .i64 I2, .int .i64 O2] rfl rfl 25 _ BP.out exprInfo rfl (xone6 _ _ _ _ _ _ _ _) ?_; intro w2 hbk hgr hbl; have hp0 : w2.cell? ⟨gp, 0, none⟩ = some (.int .u8 K2) := (blk_cell hbk 0).trans rfl; have hp1 : w2.cell? ⟨gp, 1, none⟩ = some (.int .i64 N2) := (blk_cell hbk 1).trans rfl; have hp2 : w2.cell? ⟨gp, 2, none⟩ = some (.string S2) := (blk_cell hbk 2).trans rfl; have hp3 : w2.cell? ⟨gp, 3, none⟩ = some (.slice A3 l2.length c3) := (blk_cell hbk 3).trans rfl; have hp4 : w2.cell? ⟨gp, 4, none⟩ = some (.int .i64 I2) := (blk_cell hbk 4).trans rfl; have hp5 : w2.cell? ⟨gp, 5, none⟩ = some (.int .i64 O2) := (blk_cell hbk 5).trans rfl; have HI4 := Aside0.mk (HI3.out.grown hgr (by simpa using NP.out.1.symm)); have HB4 := Aside0.mk (hbl _ _ HB3.out GP.out.2); have HK4 := Aside0.mk (HK3.out.trans (KeepBut.of_grown hgr g) (.inr ⟨gp, rfl, GP.out.1⟩)); have BX4 := Aside0.mk (blk_grown BX3.out hgr (by simpa using NP.out.2)); clear hbk hgr hbl) | (go_at_call 58; refine (HIH.out (wrap64 (L - 1)) K2 N2 S2 A3 c3 l2 I2 O2 g lf w0 _ HL1.out (by have := HN.out; omega) HI4.out HB4.out HRC.out HSY.out).mono ?_; rw [HY.out]; rintro e5 w5 ⟨rfl, hi5, hb5, hk5⟩; have HI5 := Aside0.mk hi5; have HB5 := Aside0.mk hb5; have HK5 := Aside0.mk (HK4.out.trans hk5 (.inl rfl)); have BX5 := Aside0.mk (hk5.blk BX4.out NX.out (by simp)); clear hi5 hb5 hk5))
                go_ret
                have hE := HE.out
                subst hE
                exact ⟨rfl, HI5.out, HB5.out, HK5.out⟩
              · rw [if_neg c2] at hE
                have c2b : (e == 0) = false := beq_eq_false_iff_ne.2 c2
                clear c2
                by_cases c4 : d < e
                · rw [if_pos c4] at hE
                  have HE := Aside0.mk hE
                  clear hE
                  go_wp2_with (first | ((with_reducible refine gate_dst (N := 10) rfl ?_); refine box_event ?hg (N := 10) ?hd (cs := #[.int .u8 0, .int .i64 0, .string (⟨#[]⟩ : ByteArray), .slice none 0 0, .int .i64 0, .int .i64 0]) (t := 25) ?hr ?_; (case hd => rfl); (case hg => rfl); (case hr => first | (go_simp; done) | (go_simp; rfl)); intro gp hg w1 hbox hb; have BP := Aside0.mk hbox; have HI3 := Aside0.mk (HI.out.below hb); have HB3 := Aside0.mk (xbelow_base HB.out hb); have HK3 := Aside0.mk (HK.out.trans (KeepBut.of_below hb g none) (.inl rfl)); have BX3 := Aside0.mk (blk_below BX.out hb); have GP := Aside0.mk (show w.heap.size ≤ gp ∧ w0.heap.size ≤ gp from by rw [hg]; exact ⟨HK.out.1, HB.out.size⟩); have NP := Aside0.mk (show gp ≠ g ∧ gx ≠ gp from ⟨fun e => by have := HI.out.lt; omega, fun e => by have := blk_lt BX.out; omega⟩); clear hbox hb hg) | (refine xstore_row rfl 25 _ _ rfl gp #[.int .u8 K2, .int .i64 N2, .string S2, .slice A3 l2.length c3, .int .i64 I2, .int .i64 O2] rfl rfl 25 _ BP.out exprInfo rfl (xone6 _ _ _ _ _ _ _ _) ?_; intro w2 hbk hgr hbl; have hp0 : w2.cell? ⟨gp, 0, none⟩ = some (.int .u8 K2) := (blk_cell hbk 0).trans rfl; have hp1 : w2.cell? ⟨gp, 1, none⟩ = some (.int .i64 N2) := (blk_cell hbk 1).trans rfl; have hp2 : w2.cell? ⟨gp, 2, none⟩ = some (.string S2) := (blk_cell hbk 2).trans rfl; have hp3 : w2.cell? ⟨gp, 3, none⟩ = some (.slice A3 l2.length c3) := (blk_cell hbk 3).trans rfl; have hp4 : w2.cell? ⟨gp, 4, none⟩ = some (.int .i64 I2) := (blk_cell hbk 4).trans rfl; have hp5 : w2.cell? ⟨gp, 5, none⟩ = some (.int .i64 O2) := (blk_cell hbk 5).trans rfl; have HI4 := Aside0.mk (HI3.out.grown hgr (by simpa using NP.out.1.symm)); have HB4 := Aside0.mk (hbl _ _ HB3.out GP.out.2); have HK4 := Aside0.mk (HK3.out.trans (KeepBut.of_grown hgr g) (.inr ⟨gp, rfl, GP.out.1⟩)); have BX4 := Aside0.mk (blk_grown BX3.out hgr (by simpa using NP.out.2)); clear hbk hgr hbl) | (go_at_call 58; refine (HIH.out (wrap64 (L - 1)) K2 N2 S2 A3 c3 l2 I2 O2 g lf w0 _ HL1.out (by have := HN.out; omega) HI4.out HB4.out HRC.out HSY.out).mono ?_; rw [HY.out]; rintro e5 w5 ⟨rfl, hi5, hb5, hk5⟩; have HI5 := Aside0.mk hi5; have HB5 := Aside0.mk hb5; have HK5 := Aside0.mk (HK4.out.trans hk5 (.inl rfl)); have BX5 := Aside0.mk (hk5.blk BX4.out NX.out (by simp)); clear hi5 hb5 hk5))
                  go_roundg q
                  case measure => omega
                  case rel => exact ⟨i + 1, _, lf2, by omega, by first | rfl | (rw [if_pos c4]) | simp [c4], (by have h2 := HLE.out; rw [xw64 (by omega) (by omega)]; simp), HE, BX5, HI5, HB5, HK5⟩
                · rw [if_neg c4] at hE
                  have HE := Aside0.mk hE
                  clear hE
                  go_wp2_with (first | ((with_reducible refine gate_dst (N := 10) rfl ?_); refine box_event ?hg (N := 10) ?hd (cs := #[.int .u8 0, .int .i64 0, .string (⟨#[]⟩ : ByteArray), .slice none 0 0, .int .i64 0, .int .i64 0]) (t := 25) ?hr ?_; (case hd => rfl); (case hg => rfl); (case hr => first | (go_simp; done) | (go_simp; rfl)); intro gp hg w1 hbox hb; have BP := Aside0.mk hbox; have HI3 := Aside0.mk (HI.out.below hb); have HB3 := Aside0.mk (xbelow_base HB.out hb); have HK3 := Aside0.mk (HK.out.trans (KeepBut.of_below hb g none) (.inl rfl)); have BX3 := Aside0.mk (blk_below BX.out hb); have GP := Aside0.mk (show w.heap.size ≤ gp ∧ w0.heap.size ≤ gp from by rw [hg]; exact ⟨HK.out.1, HB.out.size⟩); have NP := Aside0.mk (show gp ≠ g ∧ gx ≠ gp from ⟨fun e => by have := HI.out.lt; omega, fun e => by have := blk_lt BX.out; omega⟩); clear hbox hb hg) | (refine xstore_row rfl 25 _ _ rfl gp #[.int .u8 K2, .int .i64 N2, .string S2, .slice A3 l2.length c3, .int .i64 I2, .int .i64 O2] rfl rfl 25 _ BP.out exprInfo rfl (xone6 _ _ _ _ _ _ _ _) ?_; intro w2 hbk hgr hbl; have hp0 : w2.cell? ⟨gp, 0, none⟩ = some (.int .u8 K2) := (blk_cell hbk 0).trans rfl; have hp1 : w2.cell? ⟨gp, 1, none⟩ = some (.int .i64 N2) := (blk_cell hbk 1).trans rfl; have hp2 : w2.cell? ⟨gp, 2, none⟩ = some (.string S2) := (blk_cell hbk 2).trans rfl; have hp3 : w2.cell? ⟨gp, 3, none⟩ = some (.slice A3 l2.length c3) := (blk_cell hbk 3).trans rfl; have hp4 : w2.cell? ⟨gp, 4, none⟩ = some (.int .i64 I2) := (blk_cell hbk 4).trans rfl; have hp5 : w2.cell? ⟨gp, 5, none⟩ = some (.int .i64 O2) := (blk_cell hbk 5).trans rfl; have HI4 := Aside0.mk (HI3.out.grown hgr (by simpa using NP.out.1.symm)); have HB4 := Aside0.mk (hbl _ _ HB3.out GP.out.2); have HK4 := Aside0.mk (HK3.out.trans (KeepBut.of_grown hgr g) (.inr ⟨gp, rfl, GP.out.1⟩)); have BX4 := Aside0.mk (blk_grown BX3.out hgr (by simpa using NP.out.2)); clear hbk hgr hbl) | (go_at_call 58; refine (HIH.out (wrap64 (L - 1)) K2 N2 S2 A3 c3 l2 I2 O2 g lf w0 _ HL1.out (by have := HN.out; omega) HI4.out HB4.out HRC.out HSY.out).mono ?_; rw [HY.out]; rintro e5 w5 ⟨rfl, hi5, hb5, hk5⟩; have HI5 := Aside0.mk hi5; have HB5 := Aside0.mk hb5; have HK5 := Aside0.mk (HK4.out.trans hk5 (.inl rfl)); have BX5 := Aside0.mk (hk5.blk BX4.out NX.out (by simp)); clear hi5 hb5 hk5))
                  go_roundg q
                  case measure => omega
                  case rel => exact ⟨i + 1, _, lf2, by omega, by first | rfl | (rw [if_neg c4]) | simp [c4], (by have h2 := HLE.out; rw [xw64 (by omega) (by omega)]; simp), HE, BX5, HI5, HB5, HK5⟩
        · rw [if_neg c1] at hE
          have c1b : ((l.length : Int) != p) = true := bne_iff_ne.mpr c1
          have HE := Aside0.mk hE
          clear c1 hE
          go_wp2
          go_ret
          have hE := HE.out
          subst hE
          exact ⟨rfl, HI.out, HB.out, HK.out⟩

end Go.Proofs.Ytnojokempdcikaa.PA

namespace Go.Proofs.Ytnojokempdcikaa.PA
open Go.RowKit Go.Proofs.YtnojokempdcikaaW.PrintWords Go.Proofs.YtnojokempdcikaaW.PrintLast Go.Proofs.YtnojokempdcikaaW.PrintMore
attribute [local go_sem] max2_int min2_int max_two min_two max_three min_three max_four min_four   -- for this text's walks alone
set_option linter.unusedVariables false
set_option linter.unusedSimpArgs false

/-! ### tree_Deep: function 39 -/
--OWNPART Derived.Deep.RegionWith Derived.Deep.RegionHeld3
open Go.RowKit
set_option maxHeartbeats 8000000 in
set_option maxRecDepth 100000 in
theorem tree_Deep.walk (K N : Int) (S : ByteArray) (A : Option Addr) (C : Nat) (l : List S25) (I O : Int) (w : World) (hR : Kd.C k25 w A l.length l) (hS : smallB 16 ⟨K, N, S, l, I, O⟩ = true) :
    Calls Try.prog 39 #[.agg #[.int .u8 K, .int .i64 N, .string S, .slice A l.length C, .int .i64 I, .int .i64 O]] w fun e w' => e = .returned (.int .i64 (xexpr 16 ⟨K, N, S, l, I, O⟩ 8192).1) ∧ Below w.heap.size w w' := by
  have HR := Aside0.mk hR
  have HS := Aside0.mk hS
  clear hR hS
  go_enter Try.func39, Try.ntmps39
  go_upto_region 1 with (first | ((with_reducible refine gate_dst (N := 1) rfl ?_); refine box_event ?hg (N := 1) ?hd (cs := #[.int .u8 K, .int .i64 N, .string S, .slice A l.length C, .int .i64 I, .int .i64 O]) (t := 25) ?hr ?_; (case hd => rfl); (case hg => rfl); (case hr => first | (go_simp; done) | (go_simp; rfl)); intro gx hg w1 hbox hb; have BX := Aside0.mk hbox; have HB1 := Aside0.mk hb; have h0 : w1.drew.cell? ⟨gx, 0, none⟩ = some (.int .u8 K) := (blk_cell hbox 0).trans rfl; have h1 : w1.drew.cell? ⟨gx, 1, none⟩ = some (.int .i64 N) := (blk_cell hbox 1).trans rfl; have h2 : w1.drew.cell? ⟨gx, 2, none⟩ = some (.string S) := (blk_cell hbox 2).trans rfl; have h3 : w1.drew.cell? ⟨gx, 3, none⟩ = some (.slice A l.length C) := (blk_cell hbox 3).trans rfl; have h4 : w1.drew.cell? ⟨gx, 4, none⟩ = some (.int .i64 I) := (blk_cell hbox 4).trans rfl; have h5 : w1.drew.cell? ⟨gx, 5, none⟩ = some (.int .i64 O) := (blk_cell hbox 5).trans rfl; clear hbox hb hg))
  go_region_with (first | (go_at_call 57; refine (tree_all.calls 8192 w _ (below_drew1 HB1.out) rfl).mono ?_; rintro e w2 ⟨g, rfl, hi, hb, hb2⟩; have HI2 := Aside0.mk hi; have HB2 := Aside0.mk hb; have BX2 := Aside0.mk (blk_below (w := w1.drew) (blk_drew BX.out) hb2); have j0 : w2.cell? ⟨gx, 0, none⟩ = some (.int .u8 K) := (blk_cell BX2.out 0).trans rfl; have j1 : w2.cell? ⟨gx, 1, none⟩ = some (.int .i64 N) := (blk_cell BX2.out 1).trans rfl; have j2 : w2.cell? ⟨gx, 2, none⟩ = some (.string S) := (blk_cell BX2.out 2).trans rfl; have j3 : w2.cell? ⟨gx, 3, none⟩ = some (.slice A l.length C) := (blk_cell BX2.out 3).trans rfl; have j4 : w2.cell? ⟨gx, 4, none⟩ = some (.int .i64 I) := (blk_cell BX2.out 4).trans rfl; have j5 : w2.cell? ⟨gx, 5, none⟩ = some (.int .i64 O) := (blk_cell BX2.out 5).trans rfl; clear hi hb hb2) | (go_at_call 58; refine (walk_expr.walk 16 16 K N S A C l I O g 8192 w _ rfl (by omega) HI2.out HB2.out HR.out HS.out).mono ?_; rintro e w3 ⟨rfl, hi, hb, hk⟩; have HB3 := Aside0.mk hb; clear hi hb hk))
  all_goals (try go_wp2)
  all_goals go_ret
  all_goals exact ⟨rfl, HB3.out⟩

end Go.Proofs.Ytnojokempdcikaa.PA

namespace Go.Proofs.Ytnojokempdcikaa.PA
open Go.RowKit Go.Proofs.YtnojokempdcikaaW.PrintWords Go.Proofs.YtnojokempdcikaaW.PrintLast Go.Proofs.YtnojokempdcikaaW.PrintMore
attribute [local go_sem] max2_int min2_int max_two min_two max_three min_three max_four min_four   -- for this text's walks alone
set_option linter.unusedVariables false
set_option linter.unusedSimpArgs false

/-! ### tree_MayExpr: function 23 -/
--OWNPART 
open Go.RowKit
def tree_MayExpr.f (a0_0 a0_1 : Int) (a0_2 : ByteArray) (l0_3 : List S25) (a0_4 a0_5 : Int) : Option Bool :=
  if smallB 16 ⟨a0_0, a0_1, a0_2, l0_3, a0_4, a0_5⟩ = true then some (decide ((xexpr 16 ⟨a0_0, a0_1, a0_2, l0_3, a0_4, a0_5⟩ 8192).1 > 0)) else none
set_option maxHeartbeats 8000000 in
set_option maxRecDepth 100000 in
theorem tree_MayExpr.calls (a0_0 a0_1 : Int) (a0_2 : ByteArray) (A0_3 : Option Addr) (c0_3 : Nat) (l0_3 : List S25) (a0_4 a0_5 : Int) (r : Bool) (w : World) (hr0_3 : Kd.C k25 w A0_3 l0_3.length l0_3) (hc0_3 : l0_3.length ≤ c0_3) (h : tree_MayExpr.f a0_0 a0_1 a0_2 l0_3 a0_4 a0_5 = some r) :
    Calls Try.prog 23 #[.agg #[.int .u8 a0_0, .int .i64 a0_1, .string a0_2, .slice A0_3 l0_3.length c0_3, .int .i64 a0_4, .int .i64 a0_5]] w fun e w' => e = .returned (.bool r) ∧ Below w.heap.size w w' := by
  unfold tree_MayExpr.f at h
  split at h
  · rename_i hS
    obtain rfl := Option.some.inj h
    have HR := Aside0.mk hr0_3
    have HS := Aside0.mk hS
    clear hr0_3 hS h hc0_3
    go_enter Try.func23, Try.ntmps23
    go_wp2_with (first | ((with_reducible refine gate_dst (N := 1) rfl ?_); refine box_event ?hg (N := 1) ?hd (cs := #[.int .u8 a0_0, .int .i64 a0_1, .string a0_2, .slice A0_3 l0_3.length c0_3, .int .i64 a0_4, .int .i64 a0_5]) (t := 25) ?hr ?_; (case hd => rfl); (case hg => rfl); (case hr => first | (go_simp; done) | (go_simp; rfl)); intro gx hg w1 hbox hb; have HB1 := Aside0.mk hb; have h0 : w1.cell? ⟨gx, 0, none⟩ = some (.int .u8 a0_0) := (blk_cell hbox 0).trans rfl; have h1 : w1.cell? ⟨gx, 1, none⟩ = some (.int .i64 a0_1) := (blk_cell hbox 1).trans rfl; have h2 : w1.cell? ⟨gx, 2, none⟩ = some (.string a0_2) := (blk_cell hbox 2).trans rfl; have h3 : w1.cell? ⟨gx, 3, none⟩ = some (.slice A0_3 l0_3.length c0_3) := (blk_cell hbox 3).trans rfl; have h4 : w1.cell? ⟨gx, 4, none⟩ = some (.int .i64 a0_4) := (blk_cell hbox 4).trans rfl; have h5 : w1.cell? ⟨gx, 5, none⟩ = some (.int .i64 a0_5) := (blk_cell hbox 5).trans rfl; clear hbox hb hg) | (go_at_call 39; refine (tree_Deep.walk a0_0 a0_1 a0_2 A0_3 c0_3 l0_3 a0_4 a0_5 _ (Kd.C_below HR.out HB1.out) HS.out).mono ?_; rintro e w2 ⟨rfl, hb⟩; have HB2 := Aside0.mk (below_step HB1.out hb); clear hb))
    go_ret
    exact ⟨rfl, HB2.out⟩
  · exact absurd h (by simp)

end Go.Proofs.Ytnojokempdcikaa.PA

namespace Go.Proofs.Ytnojokempdcikaa.PA
open Go.RowKit Go.Proofs.YtnojokempdcikaaW.PrintWords Go.Proofs.YtnojokempdcikaaW.PrintLast Go.Proofs.YtnojokempdcikaaW.PrintMore
attribute [local go_sem] max2_int min2_int max_two min_two max_three min_three max_four min_four   -- for this text's walks alone
set_option linter.unusedVariables false
set_option linter.unusedSimpArgs false

/-! ### number_Work: function 19 -/
--OWNPART Derived.Deep.WholeRow Derived.Laws.Tables
open Go.RowKit
/-- What the operations are, the two boxes standing at B + 1 and B + 2. -/
def workOps (B : Nat) : Array Value := #[.nilFunc, .nilFunc, .nilFunc, .func (.func 51) #[] #[], .func (.func 52) #[] #[], .func (.func 53) #[] #[], .func (.func 54) #[] #[],
  .func (.func 50) #[] #[.pointer (some ⟨B + 1, 0, none⟩)], .func (.func 50) #[] #[.pointer (some ⟨B + 2, 0, none⟩)]]
def opsNil : Array Value := #[.nilFunc, .nilFunc, .nilFunc, .nilFunc, .nilFunc, .nilFunc, .nilFunc, .nilFunc, .nilFunc]
def boxDiv : Obj := .cells #[.func (.func 55) #[] #[]] 90
def boxRest : Obj := .cells #[.func (.func 56) #[] #[]] 90
theorem ops_info : (Try.prog.info? 74).map (fun i => (i.zero, i.size)) = some (some (.agg opsNil), 9) := by kernel_rfl
theorem ops_heap0 (w : World) (a b c : Obj) : (((w.alloc a).alloc b).alloc c).heap[w.heap.size]? = some a := by
  show (((w.heap.push a).push b).push c)[w.heap.size]? = some a
  simp only [Array.getElem?_push, Array.size_push]
  rw [if_neg (by omega), if_neg (by omega), if_pos trivial]
theorem ops_heap1 (w : World) (a b c : Obj) : (((w.alloc a).alloc b).alloc c).heap[w.heap.size + 1]? = some b := by
  show (((w.heap.push a).push b).push c)[w.heap.size + 1]? = some b
  simp only [Array.getElem?_push, Array.size_push]
  rw [if_neg (by omega), if_pos trivial]
theorem ops_heap2 (w : World) (a b c : Obj) : (((w.alloc a).alloc b).alloc c).heap[w.heap.size + 2]? = some c := by
  show (((w.heap.push a).push b).push c)[w.heap.size + 2]? = some c
  simp only [Array.getElem?_push, Array.size_push]
  rw [if_pos trivial]
theorem ops_below {b : Nat} {w w1 : World} {g : Nat} (h : Below b w w1) (hg : b ≤ g) (cs : Array Value) : Below b w (w1.setRow g cs) :=
  h.trans ⟨rfl, rfl, rfl, by simp, fun k hk => setRow_other w1 g k cs (by omega)⟩
theorem workOps_one (B : Nat) : (workOps B).all (·.oneCell') = true := by
  simp [workOps, Value.oneCell']
theorem number_operations.calls (w : World) : Calls Try.prog 36 #[] w fun e w' => e = .returned (.agg (workOps w.heap.size)) ∧ Below w.heap.size w w' ∧ w'.heap.size = w.heap.size + 3 ∧ w'.heap[w.heap.size + 1]? = some boxDiv ∧ w'.heap[w.heap.size + 2]? = some boxRest := by
  obtain ⟨hz, hi0⟩ := zero_of_info ops_info
  have HI := Aside0.mk (show (Try.prog.info? 74).map (·.size) = some (workOps w.heap.size).size from hi0)
  have H0 := Aside0.mk (ops_heap0 w (.cells opsNil 74) boxDiv boxRest)
  clear hi0
  go_enter Try.func36, Try.ntmps36
  go_wp2_with (first | (refine wpList_store_row rfl 74 _ _ rfl w.heap.size (workOps w.heap.size) rfl rfl 74 opsNil H0.out HI.out rfl (workOps_one _) ?_) | go_in)
  refine bodyPost_ret (v := .agg (workOps w.heap.size)) ?_ rfl ⟨rfl, ?_, ?_, ?_, ?_⟩
  · refine results_cell_row rfl _ _ w.heap.size 74 (workOps w.heap.size) (0, 0) _ rfl ?_ Try.underlying74 rfl HI.out
    exact setRow_heap _ _ _ _ _ _ H0.out
  · exact ops_below (((Below.refl _ _).alloc (Nat.le_refl _) _).alloc (by simp) _ |>.alloc (by simp; omega) _) (Nat.le_refl _) _
  · simp
  · exact (setRow_other _ _ _ _ (by omega)).trans (ops_heap1 w _ _ _)
  · exact (setRow_other _ _ _ _ (by omega)).trans (ops_heap2 w _ _ _)
/-- What an operation comes to: the number and the error's. -/
def workPair (op a b : Int) : Int × Int :=
  if 3 ≤ op ∧ op ≤ 8 ∧ (-2147483647 ≤ a ∧ a ≤ 2147483647) ∧ (-2147483647 ≤ b ∧ b ≤ 2147483647) then
    (if b = 0 ∧ 7 ≤ op then (0, 5) else
      let n := if op = 3 then -a else if op = 4 then a + b else if op = 5 then a - b else if op = 6 then a * b else if op = 7 then a.tdiv b else a.tmod b
      if -2147483647 ≤ n ∧ n ≤ 2147483647 then (n, 0) else (0, 120))
  else (0, 2)
def number_Work.f (a0 a1 a2 : Int) : Option (Int × Int) := if 0 ≤ a0 ∧ a0 < 256 then some (workPair a0 a1 a2) else none
set_option maxRecDepth 100000 in
theorem ops_eq_nil (f : Fn) (x : Array Value) (y : Array Value) (w : World) : Sem.run Try.prog (binOp .eql 73 (.func f x y) .nilFunc) w = .ok (.bool false) w := by
  rfl
set_option maxRecDepth 100000 in
theorem ops_nil_nil (w : World) : Sem.run Try.prog (binOp .eql 73 .nilFunc .nilFunc) w = .ok (.bool true) w := by
  rfl
theorem ops_is (n : Int) (b : Bool) (h : decide (-2147483647 ≤ n ∧ n ≤ 2147483647) = b) (w : World) : Calls Try.prog 37 #[.int .i64 n] w fun e w' => e = .returned (.bool b) ∧ w' = w := by
  obtain rfl := h
  by_cases c : -2147483647 ≤ n
  · by_cases d : n ≤ 2147483647
    · rw [decide_eq_true (⟨c, d⟩ : _ ∧ _)]
      go_enter Try.func37, Try.ntmps37
      go_wp2
      go_ret
      exact ⟨rfl, rfl⟩
    · rw [decide_eq_false (fun h => d h.2)]
      go_enter Try.func37, Try.ntmps37
      have d1 : decide (n ≤ 2147483647) = false := decide_eq_false d
      go_wp2
      go_ret
      exact ⟨by rw [← d1]; rfl, rfl⟩
  · rw [decide_eq_false (fun h => c h.1)]
    go_enter Try.func37, Try.ntmps37
    go_wp2
    go_ret
    exact ⟨rfl, rfl⟩
set_option maxHeartbeats 4000000 in
set_option maxRecDepth 1000000 in
theorem number_Work.big (a0 a1 a2 : Int) (w : World) (c0 : a0 ≥ 9) (h0 : a0 < 256) :
    Calls Try.prog 19 #[.int .u8 a0, .int .i64 a1, .int .i64 a2] w fun e w' => e = .returned (.tuple #[.int .i64 0, .int .i64 2]) ∧ Below w.heap.size w w' := by
  obtain ⟨hz, hi0⟩ := zero_of_info ops_info
  have HI := Aside0.mk (show (Try.prog.info? 74).map (·.size) = some (workOps w.heap.size).size from hi0)
  clear hi0
  have c1 : decide (a0 ≥ 9) = true := decide_eq_true c0
  go_enter Try.func19, Try.ntmps19
  go_wp2_with (first | (go_at_call 36; refine (number_operations.calls _).mono ?_; rintro e w1 ⟨rfl, hb, hsz, hx1, hx2⟩; have HB := Aside0.mk hb; have HX1 := Aside0.mk hx1; have HX2 := Aside0.mk hx2; have HSZ := Aside0.mk hsz; clear hb hx1 hx2 hsz) | (refine wpList_store_row rfl 74 _ _ rfl w1.heap.size (workOps w.heap.size) rfl rfl 74 _ (heap_alloc_last _ _) HI.out rfl (workOps_one _) ?_; rw [World.setRow_alloc_new]))
  go_ret2
  exact ⟨rfl, HB.out.alloc HB.out.size _⟩
/-- A small number. -/
def OpNum (a : Int) : Prop := -2147483647 ≤ a ∧ a ≤ 2147483647
theorem op_wrap (n : Int) (h : -4611686014132420609 ≤ n ∧ n ≤ 4611686014132420609) : IntKind.i64.wrap n = n := by
  rw [i64_w]; unfold wrap64; omega
theorem op_mul (a b : Int) (ha : OpNum a) (hb : OpNum b) : -4611686014132420609 ≤ a * b ∧ a * b ≤ 4611686014132420609 := by
  have h1 : a.natAbs ≤ 2147483647 := by unfold OpNum at ha; omega
  have h2 : b.natAbs ≤ 2147483647 := by unfold OpNum at hb; omega
  have h3 := Nat.mul_le_mul h1 h2
  rw [← Int.natAbs_mul] at h3
  omega
theorem op_tdiv (a b : Int) (ha : OpNum a) : wrap64 (a.tdiv b) = a.tdiv b := by
  have h1 : (a.tdiv b).natAbs ≤ a.natAbs := by rw [Int.natAbs_tdiv]; exact Nat.div_le_self _ _
  unfold OpNum at ha
  unfold wrap64
  omega
theorem op_neg (a b : Int) (ha : OpNum a) (w : World) : Calls Try.prog 51 #[.int .i64 a, .int .i64 b] w fun e w' => e = .returned (.tuple #[.int .i64 (-a), .int .i64 0]) ∧ w' = w := by
  have hw := op_wrap (-a) (by unfold OpNum at ha; omega)
  go_enter Try.func51, Try.ntmps51
  go_wp2
  go_ret2
  exact ⟨rfl, rfl⟩
theorem op_add (a b : Int) (ha : OpNum a) (hb : OpNum b) (w : World) : Calls Try.prog 52 #[.int .i64 a, .int .i64 b] w fun e w' => e = .returned (.tuple #[.int .i64 (a + b), .int .i64 0]) ∧ w' = w := by
  have hw := op_wrap (a + b) (by unfold OpNum at ha hb; omega)
  go_enter Try.func52, Try.ntmps52
  go_wp2
  go_ret2
  exact ⟨rfl, rfl⟩
theorem op_sub (a b : Int) (ha : OpNum a) (hb : OpNum b) (w : World) : Calls Try.prog 53 #[.int .i64 a, .int .i64 b] w fun e w' => e = .returned (.tuple #[.int .i64 (a - b), .int .i64 0]) ∧ w' = w := by
  have hw := op_wrap (a - b) (by unfold OpNum at ha hb; omega)
  go_enter Try.func53, Try.ntmps53
  go_wp2
  go_ret2
  exact ⟨rfl, rfl⟩
theorem op_times (a b : Int) (ha : OpNum a) (hb : OpNum b) (w : World) : Calls Try.prog 54 #[.int .i64 a, .int .i64 b] w fun e w' => e = .returned (.tuple #[.int .i64 (a * b), .int .i64 0]) ∧ w' = w := by
  have hw := op_wrap (a * b) (op_mul a b ha hb)
  go_enter Try.func54, Try.ntmps54
  go_wp2
  go_ret2
  exact ⟨rfl, rfl⟩
theorem op_quo (a b : Int) (ha : OpNum a) (hb : b ≠ 0) (w : World) : Calls Try.prog 55 #[.int .i64 a, .int .i64 b] w fun e w' => e = .returned (.int .i64 (a.tdiv b)) ∧ w' = w := by
  have hw := Aside0.mk (op_tdiv a b ha)
  go_enter Try.func55, Try.ntmps55
  go_wp2
  go_ret
  exact ⟨by show Ending.returned (.int .i64 (wrap64 (a.tdiv b))) = _; rw [hw.out], rfl⟩
theorem op_rem (a b : Int) (hb : b ≠ 0) (w : World) : Calls Try.prog 56 #[.int .i64 a, .int .i64 b] w fun e w' => e = .returned (.int .i64 (a.tmod b)) ∧ w' = w := by
  go_enter Try.func56, Try.ntmps56
  go_wp2
  go_ret
  exact ⟨rfl, rfl⟩
theorem op_over0 (a : Int) (p : Value) (w : World) : Calls Try.prog 50 #[.int .i64 a, .int .i64 0, p] w fun e w' => e = .returned (.tuple #[.int .i64 0, .int .i64 5]) ∧ w' = w := by
  go_enter Try.func50, Try.ntmps50
  go_wp2
  go_ret2
  exact ⟨rfl, rfl⟩
theorem op_overDiv (a b : Int) (ha : OpNum a) (hb : b ≠ 0) (g : Nat) (w : World) (hg : w.heap[g]? = some boxDiv) : Calls Try.prog 50 #[.int .i64 a, .int .i64 b, .pointer (some ⟨g, 0, none⟩)] w fun e w' => e = .returned (.tuple #[.int .i64 (a.tdiv b), .int .i64 0]) ∧ w' = w := by
  have hcell : w.cell? ⟨g, 0, none⟩ = some (.func (.func 55) #[] #[]) := by
    simp only [World.cell?, hg, boxDiv]; rfl
  have hb0 : (b == 0) = false := by simpa using hb
  go_enter Try.func50, Try.ntmps50
  go_wp2_with (first | (go_at_call 55; refine (op_quo a b ha hb _).mono ?_; rintro e w' ⟨rfl, rfl⟩))
  go_ret2
  exact ⟨rfl, rfl⟩
theorem op_overRest (a b : Int) (hb : b ≠ 0) (g : Nat) (w : World) (hg : w.heap[g]? = some boxRest) : Calls Try.prog 50 #[.int .i64 a, .int .i64 b, .pointer (some ⟨g, 0, none⟩)] w fun e w' => e = .returned (.tuple #[.int .i64 (a.tmod b), .int .i64 0]) ∧ w' = w := by
  have hcell : w.cell? ⟨g, 0, none⟩ = some (.func (.func 56) #[] #[]) := by
    simp only [World.cell?, hg, boxRest]; rfl
  have hb0 : (b == 0) = false := by simpa using hb
  go_enter Try.func50, Try.ntmps50
  go_wp2_with (first | (go_at_call 56; refine (op_rem a b hb _).mono ?_; rintro e w' ⟨rfl, rfl⟩))
  go_ret2
  exact ⟨rfl, rfl⟩
/-! walks -/
theorem ops_old {w1 : World} {g : Nat} {o x : Obj} (hg : w1.heap[g]? = some x) : (w1.alloc o).heap[g]? = some x := by
  have := (Array.getElem?_eq_some_iff.1 hg).1
  show (w1.heap.push o)[g]? = _
  rw [Array.getElem?_push, if_neg (by omega)]; exact hg
set_option maxHeartbeats 4000000 in
set_option maxRecDepth 1000000 in
theorem number_Work.op0 (a1 a2 : Int) (w : World) :
    Calls Try.prog 19 #[.int .u8 0, .int .i64 a1, .int .i64 a2] w fun e w' => e = .returned (.tuple #[.int .i64 (workPair 0 a1 a2).1, .int .i64 (workPair 0 a1 a2).2]) ∧ Below w.heap.size w w' := by
  obtain ⟨hz, hi0⟩ := zero_of_info ops_info
  have HI := Aside0.mk (show (Try.prog.info? 74).map (·.size) = some (workOps w.heap.size).size from hi0)
  clear hi0
  have hef := ops_nil_nil
  have hcell : (workOps w.heap.size)[0]? = some .nilFunc := rfl
  have hp : workPair 0 a1 a2 = (0, 2) := by unfold workPair; rw [if_neg (by omega)]
  rw [hp]
  go_enter Try.func19, Try.ntmps19
  go_wp2_with (first | (go_at_call 36; refine (number_operations.calls _).mono ?_; rintro e w1 ⟨rfl, hb, hsz, hx1, hx2⟩; have HB := Aside0.mk hb; have HX1 := Aside0.mk hx1; have HX2 := Aside0.mk hx2; have HSZ := Aside0.mk hsz; clear hb hx1 hx2 hsz) | (refine wpList_store_row rfl 74 _ _ rfl w1.heap.size (workOps w.heap.size) rfl rfl 74 _ (heap_alloc_last _ _) HI.out rfl (workOps_one _) ?_; rw [World.setRow_alloc_new]))
  go_ret2
  exact ⟨rfl, HB.out.alloc HB.out.size _⟩
set_option maxHeartbeats 4000000 in
set_option maxRecDepth 1000000 in
theorem number_Work.op1 (a1 a2 : Int) (w : World) :
    Calls Try.prog 19 #[.int .u8 1, .int .i64 a1, .int .i64 a2] w fun e w' => e = .returned (.tuple #[.int .i64 (workPair 1 a1 a2).1, .int .i64 (workPair 1 a1 a2).2]) ∧ Below w.heap.size w w' := by
  obtain ⟨hz, hi0⟩ := zero_of_info ops_info
  have HI := Aside0.mk (show (Try.prog.info? 74).map (·.size) = some (workOps w.heap.size).size from hi0)
  clear hi0
  have hef := ops_nil_nil
  have hcell : (workOps w.heap.size)[1]? = some .nilFunc := rfl
  have hp : workPair 1 a1 a2 = (0, 2) := by unfold workPair; rw [if_neg (by omega)]
  rw [hp]
  go_enter Try.func19, Try.ntmps19
  go_wp2_with (first | (go_at_call 36; refine (number_operations.calls _).mono ?_; rintro e w1 ⟨rfl, hb, hsz, hx1, hx2⟩; have HB := Aside0.mk hb; have HX1 := Aside0.mk hx1; have HX2 := Aside0.mk hx2; have HSZ := Aside0.mk hsz; clear hb hx1 hx2 hsz) | (refine wpList_store_row rfl 74 _ _ rfl w1.heap.size (workOps w.heap.size) rfl rfl 74 _ (heap_alloc_last _ _) HI.out rfl (workOps_one _) ?_; rw [World.setRow_alloc_new]))
  go_ret2
  exact ⟨rfl, HB.out.alloc HB.out.size _⟩
set_option maxHeartbeats 4000000 in
set_option maxRecDepth 1000000 in
theorem number_Work.op2 (a1 a2 : Int) (w : World) :
    Calls Try.prog 19 #[.int .u8 2, .int .i64 a1, .int .i64 a2] w fun e w' => e = .returned (.tuple #[.int .i64 (workPair 2 a1 a2).1, .int .i64 (workPair 2 a1 a2).2]) ∧ Below w.heap.size w w' := by
  obtain ⟨hz, hi0⟩ := zero_of_info ops_info
  have HI := Aside0.mk (show (Try.prog.info? 74).map (·.size) = some (workOps w.heap.size).size from hi0)
  clear hi0
  have hef := ops_nil_nil
  have hcell : (workOps w.heap.size)[2]? = some .nilFunc := rfl
  have hp : workPair 2 a1 a2 = (0, 2) := by unfold workPair; rw [if_neg (by omega)]
  rw [hp]
  go_enter Try.func19, Try.ntmps19
  go_wp2_with (first | (go_at_call 36; refine (number_operations.calls _).mono ?_; rintro e w1 ⟨rfl, hb, hsz, hx1, hx2⟩; have HB := Aside0.mk hb; have HX1 := Aside0.mk hx1; have HX2 := Aside0.mk hx2; have HSZ := Aside0.mk hsz; clear hb hx1 hx2 hsz) | (refine wpList_store_row rfl 74 _ _ rfl w1.heap.size (workOps w.heap.size) rfl rfl 74 _ (heap_alloc_last _ _) HI.out rfl (workOps_one _) ?_; rw [World.setRow_alloc_new]))
  go_ret2
  exact ⟨rfl, HB.out.alloc HB.out.size _⟩
set_option maxHeartbeats 4000000 in
set_option maxRecDepth 1000000 in
theorem number_Work.op3 (a1 a2 : Int) (w : World) :
    Calls Try.prog 19 #[.int .u8 3, .int .i64 a1, .int .i64 a2] w fun e w' => e = .returned (.tuple #[.int .i64 (workPair 3 a1 a2).1, .int .i64 (workPair 3 a1 a2).2]) ∧ Below w.heap.size w w' := by
  obtain ⟨hz, hi0⟩ := zero_of_info ops_info
  have HI := Aside0.mk (show (Try.prog.info? 74).map (·.size) = some (workOps w.heap.size).size from hi0)
  clear hi0
  have hef := ops_eq_nil
  have hcell : (workOps w.heap.size)[3]? = some (.func (.func 51) #[] #[]) := rfl
  by_cases c1 : -2147483647 ≤ a1 ∧ a1 ≤ 2147483647
  · have d1 := decide_eq_true c1
    by_cases c2 : -2147483647 ≤ a2 ∧ a2 ≤ 2147483647
    · have d2 := decide_eq_true c2
      have hz2 : ¬ (a2 = 0 ∧ (7 : Int) ≤ 3) := by omega
      by_cases c4 : -2147483647 ≤ -a1 ∧ -a1 ≤ 2147483647
      · have hp : workPair 3 a1 a2 = (-a1, 0) := by unfold workPair; rw [if_pos ⟨by omega, by omega, c1, c2⟩, if_neg hz2]; exact if_pos c4
        have d3 := decide_eq_true c4
        rw [hp]
        go_enter Try.func19, Try.ntmps19
        go_wp2_with (first | (go_at_call 36; refine (number_operations.calls _).mono ?_; rintro e w1 ⟨rfl, hb, hsz, hx1, hx2⟩; have HB := Aside0.mk hb; have HX1 := Aside0.mk hx1; have HX2 := Aside0.mk hx2; have HSZ := Aside0.mk hsz; clear hb hx1 hx2 hsz) | (refine wpList_store_row rfl 74 _ _ rfl w1.heap.size (workOps w.heap.size) rfl rfl 74 _ (heap_alloc_last _ _) HI.out rfl (workOps_one _) ?_; rw [World.setRow_alloc_new]) | (go_at_call 37; refine (ops_is _ _ (by first | (with_reducible exact d1) | (with_reducible exact d2) | (with_reducible exact d3)) _).mono ?_; rintro e w' ⟨rfl, rfl⟩) | (go_at_call 51; refine (op_neg a1 a2 c1 _).mono ?_; rintro e w' ⟨rfl, rfl⟩))
        go_ret2
        exact ⟨rfl, HB.out.alloc HB.out.size _⟩
      · have hp : workPair 3 a1 a2 = (0, 120) := by unfold workPair; rw [if_pos ⟨by omega, by omega, c1, c2⟩, if_neg hz2]; exact if_neg c4
        have d3 := decide_eq_false c4
        rw [hp]
        go_enter Try.func19, Try.ntmps19
        go_wp2_with (first | (go_at_call 36; refine (number_operations.calls _).mono ?_; rintro e w1 ⟨rfl, hb, hsz, hx1, hx2⟩; have HB := Aside0.mk hb; have HX1 := Aside0.mk hx1; have HX2 := Aside0.mk hx2; have HSZ := Aside0.mk hsz; clear hb hx1 hx2 hsz) | (refine wpList_store_row rfl 74 _ _ rfl w1.heap.size (workOps w.heap.size) rfl rfl 74 _ (heap_alloc_last _ _) HI.out rfl (workOps_one _) ?_; rw [World.setRow_alloc_new]) | (go_at_call 37; refine (ops_is _ _ (by first | (with_reducible exact d1) | (with_reducible exact d2) | (with_reducible exact d3)) _).mono ?_; rintro e w' ⟨rfl, rfl⟩) | (go_at_call 51; refine (op_neg a1 a2 c1 _).mono ?_; rintro e w' ⟨rfl, rfl⟩))
        go_ret2
        exact ⟨rfl, HB.out.alloc HB.out.size _⟩
    · have hp : workPair 3 a1 a2 = (0, 2) := by unfold workPair; rw [if_neg (fun h => c2 h.2.2.2)]
      rw [hp]
      have d2 := decide_eq_false c2
      go_enter Try.func19, Try.ntmps19
      go_wp2_with (first | (go_at_call 36; refine (number_operations.calls _).mono ?_; rintro e w1 ⟨rfl, hb, hsz, hx1, hx2⟩; have HB := Aside0.mk hb; have HX1 := Aside0.mk hx1; have HX2 := Aside0.mk hx2; have HSZ := Aside0.mk hsz; clear hb hx1 hx2 hsz) | (refine wpList_store_row rfl 74 _ _ rfl w1.heap.size (workOps w.heap.size) rfl rfl 74 _ (heap_alloc_last _ _) HI.out rfl (workOps_one _) ?_; rw [World.setRow_alloc_new]) | (go_at_call 37; refine (ops_is _ _ (by first | (with_reducible exact d1) | (with_reducible exact d2) | (with_reducible exact d3)) _).mono ?_; rintro e w' ⟨rfl, rfl⟩))
      go_ret2
      exact ⟨rfl, HB.out.alloc HB.out.size _⟩
  · have hp : workPair 3 a1 a2 = (0, 2) := by unfold workPair; rw [if_neg (fun h => c1 h.2.2.1)]
    rw [hp]
    have d1 := decide_eq_false c1
    go_enter Try.func19, Try.ntmps19
    go_wp2_with (first | (go_at_call 36; refine (number_operations.calls _).mono ?_; rintro e w1 ⟨rfl, hb, hsz, hx1, hx2⟩; have HB := Aside0.mk hb; have HX1 := Aside0.mk hx1; have HX2 := Aside0.mk hx2; have HSZ := Aside0.mk hsz; clear hb hx1 hx2 hsz) | (refine wpList_store_row rfl 74 _ _ rfl w1.heap.size (workOps w.heap.size) rfl rfl 74 _ (heap_alloc_last _ _) HI.out rfl (workOps_one _) ?_; rw [World.setRow_alloc_new]) | (go_at_call 37; refine (ops_is _ _ (by first | (with_reducible exact d1) | (with_reducible exact d2) | (with_reducible exact d3)) _).mono ?_; rintro e w' ⟨rfl, rfl⟩))
    go_ret2
    exact ⟨rfl, HB.out.alloc HB.out.size _⟩
set_option maxHeartbeats 4000000 in
set_option maxRecDepth 1000000 in
theorem number_Work.op4 (a1 a2 : Int) (w : World) :
    Calls Try.prog 19 #[.int .u8 4, .int .i64 a1, .int .i64 a2] w fun e w' => e = .returned (.tuple #[.int .i64 (workPair 4 a1 a2).1, .int .i64 (workPair 4 a1 a2).2]) ∧ Below w.heap.size w w' := by
  obtain ⟨hz, hi0⟩ := zero_of_info ops_info
  have HI := Aside0.mk (show (Try.prog.info? 74).map (·.size) = some (workOps w.heap.size).size from hi0)
  clear hi0
  have hef := ops_eq_nil
  have hcell : (workOps w.heap.size)[4]? = some (.func (.func 52) #[] #[]) := rfl
  by_cases c1 : -2147483647 ≤ a1 ∧ a1 ≤ 2147483647
  · have d1 := decide_eq_true c1
    by_cases c2 : -2147483647 ≤ a2 ∧ a2 ≤ 2147483647
    · have d2 := decide_eq_true c2
      have hz2 : ¬ (a2 = 0 ∧ (7 : Int) ≤ 4) := by omega
      by_cases c4 : -2147483647 ≤ a1 + a2 ∧ a1 + a2 ≤ 2147483647
      · have hp : workPair 4 a1 a2 = (a1 + a2, 0) := by unfold workPair; rw [if_pos ⟨by omega, by omega, c1, c2⟩, if_neg hz2]; exact if_pos c4
        have d3 := decide_eq_true c4
        rw [hp]
        go_enter Try.func19, Try.ntmps19
        go_wp2_with (first | (go_at_call 36; refine (number_operations.calls _).mono ?_; rintro e w1 ⟨rfl, hb, hsz, hx1, hx2⟩; have HB := Aside0.mk hb; have HX1 := Aside0.mk hx1; have HX2 := Aside0.mk hx2; have HSZ := Aside0.mk hsz; clear hb hx1 hx2 hsz) | (refine wpList_store_row rfl 74 _ _ rfl w1.heap.size (workOps w.heap.size) rfl rfl 74 _ (heap_alloc_last _ _) HI.out rfl (workOps_one _) ?_; rw [World.setRow_alloc_new]) | (go_at_call 37; refine (ops_is _ _ (by first | (with_reducible exact d1) | (with_reducible exact d2) | (with_reducible exact d3)) _).mono ?_; rintro e w' ⟨rfl, rfl⟩) | (go_at_call 52; refine (op_add a1 a2 c1 c2 _).mono ?_; rintro e w' ⟨rfl, rfl⟩))
        go_ret2
        exact ⟨rfl, HB.out.alloc HB.out.size _⟩
      · have hp : workPair 4 a1 a2 = (0, 120) := by unfold workPair; rw [if_pos ⟨by omega, by omega, c1, c2⟩, if_neg hz2]; exact if_neg c4
        have d3 := decide_eq_false c4
        rw [hp]
        go_enter Try.func19, Try.ntmps19
        go_wp2_with (first | (go_at_call 36; refine (number_operations.calls _).mono ?_; rintro e w1 ⟨rfl, hb, hsz, hx1, hx2⟩; have HB := Aside0.mk hb; have HX1 := Aside0.mk hx1; have HX2 := Aside0.mk hx2; have HSZ := Aside0.mk hsz; clear hb hx1 hx2 hsz) | (refine wpList_store_row rfl 74 _ _ rfl w1.heap.size (workOps w.heap.size) rfl rfl 74 _ (heap_alloc_last _ _) HI.out rfl (workOps_one _) ?_; rw [World.setRow_alloc_new]) | (go_at_call 37; refine (ops_is _ _ (by first | (with_reducible exact d1) | (with_reducible exact d2) | (with_reducible exact d3)) _).mono ?_; rintro e w' ⟨rfl, rfl⟩) | (go_at_call 52; refine (op_add a1 a2 c1 c2 _).mono ?_; rintro e w' ⟨rfl, rfl⟩))
        go_ret2
        exact ⟨rfl, HB.out.alloc HB.out.size _⟩
    · have hp : workPair 4 a1 a2 = (0, 2) := by unfold workPair; rw [if_neg (fun h => c2 h.2.2.2)]
      rw [hp]
      have d2 := decide_eq_false c2
      go_enter Try.func19, Try.ntmps19
      go_wp2_with (first | (go_at_call 36; refine (number_operations.calls _).mono ?_; rintro e w1 ⟨rfl, hb, hsz, hx1, hx2⟩; have HB := Aside0.mk hb; have HX1 := Aside0.mk hx1; have HX2 := Aside0.mk hx2; have HSZ := Aside0.mk hsz; clear hb hx1 hx2 hsz) | (refine wpList_store_row rfl 74 _ _ rfl w1.heap.size (workOps w.heap.size) rfl rfl 74 _ (heap_alloc_last _ _) HI.out rfl (workOps_one _) ?_; rw [World.setRow_alloc_new]) | (go_at_call 37; refine (ops_is _ _ (by first | (with_reducible exact d1) | (with_reducible exact d2) | (with_reducible exact d3)) _).mono ?_; rintro e w' ⟨rfl, rfl⟩))
      go_ret2
      exact ⟨rfl, HB.out.alloc HB.out.size _⟩
  · have hp : workPair 4 a1 a2 = (0, 2) := by unfold workPair; rw [if_neg (fun h => c1 h.2.2.1)]
    rw [hp]
    have d1 := decide_eq_false c1
    go_enter Try.func19, Try.ntmps19
    go_wp2_with (first | (go_at_call 36; refine (number_operations.calls _).mono ?_; rintro e w1 ⟨rfl, hb, hsz, hx1, hx2⟩; have HB := Aside0.mk hb; have HX1 := Aside0.mk hx1; have HX2 := Aside0.mk hx2; have HSZ := Aside0.mk hsz; clear hb hx1 hx2 hsz) | (refine wpList_store_row rfl 74 _ _ rfl w1.heap.size (workOps w.heap.size) rfl rfl 74 _ (heap_alloc_last _ _) HI.out rfl (workOps_one _) ?_; rw [World.setRow_alloc_new]) | (go_at_call 37; refine (ops_is _ _ (by first | (with_reducible exact d1) | (with_reducible exact d2) | (with_reducible exact d3)) _).mono ?_; rintro e w' ⟨rfl, rfl⟩))
    go_ret2
    exact ⟨rfl, HB.out.alloc HB.out.size _⟩
set_option maxHeartbeats 4000000 in
set_option maxRecDepth 1000000 in
theorem number_Work.op5 (a1 a2 : Int) (w : World) :
    Calls Try.prog 19 #[.int .u8 5, .int .i64 a1, .int .i64 a2] w fun e w' => e = .returned (.tuple #[.int .i64 (workPair 5 a1 a2).1, .int .i64 (workPair 5 a1 a2).2]) ∧ Below w.heap.size w w' := by
  obtain ⟨hz, hi0⟩ := zero_of_info ops_info
  have HI := Aside0.mk (show (Try.prog.info? 74).map (·.size) = some (workOps w.heap.size).size from hi0)
  clear hi0
  have hef := ops_eq_nil
  have hcell : (workOps w.heap.size)[5]? = some (.func (.func 53) #[] #[]) := rfl
  by_cases c1 : -2147483647 ≤ a1 ∧ a1 ≤ 2147483647
  · have d1 := decide_eq_true c1
    by_cases c2 : -2147483647 ≤ a2 ∧ a2 ≤ 2147483647
    · have d2 := decide_eq_true c2
      have hz2 : ¬ (a2 = 0 ∧ (7 : Int) ≤ 5) := by omega
      by_cases c4 : -2147483647 ≤ a1 - a2 ∧ a1 - a2 ≤ 2147483647
      · have hp : workPair 5 a1 a2 = (a1 - a2, 0) := by unfold workPair; rw [if_pos ⟨by omega, by omega, c1, c2⟩, if_neg hz2]; exact if_pos c4
        have d3 := decide_eq_true c4
        rw [hp]
        go_enter Try.func19, Try.ntmps19
        go_wp2_with (first | (go_at_call 36; refine (number_operations.calls _).mono ?_; rintro e w1 ⟨rfl, hb, hsz, hx1, hx2⟩; have HB := Aside0.mk hb; have HX1 := Aside0.mk hx1; have HX2 := Aside0.mk hx2; have HSZ := Aside0.mk hsz; clear hb hx1 hx2 hsz) | (refine wpList_store_row rfl 74 _ _ rfl w1.heap.size (workOps w.heap.size) rfl rfl 74 _ (heap_alloc_last _ _) HI.out rfl (workOps_one _) ?_; rw [World.setRow_alloc_new]) | (go_at_call 37; refine (ops_is _ _ (by first | (with_reducible exact d1) | (with_reducible exact d2) | (with_reducible exact d3)) _).mono ?_; rintro e w' ⟨rfl, rfl⟩) | (go_at_call 53; refine (op_sub a1 a2 c1 c2 _).mono ?_; rintro e w' ⟨rfl, rfl⟩))
        go_ret2
        exact ⟨rfl, HB.out.alloc HB.out.size _⟩
      · have hp : workPair 5 a1 a2 = (0, 120) := by unfold workPair; rw [if_pos ⟨by omega, by omega, c1, c2⟩, if_neg hz2]; exact if_neg c4
        have d3 := decide_eq_false c4
        rw [hp]
        go_enter Try.func19, Try.ntmps19
        go_wp2_with (first | (go_at_call 36; refine (number_operations.calls _).mono ?_; rintro e w1 ⟨rfl, hb, hsz, hx1, hx2⟩; have HB := Aside0.mk hb; have HX1 := Aside0.mk hx1; have HX2 := Aside0.mk hx2; have HSZ := Aside0.mk hsz; clear hb hx1 hx2 hsz) | (refine wpList_store_row rfl 74 _ _ rfl w1.heap.size (workOps w.heap.size) rfl rfl 74 _ (heap_alloc_last _ _) HI.out rfl (workOps_one _) ?_; rw [World.setRow_alloc_new]) | (go_at_call 37; refine (ops_is _ _ (by first | (with_reducible exact d1) | (with_reducible exact d2) | (with_reducible exact d3)) _).mono ?_; rintro e w' ⟨rfl, rfl⟩) | (go_at_call 53; refine (op_sub a1 a2 c1 c2 _).mono ?_; rintro e w' ⟨rfl, rfl⟩))
        go_ret2
        exact ⟨rfl, HB.out.alloc HB.out.size _⟩
    · have hp : workPair 5 a1 a2 = (0, 2) := by unfold workPair; rw [if_neg (fun h => c2 h.2.2.2)]
      rw [hp]
      have d2 := decide_eq_false c2
      go_enter Try.func19, Try.ntmps19
      go_wp2_with (first | (go_at_call 36; refine (number_operations.calls _).mono ?_; rintro e w1 ⟨rfl, hb, hsz, hx1, hx2⟩; have HB := Aside0.mk hb; have HX1 := Aside0.mk hx1; have HX2 := Aside0.mk hx2; have HSZ := Aside0.mk hsz; clear hb hx1 hx2 hsz) | (refine wpList_store_row rfl 74 _ _ rfl w1.heap.size (workOps w.heap.size) rfl rfl 74 _ (heap_alloc_last _ _) HI.out rfl (workOps_one _) ?_; rw [World.setRow_alloc_new]) | (go_at_call 37; refine (ops_is _ _ (by first | (with_reducible exact d1) | (with_reducible exact d2) | (with_reducible exact d3)) _).mono ?_; rintro e w' ⟨rfl, rfl⟩))
      go_ret2
      exact ⟨rfl, HB.out.alloc HB.out.size _⟩
  · have hp : workPair 5 a1 a2 = (0, 2) := by unfold workPair; rw [if_neg (fun h => c1 h.2.2.1)]
    rw [hp]
    have d1 := decide_eq_false c1
    go_enter Try.func19, Try.ntmps19
    go_wp2_with (first | (go_at_call 36; refine (number_operations.calls _).mono ?_; rintro e w1 ⟨rfl, hb, hsz, hx1, hx2⟩; have HB := Aside0.mk hb; have HX1 := Aside0.mk hx1; have HX2 := Aside0.mk hx2; have HSZ := Aside0.mk hsz; clear hb hx1 hx2 hsz) | (refine wpList_store_row rfl 74 _ _ rfl w1.heap.size (workOps w.heap.size) rfl rfl 74 _ (heap_alloc_last _ _) HI.out rfl (workOps_one _) ?_; rw [World.setRow_alloc_new]) | (go_at_call 37; refine (ops_is _ _ (by first | (with_reducible exact d1) | (with_reducible exact d2) | (with_reducible exact d3)) _).mono ?_; rintro e w' ⟨rfl, rfl⟩))
    go_ret2
    exact ⟨rfl, HB.out.alloc HB.out.size _⟩
set_option maxHeartbeats 4000000 in
set_option maxRecDepth 1000000 in
theorem number_Work.op6 (a1 a2 : Int) (w : World) :
    Calls Try.prog 19 #[.int .u8 6, .int .i64 a1, .int .i64 a2] w fun e w' => e = .returned (.tuple #[.int .i64 (workPair 6 a1 a2).1, .int .i64 (workPair 6 a1 a2).2]) ∧ Below w.heap.size w w' := by
  obtain ⟨hz, hi0⟩ := zero_of_info ops_info
  have HI := Aside0.mk (show (Try.prog.info? 74).map (·.size) = some (workOps w.heap.size).size from hi0)
  clear hi0
  have hef := ops_eq_nil
  have hcell : (workOps w.heap.size)[6]? = some (.func (.func 54) #[] #[]) := rfl
  by_cases c1 : -2147483647 ≤ a1 ∧ a1 ≤ 2147483647
  · have d1 := decide_eq_true c1
    by_cases c2 : -2147483647 ≤ a2 ∧ a2 ≤ 2147483647
    · have d2 := decide_eq_true c2
      have hz2 : ¬ (a2 = 0 ∧ (7 : Int) ≤ 6) := by omega
      by_cases c4 : -2147483647 ≤ a1 * a2 ∧ a1 * a2 ≤ 2147483647
      · have hp : workPair 6 a1 a2 = (a1 * a2, 0) := by unfold workPair; rw [if_pos ⟨by omega, by omega, c1, c2⟩, if_neg hz2]; exact if_pos c4
        have d3 := decide_eq_true c4
        rw [hp]
        go_enter Try.func19, Try.ntmps19
        go_wp2_with (first | (go_at_call 36; refine (number_operations.calls _).mono ?_; rintro e w1 ⟨rfl, hb, hsz, hx1, hx2⟩; have HB := Aside0.mk hb; have HX1 := Aside0.mk hx1; have HX2 := Aside0.mk hx2; have HSZ := Aside0.mk hsz; clear hb hx1 hx2 hsz) | (refine wpList_store_row rfl 74 _ _ rfl w1.heap.size (workOps w.heap.size) rfl rfl 74 _ (heap_alloc_last _ _) HI.out rfl (workOps_one _) ?_; rw [World.setRow_alloc_new]) | (go_at_call 37; refine (ops_is _ _ (by first | (with_reducible exact d1) | (with_reducible exact d2) | (with_reducible exact d3)) _).mono ?_; rintro e w' ⟨rfl, rfl⟩) | (go_at_call 54; refine (op_times a1 a2 c1 c2 _).mono ?_; rintro e w' ⟨rfl, rfl⟩))
        go_ret2
        exact ⟨rfl, HB.out.alloc HB.out.size _⟩
      · have hp : workPair 6 a1 a2 = (0, 120) := by unfold workPair; rw [if_pos ⟨by omega, by omega, c1, c2⟩, if_neg hz2]; exact if_neg c4
        have d3 := decide_eq_false c4
        rw [hp]
        go_enter Try.func19, Try.ntmps19
        go_wp2_with (first | (go_at_call 36; refine (number_operations.calls _).mono ?_; rintro e w1 ⟨rfl, hb, hsz, hx1, hx2⟩; have HB := Aside0.mk hb; have HX1 := Aside0.mk hx1; have HX2 := Aside0.mk hx2; have HSZ := Aside0.mk hsz; clear hb hx1 hx2 hsz) | (refine wpList_store_row rfl 74 _ _ rfl w1.heap.size (workOps w.heap.size) rfl rfl 74 _ (heap_alloc_last _ _) HI.out rfl (workOps_one _) ?_; rw [World.setRow_alloc_new]) | (go_at_call 37; refine (ops_is _ _ (by first | (with_reducible exact d1) | (with_reducible exact d2) | (with_reducible exact d3)) _).mono ?_; rintro e w' ⟨rfl, rfl⟩) | (go_at_call 54; refine (op_times a1 a2 c1 c2 _).mono ?_; rintro e w' ⟨rfl, rfl⟩))
        go_ret2
        exact ⟨rfl, HB.out.alloc HB.out.size _⟩
    · have hp : workPair 6 a1 a2 = (0, 2) := by unfold workPair; rw [if_neg (fun h => c2 h.2.2.2)]
      rw [hp]
      have d2 := decide_eq_false c2
      go_enter Try.func19, Try.ntmps19
      go_wp2_with (first | (go_at_call 36; refine (number_operations.calls _).mono ?_; rintro e w1 ⟨rfl, hb, hsz, hx1, hx2⟩; have HB := Aside0.mk hb; have HX1 := Aside0.mk hx1; have HX2 := Aside0.mk hx2; have HSZ := Aside0.mk hsz; clear hb hx1 hx2 hsz) | (refine wpList_store_row rfl 74 _ _ rfl w1.heap.size (workOps w.heap.size) rfl rfl 74 _ (heap_alloc_last _ _) HI.out rfl (workOps_one _) ?_; rw [World.setRow_alloc_new]) | (go_at_call 37; refine (ops_is _ _ (by first | (with_reducible exact d1) | (with_reducible exact d2) | (with_reducible exact d3)) _).mono ?_; rintro e w' ⟨rfl, rfl⟩))
      go_ret2
      exact ⟨rfl, HB.out.alloc HB.out.size _⟩
  · have hp : workPair 6 a1 a2 = (0, 2) := by unfold workPair; rw [if_neg (fun h => c1 h.2.2.1)]
    rw [hp]
    have d1 := decide_eq_false c1
    go_enter Try.func19, Try.ntmps19
    go_wp2_with (first | (go_at_call 36; refine (number_operations.calls _).mono ?_; rintro e w1 ⟨rfl, hb, hsz, hx1, hx2⟩; have HB := Aside0.mk hb; have HX1 := Aside0.mk hx1; have HX2 := Aside0.mk hx2; have HSZ := Aside0.mk hsz; clear hb hx1 hx2 hsz) | (refine wpList_store_row rfl 74 _ _ rfl w1.heap.size (workOps w.heap.size) rfl rfl 74 _ (heap_alloc_last _ _) HI.out rfl (workOps_one _) ?_; rw [World.setRow_alloc_new]) | (go_at_call 37; refine (ops_is _ _ (by first | (with_reducible exact d1) | (with_reducible exact d2) | (with_reducible exact d3)) _).mono ?_; rintro e w' ⟨rfl, rfl⟩))
    go_ret2
    exact ⟨rfl, HB.out.alloc HB.out.size _⟩
set_option maxHeartbeats 4000000 in
set_option maxRecDepth 1000000 in
theorem number_Work.op7 (a1 a2 : Int) (w : World) :
    Calls Try.prog 19 #[.int .u8 7, .int .i64 a1, .int .i64 a2] w fun e w' => e = .returned (.tuple #[.int .i64 (workPair 7 a1 a2).1, .int .i64 (workPair 7 a1 a2).2]) ∧ Below w.heap.size w w' := by
  obtain ⟨hz, hi0⟩ := zero_of_info ops_info
  have HI := Aside0.mk (show (Try.prog.info? 74).map (·.size) = some (workOps w.heap.size).size from hi0)
  clear hi0
  have hef := ops_eq_nil
  have hcell : (workOps w.heap.size)[7]? = some (.func (.func 50) #[] #[.pointer (some ⟨w.heap.size + 1, 0, none⟩)]) := rfl
  by_cases c1 : -2147483647 ≤ a1 ∧ a1 ≤ 2147483647
  · have d1 := decide_eq_true c1
    by_cases c2 : -2147483647 ≤ a2 ∧ a2 ≤ 2147483647
    · have d2 := decide_eq_true c2
      by_cases c3 : a2 = 0
      · subst c3
        have hp : workPair 7 a1 0 = (0, 5) := by unfold workPair; rw [if_pos ⟨by omega, by omega, c1, c2⟩, if_pos ⟨rfl, by omega⟩]
        rw [hp]
        go_enter Try.func19, Try.ntmps19
        go_wp2_with (first | (go_at_call 36; refine (number_operations.calls _).mono ?_; rintro e w1 ⟨rfl, hb, hsz, hx1, hx2⟩; have HB := Aside0.mk hb; have HX1 := Aside0.mk hx1; have HX2 := Aside0.mk hx2; have HSZ := Aside0.mk hsz; clear hb hx1 hx2 hsz) | (refine wpList_store_row rfl 74 _ _ rfl w1.heap.size (workOps w.heap.size) rfl rfl 74 _ (heap_alloc_last _ _) HI.out rfl (workOps_one _) ?_; rw [World.setRow_alloc_new]) | (go_at_call 37; refine (ops_is _ _ (by first | (with_reducible exact d1) | (with_reducible exact d2) | (with_reducible exact d3)) _).mono ?_; rintro e w' ⟨rfl, rfl⟩) | (go_at_call 50; refine (op_over0 a1 _ _).mono ?_; rintro e w' ⟨rfl, rfl⟩))
        go_ret2
        exact ⟨rfl, HB.out.alloc HB.out.size _⟩
      · have hz2 : ¬ (a2 = 0 ∧ (7 : Int) ≤ 7) := fun h => c3 h.1
        by_cases c4 : -2147483647 ≤ a1.tdiv a2 ∧ a1.tdiv a2 ≤ 2147483647
        · have hp : workPair 7 a1 a2 = (a1.tdiv a2, 0) := by unfold workPair; rw [if_pos ⟨by omega, by omega, c1, c2⟩, if_neg hz2]; exact if_pos c4
          have d3 := decide_eq_true c4
          rw [hp]
          go_enter Try.func19, Try.ntmps19
          go_wp2_with (first | (go_at_call 36; refine (number_operations.calls _).mono ?_; rintro e w1 ⟨rfl, hb, hsz, hx1, hx2⟩; have HB := Aside0.mk hb; have HX1 := Aside0.mk hx1; have HX2 := Aside0.mk hx2; have HSZ := Aside0.mk hsz; clear hb hx1 hx2 hsz) | (refine wpList_store_row rfl 74 _ _ rfl w1.heap.size (workOps w.heap.size) rfl rfl 74 _ (heap_alloc_last _ _) HI.out rfl (workOps_one _) ?_; rw [World.setRow_alloc_new]) | (go_at_call 37; refine (ops_is _ _ (by first | (with_reducible exact d1) | (with_reducible exact d2) | (with_reducible exact d3)) _).mono ?_; rintro e w' ⟨rfl, rfl⟩) | (go_at_call 50; refine (op_overDiv a1 a2 c1 c3 _ _ (ops_old HX1.out)).mono ?_; rintro e w' ⟨rfl, rfl⟩))
          go_ret2
          exact ⟨rfl, HB.out.alloc HB.out.size _⟩
        · have hp : workPair 7 a1 a2 = (0, 120) := by unfold workPair; rw [if_pos ⟨by omega, by omega, c1, c2⟩, if_neg hz2]; exact if_neg c4
          have d3 := decide_eq_false c4
          rw [hp]
          go_enter Try.func19, Try.ntmps19
          go_wp2_with (first | (go_at_call 36; refine (number_operations.calls _).mono ?_; rintro e w1 ⟨rfl, hb, hsz, hx1, hx2⟩; have HB := Aside0.mk hb; have HX1 := Aside0.mk hx1; have HX2 := Aside0.mk hx2; have HSZ := Aside0.mk hsz; clear hb hx1 hx2 hsz) | (refine wpList_store_row rfl 74 _ _ rfl w1.heap.size (workOps w.heap.size) rfl rfl 74 _ (heap_alloc_last _ _) HI.out rfl (workOps_one _) ?_; rw [World.setRow_alloc_new]) | (go_at_call 37; refine (ops_is _ _ (by first | (with_reducible exact d1) | (with_reducible exact d2) | (with_reducible exact d3)) _).mono ?_; rintro e w' ⟨rfl, rfl⟩) | (go_at_call 50; refine (op_overDiv a1 a2 c1 c3 _ _ (ops_old HX1.out)).mono ?_; rintro e w' ⟨rfl, rfl⟩))
          go_ret2
          exact ⟨rfl, HB.out.alloc HB.out.size _⟩
    · have hp : workPair 7 a1 a2 = (0, 2) := by unfold workPair; rw [if_neg (fun h => c2 h.2.2.2)]
      rw [hp]
      have d2 := decide_eq_false c2
      go_enter Try.func19, Try.ntmps19
      go_wp2_with (first | (go_at_call 36; refine (number_operations.calls _).mono ?_; rintro e w1 ⟨rfl, hb, hsz, hx1, hx2⟩; have HB := Aside0.mk hb; have HX1 := Aside0.mk hx1; have HX2 := Aside0.mk hx2; have HSZ := Aside0.mk hsz; clear hb hx1 hx2 hsz) | (refine wpList_store_row rfl 74 _ _ rfl w1.heap.size (workOps w.heap.size) rfl rfl 74 _ (heap_alloc_last _ _) HI.out rfl (workOps_one _) ?_; rw [World.setRow_alloc_new]) | (go_at_call 37; refine (ops_is _ _ (by first | (with_reducible exact d1) | (with_reducible exact d2) | (with_reducible exact d3)) _).mono ?_; rintro e w' ⟨rfl, rfl⟩))
      go_ret2
      exact ⟨rfl, HB.out.alloc HB.out.size _⟩
  · have hp : workPair 7 a1 a2 = (0, 2) := by unfold workPair; rw [if_neg (fun h => c1 h.2.2.1)]
    rw [hp]
    have d1 := decide_eq_false c1
    go_enter Try.func19, Try.ntmps19
    go_wp2_with (first | (go_at_call 36; refine (number_operations.calls _).mono ?_; rintro e w1 ⟨rfl, hb, hsz, hx1, hx2⟩; have HB := Aside0.mk hb; have HX1 := Aside0.mk hx1; have HX2 := Aside0.mk hx2; have HSZ := Aside0.mk hsz; clear hb hx1 hx2 hsz) | (refine wpList_store_row rfl 74 _ _ rfl w1.heap.size (workOps w.heap.size) rfl rfl 74 _ (heap_alloc_last _ _) HI.out rfl (workOps_one _) ?_; rw [World.setRow_alloc_new]) | (go_at_call 37; refine (ops_is _ _ (by first | (with_reducible exact d1) | (with_reducible exact d2) | (with_reducible exact d3)) _).mono ?_; rintro e w' ⟨rfl, rfl⟩))
    go_ret2
    exact ⟨rfl, HB.out.alloc HB.out.size _⟩
set_option maxHeartbeats 4000000 in
set_option maxRecDepth 1000000 in
theorem number_Work.op8 (a1 a2 : Int) (w : World) :
    Calls Try.prog 19 #[.int .u8 8, .int .i64 a1, .int .i64 a2] w fun e w' => e = .returned (.tuple #[.int .i64 (workPair 8 a1 a2).1, .int .i64 (workPair 8 a1 a2).2]) ∧ Below w.heap.size w w' := by
  obtain ⟨hz, hi0⟩ := zero_of_info ops_info
  have HI := Aside0.mk (show (Try.prog.info? 74).map (·.size) = some (workOps w.heap.size).size from hi0)
  clear hi0
  have hef := ops_eq_nil
  have hcell : (workOps w.heap.size)[8]? = some (.func (.func 50) #[] #[.pointer (some ⟨w.heap.size + 2, 0, none⟩)]) := rfl
  by_cases c1 : -2147483647 ≤ a1 ∧ a1 ≤ 2147483647
  · have d1 := decide_eq_true c1
    by_cases c2 : -2147483647 ≤ a2 ∧ a2 ≤ 2147483647
    · have d2 := decide_eq_true c2
      by_cases c3 : a2 = 0
      · subst c3
        have hp : workPair 8 a1 0 = (0, 5) := by unfold workPair; rw [if_pos ⟨by omega, by omega, c1, c2⟩, if_pos ⟨rfl, by omega⟩]
        rw [hp]
        go_enter Try.func19, Try.ntmps19
        go_wp2_with (first | (go_at_call 36; refine (number_operations.calls _).mono ?_; rintro e w1 ⟨rfl, hb, hsz, hx1, hx2⟩; have HB := Aside0.mk hb; have HX1 := Aside0.mk hx1; have HX2 := Aside0.mk hx2; have HSZ := Aside0.mk hsz; clear hb hx1 hx2 hsz) | (refine wpList_store_row rfl 74 _ _ rfl w1.heap.size (workOps w.heap.size) rfl rfl 74 _ (heap_alloc_last _ _) HI.out rfl (workOps_one _) ?_; rw [World.setRow_alloc_new]) | (go_at_call 37; refine (ops_is _ _ (by first | (with_reducible exact d1) | (with_reducible exact d2) | (with_reducible exact d3)) _).mono ?_; rintro e w' ⟨rfl, rfl⟩) | (go_at_call 50; refine (op_over0 a1 _ _).mono ?_; rintro e w' ⟨rfl, rfl⟩))
        go_ret2
        exact ⟨rfl, HB.out.alloc HB.out.size _⟩
      · have hz2 : ¬ (a2 = 0 ∧ (7 : Int) ≤ 8) := fun h => c3 h.1
        by_cases c4 : -2147483647 ≤ a1.tmod a2 ∧ a1.tmod a2 ≤ 2147483647
        · have hp : workPair 8 a1 a2 = (a1.tmod a2, 0) := by unfold workPair; rw [if_pos ⟨by omega, by omega, c1, c2⟩, if_neg hz2]; exact if_pos c4
          have d3 := decide_eq_true c4
          rw [hp]
          go_enter Try.func19, Try.ntmps19
          go_wp2_with (first | (go_at_call 36; refine (number_operations.calls _).mono ?_; rintro e w1 ⟨rfl, hb, hsz, hx1, hx2⟩; have HB := Aside0.mk hb; have HX1 := Aside0.mk hx1; have HX2 := Aside0.mk hx2; have HSZ := Aside0.mk hsz; clear hb hx1 hx2 hsz) | (refine wpList_store_row rfl 74 _ _ rfl w1.heap.size (workOps w.heap.size) rfl rfl 74 _ (heap_alloc_last _ _) HI.out rfl (workOps_one _) ?_; rw [World.setRow_alloc_new]) | (go_at_call 37; refine (ops_is _ _ (by first | (with_reducible exact d1) | (with_reducible exact d2) | (with_reducible exact d3)) _).mono ?_; rintro e w' ⟨rfl, rfl⟩) | (go_at_call 50; refine (op_overRest a1 a2 c3 _ _ (ops_old HX2.out)).mono ?_; rintro e w' ⟨rfl, rfl⟩))
          go_ret2
          exact ⟨rfl, HB.out.alloc HB.out.size _⟩
        · have hp : workPair 8 a1 a2 = (0, 120) := by unfold workPair; rw [if_pos ⟨by omega, by omega, c1, c2⟩, if_neg hz2]; exact if_neg c4
          have d3 := decide_eq_false c4
          rw [hp]
          go_enter Try.func19, Try.ntmps19
          go_wp2_with (first | (go_at_call 36; refine (number_operations.calls _).mono ?_; rintro e w1 ⟨rfl, hb, hsz, hx1, hx2⟩; have HB := Aside0.mk hb; have HX1 := Aside0.mk hx1; have HX2 := Aside0.mk hx2; have HSZ := Aside0.mk hsz; clear hb hx1 hx2 hsz) | (refine wpList_store_row rfl 74 _ _ rfl w1.heap.size (workOps w.heap.size) rfl rfl 74 _ (heap_alloc_last _ _) HI.out rfl (workOps_one _) ?_; rw [World.setRow_alloc_new]) | (go_at_call 37; refine (ops_is _ _ (by first | (with_reducible exact d1) | (with_reducible exact d2) | (with_reducible exact d3)) _).mono ?_; rintro e w' ⟨rfl, rfl⟩) | (go_at_call 50; refine (op_overRest a1 a2 c3 _ _ (ops_old HX2.out)).mono ?_; rintro e w' ⟨rfl, rfl⟩))
          go_ret2
          exact ⟨rfl, HB.out.alloc HB.out.size _⟩
    · have hp : workPair 8 a1 a2 = (0, 2) := by unfold workPair; rw [if_neg (fun h => c2 h.2.2.2)]
      rw [hp]
      have d2 := decide_eq_false c2
      go_enter Try.func19, Try.ntmps19
      go_wp2_with (first | (go_at_call 36; refine (number_operations.calls _).mono ?_; rintro e w1 ⟨rfl, hb, hsz, hx1, hx2⟩; have HB := Aside0.mk hb; have HX1 := Aside0.mk hx1; have HX2 := Aside0.mk hx2; have HSZ := Aside0.mk hsz; clear hb hx1 hx2 hsz) | (refine wpList_store_row rfl 74 _ _ rfl w1.heap.size (workOps w.heap.size) rfl rfl 74 _ (heap_alloc_last _ _) HI.out rfl (workOps_one _) ?_; rw [World.setRow_alloc_new]) | (go_at_call 37; refine (ops_is _ _ (by first | (with_reducible exact d1) | (with_reducible exact d2) | (with_reducible exact d3)) _).mono ?_; rintro e w' ⟨rfl, rfl⟩))
      go_ret2
      exact ⟨rfl, HB.out.alloc HB.out.size _⟩
  · have hp : workPair 8 a1 a2 = (0, 2) := by unfold workPair; rw [if_neg (fun h => c1 h.2.2.1)]
    rw [hp]
    have d1 := decide_eq_false c1
    go_enter Try.func19, Try.ntmps19
    go_wp2_with (first | (go_at_call 36; refine (number_operations.calls _).mono ?_; rintro e w1 ⟨rfl, hb, hsz, hx1, hx2⟩; have HB := Aside0.mk hb; have HX1 := Aside0.mk hx1; have HX2 := Aside0.mk hx2; have HSZ := Aside0.mk hsz; clear hb hx1 hx2 hsz) | (refine wpList_store_row rfl 74 _ _ rfl w1.heap.size (workOps w.heap.size) rfl rfl 74 _ (heap_alloc_last _ _) HI.out rfl (workOps_one _) ?_; rw [World.setRow_alloc_new]) | (go_at_call 37; refine (ops_is _ _ (by first | (with_reducible exact d1) | (with_reducible exact d2) | (with_reducible exact d3)) _).mono ?_; rintro e w' ⟨rfl, rfl⟩))
    go_ret2
    exact ⟨rfl, HB.out.alloc HB.out.size _⟩
theorem number_Work.calls (a0 a1 a2 : Int) (r1 r2 : Int) (w : World) (h : number_Work.f a0 a1 a2 = some (r1, r2)) :
    Calls Try.prog 19 #[.int .u8 a0, .int .i64 a1, .int .i64 a2] w fun e w' => e = .returned (.tuple #[.int .i64 r1, .int .i64 r2]) ∧ Below w.heap.size w w' := by
  obtain ⟨h0, h⟩ : (0 ≤ a0 ∧ a0 < 256) ∧ workPair a0 a1 a2 = (r1, r2) := by
    unfold number_Work.f at h
    split at h
    · exact ⟨by assumption, Option.some.inj h⟩
    · exact absurd h (by simp)
  by_cases c0 : a0 ≥ 9
  · have hp : workPair a0 a1 a2 = (0, 2) := by unfold workPair; rw [if_neg (by omega)]
    rw [hp] at h
    injection h with h1 h2
    subst h1; subst h2
    exact number_Work.big a0 a1 a2 w c0 h0.2
  · have h1 : r1 = (workPair a0 a1 a2).1 := by rw [h]
    have h2 : r2 = (workPair a0 a1 a2).2 := by rw [h]
    subst h1; subst h2
    clear h
    have : a0 = 0 ∨ a0 = 1 ∨ a0 = 2 ∨ a0 = 3 ∨ a0 = 4 ∨ a0 = 5 ∨ a0 = 6 ∨ a0 = 7 ∨ a0 = 8 := by omega
    rcases this with rfl | rfl | rfl | rfl | rfl | rfl | rfl | rfl | rfl
    · exact number_Work.op0 a1 a2 w
    · exact number_Work.op1 a1 a2 w
    · exact number_Work.op2 a1 a2 w
    · exact number_Work.op3 a1 a2 w
    · exact number_Work.op4 a1 a2 w
    · exact number_Work.op5 a1 a2 w
    · exact number_Work.op6 a1 a2 w
    · exact number_Work.op7 a1 a2 w
    · exact number_Work.op8 a1 a2 w

end Go.Proofs.Ytnojokempdcikaa.PA
