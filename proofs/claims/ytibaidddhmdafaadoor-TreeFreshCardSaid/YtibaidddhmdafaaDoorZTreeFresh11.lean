/- What YtibaidddhmdafaaDoorRTreeFresh's proof reaches of its texts, part 11. Conditions: as each says. -/
import Derived.ArgAppend
import Derived.Below
import Derived.BigCall
import Derived.BigQuiet
import Derived.Deep.AppendLies
import Derived.Deep.CutBlock
import Derived.Deep.DeepCutAuto
import Derived.Deep.Draws
import Derived.Deep.LoopGhost
import Derived.Deep.OwnRows
import Derived.Deep.QuietTactic
import Derived.Deep.RegionHeld3
import Derived.Deep.WholeRow
import Derived.KernelRfl
import Derived.Laws.AppendOwn
import Derived.Laws.BitsLemmas
import Derived.Laws.BytesArg
import Derived.Laws.Externs
import Derived.Laws.IdiomCopy
import Derived.Laws.MakeOwn
import Derived.Laws.OwnMore
import Derived.Laws.Rows
import Derived.Laws.Slices
import Derived.Laws.StructEq
import Derived.Laws.Tables
import Derived.Lib.AppendStr
import Derived.Lib.Builder
import Derived.Lib.Bytealg
import Derived.Lib.ConvBytes
import Derived.Lib.Strings
import Derived.Lib.Walk
import Derived.Maps.AppendAt
import Derived.OrdersHeld
import Derived.OwnWalk
import Derived.RowKit
import Derived.RowKit3
import Derived.ScopeJumps
import Derived.Shelf.LaysM
import Derived.Shelf.Strconv.Itoa3
import Derived.Shelf.Strings.Builder1
import Derived.Tactics
import Derived.Test.YtibaidddhmdafaaDoorProg
import Derived.WalkKit
import Derived.WideLaws
import Derived.Test.YtibaidddhmdafaaDoorZTreeFresh9
import Derived.Test.YtibaidddhmdafaaDoorZTreeFresh10
section
namespace Go.Proofs.YtibaidddhmdafaaDoor.E
open Go Go.RowKit Go.Proofs.YtibaidddhmdafaaDoorW.PrintWords Go.Proofs.YtibaidddhmdafaaDoorW.PrintLast Go.Proofs.YtibaidddhmdafaaDoorW.PrintMore Go.Proofs.YtibaidddhmdafaaDoor.PA
set_option linter.unusedVariables false
set_option linter.unusedSimpArgs false
set_option maxRecDepth 100000 in
theorem builder_copyCheck (g : Nat) (p : Option Addr) (hp : p = none ∨ p = some ⟨g, 0, none⟩) (v : Value) (bs : List Res) (w0 w : World) (h : H w0 (pt g #[.pointer p, v] 62 :: bs) w) :
    Calls Tryd.prog 69 #[.pointer (some ⟨g, 0, none⟩)] w fun e w' => e = .returned (.tuple #[]) ∧ H w0 (pt g #[.pointer (some ⟨g, 0, none⟩), v] 62 :: bs) w' := by
  rcases hp with rfl | rfl
  · refine calls_enter (N := 20) (n := 19) (args := [.pointer (some ⟨g, 0, none⟩)]) Tryd.func69 rfl rfl rfl h (fun a hs => ?_)
    repeat with_reducible refine wp_seq ?_
    refine wp_region_lit (go hs (pM rfl <| pV rfl (fun a hs => y_nilchk hs rfl) <| pV rfl (fun a hs => y_faddr (k' := 0) 0 hs (by kernel_rfl) rfl rfl) <| pV rfl (fun a hs => y_load hs Tryd.underlying59 rfl rfl (fun w hw => (hw.to 0 rfl).cellV rfl)) <| pV rfl (fun a hs => y_ptrNil hs Tryd.underlying59 rfl) <| ?_)); clear hs a; intro a hs
    refine wpList_nil ?_
    repeat first | with_reducible refine in_normal ?_ | with_reducible refine then_normal ?_ | with_reducible refine then_ret ?_ | with_reducible refine in_ret ?_ | with_reducible refine then_exit ?_ | with_reducible refine in_here ?_ | with_reducible refine in_other rfl ?_
    repeat with_reducible refine wp_seq ?_
    refine wp_cond_true (hs.ev rfl) ?_
    repeat with_reducible refine wp_seq ?_
    refine wp_region_lit (go hs (pM rfl <| pM rfl <| pV rfl (fun a hs => y_toUnsafe 0 rfl hs Tryd.underlying59 Tryd.underlying119 (by kernel_rfl) rfl rfl) <| ?_)); clear hs a; intro a hs
    refine a_eff rfl (e_noEscape Tryd.func96 rfl rfl rfl rfl hs rfl rfl ?_); clear hs a; intro a hs
    refine go hs (pV rfl (fun a hs => y_fromUnsafe 0 rfl hs Tryd.underlying119 Tryd.underlying59 (by kernel_rfl) (by kernel_rfl) rfl) <| pV rfl (fun a hs => y_nilchk hs rfl) <| pV rfl (fun a hs => y_faddr (k' := 0) 0 hs (by kernel_rfl) rfl rfl) <| ?_); clear hs a; intro a hs
    refine a_eff rfl (e_store (cl := [_, _]) 0 rfl hs rfl rfl (by kernel_rfl) rfl rfl rfl ?_); clear hs a; intro a w hs
    refine wpList_nil ?_
    repeat first | with_reducible refine in_normal ?_ | with_reducible refine then_normal ?_ | with_reducible refine then_ret ?_ | with_reducible refine in_ret ?_ | with_reducible refine then_exit ?_ | with_reducible refine in_here ?_ | with_reducible refine in_other rfl ?_
    refine fin_end (vs := []) hs .nil ⟨rfl, hs.mem⟩
  refine calls_enter (N := 20) (n := 19) (args := [.pointer (some ⟨g, 0, none⟩)]) Tryd.func69 rfl rfl rfl h (fun a hs => ?_)
  repeat with_reducible refine wp_seq ?_
  refine wp_region_lit (go hs (pM rfl <| pV rfl (fun a hs => y_nilchk hs rfl) <| pV rfl (fun a hs => y_faddr (k' := 0) 0 hs (by kernel_rfl) rfl rfl) <| pV rfl (fun a hs => y_load hs Tryd.underlying59 rfl rfl (fun w hw => (hw.to 0 rfl).cellV rfl)) <| pV rfl (fun a hs => y_ptrNil hs Tryd.underlying59 rfl) <| ?_)); clear hs a; intro a hs
  refine wpList_nil ?_
  repeat first | with_reducible refine in_normal ?_ | with_reducible refine then_normal ?_ | with_reducible refine then_ret ?_ | with_reducible refine in_ret ?_ | with_reducible refine then_exit ?_ | with_reducible refine in_here ?_ | with_reducible refine in_other rfl ?_
  repeat with_reducible refine wp_seq ?_
  refine wp_cond_false (hs.ev rfl) ?_
  repeat with_reducible refine wp_seq ?_
  refine wp_region_lit (go hs (pM rfl <| pV rfl (fun a hs => y_nilchk hs rfl) <| pV rfl (fun a hs => y_faddr (k' := 0) 0 hs (by kernel_rfl) rfl rfl) <| pV rfl (fun a hs => y_load hs Tryd.underlying59 rfl rfl (fun w hw => (hw.to 0 rfl).cellV rfl)) <| pM rfl <| pV rfl (fun a hs => y_ptrNe hs Tryd.underlying59 (by kernel_rfl) rfl rfl) <| ?_)); clear hs a; intro a hs
  refine wpList_nil ?_
  repeat first | with_reducible refine in_normal ?_ | with_reducible refine then_normal ?_ | with_reducible refine then_ret ?_ | with_reducible refine in_ret ?_ | with_reducible refine then_exit ?_ | with_reducible refine in_here ?_ | with_reducible refine in_other rfl ?_
  repeat with_reducible refine wp_seq ?_
  refine wp_cond_false (hs.ev rfl) ?_
  repeat with_reducible refine wp_seq ?_
  refine wp_skip ?_
  repeat first | with_reducible refine in_normal ?_ | with_reducible refine then_normal ?_ | with_reducible refine then_ret ?_ | with_reducible refine in_ret ?_ | with_reducible refine then_exit ?_ | with_reducible refine in_here ?_ | with_reducible refine in_other rfl ?_
  refine fin_end (vs := []) hs .nil ⟨rfl, hs.mem⟩
set_option maxRecDepth 100000 in
theorem builder_WriteByte (g : Nat) (p : Option Addr) (hp : p = none ∨ p = some ⟨g, 0, none⟩) (A : Option Addr) (n c : Nat) (xs : List Value) (ch : Int) (hn : n ≤ 100000000) (bs : List Res) (w0 w : World) (h : H w0 (pt g #[.pointer p, .slice A n c] 62 :: row 5 1 (.slice A n c) n xs :: bs) w) :
    Calls Tryd.prog 91 #[.pointer (some ⟨g, 0, none⟩), .int .u8 ch] w fun e w' => ∃ A' c', e = .returned .nilIface ∧ H w0 (pt g #[.pointer (some ⟨g, 0, none⟩), .slice A' (n + 1) c'] 62 :: row 5 1 (.slice A' (n + 1) c') (n + 1) (xs ++ [.int .u8 ch]) :: bs) w' := by
  refine calls_enter (N := 17) (n := 15) (args := [.pointer (some ⟨g, 0, none⟩), .int .u8 ch]) Tryd.func91 rfl rfl rfl h (fun a hs => ?_)
  repeat with_reducible refine wp_seq ?_
  refine wp_region_lit (go hs (pA rfl <| ?_)); clear hs a; intro a hs
  refine wpList_nil ?_
  repeat first | with_reducible refine in_normal ?_ | with_reducible refine then_normal ?_ | with_reducible refine then_ret ?_ | with_reducible refine in_ret ?_ | with_reducible refine then_exit ?_ | with_reducible refine in_here ?_ | with_reducible refine in_other rfl ?_
  repeat with_reducible refine wp_seq ?_
  refine wp_region_lit (go hs (pM rfl <| ?_)); clear hs a; intro a hs
  refine a_eff rfl (e_callX Tryd.func69 rfl rfl hs rfl rfl (builder_copyCheck g p hp _ _ w0 _ hs.mem) (fun e w ⟨he, hm⟩ => ⟨_, he, _, hm, ?_⟩)); clear hs a; intro a hs
  refine wpList_nil ?_
  repeat first | with_reducible refine in_normal ?_ | with_reducible refine then_normal ?_ | with_reducible refine then_ret ?_ | with_reducible refine in_ret ?_ | with_reducible refine then_exit ?_ | with_reducible refine in_here ?_ | with_reducible refine in_other rfl ?_
  repeat with_reducible refine wp_seq ?_
  refine wp_region_lit (go hs (pM rfl <| pM rfl <| pV rfl (fun a hs => y_nilchk hs rfl) <| pV rfl (fun a hs => y_faddr (k' := 1) 1 hs (by kernel_rfl) rfl rfl) <| pV rfl (fun a hs => y_load hs Tryd.underlying60 rfl rfl (fun w hw => (hw.to 0 rfl).cellV rfl)) <| pM rfl <| ?_)); clear hs a; intro a hs
  refine a_eff rfl (e_bslice (z := .int .u8 0) (size := 1) (zc := #[.int .u8 0]) (cl := [_]) hs rfl Tryd.underlying60 (by kernel_rfl) rfl rfl rfl (by kernel_rfl) (by rfl) rfl ?_); clear hs a; intro gn a w hs
  refine a_eff rfl (e_append (z := .int .u8 0) (size := 1) (bytes := 1) 2 rfl 0 rfl hs rfl Tryd.underlying60 (by kernel_rfl) rfl rfl rfl rfl (news := [.int .u8 ch]) rfl rfl rfl (by unfold maxLen; omega) (by omega) ?_); clear hs a; intro A2 c2 a w hs
  refine go hs (pV rfl (fun a hs => y_nilchk hs rfl) <| pV rfl (fun a hs => y_faddr (k' := 1) 1 hs (by kernel_rfl) rfl rfl) <| ?_); clear hs a; intro a hs
  refine a_eff rfl (e_store (cl := [_, _]) 2 rfl hs rfl rfl (by kernel_rfl) rfl rfl rfl ?_); clear hs a; intro a w hs
  refine wpList_nil ?_
  repeat first | with_reducible refine in_normal ?_ | with_reducible refine then_normal ?_ | with_reducible refine then_ret ?_ | with_reducible refine in_ret ?_ | with_reducible refine then_exit ?_ | with_reducible refine in_here ?_ | with_reducible refine in_other rfl ?_
  repeat with_reducible refine wp_seq ?_
  refine wp_region_lit (go hs (pA rfl <| ?_)); clear hs a; intro a hs
  refine wpList_nil ?_
  repeat first | with_reducible refine in_normal ?_ | with_reducible refine then_normal ?_ | with_reducible refine then_ret ?_ | with_reducible refine in_ret ?_ | with_reducible refine then_exit ?_ | with_reducible refine in_here ?_ | with_reducible refine in_other rfl ?_
  repeat with_reducible refine wp_seq ?_
  refine wp_ret ?_
  repeat first | with_reducible refine in_normal ?_ | with_reducible refine then_normal ?_ | with_reducible refine then_ret ?_ | with_reducible refine in_ret ?_ | with_reducible refine then_exit ?_ | with_reducible refine in_here ?_ | with_reducible refine in_other rfl ?_
  refine fin_ret (vs := [.nilIface]) hs (.tmp (hs.slots _ _ rfl) .nil) ⟨A2, c2, rfl, (((hs.mem.to 2 rfl).drop.to 1 rfl).to 1 rfl)⟩
set_option maxRecDepth 100000 in
theorem builder_WriteString (g : Nat) (p : Option Addr) (hp : p = none ∨ p = some ⟨g, 0, none⟩) (A : Option Addr) (n c : Nat) (xs : List Value) (s : ByteArray) (hn : n + s.size ≤ 100000000) (bs : List Res) (w0 w : World) (h : H w0 (pt g #[.pointer p, .slice A n c] 62 :: row 5 1 (.slice A n c) n xs :: bs) w) :
    Calls Tryd.prog 38 #[.pointer (some ⟨g, 0, none⟩), .string s] w fun e w' => ∃ A' c', e = .returned (.tuple #[.int .i64 (s.size : Int), .nilIface]) ∧ H w0 (pt g #[.pointer (some ⟨g, 0, none⟩), .slice A' (n + s.size) c'] 62 :: row 5 1 (.slice A' (n + s.size) c') (n + s.size) (xs ++ Lib.strCells s) :: bs) w' := by
  refine calls_enter (N := 19) (n := 17) (args := [.pointer (some ⟨g, 0, none⟩), .string s]) Tryd.func38 rfl rfl rfl h (fun a hs => ?_)
  repeat with_reducible refine wp_seq ?_
  refine wp_region_lit (go hs (pA rfl <| pA rfl <| ?_)); clear hs a; intro a hs
  refine wpList_nil ?_
  repeat first | with_reducible refine in_normal ?_ | with_reducible refine then_normal ?_ | with_reducible refine then_ret ?_ | with_reducible refine in_ret ?_ | with_reducible refine then_exit ?_ | with_reducible refine in_here ?_ | with_reducible refine in_other rfl ?_
  repeat with_reducible refine wp_seq ?_
  refine wp_region_lit (go hs (pM rfl <| ?_)); clear hs a; intro a hs
  refine a_eff rfl (e_callX Tryd.func69 rfl rfl hs rfl rfl (builder_copyCheck g p hp _ _ w0 _ hs.mem) (fun e w ⟨he, hm⟩ => ⟨_, he, _, hm, ?_⟩)); clear hs a; intro a hs
  refine wpList_nil ?_
  repeat first | with_reducible refine in_normal ?_ | with_reducible refine then_normal ?_ | with_reducible refine then_ret ?_ | with_reducible refine in_ret ?_ | with_reducible refine then_exit ?_ | with_reducible refine in_here ?_ | with_reducible refine in_other rfl ?_
  repeat with_reducible refine wp_seq ?_
  refine wp_region_lit (go hs (pM rfl <| pM rfl <| pV rfl (fun a hs => y_nilchk hs rfl) <| pV rfl (fun a hs => y_faddr (k' := 1) 1 hs (by kernel_rfl) rfl rfl) <| pV rfl (fun a hs => y_load hs Tryd.underlying60 rfl rfl (fun w hw => (hw.to 0 rfl).cellV rfl)) <| pM rfl <| ?_)); clear hs a; intro a hs
  refine a_eff rfl (e_appendS 1 rfl hs rfl Tryd.underlying60 Tryd.underlying9 (by kernel_rfl) rfl rfl (by unfold maxLen; omega) (by omega) ?_); clear hs a; intro A2 c2 a w hs
  refine go hs (pV rfl (fun a hs => y_nilchk hs rfl) <| pV rfl (fun a hs => y_faddr (k' := 1) 1 hs (by kernel_rfl) rfl rfl) <| ?_); clear hs a; intro a hs
  refine a_eff rfl (e_store (cl := [_, _]) 1 rfl hs rfl rfl (by kernel_rfl) rfl rfl rfl ?_); clear hs a; intro a w hs
  refine wpList_nil ?_
  repeat first | with_reducible refine in_normal ?_ | with_reducible refine then_normal ?_ | with_reducible refine then_ret ?_ | with_reducible refine in_ret ?_ | with_reducible refine then_exit ?_ | with_reducible refine in_here ?_ | with_reducible refine in_other rfl ?_
  repeat with_reducible refine wp_seq ?_
  refine wp_region_lit (go hs (pM rfl <| pV rfl (fun a hs => y_lenS hs Tryd.underlying9 rfl) <| pA rfl <| pA rfl <| ?_)); clear hs a; intro a hs
  refine wpList_nil ?_
  repeat first | with_reducible refine in_normal ?_ | with_reducible refine then_normal ?_ | with_reducible refine then_ret ?_ | with_reducible refine in_ret ?_ | with_reducible refine then_exit ?_ | with_reducible refine in_here ?_ | with_reducible refine in_other rfl ?_
  repeat with_reducible refine wp_seq ?_
  refine wp_ret ?_
  repeat first | with_reducible refine in_normal ?_ | with_reducible refine then_normal ?_ | with_reducible refine then_ret ?_ | with_reducible refine in_ret ?_ | with_reducible refine then_exit ?_ | with_reducible refine in_here ?_ | with_reducible refine in_other rfl ?_
  refine fin_ret (vs := [.int .i64 (s.size : Int), .nilIface]) hs (.tmp (hs.slots _ _ rfl) (.tmp (hs.slots _ _ rfl) .nil)) ⟨A2, c2, rfl, ((hs.mem.to 1 rfl).to 1 rfl)⟩
set_option maxRecDepth 100000 in
theorem builder_Len (g : Nat) (p : Option Addr) (A : Option Addr) (n c : Nat) (bs : List Res) (w0 w : World) (h : H w0 (pt g #[.pointer p, .slice A n c] 62 :: bs) w) :
    Calls Tryd.prog 39 #[.pointer (some ⟨g, 0, none⟩)] w fun e w' => e = .returned (.int .i64 (n : Int)) ∧ H w0 (pt g #[.pointer p, .slice A n c] 62 :: bs) w' := by
  refine calls_enter (N := 8) (n := 7) (args := [.pointer (some ⟨g, 0, none⟩)]) Tryd.func39 rfl rfl rfl h (fun a hs => ?_)
  repeat with_reducible refine wp_seq ?_
  refine wp_region_lit (go hs (pA rfl <| ?_)); clear hs a; intro a hs
  refine wpList_nil ?_
  repeat first | with_reducible refine in_normal ?_ | with_reducible refine then_normal ?_ | with_reducible refine then_ret ?_ | with_reducible refine in_ret ?_ | with_reducible refine then_exit ?_ | with_reducible refine in_here ?_ | with_reducible refine in_other rfl ?_
  repeat with_reducible refine wp_seq ?_
  refine wp_region_lit (go hs (pM rfl <| pV rfl (fun a hs => y_nilchk hs rfl) <| pV rfl (fun a hs => y_faddr (k' := 1) 1 hs (by kernel_rfl) rfl rfl) <| pV rfl (fun a hs => y_load hs Tryd.underlying60 rfl rfl (fun w hw => (hw.to 0 rfl).cellV rfl)) <| pV rfl (fun a hs => y_lenL hs Tryd.underlying60 rfl) <| pA rfl <| ?_)); clear hs a; intro a hs
  refine wpList_nil ?_
  repeat first | with_reducible refine in_normal ?_ | with_reducible refine then_normal ?_ | with_reducible refine then_ret ?_ | with_reducible refine in_ret ?_ | with_reducible refine then_exit ?_ | with_reducible refine in_here ?_ | with_reducible refine in_other rfl ?_
  repeat with_reducible refine wp_seq ?_
  refine wp_ret ?_
  repeat first | with_reducible refine in_normal ?_ | with_reducible refine then_normal ?_ | with_reducible refine then_ret ?_ | with_reducible refine in_ret ?_ | with_reducible refine then_exit ?_ | with_reducible refine in_here ?_ | with_reducible refine in_other rfl ?_
  refine fin_ret (vs := [.int .i64 (n : Int)]) hs (.tmp (hs.slots _ _ rfl) .nil) ⟨rfl, hs.mem⟩
/-- String, by the shelf's contract. -/
theorem builder_String (g : Nat) (p : Option Addr) (hp : p = none ∨ p = some ⟨g, 0, none⟩) (A : Option Addr) (n c : Nat) (s : ByteArray) (hn : n = s.size) (bs : List Res) (w0 w : World) (h : H w0 (pt g #[.pointer p, .slice A n c] 62 :: row 5 1 (.slice A n c) n (Lib.strCells s) :: bs) w) :
    Calls Tryd.prog 40 #[.pointer (some ⟨g, 0, none⟩)] w fun e w' => e = .returned (.string s) ∧ Below w0.heap.size w w' := by
  have h1 := h.own _ (.head _)
  have h2 := h.own _ (.tail _ (.head _))
  have hne : (Value.slice A n c).ownBlock ≠ some g := fun e => ((List.pairwise_cons.1 h.apart).1 _ (.head _)) g rfl e
  have hrow : w.ownsRow 0 5 1 (.slice A n c) n (Lib.strCells s) := h2.1
  have hown : w.ownsRow w0.heap.size 5 1 (.slice A n c) n (Lib.strCells s) := by
    refine ⟨hrow.1, ?_⟩
    rcases hrow.2 with h0 | ⟨k, cap, cur, hv, _, hr⟩
    · exact .inl h0
    · exact .inr ⟨k, cap, cur, hv, (h2.2 k (show (Value.slice A n c).ownBlock = some k by rw [hv]; rfl)).1, hr⟩
  have hlen : (Lib.byteCells s.data.toList).length = n := by rw [Lib.byteCells_length, hn]; rfl
  have hat : Lib.BuilderAt 62 5 w0.heap.size g (.pointer p) (Lib.byteCells s.data.toList) w := by
    refine ⟨(h1.2 g rfl).1, .slice A n c, h.cells, ?_, hne⟩
    rw [hlen]; exact hown
  have hb : Lib.IsBuilder 62 5 w0.heap.size g (Lib.byteCells s.data.toList) w := by
    rcases hp with rfl | rfl
    · exact .inl hat
    · exact .inr hat
  have hr := Tryd.Builder_String_any w0.heap.size g s.data.toList w hb h.base.size
  rw [show (⟨s.data.toList.toArray⟩ : ByteArray) = s by cases s; simp] at hr
  exact hr
end Go.Proofs.YtibaidddhmdafaaDoor.E
end
