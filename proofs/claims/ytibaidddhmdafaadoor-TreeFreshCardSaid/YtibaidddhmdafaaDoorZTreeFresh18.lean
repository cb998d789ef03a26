/- What YtibaidddhmdafaaDoorRTreeFresh's proof reaches of its texts, part 18. Conditions: as each says. -/
import Derived.ArgAppend
import Derived.Below
import Derived.BigCall
import Derived.BigQuiet
import Derived.Deep.AppendLies
import Derived.Deep.CutBlock
import Derived.Deep.DeepCutAuto
import Derived.Deep.Draws
import Derived.Deep.LoopGhost
import Derived.Deep.OwnRows
import Derived.Deep.QuietTactic
import Derived.Deep.RegionHeld3
import Derived.Deep.WholeRow
import Derived.KernelRfl
import Derived.Laws.AppendOwn
import Derived.Laws.BitsLemmas
import Derived.Laws.BytesArg
import Derived.Laws.CopyRow
import Derived.Laws.Externs
import Derived.Laws.IdiomCopy
import Derived.Laws.MakeOwn
import Derived.Laws.OwnMore
import Derived.Laws.Rows
import Derived.Laws.Slices
import Derived.Laws.StructEq
import Derived.Laws.Tables
import Derived.Lib.AppendStr
import Derived.Lib.Builder
import Derived.Lib.Bytealg
import Derived.Lib.ConvBytes
import Derived.Lib.ItoaLen
import Derived.Lib.ItoaMem
import Derived.Lib.LaidTab
import Derived.Lib.Strings
import Derived.Lib.Walk
import Derived.Maps.AppendAt
import Derived.OrdersHeld
import Derived.OwnWalk
import Derived.RowKit
import Derived.RowKit3
import Derived.ScopeJumps
import Derived.Shelf.LaysM
import Derived.Shelf.Strconv.Itoa3
import Derived.Shelf.Strings.Builder1
import Derived.Sort.Grow
import Derived.Tactics
import Derived.Test.YtibaidddhmdafaaDoorProg
import Derived.WalkKit
import Derived.WideLaws
import Derived.Test.YtibaidddhmdafaaDoorZTreeFresh16
import Derived.Test.YtibaidddhmdafaaDoorZTreeFresh17
section
namespace Go.Proofs.YtibaidddhmdafaaDoor.E
open Go Go.RowKit Go.Proofs.YtibaidddhmdafaaDoorW.PrintWords Go.Proofs.YtibaidddhmdafaaDoorW.PrintLast Go.Proofs.YtibaidddhmdafaaDoorW.PrintMore Go.Proofs.YtibaidddhmdafaaDoor.PA
set_option linter.unusedVariables false
set_option linter.unusedSimpArgs false
set_option maxRecDepth 100000 in
theorem w_between {α : Type} (g fid : Nat) (fn : Func) (caps : List Value) (s : ByteArray) (f : α → List XT) (l : List α) (toks : List XT) (A1 : Option Addr) (c1 : Nat) (bs : List Res) (w0 w : World) (hfn : Tryd.prog.funcs[fid]? = some fn) (hnm : (fn.name == "runtime.NumGoroutine") = false) (hbd : fn.body.isNone = false) (hz : s.size ≤ 9223372036854775807) (hl : l.length ≤ 1000000) (hf : ∀ (i : Nat) (p : α), l[i]? = some p → ∀ (toks1 : List XT) (A1 : Option Addr) (c1 : Nat) (w1 : World), toks1.length + (f p).length ≤ 800000 → H w0 (pt g #[.slice A1 (toks1).length c1] 90 :: row 94 5 (.slice A1 (toks1).length c1) (toks1).length ((toks1).flatMap tokC) :: bs) w1 → Calls Tryd.prog fid (.int .i64 ((i : Nat) : Int) :: caps).toArray w1 fun e w' => ∃ A2 c2, e = .returned (.tuple #[]) ∧ H w0 (pt g #[.slice A2 (toks1 ++ f p).length c2] 90 :: row 94 5 (.slice A2 (toks1 ++ f p).length c2) (toks1 ++ f p).length ((toks1 ++ f p).flatMap tokC) :: bs) w') (ht : toks.length + (btw s f false l).length ≤ 800000) (h : H w0 (pt g #[.slice A1 (toks).length c1] 90 :: row 94 5 (.slice A1 (toks).length c1) (toks).length ((toks).flatMap tokC) :: bs) w) :
    Calls Tryd.prog 92 #[.pointer (some ⟨g, 0, none⟩), .int .i64 (l.length : Int), .string s, .func (.func fid) #[] caps.toArray] w fun e w' => ∃ A7 c7, e = .returned (.tuple #[]) ∧ H w0 (pt g #[.slice A7 (toks ++ btw s f false l).length c7] 90 :: row 94 5 (.slice A7 (toks ++ btw s f false l).length c7) (toks ++ btw s f false l).length ((toks ++ btw s f false l).flatMap tokC) :: bs) w' := by
  refine calls_enter (N := 23) (n := 19) (args := [.pointer (some ⟨g, 0, none⟩), .int .i64 (l.length : Int), .string s, .func (.func fid) #[] caps.toArray]) Tryd.func92 rfl rfl rfl (h) (fun a hs => ?_)
  refine wp_seq (wp_region_lit ?_)
  refine go hs (pM rfl <| pM rfl <| ?_); clear hs a; intro a hs
  refine wpList_nil (then_normal (wp_block ?_))
  refine wp_loopN (fun m a w1 => ∃ (i : Nat) (A2 : Option Addr) (c2 : Nat), (i + m = l.length) ∧ St 23 w0 [(0, .pointer (some ⟨g, 0, none⟩)), (2, .string s), (3, .func (.func fid) #[] caps.toArray), (9, .int .i64 (l.length : Int)), (10, .int .i64 ((i : Nat) : Int))] (pt g #[.slice A2 (toks ++ btw s f false (l.take i)).length c2] 90 :: row 94 5 (.slice A2 (toks ++ btw s f false (l.take i)).length c2) (toks ++ btw s f false (l.take i)).length ((toks ++ btw s f false (l.take i)).flatMap tokC) :: bs) a w1) (l.length) ⟨0, A1, c1, by omega, ?_⟩ (fun m a w1 hJ => ?_)
  · rw [show toks = toks ++ btw s f false (l.take 0) by simp [btw]] at hs
    exact (hs.mem_to ((hs.mem.to 1 rfl).to 1 rfl)).cut _ ⟨rfl, rfl, rfl, rfl, rfl, trivial⟩
  clear hs
  obtain ⟨i, A2, c2, hi, hs⟩ := hJ
  refine wp_seq (wp_region_lit ?_)
  refine go hs (pV rfl (fun a hs => y_cmp hs rfl rfl rfl) <| ?_); clear hs a; intro a hs
  refine wpList_nil (then_normal (wp_seq ?_))
  refine wp_cond_split (hs.ev rfl) (fun h11 => ?_) (fun h11 => ?_)
  · replace h11 := of_decide_eq_true h11
    obtain ⟨p, hp⟩ : ∃ p, l[i]? = some p := ⟨_, List.getElem?_eq_getElem (by omega)⟩
    have htk := btw_take (s := s) (f := f) hp
    have hbl := btw_take_len (s := s) (f := f) l (i + 1)
    rw [htk] at hbl
    refine wp_skip (then_normal (wp_seq ?_))
    refine wp_block (wp_seq ?_)
    refine wp_region_lit (go hs (pM rfl <| pA rfl <| ?_)); clear hs a; intro a hs
    refine wpList_nil (then_normal (wp_seq ?_))
    refine wp_seq (wp_region_lit ?_)
    refine go hs (pM rfl <| pV rfl (fun a hs => y_cmp hs rfl rfl rfl) <| ?_); clear hs a; intro a hs
    refine wpList_nil (then_normal ?_)
    refine wp_cond_split (hs.ev rfl) (fun h14 => ?_) (fun h14 => ?_)
    · replace h14 := of_decide_eq_true h14
      rw [if_pos (show 0 < i by omega)] at hbl htk
      simp only [List.length_append, List.length_cons, List.length_nil] at hbl
      refine wp_region_lit (go hs (pM rfl <| pM rfl <| ?_)); clear hs a; intro a hs
      refine a_eff rfl (e_bslice (z := .string ⟨#[]⟩) (size := 1) (zc := #[.string ⟨#[]⟩]) (cl := [_]) hs rfl Tryd.underlying116 (by kernel_rfl) rfl rfl rfl (by kernel_rfl) (by rfl) rfl ?_); clear hs a; intro ga a w hs
      refine a_eff rfl (e_callX Tryd.func65 rfl rfl hs rfl rfl (w_say g ga [s] (toks ++ btw s f false (l.take i)) _ _ 1 _ _ w0 _ (fun t ht => by simp only [List.mem_cons, List.not_mem_nil, or_false] at ht; rcases ht with rfl <;> first | decide | omega | exact hz) (by first | omega | (simp only [List.length_cons, List.length_append, List.length_nil, List.map_cons, List.map_nil]; omega)) ((hs.mem.to 2 rfl).to 2 rfl)) (fun e w1 ⟨A11, c11, he, hm⟩ => ⟨_, he, _, hm, ?_⟩)); clear hs a; intro a hs
      refine wpList_nil (then_normal (wp_region_lit ?_))
      refine go hs (pM rfl <| pM rfl <| ?_); clear hs a; intro a hs
      refine a_eff rfl (e_callF hfn hnm hbd hs rfl rfl rfl (hf i p hp ((toks ++ btw s f false (l.take i) ++ [sayT (s)])) _ _ _ (by first | omega | (simp only [List.length_cons, List.length_append, List.length_nil, List.map_cons, List.map_nil]; omega)) (((hs.mem.to 2 rfl).drop.to 1 rfl).to 1 rfl)) (fun e w1 ⟨A12, c12, he, hm⟩ => ⟨_, he, _, hm, ?_⟩)); clear hs a; intro a hs
      refine wpList_nil (in_normal (then_normal (wp_region_lit ?_)))
      refine go hs (pV rfl (fun a hs => y_add hs rfl rfl (by omega)) <| pM rfl <| ?_); clear hs a; intro a hs
      refine wpList_nil (then_normal ?_)
      have hacc : ((toks ++ btw s f false (l.take i) ++ [sayT (s)]) ++ f p) = toks ++ btw s f false (l.take (i + 1)) := by rw [htk]; simp only [List.append_assoc, List.nil_append]
      rw [hacc] at hs
      refine ⟨m - 1, by omega, i + 1, A12, c12, by omega, ?_⟩
      exact (hs.mem_to ((hs.mem.to 1 rfl).to 1 rfl)).cut _ ⟨rfl, rfl, rfl, rfl, rfl, trivial⟩
    replace h14 := of_decide_eq_false h14
    rw [if_neg (show ¬ 0 < i by omega)] at hbl htk
    simp only [List.length_append, List.length_nil] at hbl
    refine wp_skip (then_normal (wp_region_lit ?_))
    refine go hs (pM rfl <| pM rfl <| ?_); clear hs a; intro a hs
    refine a_eff rfl (e_callF hfn hnm hbd hs rfl rfl rfl (hf i p hp (toks ++ btw s f false (l.take i)) _ _ _ (by first | omega | (simp only [List.length_cons, List.length_append, List.length_nil, List.map_cons, List.map_nil]; omega)) ((hs.mem.to 1 rfl).to 1 rfl)) (fun e w1 ⟨A11, c11, he, hm⟩ => ⟨_, he, _, hm, ?_⟩)); clear hs a; intro a hs
    refine wpList_nil (in_normal (then_normal (wp_region_lit ?_)))
    refine go hs (pV rfl (fun a hs => y_add hs rfl rfl (by omega)) <| pM rfl <| ?_); clear hs a; intro a hs
    refine wpList_nil (then_normal ?_)
    have hacc : (toks ++ btw s f false (l.take i) ++ f p) = toks ++ btw s f false (l.take (i + 1)) := by rw [htk]; simp only [List.append_assoc, List.nil_append]
    rw [hacc] at hs
    refine ⟨m - 1, by omega, i + 1, A11, c11, by omega, ?_⟩
    exact (hs.mem_to ((hs.mem.to 1 rfl).to 1 rfl)).cut _ ⟨rfl, rfl, rfl, rfl, rfl, trivial⟩
  replace h11 := of_decide_eq_false h11
  rw [List.take_of_length_le (by omega)] at hs
  refine wp_exit (then_exit (then_exit (in_here ?_)))
  refine fin_end hs .nil ⟨A2, c2, rfl, ((hs.mem.to 1 rfl).to 1 rfl)⟩
set_option maxRecDepth 100000 in
theorem exprs_put (g g2 g3 i : Nat) (l : List XE) (A : Option Addr) (c : Nat) (p : XE) (toks : List XT) (A1 : Option Addr) (c1 : Nat) (bs : List Res) (w0 w : World) (hA : Kd.C k25 w0 A l.length l) (hp : l[i]? = some p) (hS : shapeX 16 p) (ht : toks.length + (toksX 16 p).length ≤ 800000) (h : H w0 (pt g #[.slice A1 (toks).length c1] 90 :: row 94 5 (.slice A1 (toks).length c1) (toks).length ((toks).flatMap tokC) :: pt g2 #[.pointer (some ⟨g, 0, none⟩)] 53 :: pt g3 #[.slice A l.length c] 23 :: bs) w) :
    Calls Tryd.prog 107 #[.int .i64 ((i : Nat) : Int), .pointer (some ⟨g2, 0, none⟩), .pointer (some ⟨g3, 0, none⟩)] w fun e w' => ∃ A7 c7, e = .returned (.tuple #[]) ∧ H w0 (pt g #[.slice A7 (toks ++ toksX 16 p).length c7] 90 :: row 94 5 (.slice A7 (toks ++ toksX 16 p).length c7) (toks ++ toksX 16 p).length ((toks ++ toksX 16 p).flatMap tokC) :: pt g2 #[.pointer (some ⟨g, 0, none⟩)] 53 :: pt g3 #[.slice A l.length c] 23 :: bs) w' := by
  refine calls_enter (N := 10) (n := 7) (args := [.int .i64 ((i : Nat) : Int), .pointer (some ⟨g2, 0, none⟩), .pointer (some ⟨g3, 0, none⟩)]) Tryd.func107 rfl rfl rfl (h) (fun a hs => ?_)
  obtain ⟨g1, o1, rfl, hcell1⟩ := C_atG (show 0 < 6 by decide) hA (by have := (List.getElem?_eq_some_iff.1 hp).1; omega)
  obtain ⟨cs1, hK1, hc1⟩ := hcell1 i p hp
  obtain ⟨D1, d1, rfl, e1, C1⟩ := k25_open hK1
  have hil := (List.getElem?_eq_some_iff.1 hp).1
  have hcl := C_len hA
  refine b_enter [2, 3] (by kernel_rfl) hs #[false, false, false, false, false, false] (by rfl) 6 (by rfl) ?_; clear hs; intro w hs
  refine b_take 0 rfl #[true, false, false, false, false, false] rfl (by kernel_rfl) hs ((((hs.mem.to 3 rfl).to 3 rfl).first 2)) rfl rfl rfl (fun _ _ _ h => h) (y_load hs Tryd.underlying53 rfl rfl (fun w hw => (hw.to 0 rfl).cellV rfl)) ?_; clear hs a; intro a hs
  refine b_take 1 rfl #[true, true, false, false, false, false] rfl (by kernel_rfl) hs ((((hs.mem.to 3 rfl).to 3 rfl).first 2)) rfl rfl rfl (fun _ _ _ h => h) (y_load hs Tryd.underlying23 rfl rfl (fun w hw => (hw.to 1 rfl).cellV rfl)) ?_; clear hs a; intro a hs
  refine b_take 2 rfl #[true, true, true, false, false, false] rfl (by kernel_rfl) hs ((((hs.mem.to 3 rfl).to 3 rfl).first 2)) rfl rfl rfl (fun _ _ _ h => h) (y_move hs rfl) ?_; clear hs a; intro a hs
  refine b_take 3 rfl #[true, true, true, true, false, false] rfl (by kernel_rfl) hs ((((hs.mem.to 3 rfl).to 3 rfl).first 2)) rfl rfl rfl (fun _ _ _ h => h) (y_idxB (size := 6) (off := o1 + i * 6) hs Tryd.underlying23 (by kernel_rfl) rfl rfl (by omega) (by omega) (by simp)) ?_; clear hs a; intro a hs
  refine b_take 4 rfl #[true, true, true, true, true, false] rfl (by kernel_rfl) hs ((((hs.mem.to 3 rfl).to 3 rfl).first 2)) rfl rfl rfl (fun _ _ _ h => h) (y_loadAgg (vs := [.int .u8 p.f0, .int .i64 p.f1, .string p.f2, .slice D1 p.f3.length d1, .int .i64 p.f4, .int .i64 p.f5]) hs Tryd.underlying24 rfl (by kernel_rfl) rfl (fun w hw k v hk => hc1 w hw.base k v hk)) ?_; clear hs a; intro a hs
  refine b_eff 5 (by kernel_rfl) rfl #[true, true, true, true, true, true] rfl hs rfl (e_callX Tryd.func32 rfl rfl hs rfl rfl (w_expr 16 (by decide) p D1 d1 g (toks) _ _ _ w0 _ C1 hS (by first | omega | (simp only [List.length_cons, List.length_append, List.length_nil, List.map_cons, List.map_nil]; omega)) ((hs.mem.to 1 rfl).to 1 rfl)) (fun e w1 ⟨A21, c21, he, hm⟩ => ⟨_, he, _, hm, ?_⟩)); clear hs a; intro a hs
  refine ⟨(((hs.mem.to 3 rfl).to 3 rfl).first 2), ?_⟩
  refine b_done (by kernel_rfl) ?_
  refine fin_end hs .nil ⟨A21, c21, rfl, ((((hs.mem.to 3 rfl).to 3 rfl).to 3 rfl).to 3 rfl)⟩
set_option maxRecDepth 100000 in
theorem w_exprs (g : Nat) (l : List XE) (A : Option Addr) (c : Nat) (toks : List XT) (A1 : Option Addr) (c1 : Nat) (bs : List Res) (w0 w : World) (hA : Kd.C k25 w0 A l.length l) (h64 : l.length ≤ 64) (hS : ∀ p ∈ l, shapeX 16 p) (ht : toks.length + (exT l).length ≤ 800000) (h : H w0 (pt g #[.slice A1 (toks).length c1] 90 :: row 94 5 (.slice A1 (toks).length c1) (toks).length ((toks).flatMap tokC) :: bs) w) :
    Calls Tryd.prog 94 #[.pointer (some ⟨g, 0, none⟩), .slice A l.length c] w fun e w' => ∃ A7 c7, e = .returned (.tuple #[]) ∧ H w0 (pt g #[.slice A7 (toks ++ exT l).length c7] 90 :: row 94 5 (.slice A7 (toks ++ exT l).length c7) (toks ++ exT l).length ((toks ++ exT l).flatMap tokC) :: bs) w' := by
  refine calls_enter (N := 9) (n := 7) (args := [.pointer (some ⟨g, 0, none⟩), .slice A l.length c]) Tryd.func94 rfl rfl rfl (h) (fun a hs => ?_)
  refine wp_seq (wp_region_lit ?_)
  refine a_eff rfl (e_box (cs := #[_]) hs rfl rfl rfl ?_); clear hs a; intro g2 a w hs
  refine a_eff rfl (e_box (cs := #[_]) hs rfl rfl rfl ?_); clear hs a; intro g3 a w hs
  refine wpList_nil (then_normal (wp_region_lit ?_))
  refine go hs (pV rfl (fun a hs => y_load hs Tryd.underlying53 rfl rfl (fun w hw => (hw.to 1 rfl).cellV rfl)) <| pV rfl (fun a hs => y_load hs Tryd.underlying23 rfl rfl (fun w hw => (hw.to 0 rfl).cellV rfl)) <| pV rfl (fun a hs => y_lenL hs Tryd.underlying23 rfl) <| pV rfl (fun a hs => y_func hs rfl rfl) <| ?_); clear hs a; intro a hs
  refine a_eff rfl (e_callX Tryd.func92 rfl rfl hs rfl rfl (w_between g 107 _ [.pointer (some ⟨g2, 0, none⟩), .pointer (some ⟨g3, 0, none⟩)] ⟨#[44]⟩ (toksX 16) l toks A1 c1 _ w0 _ Tryd.func107 rfl rfl (by decide) (by omega) (fun i p hp toks1 A1 c1 w1 hb h => exprs_put g g2 g3 i l A c p toks1 A1 c1 _ w0 w1 hA hp (hS p (List.mem_of_getElem? hp)) hb h) ht (((hs.mem.to 1 rfl).to 3 rfl).to 3 rfl)) (fun e w1 ⟨A2, c2, he, hm⟩ => ⟨_, he, _, hm, ?_⟩)); clear hs a; intro a hs
  refine wpList_nil ?_
  refine fin_end hs .nil ⟨A2, c2, rfl, ((((hs.mem.to 2 rfl).drop.to 2 rfl).drop.to 1 rfl).to 1 rfl)⟩
def PutSOk (n : Nat) : Prop := ∀ (s : XS) (A2 A3 A4 : Option Addr) (c2 c3 c4 g : Nat) (toks : List XT) (A1 : Option Addr) (c1 : Nat) (bs : List Res) (w0 w : World), Kd.C k25 w0 A2 s.f2.length s.f2 → Kd.C k42 w0 A3 s.f3.length s.f3 → Kd.C (Kd.slice 25 k25) w0 A4 s.f4.length s.f4 → goodS n s → toks.length + (toksS n s).length ≤ 800000 → H w0 (pt g #[.slice A1 (toks).length c1] 90 :: row 94 5 (.slice A1 (toks).length c1) (toks).length ((toks).flatMap tokC) :: bs) w → Calls Tryd.prog 67 #[.pointer (some ⟨g, 0, none⟩), .agg #[.int .u8 s.f0, .string s.f1, .slice A2 s.f2.length c2, .slice A3 s.f3.length c3, .slice A4 s.f4.length c4, .int .i64 s.f5, .int .i64 s.f6]] w fun e w' => ∃ A5 c5, e = .returned (.tuple #[]) ∧ H w0 (pt g #[.slice A5 (toks ++ toksS n s).length c5] 90 :: row 94 5 (.slice A5 (toks ++ toksS n s).length c5) (toks ++ toksS n s).length ((toks ++ toksS n s).flatMap tokC) :: bs) w'
set_option maxRecDepth 100000 in
theorem rows_put (g g2 gx i : Nat) (s : XS) (A2 A3 A4 : Option Addr) (c2 c3 c4 : Nat) (p : List XE) (toks : List XT) (A1 : Option Addr) (c1 : Nat) (bs : List Res) (w0 w : World) (hA4 : Kd.C (Kd.slice 25 k25) w0 A4 s.f4.length s.f4) (hp : s.f4[i]? = some p) (h64 : p.length ≤ 64) (hS : ∀ q ∈ p, shapeX 16 q) (ht : toks.length + (exT p).length ≤ 800000) (h : H w0 (pt g #[.slice A1 (toks).length c1] 90 :: row 94 5 (.slice A1 (toks).length c1) (toks).length ((toks).flatMap tokC) :: pt g2 #[.pointer (some ⟨g, 0, none⟩)] 53 :: pt gx #[.int .u8 s.f0, .string s.f1, .slice A2 s.f2.length c2, .slice A3 s.f3.length c3, .slice A4 s.f4.length c4, .int .i64 s.f5, .int .i64 s.f6] 42 :: bs) w) :
    Calls Tryd.prog 93 #[.int .i64 ((i : Nat) : Int), .pointer (some ⟨g2, 0, none⟩), .pointer (some ⟨gx, 0, none⟩)] w fun e w' => ∃ A7 c7, e = .returned (.tuple #[]) ∧ H w0 (pt g #[.slice A7 (toks ++ exT p).length c7] 90 :: row 94 5 (.slice A7 (toks ++ exT p).length c7) (toks ++ exT p).length ((toks ++ exT p).flatMap tokC) :: pt g2 #[.pointer (some ⟨g, 0, none⟩)] 53 :: pt gx #[.int .u8 s.f0, .string s.f1, .slice A2 s.f2.length c2, .slice A3 s.f3.length c3, .slice A4 s.f4.length c4, .int .i64 s.f5, .int .i64 s.f6] 42 :: bs) w' := by
  refine calls_enter (N := 11) (n := 8) (args := [.int .i64 ((i : Nat) : Int), .pointer (some ⟨g2, 0, none⟩), .pointer (some ⟨gx, 0, none⟩)]) Tryd.func93 rfl rfl rfl (h) (fun a hs => ?_)
  obtain ⟨g1, o1, rfl, hcell1⟩ := C_atG (show 0 < 1 by decide) hA4 (by have := (List.getElem?_eq_some_iff.1 hp).1; omega)
  obtain ⟨cs1, hK1, hc1⟩ := hcell1 i p hp
  obtain ⟨D1, d1, rfl, e1, C1⟩ := hK1
  have hil := (List.getElem?_eq_some_iff.1 hp).1
  have hcl := C_len hA4
  refine b_enter [2, 3] (by kernel_rfl) hs #[false, false, false, false, false, false, false] (by rfl) 7 (by rfl) ?_; clear hs; intro w hs
  refine b_take 0 rfl #[true, false, false, false, false, false, false] rfl (by kernel_rfl) hs ((((hs.mem.to 3 rfl).to 3 rfl).first 2)) rfl rfl rfl (fun _ _ _ h => h) (y_load hs Tryd.underlying53 rfl rfl (fun w hw => (hw.to 0 rfl).cellV rfl)) ?_; clear hs a; intro a hs
  refine b_take 1 rfl #[true, true, false, false, false, false, false] rfl (by kernel_rfl) hs ((((hs.mem.to 3 rfl).to 3 rfl).first 2)) rfl rfl rfl (fun _ _ _ h => h) (y_faddr (k' := 4) 4 hs (by kernel_rfl) rfl rfl) ?_; clear hs a; intro a hs
  refine b_take 2 rfl #[true, true, true, false, false, false, false] rfl (by kernel_rfl) hs ((((hs.mem.to 3 rfl).to 3 rfl).first 2)) rfl rfl rfl (fun _ _ _ h => h) (y_load hs Tryd.underlying40 rfl rfl (fun w hw => (hw.to 1 rfl).cellV rfl)) ?_; clear hs a; intro a hs
  refine b_take 3 rfl #[true, true, true, true, false, false, false] rfl (by kernel_rfl) hs ((((hs.mem.to 3 rfl).to 3 rfl).first 2)) rfl rfl rfl (fun _ _ _ h => h) (y_move hs rfl) ?_; clear hs a; intro a hs
  refine b_take 4 rfl #[true, true, true, true, true, false, false] rfl (by kernel_rfl) hs ((((hs.mem.to 3 rfl).to 3 rfl).first 2)) rfl rfl rfl (fun _ _ _ h => h) (y_idxB (size := 1) (off := o1 + i * 1) hs Tryd.underlying40 (by kernel_rfl) rfl rfl (by omega) (by omega) (by simp)) ?_; clear hs a; intro a hs
  refine b_take 5 rfl #[true, true, true, true, true, true, false] rfl (by kernel_rfl) hs ((((hs.mem.to 3 rfl).to 3 rfl).first 2)) rfl rfl rfl (fun _ _ _ h => h) (y_load (v := .slice D1 p.length d1) hs Tryd.underlying23 rfl rfl (fun w hw => hc1 w hw.base 0 _ rfl)) ?_; clear hs a; intro a hs
  refine b_eff 6 (by kernel_rfl) rfl #[true, true, true, true, true, true, true] rfl hs rfl (e_callX Tryd.func94 rfl rfl hs rfl rfl (w_exprs g p D1 d1 (toks) _ _ _ w0 _ C1 h64 hS ht ((hs.mem.to 1 rfl).to 1 rfl)) (fun e w1 ⟨A21, c21, he, hm⟩ => ⟨_, he, _, hm, ?_⟩)); clear hs a; intro a hs
  refine ⟨(((hs.mem.to 3 rfl).to 3 rfl).first 2), ?_⟩
  refine b_done (by kernel_rfl) ?_
  refine fin_end hs .nil ⟨A21, c21, rfl, ((((hs.mem.to 3 rfl).to 3 rfl).to 3 rfl).to 3 rfl)⟩
set_option maxRecDepth 100000 in
theorem parts_put (q g g2 gx i : Nat) (s : XS) (A2 A3 A4 : Option Addr) (c2 c3 c4 : Nat) (p : XS) (toks : List XT) (A1 : Option Addr) (c1 : Nat) (bs : List Res) (w0 w : World) (hA3 : Kd.C k42 w0 A3 s.f3.length s.f3) (hp : s.f3[i]? = some p) (ih : PutSOk q) (hS : goodS q p) (ht : toks.length + (toksS q p).length ≤ 800000) (h : H w0 (pt g #[.slice A1 (toks).length c1] 90 :: row 94 5 (.slice A1 (toks).length c1) (toks).length ((toks).flatMap tokC) :: pt g2 #[.pointer (some ⟨g, 0, none⟩)] 53 :: pt gx #[.int .u8 s.f0, .string s.f1, .slice A2 s.f2.length c2, .slice A3 s.f3.length c3, .slice A4 s.f4.length c4, .int .i64 s.f5, .int .i64 s.f6] 42 :: bs) w) :
    Calls Tryd.prog 95 #[.int .i64 ((i : Nat) : Int), .pointer (some ⟨g2, 0, none⟩), .pointer (some ⟨gx, 0, none⟩)] w fun e w' => ∃ A7 c7, e = .returned (.tuple #[]) ∧ H w0 (pt g #[.slice A7 (toks ++ toksS q p).length c7] 90 :: row 94 5 (.slice A7 (toks ++ toksS q p).length c7) (toks ++ toksS q p).length ((toks ++ toksS q p).flatMap tokC) :: pt g2 #[.pointer (some ⟨g, 0, none⟩)] 53 :: pt gx #[.int .u8 s.f0, .string s.f1, .slice A2 s.f2.length c2, .slice A3 s.f3.length c3, .slice A4 s.f4.length c4, .int .i64 s.f5, .int .i64 s.f6] 42 :: bs) w' := by
  refine calls_enter (N := 11) (n := 8) (args := [.int .i64 ((i : Nat) : Int), .pointer (some ⟨g2, 0, none⟩), .pointer (some ⟨gx, 0, none⟩)]) Tryd.func95 rfl rfl rfl (h) (fun a hs => ?_)
  obtain ⟨g1, o1, rfl, hcell1⟩ := C_atG (show 0 < 7 by decide) hA3 (by have := (List.getElem?_eq_some_iff.1 hp).1; omega)
  obtain ⟨cs1, hK1, hc1⟩ := hcell1 i p hp
  obtain ⟨Q2, q2, Q3, q3, Q4, q4, rfl, i2, G2, i3, G3, i4, G4⟩ := k42_open hK1
  have hil := (List.getElem?_eq_some_iff.1 hp).1
  have hcl := C_len hA3
  refine b_enter [2, 3] (by kernel_rfl) hs #[false, false, false, false, false, false, false] (by rfl) 7 (by rfl) ?_; clear hs; intro w hs
  refine b_take 0 rfl #[true, false, false, false, false, false, false] rfl (by kernel_rfl) hs ((((hs.mem.to 3 rfl).to 3 rfl).first 2)) rfl rfl rfl (fun _ _ _ h => h) (y_load hs Tryd.underlying53 rfl rfl (fun w hw => (hw.to 0 rfl).cellV rfl)) ?_; clear hs a; intro a hs
  refine b_take 1 rfl #[true, true, false, false, false, false, false] rfl (by kernel_rfl) hs ((((hs.mem.to 3 rfl).to 3 rfl).first 2)) rfl rfl rfl (fun _ _ _ h => h) (y_faddr (k' := 3) 3 hs (by kernel_rfl) rfl rfl) ?_; clear hs a; intro a hs
  refine b_take 2 rfl #[true, true, true, false, false, false, false] rfl (by kernel_rfl) hs ((((hs.mem.to 3 rfl).to 3 rfl).first 2)) rfl rfl rfl (fun _ _ _ h => h) (y_load hs Tryd.underlying39 rfl rfl (fun w hw => (hw.to 1 rfl).cellV rfl)) ?_; clear hs a; intro a hs
  refine b_take 3 rfl #[true, true, true, true, false, false, false] rfl (by kernel_rfl) hs ((((hs.mem.to 3 rfl).to 3 rfl).first 2)) rfl rfl rfl (fun _ _ _ h => h) (y_move hs rfl) ?_; clear hs a; intro a hs
  refine b_take 4 rfl #[true, true, true, true, true, false, false] rfl (by kernel_rfl) hs ((((hs.mem.to 3 rfl).to 3 rfl).first 2)) rfl rfl rfl (fun _ _ _ h => h) (y_idxB (size := 7) (off := o1 + i * 7) hs Tryd.underlying39 (by kernel_rfl) rfl rfl (by omega) (by omega) (by simp)) ?_; clear hs a; intro a hs
  refine b_take 5 rfl #[true, true, true, true, true, true, false] rfl (by kernel_rfl) hs ((((hs.mem.to 3 rfl).to 3 rfl).first 2)) rfl rfl rfl (fun _ _ _ h => h) (y_loadAgg (vs := [.int .u8 p.f0, .string p.f1, .slice Q2 p.f2.length q2, .slice Q3 p.f3.length q3, .slice Q4 p.f4.length q4, .int .i64 p.f5, .int .i64 p.f6]) hs Tryd.underlying41 rfl (by kernel_rfl) rfl (fun w hw k v hk => hc1 w hw.base k v hk)) ?_; clear hs a; intro a hs
  refine b_eff 6 (by kernel_rfl) rfl #[true, true, true, true, true, true, true] rfl hs rfl (e_callX Tryd.func67 rfl rfl hs rfl rfl (ih p Q2 Q3 Q4 q2 q3 q4 g (toks) _ _ _ w0 _ G2 G3 G4 hS ht ((hs.mem.to 1 rfl).to 1 rfl)) (fun e w1 ⟨A21, c21, he, hm⟩ => ⟨_, he, _, hm, ?_⟩)); clear hs a; intro a hs
  refine ⟨(((hs.mem.to 3 rfl).to 3 rfl).first 2), ?_⟩
  refine b_done (by kernel_rfl) ?_
  refine fin_end hs .nil ⟨A21, c21, rfl, ((((hs.mem.to 3 rfl).to 3 rfl).to 3 rfl).to 3 rfl)⟩
set_option maxRecDepth 100000 in
theorem w_shape_step (n : Nat) (hn : n ≤ 1000) (ih : ∀ q, q + 1 = n → PutSOk q) (s : XS) (A2 A3 A4 : Option Addr) (c2 c3 c4 g : Nat) (toks : List XT) (A1 : Option Addr) (c1 : Nat) (bs : List Res) (w0 w : World) (hA2 : Kd.C k25 w0 A2 s.f2.length s.f2) (hA3 : Kd.C k42 w0 A3 s.f3.length s.f3) (hA4 : Kd.C (Kd.slice 25 k25) w0 A4 s.f4.length s.f4) (hS : goodS n s) (ht : toks.length + (toksS n s).length ≤ 800000) (h : H w0 (pt g #[.slice A1 (toks).length c1] 90 :: row 94 5 (.slice A1 (toks).length c1) (toks).length ((toks).flatMap tokC) :: bs) w) :
    Calls Tryd.prog 67 #[.pointer (some ⟨g, 0, none⟩), .agg #[.int .u8 s.f0, .string s.f1, .slice A2 s.f2.length c2, .slice A3 s.f3.length c3, .slice A4 s.f4.length c4, .int .i64 s.f5, .int .i64 s.f6]] w fun e w' => ∃ A5 c5, e = .returned (.tuple #[]) ∧ H w0 (pt g #[.slice A5 (toks ++ toksS n s).length c5] 90 :: row 94 5 (.slice A5 (toks ++ toksS n s).length c5) (toks ++ toksS n s).length ((toks ++ toksS n s).flatMap tokC) :: bs) w' := by
  refine calls_enter (N := 50) (n := 48) (args := [.pointer (some ⟨g, 0, none⟩), .agg #[.int .u8 s.f0, .string s.f1, .slice A2 s.f2.length c2, .slice A3 s.f3.length c3, .slice A4 s.f4.length c4, .int .i64 s.f5, .int .i64 s.f6]]) Tryd.func67 rfl rfl rfl (h) (fun a hs => ?_)
  obtain ⟨q, rfl⟩ : ∃ q, n = q + 1 := by cases n with | zero => exact hS.elim | succ q => exact ⟨q, rfl⟩
  have hk1 := hS.1
  have hk2 := hS.2.1
  have hk3 := hS.2.2.2.2.2.2.1
  have hk4 := hS.2.2.2.2.2.2.2.1
  have hk5 := hS.2.2.2.2.2.2.2.2.1
  refine wp_seq (wp_region_lit ?_)
  refine a_eff rfl (e_box (cs := #[_]) hs rfl rfl rfl ?_); clear hs a; intro g2 a w hs
  refine a_eff rfl (e_box (cs := #[_, _, _, _, _, _, _]) hs rfl rfl rfl ?_); clear hs a; intro gx a w hs
  refine wpList_nil (then_normal (wp_seq ?_))
  refine wp_region_lit (go hs (pV rfl (fun a hs => y_arr (zc := #[.string ⟨#[]⟩, .string ⟨#[]⟩, .string ⟨#[]⟩, .string ⟨#[]⟩, .string ⟨#[]⟩, .string ⟨#[]⟩, .string ⟨#[]⟩, .string ⟨#[]⟩, .string ⟨#[]⟩]) (size := 1) (cl := [.string ⟨#[]⟩, .string ⟨#[]⟩, _, _, _, _, _, _, _]) hs (by kernel_rfl) rfl (by rfl) rfl) <| pV rfl (fun a hs => y_faddr (k' := 0) 0 hs (by kernel_rfl) rfl rfl) <| pV rfl (fun a hs => y_load hs Tryd.underlying38 rfl rfl (fun w hw => (hw.to 0 rfl).cellV rfl)) <| pV rfl (fun a hs => y_idxArr (v := .string (wordS s.f0)) hs Tryd.underlying113 Tryd.underlying9 rfl (by kernel_rfl) rfl rfl (by omega) (by omega) (by rcases (show s.f0 = 1 ∨ s.f0 = 2 ∨ s.f0 = 3 ∨ s.f0 = 4 ∨ s.f0 = 5 ∨ s.f0 = 6 ∨ s.f0 = 7 ∨ s.f0 = 8 by omega) with h1 | h1 | h1 | h1 | h1 | h1 | h1 | h1 <;> rw [h1] <;> rfl)) <| pA rfl <| ?_)); clear hs a; intro a hs
  refine wpList_nil (then_normal (wp_seq ?_))
  refine wp_region_lit (go hs (pV rfl (fun a hs => y_faddr (k' := 0) 0 hs (by kernel_rfl) rfl rfl) <| pV rfl (fun a hs => y_load hs Tryd.underlying38 rfl rfl (fun w hw => (hw.to 0 rfl).cellV rfl)) <| ?_)); clear hs a; intro a hs
  refine wpList_nil (then_normal (wp_block ?_))
  refine wp_seq (wp_region_lit ?_)
  refine go hs (pV rfl (fun a hs => y_cmp hs rfl rfl rfl) <| pA rfl <| ?_); clear hs a; intro a hs
  refine wpList_nil (then_normal ?_)
  refine wp_cond_split (hs.ev rfl) (fun h28 => ?_) (fun h28 => ?_)
  · replace h28 := eq_of_beq h28
    have hT : toksS (q + 1) s = [sayT s.f1] := by rw [toksS, if_pos (by omega)]
    rw [hT] at ht
    simp only [List.length_cons, List.length_append, List.length_nil] at ht
    refine wp_region_lit (go hs (pV rfl (fun a hs => y_load hs Tryd.underlying53 rfl rfl (fun w hw => (hw.to 1 rfl).cellV rfl)) <| pV rfl (fun a hs => y_faddr (k' := 1) 1 hs (by kernel_rfl) rfl rfl) <| pV rfl (fun a hs => y_load hs Tryd.underlying9 rfl rfl (fun w hw => (hw.to 0 rfl).cellV rfl)) <| ?_)); clear hs a; intro a hs
    refine a_eff rfl (e_bslice (z := .string ⟨#[]⟩) (size := 1) (zc := #[.string ⟨#[]⟩]) (cl := [_]) hs rfl Tryd.underlying116 (by kernel_rfl) rfl rfl rfl (by kernel_rfl) (by rfl) rfl ?_); clear hs a; intro g1 a w hs
    refine a_eff rfl (e_callX Tryd.func65 rfl rfl hs rfl rfl (w_say g g1 [s.f1] (toks) _ _ 1 _ _ w0 _ (fun t ht => by simp only [List.mem_cons, List.not_mem_nil, or_false] at ht; rcases ht with rfl <;> first | decide | omega | (have := nameOk_size (hS.2.2.1 (by omega)); omega)) (by first | omega | (simp only [List.length_cons, List.length_append, List.length_nil, List.map_cons, List.map_nil]; omega)) ((hs.mem.to 4 rfl).to 4 rfl)) (fun e w1 ⟨A11, c11, he, hm⟩ => ⟨_, he, _, hm, ?_⟩)); clear hs a; intro a hs
    refine wpList_nil (in_normal ?_)
    have hX : toks ++ toksS (q + 1) s = (toks ++ [sayT (s.f1)]) := by rw [hT] <;> simp only [List.append_assoc, List.cons_append, List.nil_append]
    refine fin_end hs .nil ⟨A11, c11, rfl, ?_⟩
    rw [hX]; exact (((((hs.mem.to 2 rfl).drop.to 2 rfl).drop.to 2 rfl).drop.to 1 rfl).to 1 rfl)
  replace h28 := ne_of_beq_false h28
  refine wp_seq (wp_region_lit ?_)
  refine go hs (pV rfl (fun a hs => y_cmp hs rfl rfl rfl) <| pA rfl <| ?_); clear hs a; intro a hs
  refine wpList_nil (then_normal ?_)
  refine wp_cond_split (hs.ev rfl) (fun h35 => ?_) (fun h35 => ?_)
  · replace h35 := eq_of_beq h35
    have h8 : s.f0 = 8 := by omega
    have hT : toksS (q + 1) s = sayT (wordS s.f0) :: sayT ⟨#[91]⟩ :: (btw ⟨#[59]⟩ exT false s.f4 ++ [sayT ⟨#[93]⟩]) := by rw [toksS, if_neg (by omega), if_pos (by omega)]; rw [h8]
    rw [hT] at ht
    simp only [List.length_cons, List.length_append, List.length_nil] at ht
    refine wp_seq (wp_region_lit ?_)
    refine go hs (pV rfl (fun a hs => y_load hs Tryd.underlying53 rfl rfl (fun w hw => (hw.to 1 rfl).cellV rfl)) <| pM rfl <| ?_); clear hs a; intro a hs
    refine a_eff rfl (e_bslice (z := .string ⟨#[]⟩) (size := 1) (zc := #[.string ⟨#[]⟩, .string ⟨#[]⟩]) (cl := [_, _]) hs rfl Tryd.underlying116 (by kernel_rfl) rfl rfl rfl (by kernel_rfl) (by rfl) rfl ?_); clear hs a; intro g1 a w hs
    refine a_eff rfl (e_callX Tryd.func65 rfl rfl hs rfl rfl (w_say g g1 [wordS s.f0, ⟨#[91]⟩] (toks) _ _ 2 _ _ w0 _ (fun t ht => by simp only [List.mem_cons, List.not_mem_nil, or_false] at ht; rcases ht with rfl | rfl <;> first | decide | omega | (have := wordS_size s.f0; omega)) (by first | omega | (simp only [List.length_cons, List.length_append, List.length_nil, List.map_cons, List.map_nil]; omega)) ((hs.mem.to 4 rfl).to 4 rfl)) (fun e w1 ⟨A11, c11, he, hm⟩ => ⟨_, he, _, hm, ?_⟩)); clear hs a; intro a hs
    refine wpList_nil (then_normal (wp_seq ?_))
    refine wp_region_lit (go hs (pV rfl (fun a hs => y_load hs Tryd.underlying53 rfl rfl (fun w hw => (hw.to 4 rfl).cellV rfl)) <| pV rfl (fun a hs => y_faddr (k' := 4) 4 hs (by kernel_rfl) rfl rfl) <| pV rfl (fun a hs => y_load hs Tryd.underlying40 rfl rfl (fun w hw => (hw.to 3 rfl).cellV rfl)) <| pV rfl (fun a hs => y_lenL hs Tryd.underlying40 rfl) <| pV rfl (fun a hs => y_func hs rfl rfl) <| ?_)); clear hs a; intro a hs
    refine a_eff rfl (e_callX Tryd.func92 rfl rfl hs rfl rfl (w_between g 93 _ [.pointer (some ⟨g2, 0, none⟩), .pointer (some ⟨gx, 0, none⟩)] ⟨#[59]⟩ exT s.f4 ((toks ++ [sayT (wordS s.f0), sayT (⟨#[91]⟩)])) _ _ _ w0 _ Tryd.func93 rfl rfl (by decide) (by omega) (fun i p hp toks1 A1 c1 w1 hb h => rows_put g g2 gx i s A2 A3 A4 c2 c3 c4 p toks1 A1 c1 _ w0 w1 hA4 hp (hS.2.2.2.2.2.2.2.2.2 p (List.mem_of_getElem? hp)) (hS.2.2.2.2.2.1 p (List.mem_of_getElem? hp)) hb h) (by first | omega | (simp only [List.length_cons, List.length_append, List.length_nil, List.map_cons, List.map_nil]; omega)) ((((hs.mem.to 3 rfl).to 4 rfl).to 3 rfl).to 3 rfl)) (fun e w1 ⟨A12, c12, he, hm⟩ => ⟨_, he, _, hm, ?_⟩)); clear hs a; intro a hs
    refine wpList_nil (then_normal (wp_region_lit ?_))
    refine go hs (pV rfl (fun a hs => y_load hs Tryd.underlying53 rfl rfl (fun w hw => (hw.to 2 rfl).cellV rfl)) <| ?_); clear hs a; intro a hs
    refine a_eff rfl (e_bslice (z := .string ⟨#[]⟩) (size := 1) (zc := #[.string ⟨#[]⟩]) (cl := [_]) hs rfl Tryd.underlying116 (by kernel_rfl) rfl rfl rfl (by kernel_rfl) (by rfl) rfl ?_); clear hs a; intro g2 a w hs
    refine a_eff rfl (e_callX Tryd.func65 rfl rfl hs rfl rfl (w_say g g2 [⟨#[93]⟩] (((toks ++ [sayT (wordS s.f0), sayT (⟨#[91]⟩)]) ++ btw ⟨#[59]⟩ exT false s.f4)) _ _ 1 _ _ w0 _ (fun t ht => by simp only [List.mem_cons, List.not_mem_nil, or_false] at ht; rcases ht with rfl <;> first | decide | omega | omega) (by first | omega | (simp only [List.length_cons, List.length_append, List.length_nil, List.map_cons, List.map_nil]; omega)) ((hs.mem.to 2 rfl).to 2 rfl)) (fun e w1 ⟨A13, c13, he, hm⟩ => ⟨_, he, _, hm, ?_⟩)); clear hs a; intro a hs
    refine wpList_nil (in_normal ?_)
    have hX : toks ++ toksS (q + 1) s = (((toks ++ [sayT (wordS s.f0), sayT (⟨#[91]⟩)]) ++ btw ⟨#[59]⟩ exT false s.f4) ++ [sayT (⟨#[93]⟩)]) := by rw [hT] <;> simp only [List.append_assoc, List.cons_append, List.nil_append]
    refine fin_end hs .nil ⟨A13, c13, rfl, ?_⟩
    rw [hX]; exact ((((((hs.mem.to 2 rfl).drop.to 2 rfl).drop.to 2 rfl).drop.to 2 rfl).drop.to 1 rfl).to 1 rfl)
  replace h35 := ne_of_beq_false h35
  have hT : toksS (q + 1) s = sayT (wordS s.f0) :: sayT ⟨#[40]⟩ :: (exT s.f2 ++ (btw ⟨#[44]⟩ (toksS q) false s.f3 ++ [sayT ⟨#[41]⟩])) := by rw [toksS, if_neg (by omega), if_neg (by omega)]
  rw [hT] at ht
  simp only [List.length_cons, List.length_append, List.length_nil] at ht
  refine wp_seq (wp_region_lit ?_)
  refine go hs (pV rfl (fun a hs => y_load hs Tryd.underlying53 rfl rfl (fun w hw => (hw.to 1 rfl).cellV rfl)) <| pM rfl <| ?_); clear hs a; intro a hs
  refine a_eff rfl (e_bslice (z := .string ⟨#[]⟩) (size := 1) (zc := #[.string ⟨#[]⟩, .string ⟨#[]⟩]) (cl := [_, _]) hs rfl Tryd.underlying116 (by kernel_rfl) rfl rfl rfl (by kernel_rfl) (by rfl) rfl ?_); clear hs a; intro g1 a w hs
  refine a_eff rfl (e_callX Tryd.func65 rfl rfl hs rfl rfl (w_say g g1 [wordS s.f0, ⟨#[40]⟩] (toks) _ _ 2 _ _ w0 _ (fun t ht => by simp only [List.mem_cons, List.not_mem_nil, or_false] at ht; rcases ht with rfl | rfl <;> first | decide | omega | (have := wordS_size s.f0; omega)) (by first | omega | (simp only [List.length_cons, List.length_append, List.length_nil, List.map_cons, List.map_nil]; omega)) ((hs.mem.to 4 rfl).to 4 rfl)) (fun e w1 ⟨A11, c11, he, hm⟩ => ⟨_, he, _, hm, ?_⟩)); clear hs a; intro a hs
  refine wpList_nil (then_normal (wp_seq ?_))
  refine wp_region_lit (go hs (pV rfl (fun a hs => y_load hs Tryd.underlying53 rfl rfl (fun w hw => (hw.to 4 rfl).cellV rfl)) <| pV rfl (fun a hs => y_faddr (k' := 2) 2 hs (by kernel_rfl) rfl rfl) <| pV rfl (fun a hs => y_load hs Tryd.underlying23 rfl rfl (fun w hw => (hw.to 3 rfl).cellV rfl)) <| ?_)); clear hs a; intro a hs
  refine a_eff rfl (e_callX Tryd.func94 rfl rfl hs rfl rfl (w_exprs g s.f2 A2 c2 ((toks ++ [sayT (wordS s.f0), sayT (⟨#[40]⟩)])) _ _ _ w0 _ hA2 hS.2.2.2.2.2.2.1 hS.2.2.2.1 (by first | omega | (simp only [List.length_cons, List.length_append, List.length_nil, List.map_cons, List.map_nil]; omega)) ((hs.mem.to 1 rfl).to 1 rfl)) (fun e w1 ⟨A12, c12, he, hm⟩ => ⟨_, he, _, hm, ?_⟩)); clear hs a; intro a hs
  refine wpList_nil (then_normal (wp_seq ?_))
  refine wp_region_lit (go hs (pV rfl (fun a hs => y_load hs Tryd.underlying53 rfl rfl (fun w hw => (hw.to 4 rfl).cellV rfl)) <| pV rfl (fun a hs => y_faddr (k' := 3) 3 hs (by kernel_rfl) rfl rfl) <| pV rfl (fun a hs => y_load hs Tryd.underlying39 rfl rfl (fun w hw => (hw.to 3 rfl).cellV rfl)) <| pV rfl (fun a hs => y_lenL hs Tryd.underlying39 rfl) <| pV rfl (fun a hs => y_func hs rfl rfl) <| ?_)); clear hs a; intro a hs
  refine a_eff rfl (e_callX Tryd.func92 rfl rfl hs rfl rfl (w_between g 95 _ [.pointer (some ⟨g2, 0, none⟩), .pointer (some ⟨gx, 0, none⟩)] ⟨#[44]⟩ (toksS q) s.f3 (((toks ++ [sayT (wordS s.f0), sayT (⟨#[40]⟩)]) ++ exT s.f2)) _ _ _ w0 _ Tryd.func95 rfl rfl (by decide) (by omega) (fun i p hp toks1 A1 c1 w1 hb h => parts_put q g g2 gx i s A2 A3 A4 c2 c3 c4 p toks1 A1 c1 _ w0 w1 hA3 hp (ih q rfl) (hS.2.2.2.2.1 p (List.mem_of_getElem? hp)) hb h) (by first | omega | (simp only [List.length_cons, List.length_append, List.length_nil, List.map_cons, List.map_nil]; omega)) ((((hs.mem.to 3 rfl).to 4 rfl).to 3 rfl).to 3 rfl)) (fun e w1 ⟨A13, c13, he, hm⟩ => ⟨_, he, _, hm, ?_⟩)); clear hs a; intro a hs
  refine wpList_nil (then_normal (wp_region_lit ?_))
  refine go hs (pV rfl (fun a hs => y_load hs Tryd.underlying53 rfl rfl (fun w hw => (hw.to 2 rfl).cellV rfl)) <| ?_); clear hs a; intro a hs
  refine a_eff rfl (e_bslice (z := .string ⟨#[]⟩) (size := 1) (zc := #[.string ⟨#[]⟩]) (cl := [_]) hs rfl Tryd.underlying116 (by kernel_rfl) rfl rfl rfl (by kernel_rfl) (by rfl) rfl ?_); clear hs a; intro g2 a w hs
  refine a_eff rfl (e_callX Tryd.func65 rfl rfl hs rfl rfl (w_say g g2 [⟨#[41]⟩] ((((toks ++ [sayT (wordS s.f0), sayT (⟨#[40]⟩)]) ++ exT s.f2) ++ btw ⟨#[44]⟩ (toksS q) false s.f3)) _ _ 1 _ _ w0 _ (fun t ht => by simp only [List.mem_cons, List.not_mem_nil, or_false] at ht; rcases ht with rfl <;> first | decide | omega | omega) (by first | omega | (simp only [List.length_cons, List.length_append, List.length_nil, List.map_cons, List.map_nil]; omega)) ((hs.mem.to 2 rfl).to 2 rfl)) (fun e w1 ⟨A14, c14, he, hm⟩ => ⟨_, he, _, hm, ?_⟩)); clear hs a; intro a hs
  refine wpList_nil (in_normal ?_)
  have hX : toks ++ toksS (q + 1) s = ((((toks ++ [sayT (wordS s.f0), sayT (⟨#[40]⟩)]) ++ exT s.f2) ++ btw ⟨#[44]⟩ (toksS q) false s.f3) ++ [sayT (⟨#[41]⟩)]) := by rw [hT] <;> simp only [List.append_assoc, List.cons_append, List.nil_append]
  refine fin_end hs .nil ⟨A14, c14, rfl, ?_⟩
  rw [hX]; exact ((((((hs.mem.to 2 rfl).drop.to 2 rfl).drop.to 2 rfl).drop.to 2 rfl).drop.to 1 rfl).to 1 rfl)
theorem w_shape : ∀ n : Nat, n ≤ 1000 → PutSOk n := fun n => by
  induction n using Nat.strongRecOn with
  | _ n ih => exact fun hn s A2 A3 A4 c2 c3 c4 g toks A1 c1 bs w0 w hA2 hA3 hA4 hS ht h => w_shape_step n hn (fun q hq => ih q (by omega) (by omega)) s A2 A3 A4 c2 c3 c4 g toks A1 c1 bs w0 w hA2 hA3 hA4 hS ht h
set_option maxRecDepth 100000 in
theorem w_place (x : XI) (A5 A10 A11 A12 A16 : Option Addr) (c5 c10 c11 c12 c16 : Nat) (g : Nat) (toks : List XT) (A1 : Option Addr) (c1 : Nat) (bs : List Res) (w0 w : World) (hA5 : Kd.C k25 w0 A5 x.f2.f3.length x.f2.f3) (hA10 : Kd.C k25 w0 A10 x.f3.f2.length x.f3.f2) (hA11 : Kd.C k42 w0 A11 x.f3.f3.length x.f3.f3) (hA12 : Kd.C (Kd.slice 25 k25) w0 A12 x.f3.f4.length x.f3.f4) (hA16 : Kd.C k25 w0 A16 x.f5.length x.f5) (hG : goodI x) (h5 : x.f0 = 5) (ht : toks.length + (placeT x).length ≤ 800000) (h : H w0 (pt g #[.slice A1 (toks).length c1] 90 :: row 94 5 (.slice A1 (toks).length c1) (toks).length ((toks).flatMap tokC) :: bs) w) :
    Calls Tryd.prog 68 #[.pointer (some ⟨g, 0, none⟩), .agg #[.int .u8 x.f0, .string x.f1, .int .u8 x.f2.f0, .int .i64 x.f2.f1, .string x.f2.f2, .slice A5 x.f2.f3.length c5, .int .i64 x.f2.f4, .int .i64 x.f2.f5, .int .u8 x.f3.f0, .string x.f3.f1, .slice A10 x.f3.f2.length c10, .slice A11 x.f3.f3.length c11, .slice A12 x.f3.f4.length c12, .int .i64 x.f3.f5, .int .i64 x.f3.f6, .int .u8 x.f4, .slice A16 x.f5.length c16, .int .i64 x.f6, .int .i64 x.f7]] w fun e w' => ∃ A7 c7, e = .returned (.tuple #[]) ∧ H w0 (pt g #[.slice A7 (toks ++ placeT x).length c7] 90 :: row 94 5 (.slice A7 (toks ++ placeT x).length c7) (toks ++ placeT x).length ((toks ++ placeT x).flatMap tokC) :: bs) w' := by
  refine calls_enter (N := 40) (n := 38) (args := [.pointer (some ⟨g, 0, none⟩), .agg #[.int .u8 x.f0, .string x.f1, .int .u8 x.f2.f0, .int .i64 x.f2.f1, .string x.f2.f2, .slice A5 x.f2.f3.length c5, .int .i64 x.f2.f4, .int .i64 x.f2.f5, .int .u8 x.f3.f0, .string x.f3.f1, .slice A10 x.f3.f2.length c10, .slice A11 x.f3.f3.length c11, .slice A12 x.f3.f4.length c12, .int .i64 x.f3.f5, .int .i64 x.f3.f6, .int .u8 x.f4, .slice A16 x.f5.length c16, .int .i64 x.f6, .int .i64 x.f7]]) Tryd.func68 rfl rfl rfl (h) (fun a hs => ?_)
  have hpl := hG.2.2.2.2.2.1 h5
  have hpb : toks.length + 1 ≤ 800000 := by have h1 : 1 ≤ (placeT x).length := (by unfold placeT; simp only [List.length_cons]; omega); omega
  refine wp_seq (wp_region_lit ?_)
  refine a_eff rfl (e_box (cs := #[_, _, _, _, _, _, _, _, _, _, _, _, _, _, _, _, _, _, _]) hs rfl rfl rfl ?_); clear hs a; intro gx a w hs
  refine wpList_nil (then_normal (wp_seq ?_))
  refine wp_region_lit (go hs (pM rfl <| ?_)); clear hs a; intro a hs
  refine a_eff rfl (e_bslice (z := .string ⟨#[]⟩) (size := 1) (zc := #[.string ⟨#[]⟩]) (cl := [_]) hs rfl Tryd.underlying116 (by kernel_rfl) rfl rfl rfl (by kernel_rfl) (by rfl) rfl ?_); clear hs a; intro g1 a w hs
  refine a_eff rfl (e_callX Tryd.func65 rfl rfl hs rfl rfl (w_say g g1 [⟨#[112, 108, 97, 99, 101]⟩] (toks) _ _ 1 _ _ w0 _ (fun t ht => by simp only [List.mem_cons, List.not_mem_nil, or_false] at ht; rcases ht with rfl <;> first | decide | omega | omega) (by first | omega | (simp only [List.length_cons, List.length_append, List.length_nil, List.map_cons, List.map_nil]; omega)) ((hs.mem.to 3 rfl).to 3 rfl)) (fun e w1 ⟨A21, c21, he, hm⟩ => ⟨_, he, _, hm, ?_⟩)); clear hs a; intro a hs
  refine wpList_nil (then_normal (wp_seq ?_))
  refine wp_region_lit (go hs (pV rfl (fun a hs => y_faddr (k' := 15) 15 hs (by kernel_rfl) rfl rfl) <| pV rfl (fun a hs => y_load hs Tryd.underlying43 rfl rfl (fun w hw => (hw.to 3 rfl).cellV rfl)) <| ?_)); clear hs a; intro a hs
  refine wpList_nil (then_normal (wp_block ?_))
  refine wp_seq (wp_region_lit ?_)
  refine go hs (pV rfl (fun a hs => y_cmp hs rfl rfl rfl) <| pA rfl <| ?_); clear hs a; intro a hs
  refine wpList_nil (then_normal ?_)
  refine wp_cond_split (hs.ev rfl) (fun h9 => ?_) (fun h9 => ?_)
  · replace h9 := eq_of_beq h9
    have hT : placeT x = sayT ⟨#[112, 108, 97, 99, 101]⟩ :: ([sayT ⟨#[114, 111, 119]⟩]) := by unfold placeT; rw [if_pos (by omega)]
    rw [hT] at ht
    simp only [List.length_cons, List.length_append, List.length_nil] at ht
    refine wp_region_lit (go hs (pM rfl <| ?_)); clear hs a; intro a hs
    refine a_eff rfl (e_bslice (z := .string ⟨#[]⟩) (size := 1) (zc := #[.string ⟨#[]⟩]) (cl := [_]) hs rfl Tryd.underlying116 (by kernel_rfl) rfl rfl rfl (by kernel_rfl) (by rfl) rfl ?_); clear hs a; intro g2 a w hs
    refine a_eff rfl (e_callX Tryd.func65 rfl rfl hs rfl rfl (w_say g g2 [⟨#[114, 111, 119]⟩] ((toks ++ [sayT (⟨#[112, 108, 97, 99, 101]⟩)])) _ _ 1 _ _ w0 _ (fun t ht => by simp only [List.mem_cons, List.not_mem_nil, or_false] at ht; rcases ht with rfl <;> first | decide | omega | omega) (by first | omega | (simp only [List.length_cons, List.length_append, List.length_nil, List.map_cons, List.map_nil]; omega)) ((hs.mem.to 2 rfl).to 2 rfl)) (fun e w1 ⟨A22, c22, he, hm⟩ => ⟨_, he, _, hm, ?_⟩)); clear hs a; intro a hs
    refine wpList_nil (in_normal ?_)
    have hX : toks ++ placeT x = ((toks ++ [sayT (⟨#[112, 108, 97, 99, 101]⟩)]) ++ [sayT (⟨#[114, 111, 119]⟩)]) := by rw [hT]; simp only [List.append_assoc, List.cons_append, List.nil_append]
    refine fin_end hs .nil ⟨A22, c22, rfl, ?_⟩
    rw [hX]; exact (((((hs.mem.to 2 rfl).drop.to 2 rfl).drop.to 2 rfl).drop.to 1 rfl).to 1 rfl)
  replace h9 := ne_of_beq_false h9
  refine wp_seq (wp_region_lit ?_)
  refine go hs (pV rfl (fun a hs => y_cmp hs rfl rfl rfl) <| pA rfl <| ?_); clear hs a; intro a hs
  refine wpList_nil (then_normal ?_)
  refine wp_cond_split (hs.ev rfl) (fun h14 => ?_) (fun h14 => ?_)
  · replace h14 := eq_of_beq h14
    have hT : placeT x = sayT ⟨#[112, 108, 97, 99, 101]⟩ :: ([sayT ⟨#[115, 112, 114, 101, 97, 100]⟩]) := by unfold placeT; rw [if_neg (by omega), if_pos (by omega)]
    rw [hT] at ht
    simp only [List.length_cons, List.length_append, List.length_nil] at ht
    refine wp_region_lit (go hs (pM rfl <| ?_)); clear hs a; intro a hs
    refine a_eff rfl (e_bslice (z := .string ⟨#[]⟩) (size := 1) (zc := #[.string ⟨#[]⟩]) (cl := [_]) hs rfl Tryd.underlying116 (by kernel_rfl) rfl rfl rfl (by kernel_rfl) (by rfl) rfl ?_); clear hs a; intro g2 a w hs
    refine a_eff rfl (e_callX Tryd.func65 rfl rfl hs rfl rfl (w_say g g2 [⟨#[115, 112, 114, 101, 97, 100]⟩] ((toks ++ [sayT (⟨#[112, 108, 97, 99, 101]⟩)])) _ _ 1 _ _ w0 _ (fun t ht => by simp only [List.mem_cons, List.not_mem_nil, or_false] at ht; rcases ht with rfl <;> first | decide | omega | omega) (by first | omega | (simp only [List.length_cons, List.length_append, List.length_nil, List.map_cons, List.map_nil]; omega)) ((hs.mem.to 2 rfl).to 2 rfl)) (fun e w1 ⟨A22, c22, he, hm⟩ => ⟨_, he, _, hm, ?_⟩)); clear hs a; intro a hs
    refine wpList_nil (in_normal ?_)
    have hX : toks ++ placeT x = ((toks ++ [sayT (⟨#[112, 108, 97, 99, 101]⟩)]) ++ [sayT (⟨#[115, 112, 114, 101, 97, 100]⟩)]) := by rw [hT]; simp only [List.append_assoc, List.cons_append, List.nil_append]
    refine fin_end hs .nil ⟨A22, c22, rfl, ?_⟩
    rw [hX]; exact (((((hs.mem.to 2 rfl).drop.to 2 rfl).drop.to 2 rfl).drop.to 1 rfl).to 1 rfl)
  replace h14 := ne_of_beq_false h14
  refine wp_seq (wp_region_lit ?_)
  refine go hs (pV rfl (fun a hs => y_cmp hs rfl rfl rfl) <| pA rfl <| ?_); clear hs a; intro a hs
  refine wpList_nil (then_normal ?_)
  refine wp_cond_split (hs.ev rfl) (fun h19 => ?_) (fun h19 => ?_)
  · replace h19 := eq_of_beq h19
    have hT : placeT x = sayT ⟨#[112, 108, 97, 99, 101]⟩ :: (sayT ⟨#[115, 112, 105, 114, 97, 108]⟩ :: toksX 16 x.f2) := by unfold placeT; rw [if_neg (by omega), if_neg (by omega), if_pos (by omega)]
    rw [hT] at ht
    simp only [List.length_cons, List.length_append, List.length_nil] at ht
    refine wp_seq (wp_region_lit ?_)
    refine go hs (pM rfl <| ?_); clear hs a; intro a hs
    refine a_eff rfl (e_bslice (z := .string ⟨#[]⟩) (size := 1) (zc := #[.string ⟨#[]⟩]) (cl := [_]) hs rfl Tryd.underlying116 (by kernel_rfl) rfl rfl rfl (by kernel_rfl) (by rfl) rfl ?_); clear hs a; intro g2 a w hs
    refine a_eff rfl (e_callX Tryd.func65 rfl rfl hs rfl rfl (w_say g g2 [⟨#[115, 112, 105, 114, 97, 108]⟩] ((toks ++ [sayT (⟨#[112, 108, 97, 99, 101]⟩)])) _ _ 1 _ _ w0 _ (fun t ht => by simp only [List.mem_cons, List.not_mem_nil, or_false] at ht; rcases ht with rfl <;> first | decide | omega | omega) (by first | omega | (simp only [List.length_cons, List.length_append, List.length_nil, List.map_cons, List.map_nil]; omega)) ((hs.mem.to 2 rfl).to 2 rfl)) (fun e w1 ⟨A22, c22, he, hm⟩ => ⟨_, he, _, hm, ?_⟩)); clear hs a; intro a hs
    refine wpList_nil (then_normal (wp_region_lit ?_))
    refine go hs (pM rfl <| pV rfl (fun a hs => y_faddr (k' := 2) 2 hs (by kernel_rfl) rfl rfl) <| pV rfl (fun a hs => y_loadAgg (vs := [.int .u8 x.f2.f0, .int .i64 x.f2.f1, .string x.f2.f2, .slice A5 x.f2.f3.length c5, .int .i64 x.f2.f4, .int .i64 x.f2.f5]) hs Tryd.underlying24 rfl (by kernel_rfl) rfl (fun w hw k v hk => ((hw.to 4 rfl).cell).trans (sub_at 6 rfl hk))) <| ?_); clear hs a; intro a hs
    refine a_eff rfl (e_callX Tryd.func32 rfl rfl hs rfl rfl (w_expr 16 (by decide) x.f2 A5 c5 g (((toks ++ [sayT (⟨#[112, 108, 97, 99, 101]⟩)]) ++ [sayT (⟨#[115, 112, 105, 114, 97, 108]⟩)])) _ _ _ w0 _ hA5 (hG.2.2.2.1 (by unfold hasV; omega)) (by first | omega | (simp only [List.length_cons, List.length_append, List.length_nil, List.map_cons, List.map_nil]; omega)) ((hs.mem.to 1 rfl).to 1 rfl)) (fun e w1 ⟨A23, c23, he, hm⟩ => ⟨_, he, _, hm, ?_⟩)); clear hs a; intro a hs
    refine wpList_nil (in_normal ?_)
    have hX : toks ++ placeT x = (((toks ++ [sayT (⟨#[112, 108, 97, 99, 101]⟩)]) ++ [sayT (⟨#[115, 112, 105, 114, 97, 108]⟩)]) ++ toksX 16 x.f2) := by rw [hT]; simp only [List.append_assoc, List.cons_append, List.nil_append]
    refine fin_end hs .nil ⟨A23, c23, rfl, ?_⟩
    rw [hX]; exact (((((hs.mem.to 2 rfl).drop.to 2 rfl).drop.to 2 rfl).drop.to 1 rfl).to 1 rfl)
  replace h19 := ne_of_beq_false h19
  refine wp_seq (wp_region_lit ?_)
  refine go hs (pV rfl (fun a hs => y_cmp hs rfl rfl rfl) <| pA rfl <| ?_); clear hs a; intro a hs
  refine wpList_nil (then_normal ?_)
  refine wp_cond_split (hs.ev rfl) (fun h28 => ?_) (fun h28 => ?_)
  · replace h28 := eq_of_beq h28
    have hT : placeT x = sayT ⟨#[112, 108, 97, 99, 101]⟩ :: (sayT ⟨#[108, 105, 115, 116]⟩ :: sayT ⟨#[91]⟩ :: (exT x.f5 ++ [sayT ⟨#[93]⟩])) := by unfold placeT; rw [if_neg (by omega), if_neg (by omega), if_neg (by omega), if_pos (by omega)]
    rw [hT] at ht
    simp only [List.length_cons, List.length_append, List.length_nil] at ht
    refine wp_seq (wp_region_lit ?_)
    refine go hs (pM rfl <| ?_); clear hs a; intro a hs
    refine a_eff rfl (e_bslice (z := .string ⟨#[]⟩) (size := 1) (zc := #[.string ⟨#[]⟩, .string ⟨#[]⟩]) (cl := [_, _]) hs rfl Tryd.underlying116 (by kernel_rfl) rfl rfl rfl (by kernel_rfl) (by rfl) rfl ?_); clear hs a; intro g2 a w hs
    refine a_eff rfl (e_callX Tryd.func65 rfl rfl hs rfl rfl (w_say g g2 [⟨#[108, 105, 115, 116]⟩, ⟨#[91]⟩] ((toks ++ [sayT (⟨#[112, 108, 97, 99, 101]⟩)])) _ _ 2 _ _ w0 _ (fun t ht => by simp only [List.mem_cons, List.not_mem_nil, or_false] at ht; rcases ht with rfl | rfl <;> first | decide | omega | omega) (by first | omega | (simp only [List.length_cons, List.length_append, List.length_nil, List.map_cons, List.map_nil]; omega)) ((hs.mem.to 2 rfl).to 2 rfl)) (fun e w1 ⟨A22, c22, he, hm⟩ => ⟨_, he, _, hm, ?_⟩)); clear hs a; intro a hs
    refine wpList_nil (then_normal (wp_seq ?_))
    refine wp_region_lit (go hs (pM rfl <| pV rfl (fun a hs => y_faddr (k' := 16) 16 hs (by kernel_rfl) rfl rfl) <| pV rfl (fun a hs => y_load hs Tryd.underlying23 rfl rfl (fun w hw => (hw.to 4 rfl).cellV rfl)) <| ?_)); clear hs a; intro a hs
    refine a_eff rfl (e_callX Tryd.func94 rfl rfl hs rfl rfl (w_exprs g x.f5 A16 c16 (((toks ++ [sayT (⟨#[112, 108, 97, 99, 101]⟩)]) ++ [sayT (⟨#[108, 105, 115, 116]⟩), sayT (⟨#[91]⟩)])) _ _ _ w0 _ hA16 hG.2.2.2.2.2.2.1 hG.2.2.2.2.2.2.2 (by first | omega | (simp only [List.length_cons, List.length_append, List.length_nil, List.map_cons, List.map_nil]; omega)) ((hs.mem.to 1 rfl).to 1 rfl)) (fun e w1 ⟨A23, c23, he, hm⟩ => ⟨_, he, _, hm, ?_⟩)); clear hs a; intro a hs
    refine wpList_nil (then_normal (wp_region_lit ?_))
    refine go hs (pM rfl <| ?_); clear hs a; intro a hs
    refine a_eff rfl (e_bslice (z := .string ⟨#[]⟩) (size := 1) (zc := #[.string ⟨#[]⟩]) (cl := [_]) hs rfl Tryd.underlying116 (by kernel_rfl) rfl rfl rfl (by kernel_rfl) (by rfl) rfl ?_); clear hs a; intro g3 a w hs
    refine a_eff rfl (e_callX Tryd.func65 rfl rfl hs rfl rfl (w_say g g3 [⟨#[93]⟩] ((((toks ++ [sayT (⟨#[112, 108, 97, 99, 101]⟩)]) ++ [sayT (⟨#[108, 105, 115, 116]⟩), sayT (⟨#[91]⟩)]) ++ exT x.f5)) _ _ 1 _ _ w0 _ (fun t ht => by simp only [List.mem_cons, List.not_mem_nil, or_false] at ht; rcases ht with rfl <;> first | decide | omega | omega) (by first | omega | (simp only [List.length_cons, List.length_append, List.length_nil, List.map_cons, List.map_nil]; omega)) ((hs.mem.to 2 rfl).to 2 rfl)) (fun e w1 ⟨A24, c24, he, hm⟩ => ⟨_, he, _, hm, ?_⟩)); clear hs a; intro a hs
    refine wpList_nil (in_normal ?_)
    have hX : toks ++ placeT x = ((((toks ++ [sayT (⟨#[112, 108, 97, 99, 101]⟩)]) ++ [sayT (⟨#[108, 105, 115, 116]⟩), sayT (⟨#[91]⟩)]) ++ exT x.f5) ++ [sayT (⟨#[93]⟩)]) := by rw [hT]; simp only [List.append_assoc, List.cons_append, List.nil_append]
    refine fin_end hs .nil ⟨A24, c24, rfl, ?_⟩
    rw [hX]; exact ((((((hs.mem.to 2 rfl).drop.to 2 rfl).drop.to 2 rfl).drop.to 2 rfl).drop.to 1 rfl).to 1 rfl)
  replace h28 := ne_of_beq_false h28
  exfalso; omega
set_option maxRecDepth 100000 in
theorem w_item (x : XI) (A5 A10 A11 A12 A16 : Option Addr) (c5 c10 c11 c12 c16 : Nat) (g : Nat) (toks : List XT) (A1 : Option Addr) (c1 : Nat) (bs : List Res) (w0 w : World) (hA5 : Kd.C k25 w0 A5 x.f2.f3.length x.f2.f3) (hA10 : Kd.C k25 w0 A10 x.f3.f2.length x.f3.f2) (hA11 : Kd.C k42 w0 A11 x.f3.f3.length x.f3.f3) (hA12 : Kd.C (Kd.slice 25 k25) w0 A12 x.f3.f4.length x.f3.f4) (hA16 : Kd.C k25 w0 A16 x.f5.length x.f5) (hG : goodI x) (ht : toks.length + (toksI x).length ≤ 800000) (h : H w0 (pt g #[.slice A1 (toks).length c1] 90 :: row 94 5 (.slice A1 (toks).length c1) (toks).length ((toks).flatMap tokC) :: bs) w) :
    Calls Tryd.prog 37 #[.pointer (some ⟨g, 0, none⟩), .agg #[.int .u8 x.f0, .string x.f1, .int .u8 x.f2.f0, .int .i64 x.f2.f1, .string x.f2.f2, .slice A5 x.f2.f3.length c5, .int .i64 x.f2.f4, .int .i64 x.f2.f5, .int .u8 x.f3.f0, .string x.f3.f1, .slice A10 x.f3.f2.length c10, .slice A11 x.f3.f3.length c11, .slice A12 x.f3.f4.length c12, .int .i64 x.f3.f5, .int .i64 x.f3.f6, .int .u8 x.f4, .slice A16 x.f5.length c16, .int .i64 x.f6, .int .i64 x.f7]] w fun e w' => ∃ A7 c7, e = .returned (.tuple #[]) ∧ H w0 (pt g #[.slice A7 (toks ++ toksI x).length c7] 90 :: row 94 5 (.slice A7 (toks ++ toksI x).length c7) (toks ++ toksI x).length ((toks ++ toksI x).flatMap tokC) :: bs) w' := by
  refine calls_enter (N := 59) (n := 57) (args := [.pointer (some ⟨g, 0, none⟩), .agg #[.int .u8 x.f0, .string x.f1, .int .u8 x.f2.f0, .int .i64 x.f2.f1, .string x.f2.f2, .slice A5 x.f2.f3.length c5, .int .i64 x.f2.f4, .int .i64 x.f2.f5, .int .u8 x.f3.f0, .string x.f3.f1, .slice A10 x.f3.f2.length c10, .slice A11 x.f3.f3.length c11, .slice A12 x.f3.f4.length c12, .int .i64 x.f3.f5, .int .i64 x.f3.f6, .int .u8 x.f4, .slice A16 x.f5.length c16, .int .i64 x.f6, .int .i64 x.f7]]) Tryd.func37 rfl rfl rfl (h) (fun a hs => ?_)
  have hk1 := hG.1
  have hk2 := hG.2.1
  refine wp_seq (wp_region_lit ?_)
  refine a_eff rfl (e_box (cs := #[_, _, _, _, _, _, _, _, _, _, _, _, _, _, _, _, _, _, _]) hs rfl rfl rfl ?_); clear hs a; intro gx a w hs
  refine wpList_nil (then_normal (wp_seq ?_))
  refine wp_seq (wp_region_lit ?_)
  refine go hs (pV rfl (fun a hs => y_faddr (k' := 0) 0 hs (by kernel_rfl) rfl rfl) <| pV rfl (fun a hs => y_load hs Tryd.underlying37 rfl rfl (fun w hw => (hw.to 0 rfl).cellV rfl)) <| ?_); clear hs a; intro a hs
  refine wpList_nil (then_normal (wp_block ?_))
  refine wp_seq (wp_region_lit ?_)
  refine go hs (pV rfl (fun a hs => y_cmp hs rfl rfl rfl) <| pA rfl <| ?_); clear hs a; intro a hs
  refine wpList_nil (then_normal ?_)
  refine wp_cond_split (hs.ev rfl) (fun h9 => ?_) (fun h9 => ?_)
  · replace h9 := eq_of_beq h9
    have hT : headT x = sayT ⟨#[99, 111, 110, 115, 116]⟩ :: sayT x.f1 :: sayT ⟨#[61]⟩ :: toksX 16 x.f2 := by unfold headT; rw [if_pos (by omega)]
    rw [show toksI x = headT x ++ [sayT ⟨#[59]⟩] from rfl, hT] at ht
    simp only [List.length_cons, List.length_append, List.length_nil] at ht
    refine wp_seq (wp_region_lit ?_)
    refine go hs (pM rfl <| pV rfl (fun a hs => y_faddr (k' := 1) 1 hs (by kernel_rfl) rfl rfl) <| pV rfl (fun a hs => y_load hs Tryd.underlying9 rfl rfl (fun w hw => (hw.to 0 rfl).cellV rfl)) <| ?_); clear hs a; intro a hs
    refine a_eff rfl (e_bslice (z := .string ⟨#[]⟩) (size := 1) (zc := #[.string ⟨#[]⟩, .string ⟨#[]⟩, .string ⟨#[]⟩]) (cl := [_, _, _]) hs rfl Tryd.underlying116 (by kernel_rfl) rfl rfl rfl (by kernel_rfl) (by rfl) rfl ?_); clear hs a; intro g1 a w hs
    refine a_eff rfl (e_callX Tryd.func65 rfl rfl hs rfl rfl (w_say g g1 [⟨#[99, 111, 110, 115, 116]⟩, x.f1, ⟨#[61]⟩] (toks) _ _ 3 _ _ w0 _ (fun t ht => by simp only [List.mem_cons, List.not_mem_nil, or_false] at ht; rcases ht with rfl | rfl | rfl <;> first | decide | omega | (have := nameOk_size (hG.2.2.1 (by omega)); omega)) (by first | omega | (simp only [List.length_cons, List.length_append, List.length_nil, List.map_cons, List.map_nil]; omega)) ((hs.mem.to 3 rfl).to 3 rfl)) (fun e w1 ⟨A21, c21, he, hm⟩ => ⟨_, he, _, hm, ?_⟩)); clear hs a; intro a hs
    refine wpList_nil (then_normal (wp_region_lit ?_))
    refine go hs (pM rfl <| pV rfl (fun a hs => y_faddr (k' := 2) 2 hs (by kernel_rfl) rfl rfl) <| pV rfl (fun a hs => y_loadAgg (vs := [.int .u8 x.f2.f0, .int .i64 x.f2.f1, .string x.f2.f2, .slice A5 x.f2.f3.length c5, .int .i64 x.f2.f4, .int .i64 x.f2.f5]) hs Tryd.underlying24 rfl (by kernel_rfl) rfl (fun w hw k v hk => ((hw.to 3 rfl).cell).trans (sub_at 6 rfl hk))) <| ?_); clear hs a; intro a hs
    refine a_eff rfl (e_callX Tryd.func32 rfl rfl hs rfl rfl (w_expr 16 (by decide) x.f2 A5 c5 g ((toks ++ [sayT (⟨#[99, 111, 110, 115, 116]⟩), sayT (x.f1), sayT (⟨#[61]⟩)])) _ _ _ w0 _ hA5 (hG.2.2.2.1 (by unfold hasV; omega)) (by first | omega | (simp only [List.length_cons, List.length_append, List.length_nil, List.map_cons, List.map_nil]; omega)) ((hs.mem.to 1 rfl).to 1 rfl)) (fun e w1 ⟨A22, c22, he, hm⟩ => ⟨_, he, _, hm, ?_⟩)); clear hs a; intro a hs
    refine wpList_nil (in_normal (then_normal (wp_region_lit ?_)))
    refine go hs (pM rfl <| ?_); clear hs a; intro a hs
    refine a_eff rfl (e_bslice (z := .string ⟨#[]⟩) (size := 1) (zc := #[.string ⟨#[]⟩]) (cl := [_]) hs rfl Tryd.underlying116 (by kernel_rfl) rfl rfl rfl (by kernel_rfl) (by rfl) rfl ?_); clear hs a; intro g2 a w hs
    refine a_eff rfl (e_callX Tryd.func65 rfl rfl hs rfl rfl (w_say g g2 [⟨#[59]⟩] (((toks ++ [sayT (⟨#[99, 111, 110, 115, 116]⟩), sayT (x.f1), sayT (⟨#[61]⟩)]) ++ toksX 16 x.f2)) _ _ 1 _ _ w0 _ (fun t ht => by simp only [List.mem_cons, List.not_mem_nil, or_false] at ht; rcases ht with rfl <;> first | decide | omega | omega) (by first | omega | (simp only [List.length_cons, List.length_append, List.length_nil, List.map_cons, List.map_nil]; omega)) ((hs.mem.to 2 rfl).to 2 rfl)) (fun e w1 ⟨A23, c23, he, hm⟩ => ⟨_, he, _, hm, ?_⟩)); clear hs a; intro a hs
    refine wpList_nil ?_
    have hX : toks ++ toksI x = (((toks ++ [sayT (⟨#[99, 111, 110, 115, 116]⟩), sayT (x.f1), sayT (⟨#[61]⟩)]) ++ toksX 16 x.f2) ++ [sayT (⟨#[59]⟩)]) := by unfold toksI; rw [hT]; simp only [List.append_assoc, List.cons_append, List.nil_append]
    refine fin_end hs .nil ⟨A23, c23, rfl, ?_⟩
    rw [hX]; exact (((((hs.mem.to 2 rfl).drop.to 2 rfl).drop.to 2 rfl).drop.to 1 rfl).to 1 rfl)
  replace h9 := ne_of_beq_false h9
  refine wp_seq (wp_region_lit ?_)
  refine go hs (pV rfl (fun a hs => y_cmp hs rfl rfl rfl) <| pA rfl <| ?_); clear hs a; intro a hs
  refine wpList_nil (then_normal ?_)
  refine wp_cond_split (hs.ev rfl) (fun h20 => ?_) (fun h20 => ?_)
  · replace h20 := eq_of_beq h20
    have hT : headT x = sayT ⟨#[99, 111, 100, 101]⟩ :: sayT x.f1 :: sayT ⟨#[61]⟩ :: toksS 16 x.f3 := by unfold headT; rw [if_neg (by omega), if_pos (by omega)]
    rw [show toksI x = headT x ++ [sayT ⟨#[59]⟩] from rfl, hT] at ht
    simp only [List.length_cons, List.length_append, List.length_nil] at ht
    refine wp_seq (wp_region_lit ?_)
    refine go hs (pM rfl <| pV rfl (fun a hs => y_faddr (k' := 1) 1 hs (by kernel_rfl) rfl rfl) <| pV rfl (fun a hs => y_load hs Tryd.underlying9 rfl rfl (fun w hw => (hw.to 0 rfl).cellV rfl)) <| ?_); clear hs a; intro a hs
    refine a_eff rfl (e_bslice (z := .string ⟨#[]⟩) (size := 1) (zc := #[.string ⟨#[]⟩, .string ⟨#[]⟩, .string ⟨#[]⟩]) (cl := [_, _, _]) hs rfl Tryd.underlying116 (by kernel_rfl) rfl rfl rfl (by kernel_rfl) (by rfl) rfl ?_); clear hs a; intro g1 a w hs
    refine a_eff rfl (e_callX Tryd.func65 rfl rfl hs rfl rfl (w_say g g1 [⟨#[99, 111, 100, 101]⟩, x.f1, ⟨#[61]⟩] (toks) _ _ 3 _ _ w0 _ (fun t ht => by simp only [List.mem_cons, List.not_mem_nil, or_false] at ht; rcases ht with rfl | rfl | rfl <;> first | decide | omega | (have := nameOk_size (hG.2.2.1 (by omega)); omega)) (by first | omega | (simp only [List.length_cons, List.length_append, List.length_nil, List.map_cons, List.map_nil]; omega)) ((hs.mem.to 3 rfl).to 3 rfl)) (fun e w1 ⟨A21, c21, he, hm⟩ => ⟨_, he, _, hm, ?_⟩)); clear hs a; intro a hs
    refine wpList_nil (then_normal (wp_region_lit ?_))
    refine go hs (pM rfl <| pV rfl (fun a hs => y_faddr (k' := 8) 8 hs (by kernel_rfl) rfl rfl) <| pV rfl (fun a hs => y_loadAgg (vs := [.int .u8 x.f3.f0, .string x.f3.f1, .slice A10 x.f3.f2.length c10, .slice A11 x.f3.f3.length c11, .slice A12 x.f3.f4.length c12, .int .i64 x.f3.f5, .int .i64 x.f3.f6]) hs Tryd.underlying41 rfl (by kernel_rfl) rfl (fun w hw k v hk => ((hw.to 3 rfl).cell).trans (sub_at 7 rfl hk))) <| ?_); clear hs a; intro a hs
    refine a_eff rfl (e_callX Tryd.func67 rfl rfl hs rfl rfl (w_shape 16 (by decide) x.f3 A10 A11 A12 c10 c11 c12 g ((toks ++ [sayT (⟨#[99, 111, 100, 101]⟩), sayT (x.f1), sayT (⟨#[61]⟩)])) _ _ _ w0 _ hA10 hA11 hA12 (hG.2.2.2.2.1 (by omega)) (by first | omega | (simp only [List.length_cons, List.length_append, List.length_nil, List.map_cons, List.map_nil]; omega)) ((hs.mem.to 1 rfl).to 1 rfl)) (fun e w1 ⟨A22, c22, he, hm⟩ => ⟨_, he, _, hm, ?_⟩)); clear hs a; intro a hs
    refine wpList_nil (in_normal (then_normal (wp_region_lit ?_)))
    refine go hs (pM rfl <| ?_); clear hs a; intro a hs
    refine a_eff rfl (e_bslice (z := .string ⟨#[]⟩) (size := 1) (zc := #[.string ⟨#[]⟩]) (cl := [_]) hs rfl Tryd.underlying116 (by kernel_rfl) rfl rfl rfl (by kernel_rfl) (by rfl) rfl ?_); clear hs a; intro g2 a w hs
    refine a_eff rfl (e_callX Tryd.func65 rfl rfl hs rfl rfl (w_say g g2 [⟨#[59]⟩] (((toks ++ [sayT (⟨#[99, 111, 100, 101]⟩), sayT (x.f1), sayT (⟨#[61]⟩)]) ++ toksS 16 x.f3)) _ _ 1 _ _ w0 _ (fun t ht => by simp only [List.mem_cons, List.not_mem_nil, or_false] at ht; rcases ht with rfl <;> first | decide | omega | omega) (by first | omega | (simp only [List.length_cons, List.length_append, List.length_nil, List.map_cons, List.map_nil]; omega)) ((hs.mem.to 2 rfl).to 2 rfl)) (fun e w1 ⟨A23, c23, he, hm⟩ => ⟨_, he, _, hm, ?_⟩)); clear hs a; intro a hs
    refine wpList_nil ?_
    have hX : toks ++ toksI x = (((toks ++ [sayT (⟨#[99, 111, 100, 101]⟩), sayT (x.f1), sayT (⟨#[61]⟩)]) ++ toksS 16 x.f3) ++ [sayT (⟨#[59]⟩)]) := by unfold toksI; rw [hT]; simp only [List.append_assoc, List.cons_append, List.nil_append]
    refine fin_end hs .nil ⟨A23, c23, rfl, ?_⟩
    rw [hX]; exact (((((hs.mem.to 2 rfl).drop.to 2 rfl).drop.to 2 rfl).drop.to 1 rfl).to 1 rfl)
  replace h20 := ne_of_beq_false h20
  refine wp_seq (wp_region_lit ?_)
  refine go hs (pV rfl (fun a hs => y_cmp hs rfl rfl rfl) <| pA rfl <| ?_); clear hs a; intro a hs
  refine wpList_nil (then_normal ?_)
  refine wp_cond_split (hs.ev rfl) (fun h31 => ?_) (fun h31 => ?_)
  · replace h31 := eq_of_beq h31
    have hT : headT x = [sayT ⟨#[117, 115, 101]⟩, sayT x.f1] := by unfold headT; rw [if_neg (by omega), if_neg (by omega), if_pos (by omega)]
    rw [show toksI x = headT x ++ [sayT ⟨#[59]⟩] from rfl, hT] at ht
    simp only [List.length_cons, List.length_append, List.length_nil] at ht
    refine wp_region_lit (go hs (pM rfl <| pV rfl (fun a hs => y_faddr (k' := 1) 1 hs (by kernel_rfl) rfl rfl) <| pV rfl (fun a hs => y_load hs Tryd.underlying9 rfl rfl (fun w hw => (hw.to 0 rfl).cellV rfl)) <| ?_)); clear hs a; intro a hs
    refine a_eff rfl (e_bslice (z := .string ⟨#[]⟩) (size := 1) (zc := #[.string ⟨#[]⟩, .string ⟨#[]⟩]) (cl := [_, _]) hs rfl Tryd.underlying116 (by kernel_rfl) rfl rfl rfl (by kernel_rfl) (by rfl) rfl ?_); clear hs a; intro g1 a w hs
    refine a_eff rfl (e_callX Tryd.func65 rfl rfl hs rfl rfl (w_say g g1 [⟨#[117, 115, 101]⟩, x.f1] (toks) _ _ 2 _ _ w0 _ (fun t ht => by simp only [List.mem_cons, List.not_mem_nil, or_false] at ht; rcases ht with rfl | rfl <;> first | decide | omega | (have := nameOk_size (hG.2.2.1 (by omega)); omega)) (by first | omega | (simp only [List.length_cons, List.length_append, List.length_nil, List.map_cons, List.map_nil]; omega)) ((hs.mem.to 3 rfl).to 3 rfl)) (fun e w1 ⟨A21, c21, he, hm⟩ => ⟨_, he, _, hm, ?_⟩)); clear hs a; intro a hs
    refine wpList_nil (in_normal (then_normal (wp_region_lit ?_)))
    refine go hs (pM rfl <| ?_); clear hs a; intro a hs
    refine a_eff rfl (e_bslice (z := .string ⟨#[]⟩) (size := 1) (zc := #[.string ⟨#[]⟩]) (cl := [_]) hs rfl Tryd.underlying116 (by kernel_rfl) rfl rfl rfl (by kernel_rfl) (by rfl) rfl ?_); clear hs a; intro g2 a w hs
    refine a_eff rfl (e_callX Tryd.func65 rfl rfl hs rfl rfl (w_say g g2 [⟨#[59]⟩] ((toks ++ [sayT (⟨#[117, 115, 101]⟩), sayT (x.f1)])) _ _ 1 _ _ w0 _ (fun t ht => by simp only [List.mem_cons, List.not_mem_nil, or_false] at ht; rcases ht with rfl <;> first | decide | omega | omega) (by first | omega | (simp only [List.length_cons, List.length_append, List.length_nil, List.map_cons, List.map_nil]; omega)) ((hs.mem.to 2 rfl).to 2 rfl)) (fun e w1 ⟨A22, c22, he, hm⟩ => ⟨_, he, _, hm, ?_⟩)); clear hs a; intro a hs
    refine wpList_nil ?_
    have hX : toks ++ toksI x = ((toks ++ [sayT (⟨#[117, 115, 101]⟩), sayT (x.f1)]) ++ [sayT (⟨#[59]⟩)]) := by unfold toksI; rw [hT]; simp only [List.append_assoc, List.cons_append, List.nil_append]
    refine fin_end hs .nil ⟨A22, c22, rfl, ?_⟩
    rw [hX]; exact (((((hs.mem.to 2 rfl).drop.to 2 rfl).drop.to 2 rfl).drop.to 1 rfl).to 1 rfl)
  replace h31 := ne_of_beq_false h31
  refine wp_seq (wp_region_lit ?_)
  refine go hs (pV rfl (fun a hs => y_cmp hs rfl rfl rfl) <| pA rfl <| ?_); clear hs a; intro a hs
  refine wpList_nil (then_normal ?_)
  refine wp_cond_split (hs.ev rfl) (fun h38 => ?_) (fun h38 => ?_)
  · replace h38 := eq_of_beq h38
    have hT : headT x = sayT ⟨#[100, 111, 109, 97, 105, 110, 115]⟩ :: toksX 16 x.f2 := by unfold headT; rw [if_neg (by omega), if_neg (by omega), if_neg (by omega), if_pos (by omega)]
    rw [show toksI x = headT x ++ [sayT ⟨#[59]⟩] from rfl, hT] at ht
    simp only [List.length_cons, List.length_append, List.length_nil] at ht
    refine wp_seq (wp_region_lit ?_)
    refine go hs (pM rfl <| ?_); clear hs a; intro a hs
    refine a_eff rfl (e_bslice (z := .string ⟨#[]⟩) (size := 1) (zc := #[.string ⟨#[]⟩]) (cl := [_]) hs rfl Tryd.underlying116 (by kernel_rfl) rfl rfl rfl (by kernel_rfl) (by rfl) rfl ?_); clear hs a; intro g1 a w hs
    refine a_eff rfl (e_callX Tryd.func65 rfl rfl hs rfl rfl (w_say g g1 [⟨#[100, 111, 109, 97, 105, 110, 115]⟩] (toks) _ _ 1 _ _ w0 _ (fun t ht => by simp only [List.mem_cons, List.not_mem_nil, or_false] at ht; rcases ht with rfl <;> first | decide | omega | omega) (by first | omega | (simp only [List.length_cons, List.length_append, List.length_nil, List.map_cons, List.map_nil]; omega)) ((hs.mem.to 3 rfl).to 3 rfl)) (fun e w1 ⟨A21, c21, he, hm⟩ => ⟨_, he, _, hm, ?_⟩)); clear hs a; intro a hs
    refine wpList_nil (then_normal (wp_region_lit ?_))
    refine go hs (pM rfl <| pV rfl (fun a hs => y_faddr (k' := 2) 2 hs (by kernel_rfl) rfl rfl) <| pV rfl (fun a hs => y_loadAgg (vs := [.int .u8 x.f2.f0, .int .i64 x.f2.f1, .string x.f2.f2, .slice A5 x.f2.f3.length c5, .int .i64 x.f2.f4, .int .i64 x.f2.f5]) hs Tryd.underlying24 rfl (by kernel_rfl) rfl (fun w hw k v hk => ((hw.to 3 rfl).cell).trans (sub_at 6 rfl hk))) <| ?_); clear hs a; intro a hs
    refine a_eff rfl (e_callX Tryd.func32 rfl rfl hs rfl rfl (w_expr 16 (by decide) x.f2 A5 c5 g ((toks ++ [sayT (⟨#[100, 111, 109, 97, 105, 110, 115]⟩)])) _ _ _ w0 _ hA5 (hG.2.2.2.1 (by unfold hasV; omega)) (by first | omega | (simp only [List.length_cons, List.length_append, List.length_nil, List.map_cons, List.map_nil]; omega)) ((hs.mem.to 1 rfl).to 1 rfl)) (fun e w1 ⟨A22, c22, he, hm⟩ => ⟨_, he, _, hm, ?_⟩)); clear hs a; intro a hs
    refine wpList_nil (in_normal (then_normal (wp_region_lit ?_)))
    refine go hs (pM rfl <| ?_); clear hs a; intro a hs
    refine a_eff rfl (e_bslice (z := .string ⟨#[]⟩) (size := 1) (zc := #[.string ⟨#[]⟩]) (cl := [_]) hs rfl Tryd.underlying116 (by kernel_rfl) rfl rfl rfl (by kernel_rfl) (by rfl) rfl ?_); clear hs a; intro g2 a w hs
    refine a_eff rfl (e_callX Tryd.func65 rfl rfl hs rfl rfl (w_say g g2 [⟨#[59]⟩] (((toks ++ [sayT (⟨#[100, 111, 109, 97, 105, 110, 115]⟩)]) ++ toksX 16 x.f2)) _ _ 1 _ _ w0 _ (fun t ht => by simp only [List.mem_cons, List.not_mem_nil, or_false] at ht; rcases ht with rfl <;> first | decide | omega | omega) (by first | omega | (simp only [List.length_cons, List.length_append, List.length_nil, List.map_cons, List.map_nil]; omega)) ((hs.mem.to 2 rfl).to 2 rfl)) (fun e w1 ⟨A23, c23, he, hm⟩ => ⟨_, he, _, hm, ?_⟩)); clear hs a; intro a hs
    refine wpList_nil ?_
    have hX : toks ++ toksI x = (((toks ++ [sayT (⟨#[100, 111, 109, 97, 105, 110, 115]⟩)]) ++ toksX 16 x.f2) ++ [sayT (⟨#[59]⟩)]) := by unfold toksI; rw [hT]; simp only [List.append_assoc, List.cons_append, List.nil_append]
    refine fin_end hs .nil ⟨A23, c23, rfl, ?_⟩
    rw [hX]; exact (((((hs.mem.to 2 rfl).drop.to 2 rfl).drop.to 2 rfl).drop.to 1 rfl).to 1 rfl)
  replace h38 := ne_of_beq_false h38
  refine wp_seq (wp_region_lit ?_)
  refine go hs (pV rfl (fun a hs => y_cmp hs rfl rfl rfl) <| pA rfl <| ?_); clear hs a; intro a hs
  refine wpList_nil (then_normal ?_)
  refine wp_cond_split (hs.ev rfl) (fun h47 => ?_) (fun h47 => ?_)
  · replace h47 := eq_of_beq h47
    have hT : headT x = sayT ⟨#[116, 111, 108, 101, 114, 97, 116, 101]⟩ :: toksX 16 x.f2 := by unfold headT; rw [if_neg (by omega), if_neg (by omega), if_neg (by omega), if_neg (by omega), if_pos (by omega)]
    rw [show toksI x = headT x ++ [sayT ⟨#[59]⟩] from rfl, hT] at ht
    simp only [List.length_cons, List.length_append, List.length_nil] at ht
    refine wp_seq (wp_region_lit ?_)
    refine go hs (pM rfl <| ?_); clear hs a; intro a hs
    refine a_eff rfl (e_bslice (z := .string ⟨#[]⟩) (size := 1) (zc := #[.string ⟨#[]⟩]) (cl := [_]) hs rfl Tryd.underlying116 (by kernel_rfl) rfl rfl rfl (by kernel_rfl) (by rfl) rfl ?_); clear hs a; intro g1 a w hs
    refine a_eff rfl (e_callX Tryd.func65 rfl rfl hs rfl rfl (w_say g g1 [⟨#[116, 111, 108, 101, 114, 97, 116, 101]⟩] (toks) _ _ 1 _ _ w0 _ (fun t ht => by simp only [List.mem_cons, List.not_mem_nil, or_false] at ht; rcases ht with rfl <;> first | decide | omega | omega) (by first | omega | (simp only [List.length_cons, List.length_append, List.length_nil, List.map_cons, List.map_nil]; omega)) ((hs.mem.to 3 rfl).to 3 rfl)) (fun e w1 ⟨A21, c21, he, hm⟩ => ⟨_, he, _, hm, ?_⟩)); clear hs a; intro a hs
    refine wpList_nil (then_normal (wp_region_lit ?_))
    refine go hs (pM rfl <| pV rfl (fun a hs => y_faddr (k' := 2) 2 hs (by kernel_rfl) rfl rfl) <| pV rfl (fun a hs => y_loadAgg (vs := [.int .u8 x.f2.f0, .int .i64 x.f2.f1, .string x.f2.f2, .slice A5 x.f2.f3.length c5, .int .i64 x.f2.f4, .int .i64 x.f2.f5]) hs Tryd.underlying24 rfl (by kernel_rfl) rfl (fun w hw k v hk => ((hw.to 3 rfl).cell).trans (sub_at 6 rfl hk))) <| ?_); clear hs a; intro a hs
    refine a_eff rfl (e_callX Tryd.func32 rfl rfl hs rfl rfl (w_expr 16 (by decide) x.f2 A5 c5 g ((toks ++ [sayT (⟨#[116, 111, 108, 101, 114, 97, 116, 101]⟩)])) _ _ _ w0 _ hA5 (hG.2.2.2.1 (by unfold hasV; omega)) (by first | omega | (simp only [List.length_cons, List.length_append, List.length_nil, List.map_cons, List.map_nil]; omega)) ((hs.mem.to 1 rfl).to 1 rfl)) (fun e w1 ⟨A22, c22, he, hm⟩ => ⟨_, he, _, hm, ?_⟩)); clear hs a; intro a hs
    refine wpList_nil (in_normal (then_normal (wp_region_lit ?_)))
    refine go hs (pM rfl <| ?_); clear hs a; intro a hs
    refine a_eff rfl (e_bslice (z := .string ⟨#[]⟩) (size := 1) (zc := #[.string ⟨#[]⟩]) (cl := [_]) hs rfl Tryd.underlying116 (by kernel_rfl) rfl rfl rfl (by kernel_rfl) (by rfl) rfl ?_); clear hs a; intro g2 a w hs
    refine a_eff rfl (e_callX Tryd.func65 rfl rfl hs rfl rfl (w_say g g2 [⟨#[59]⟩] (((toks ++ [sayT (⟨#[116, 111, 108, 101, 114, 97, 116, 101]⟩)]) ++ toksX 16 x.f2)) _ _ 1 _ _ w0 _ (fun t ht => by simp only [List.mem_cons, List.not_mem_nil, or_false] at ht; rcases ht with rfl <;> first | decide | omega | omega) (by first | omega | (simp only [List.length_cons, List.length_append, List.length_nil, List.map_cons, List.map_nil]; omega)) ((hs.mem.to 2 rfl).to 2 rfl)) (fun e w1 ⟨A23, c23, he, hm⟩ => ⟨_, he, _, hm, ?_⟩)); clear hs a; intro a hs
    refine wpList_nil ?_
    have hX : toks ++ toksI x = (((toks ++ [sayT (⟨#[116, 111, 108, 101, 114, 97, 116, 101]⟩)]) ++ toksX 16 x.f2) ++ [sayT (⟨#[59]⟩)]) := by unfold toksI; rw [hT]; simp only [List.append_assoc, List.cons_append, List.nil_append]
    refine fin_end hs .nil ⟨A23, c23, rfl, ?_⟩
    rw [hX]; exact (((((hs.mem.to 2 rfl).drop.to 2 rfl).drop.to 2 rfl).drop.to 1 rfl).to 1 rfl)
  replace h47 := ne_of_beq_false h47
  have hT : headT x = placeT x := by unfold headT; rw [if_neg (by omega), if_neg (by omega), if_neg (by omega), if_neg (by omega), if_neg (by omega)]
  rw [show toksI x = headT x ++ [sayT ⟨#[59]⟩] from rfl, hT] at ht
  simp only [List.length_cons, List.length_append, List.length_nil] at ht
  refine wp_region_lit (go hs (pM rfl <| pV rfl (fun a hs => y_loadAgg (vs := [.int .u8 x.f0, .string x.f1, .int .u8 x.f2.f0, .int .i64 x.f2.f1, .string x.f2.f2, .slice A5 x.f2.f3.length c5, .int .i64 x.f2.f4, .int .i64 x.f2.f5, .int .u8 x.f3.f0, .string x.f3.f1, .slice A10 x.f3.f2.length c10, .slice A11 x.f3.f3.length c11, .slice A12 x.f3.f4.length c12, .int .i64 x.f3.f5, .int .i64 x.f3.f6, .int .u8 x.f4, .slice A16 x.f5.length c16, .int .i64 x.f6, .int .i64 x.f7]) hs Tryd.underlying44 rfl (by kernel_rfl) rfl (fun w hw k v hk => ((hw.to 0 rfl).cell).trans (by rw [Nat.zero_add, ← Array.getElem?_toList]; exact hk))) <| ?_)); clear hs a; intro a hs
  refine a_eff rfl (e_callX Tryd.func68 rfl rfl hs rfl rfl (w_place x A5 A10 A11 A12 A16 c5 c10 c11 c12 c16 g (toks) _ _ _ w0 _ hA5 hA10 hA11 hA12 hA16 hG (by omega) (by first | omega | (simp only [List.length_cons, List.length_append, List.length_nil, List.map_cons, List.map_nil]; omega)) ((hs.mem.to 2 rfl).to 2 rfl)) (fun e w1 ⟨A21, c21, he, hm⟩ => ⟨_, he, _, hm, ?_⟩)); clear hs a; intro a hs
  refine wpList_nil (in_normal (then_normal (wp_region_lit ?_)))
  refine go hs (pM rfl <| ?_); clear hs a; intro a hs
  refine a_eff rfl (e_bslice (z := .string ⟨#[]⟩) (size := 1) (zc := #[.string ⟨#[]⟩]) (cl := [_]) hs rfl Tryd.underlying116 (by kernel_rfl) rfl rfl rfl (by kernel_rfl) (by rfl) rfl ?_); clear hs a; intro g1 a w hs
  refine a_eff rfl (e_callX Tryd.func65 rfl rfl hs rfl rfl (w_say g g1 [⟨#[59]⟩] ((toks ++ placeT x)) _ _ 1 _ _ w0 _ (fun t ht => by simp only [List.mem_cons, List.not_mem_nil, or_false] at ht; rcases ht with rfl <;> first | decide | omega | omega) (by first | omega | (simp only [List.length_cons, List.length_append, List.length_nil, List.map_cons, List.map_nil]; omega)) ((hs.mem.to 2 rfl).to 2 rfl)) (fun e w1 ⟨A22, c22, he, hm⟩ => ⟨_, he, _, hm, ?_⟩)); clear hs a; intro a hs
  refine wpList_nil ?_
  have hX : toks ++ toksI x = ((toks ++ placeT x) ++ [sayT (⟨#[59]⟩)]) := by unfold toksI; rw [hT]; simp only [List.append_assoc, List.cons_append, List.nil_append]
  refine fin_end hs .nil ⟨A22, c22, rfl, ?_⟩
  rw [hX]; exact ((((hs.mem.to 2 rfl).drop.to 2 rfl).drop.to 1 rfl).to 1 rfl)
end Go.Proofs.YtibaidddhmdafaaDoor.E
end
section
namespace Go.Proofs.YtibaidddhmdafaaDoor.E
open Go Go.RowKit Go.Proofs.YtibaidddhmdafaaDoorW.PrintWords Go.Proofs.YtibaidddhmdafaaDoorW.PrintLast Go.Proofs.YtibaidddhmdafaaDoorW.PrintMore Go.Proofs.YtibaidddhmdafaaDoor.PA
set_option linter.unusedVariables false
set_option linter.unusedSimpArgs false
def bl (s : ByteArray) : List UInt8 := s.data.toList
theorem bl_app (a b : ByteArray) : bl (a ++ b) = bl a ++ bl b := by unfold bl; rw [ByteArray.data_append, Array.toList_append]
theorem bl_inj {a b : ByteArray} (h : bl a = bl b) : a = b := by
  rcases a with ⟨a⟩; rcases b with ⟨b⟩
  unfold bl at h
  have h1 : a = b := Array.toList_inj.1 h
  rw [h1]
def tl : List XT → List UInt8
  | [] => []
  | t :: r => 32 :: (bl (formT t) ++ tl r)
/-- The tokens' texts with a blank between each two. -/
def jb (l : List XT) : ByteArray := ⟨((tl l).drop 1).toArray⟩
theorem tl_jb {l : List XT} (h : l ≠ []) : tl l = 32 :: bl (jb l) := by
  cases l with
  | nil => exact absurd rfl h
  | cons t r => rfl
theorem jb_eq {l : List XT} {s : ByteArray} (h : l ≠ []) (hs : tl l = 32 :: bl s) : jb l = s := bl_inj (by
  rw [tl_jb h] at hs
  injection hs)
theorem cat_bl : ∀ (l : List XT) (acc : ByteArray) (i : Nat), 0 < i → bl (catF l acc i) = bl acc ++ tl l
  | [], acc, i, _ => by rw [catF, tl, List.append_nil]
  | t :: r, acc, i, hi => by
    rw [catF, cat_bl r _ _ (by omega), tl]
    unfold stepJ
    rw [if_pos hi, bl_app, bl_app]
    simp [bl]
theorem cat_jb (l : List XT) : catF l ⟨#[]⟩ 0 = jb l := by
  cases l with
  | nil => rfl
  | cons t r =>
    refine (jb_eq (by simp) ?_).symm
    rw [catF, cat_bl r _ _ (by decide)]
    unfold stepJ
    rw [if_neg (by decide), bl_app]
    rfl
theorem join_jb {l : List XT} (h : ∀ t ∈ l, mayB t = true) : joinF l = if (jb l).size > 65536 then (⟨#[]⟩, 4) else (jb l, 0) := by rw [joinF_all h, cat_jb]
def lenS : Nat → XS → Prop
  | 0, _ => False
  | n + 1, s => (2 ≤ s.f0 ∧ s.f0 ≤ 5 → 0 < s.f2.length ∧ s.f3.length = 0) ∧ (6 ≤ s.f0 ∧ s.f0 ≤ 7 → s.f2.length = 0 ∧ s.f3.length = 2) ∧ (s.f0 = 8 → 0 < s.f4.length ∧ ∀ r ∈ s.f4, 0 < r.length) ∧ ∀ p ∈ s.f3, lenS n p
theorem shape_len : ∀ (n : Nat) (s : XS) (l : Int), (xshape n s l).1 = true → lenS n s
  | 0, _, _, h => by cases h
  | n + 1, s, l, h => by
    rw [xshape] at h
    split at h
    · cases h
    · split at h
      · rename_i hH
        split at h
        · rename_i h1
          split at h
          · obtain ⟨nm, a, p, r, e1, e2, e3, e4, e5, e6⟩ := hH
            have hk := parts_cases e1
            refine ⟨fun h2 => by omega, fun h2 => by omega, fun h8 => ?_, fun p hp => by obtain ⟨l', h3⟩ := xlist_all _ _ h p hp; exact shape_len n p l' h3⟩
            unfold rowsS at h1
            rw [if_pos h8] at h1
            unfold rowsF at h1
            split at h1
            · rename_i h3
              refine ⟨by omega, fun r' hr' => ?_⟩
              obtain ⟨lf, h4⟩ := xlist_all _ _ h1 r' hr'
              unfold stR at h4
              split at h4
              · rename_i h5; omega
              · cases h4
            · cases h1
          · rename_i h2; exact absurd h h2
        · rename_i h1; exact absurd h h1
      · cases h
theorem may_name1 {s : ByteArray} (h : nameOk s = true) : mayB (sayT s) = true := by
  have h1 : mayB (tk 1 s) = true := by unfold mayB; simp [tk, h]
  unfold sayT
  split
  · assumption
  · exact h1
theorem may_more : ∀ s ∈ [(⟨#[44]⟩ : ByteArray), ⟨#[59]⟩, ⟨#[91]⟩, ⟨#[93]⟩, ⟨#[61]⟩, ⟨#[99, 111, 110, 115, 116]⟩, ⟨#[99, 111, 100, 101]⟩, ⟨#[117, 115, 101]⟩, ⟨#[100, 111, 109, 97, 105, 110, 115]⟩, ⟨#[116, 111, 108, 101, 114, 97, 116, 101]⟩, ⟨#[112, 108, 97, 99, 101]⟩, ⟨#[114, 111, 119]⟩, ⟨#[115, 112, 114, 101, 97, 100]⟩, ⟨#[115, 112, 105, 114, 97, 108]⟩, ⟨#[108, 105, 115, 116]⟩, wordS 2, wordS 3, wordS 4, wordS 5, wordS 6, wordS 7, wordS 8], mayB (sayT s) = true := by decide +kernel
theorem may_word {k : Int} (h : 2 ≤ k ∧ k ≤ 8) : mayB (sayT (wordS k)) = true := by
  rcases (show k = 2 ∨ k = 3 ∨ k = 4 ∨ k = 5 ∨ k = 6 ∨ k = 7 ∨ k = 8 by omega) with rfl | rfl | rfl | rfl | rfl | rfl | rfl <;> exact may_more _ (by simp)
theorem btw_may {α : Type} {s : ByteArray} {f : α → List XT} (hs : mayB (sayT s) = true) : ∀ (l : List α) (b : Bool), (∀ p ∈ l, ∀ t ∈ f p, mayB t = true) → ∀ t ∈ btw s f b l, mayB t = true
  | [], _, _, t, ht => absurd ht (by simp [btw])
  | p :: r, b, h, t, ht => by
    rw [btw] at ht
    rcases List.mem_append.1 ht with h1 | h1
    · split at h1
      · rw [List.mem_singleton] at h1; subst h1; exact hs
      · exact absurd h1 (by simp)
    · rcases List.mem_append.1 h1 with h2 | h2
      · exact h p (.head _) t h2
      · exact btw_may hs r true (fun q hq => h q (.tail _ hq)) t h2
theorem exT_may {l : List XE} (h : ∀ p ∈ l, shapeX 16 p) : ∀ t ∈ exT l, mayB t = true := btw_may (may_more _ (by simp)) l false (fun p hp => toks_may 16 p (h p hp))
theorem toksS_may : ∀ (n : Nat) (s : XS), goodS n s → ∀ t ∈ toksS n s, mayB t = true
  | 0, _, h, _, _ => h.elim
  | n + 1, s, h, t, ht => by
    obtain ⟨k1, k2, k3, k4, k5, k6, _⟩ := h
    rw [toksS] at ht
    split at ht
    · rename_i h1
      rw [List.mem_singleton] at ht; subst ht; exact may_name1 (k3 h1)
    · split at ht
      · simp only [List.mem_cons, List.mem_append, List.not_mem_nil, or_false] at ht
        rcases ht with rfl | rfl | ht | rfl
        · exact may_more _ (by simp)
        · exact may_more _ (by simp)
        · exact btw_may (may_more _ (by simp)) s.f4 false (fun r hr => exT_may (k6 r hr)) t ht
        · exact may_more _ (by simp)
      · simp only [List.mem_cons, List.mem_append, List.not_mem_nil, or_false] at ht
        rcases ht with rfl | rfl | ht | ht | rfl
        · exact may_word (by omega)
        · exact may_signs _ (by simp)
        · exact exT_may k4 t ht
        · exact btw_may (may_more _ (by simp)) s.f3 false (fun p hp => toksS_may n p (k5 p hp)) t ht
        · exact may_signs _ (by simp)
theorem toksI_may {x : XI} (h : goodI x) : ∀ t ∈ toksI x, mayB t = true := by
  obtain ⟨k1, k2, k3, k4, k5, k6, k7, k8⟩ := h
  have hX : hasV x → ∀ t ∈ toksX 16 x.f2, mayB t = true := fun hv => toks_may 16 _ (k4 hv)
  unfold hasV at hX k4
  intro t ht
  unfold toksI headT placeT at ht
  rcases List.mem_append.1 ht with h1 | h1
  · repeat' split at h1
    all_goals simp only [List.mem_cons, List.mem_append, List.not_mem_nil, or_false] at h1
    · rcases h1 with rfl | rfl | rfl | h1
      · exact may_more _ (by simp)
      · exact may_name1 (k3 (by omega))
      · exact may_more _ (by simp)
      · exact hX (by omega) t h1
    · rcases h1 with rfl | rfl | rfl | h1
      · exact may_more _ (by simp)
      · exact may_name1 (k3 (by omega))
      · exact may_more _ (by simp)
      · exact toksS_may 16 _ (k5 (by omega)) t h1
    · rcases h1 with rfl | rfl
      · exact may_more _ (by simp)
      · exact may_name1 (k3 (by omega))
    · rcases h1 with rfl | h1
      · exact may_more _ (by simp)
      · exact hX (by omega) t h1
    · rcases h1 with rfl | h1
      · exact may_more _ (by simp)
      · exact hX (by omega) t h1
    · rcases h1 with rfl | rfl <;> exact may_more _ (by simp)
    · rcases h1 with rfl | rfl <;> exact may_more _ (by simp)
    · rcases h1 with rfl | rfl | h1
      · exact may_more _ (by simp)
      · exact may_more _ (by simp)
      · exact hX (by omega) t h1
    · rcases h1 with rfl | rfl | rfl | h1 | rfl
      · exact may_more _ (by simp)
      · exact may_more _ (by simp)
      · exact may_more _ (by simp)
      · exact exT_may k8 t h1
      · exact may_more _ (by simp)
    · rcases h1 with rfl; exact may_more _ (by simp)
  · rw [List.mem_singleton] at h1; subst h1; exact may_more _ (by simp)
theorem may_f1 {t : XT} (h : mayB t = true) (h3 : t.f0 = 3 → t.f1.size ≤ 9223372036854775807) : t.f1.size ≤ 9223372036854775807 := by
  by_cases h4 : t.f0 = 3
  · exact h3 h4
  · have h5 := form_size h
    unfold formT at h5
    rw [if_neg h4] at h5; omega
theorem may_sz {t : XT} (h : mayB t = true) : t.f1.size ≤ 9223372036854775807 := may_f1 h (fun h3 => by
  unfold mayB at h
  rw [if_neg (by omega), if_neg (by omega), if_pos h3] at h
  simp only [Bool.and_eq_true, decide_eq_true_eq] at h
  omega)
theorem lenX_xs {n : Nat} (hn : ∀ (x : XE) (l : Int), (xexpr n x l).1 ≠ 0 → 0 ≤ l → ((toksX n x).length : Int) ≤ 3 * (l - (xexpr n x l).2)) : ∀ (l : List XE) (d : Nat) (left : Int), (xexprs (xexpr n) l d left).1 ≠ 0 → 0 ≤ left → ((l.map (fun p => (toksX n p).length)).sum : Int) ≤ 3 * (left - (xexprs (xexpr n) l d left).2)
  | [], d, left, _, h => by rw [xexprs]; simp
  | p :: r, d, left, h, h0 => by
    rw [xexprs] at h ⊢
    split at h
    · exact absurd rfl h
    · rename_i h1
      rw [if_neg h1]
      have h2 := hn p left h1 h0
      have h3 := lenX_xs hn r _ _ h ((xexpr_left n p left h0).2.2 h1)
      rw [List.map_cons, List.sum_cons]
      omega
theorem toksX_len : ∀ (n : Nat) (x : XE) (l : Int), (xexpr n x l).1 ≠ 0 → 0 ≤ l → ((toksX n x).length : Int) ≤ 3 * (l - (xexpr n x l).2)
  | 0, _, _, h, _ => absurd rfl h
  | n + 1, x, l, h, h0 => by
    have hS := shape_of (n + 1) x l h
    obtain ⟨hp, hq⟩ := hS
    have hk := parts_kind hp
    rw [xexpr] at h ⊢
    split at h
    · exact absurd rfl h
    · rename_i h1
      rw [if_neg h1]
      rw [hp] at h ⊢
      simp only at h ⊢
      rw [if_pos trivial] at h ⊢
      have h2 := lenX_xs (fun x l a b => toksX_len n x l a b) x.f3 0 (l - 1) h (by omega)
      rw [toksX]
      split
      · simp only [List.length_cons, List.length_nil]; omega
      · split
        · simp only [List.length_cons, List.length_nil]; omega
        · split
          · have hl : x.f3.length = 1 := by omega
            have e : x.f3 = [part x 0] := by
              match hx : x.f3, hl with
              | [a], _ => rw [show part x 0 = a by unfold part; rw [hx]; rfl]
            rw [e] at h2
            simp only [List.map_cons, List.map_nil, List.sum_cons, List.sum_nil] at h2
            rw [← e] at h2
            simp only [List.length_cons]; omega
          · have hl : x.f3.length = 2 := by omega
            have e : x.f3 = [part x 0, part x 1] := by
              match hx : x.f3, hl with
              | [a, b], _ => rw [show part x 0 = a by unfold part; rw [hx]; rfl, show part x 1 = b by unfold part; rw [hx]; rfl]
            rw [e] at h2
            simp only [List.map_cons, List.map_nil, List.sum_cons, List.sum_nil] at h2
            rw [← e] at h2
            simp only [List.length_cons, List.length_append, List.length_nil]; omega
theorem btw_len {α : Type} {s : ByteArray} {f : α → List XT} {st : α → Int → Bool × Int} (hf : ∀ p l, (st p l).1 = true → 0 ≤ l → ((f p).length : Int) + 1 ≤ 4 * (l - (st p l).2) ∧ 0 ≤ (st p l).2) : ∀ (l : List α) (b : Bool) (left : Int), (xlist st l left).1 = true → 0 ≤ left → ((btw s f b l).length : Int) ≤ 4 * (left - (xlist st l left).2)
  | [], b, left, _, h => by rw [xlist, btw]; simp
  | p :: r, b, left, h, h0 => by
    rw [xlist] at h ⊢
    split at h
    · rename_i h1
      rw [if_pos h1]
      have h2 := hf p left h1 h0
      have h3 := btw_len (s := s) hf r true _ h h2.2
      rw [btw]
      simp only [List.length_append]
      have h4 : (if b = true then [sayT s] else []).length ≤ 1 := by split <;> simp
      omega
    · cases h
theorem btw_len1 {α : Type} {s : ByteArray} {f : α → List XT} {st : α → Int → Bool × Int} (hf : ∀ p l, (st p l).1 = true → 0 ≤ l → ((f p).length : Int) + 1 ≤ 4 * (l - (st p l).2) ∧ 0 ≤ (st p l).2) (l : List α) (left : Int) (hl : 0 < l.length) (h : (xlist st l left).1 = true) (h0 : 0 ≤ left) : ((btw s f false l).length : Int) + 1 ≤ 4 * (left - (xlist st l left).2) := by
  cases l with
  | nil => exact absurd hl (by simp)
  | cons p r =>
    rw [xlist] at h ⊢
    split at h
    · rename_i h1
      rw [if_pos h1]
      have h2 := hf p left h1 h0
      have h3 := btw_len (s := s) hf r true _ h h2.2
      rw [btw]
      simp only [List.length_append]
      rw [if_neg Bool.false_ne_true]
      simp only [List.length_nil]
      omega
    · cases h
theorem stE_step (p : XE) (l : Int) (h : (stE p l).1 = true) (h0 : 0 ≤ l) : ((toksX 16 p).length : Int) + 1 ≤ 4 * (l - (stE p l).2) ∧ 0 ≤ (stE p l).2 := by
  have h1 : (xexpr 16 p l).1 ≠ 0 := by have := of_decide_eq_true h; omega
  have h2 := toksX_len 16 p l h1 h0
  have h3 := xexpr_left 16 p l h0
  have h4 : 1 ≤ (toksX 16 p).length := by
    have hS := shape_of 16 p l h1
    obtain ⟨hp, _⟩ := hS
    rw [toksX]
    repeat' split
    all_goals simp only [List.length_cons]; omega
  show ((toksX 16 p).length : Int) + 1 ≤ 4 * (l - (xexpr 16 p l).2) ∧ 0 ≤ (xexpr 16 p l).2
  exact ⟨by omega, h3.2.2 h1⟩
theorem exT_len (l : List XE) (left : Int) (h : (xlist stE l left).1 = true) (h0 : 0 ≤ left) : ((exT l).length : Int) ≤ 4 * (left - (xlist stE l left).2) := btw_len stE_step l false left h h0
theorem stR_step (r : List XE) (l : Int) (h : (stR r l).1 = true) (h0 : 0 ≤ l) : ((exT r).length : Int) + 1 ≤ 4 * (l - (stR r l).2) ∧ 0 ≤ (stR r l).2 := by
  have h2 := (stR_falls r l h0).2.2 h
  unfold stR at h h2 ⊢
  split at h
  · rename_i h1
    rw [if_pos h1] at h2 ⊢
    exact ⟨btw_len1 stE_step r l (by omega) h h0, h2⟩
  · cases h
theorem rows_len (s : XS) (left : Int) (h8 : s.f0 = 8) (h : (rowsS s left).1 = true) (h0 : 0 ≤ left) : ((btw ⟨#[59]⟩ exT false s.f4).length : Int) ≤ 4 * (left - (rowsS s left).2) := by
  unfold rowsS rowsF at h ⊢
  rw [if_pos h8] at h ⊢
  split at h
  · rename_i h1
    rw [if_pos h1]
    exact btw_len stR_step s.f4 false left h h0
  · cases h
theorem toksS_len : ∀ (n : Nat) (s : XS) (l : Int), (xshape n s l).1 = true → 0 ≤ l → ((toksS n s).length : Int) + 1 ≤ 4 * (l - (xshape n s l).2) ∧ 0 ≤ (xshape n s l).2
  | 0, _, _, h, _ => by cases h
  | n + 1, s, l, h, h0 => by
    have hf := (xshape_falls (n + 1) s l h0).2.2 h
    refine ⟨?_, hf⟩
    have hL := shape_len (n + 1) s l h
    rw [xshape] at h ⊢
    split at h
    · cases h
    · rename_i hc0
      rw [if_neg hc0]
      split at h
      · rename_i hH
        rw [if_pos hH]
        split at h
        · rename_i h1
          rw [if_pos h1]
          split at h
          · rename_i h2
            rw [if_pos h2]
            have f1 := rowsS_falls s (l - 1) (by omega)
            have f2 := xlist_left s.f2 _ (fun p _ l h => stE_falls p l h) (f1.2.2 h1)
            have f3 := xlist_left s.f3 _ (fun p _ l h => xshape_falls n p l h) (f2.2.2 h2)
            rw [toksS]
            split
            · simp only [List.length_cons, List.length_nil]
              have := f1.2.1; have := f2.2.1; have := f3.2.1; omega
            · split
              · rename_i h8
                have e1 := rows_len s (l - 1) h8 h1 (by omega)
                simp only [List.length_cons, List.length_append, List.length_nil]
                have := f2.2.1; have := f3.2.1; omega
              · have e1 := exT_len s.f2 _ h2 (f1.2.2 h1)
                have e2 := btw_len (s := ⟨#[44]⟩) (fun p l a b => toksS_len n p l a b) s.f3 false _ h (f2.2.2 h2)
                simp only [List.length_cons, List.length_append, List.length_nil]
                have := f1.2.1; omega
          · rename_i h2; exact absurd h h2
        · rename_i h1; exact absurd h h1
      · cases h
theorem toksI_len {x : XI} {l : Int} (h : (itemF x l).1 = true) (h0 : 0 ≤ l) (h1 : l ≤ 8192) : (toksI x).length ≤ 40000 := by
  unfold itemF at h
  split at h
  · cases h
  · rename_i c0
    split at h
    · rename_i hH
      split at h
      · rename_i c1
        split at h
        · rename_i c2
          have f1 := valI_falls x (l - 1) (by omega)
          have f2 := shI_falls x _ (f1.2.2 c1)
          have f3 := xlist_left x.f5 _ (fun p _ l h => stE_falls p l h) (f2.2.2 c2)
          have b1 := f1.2.1; have b2 := f2.2.1; have b3 := f3.1
          have a1 := f1.2.2 c1
          have a2 := f2.2.2 c2
          have eV : hasV x → (toksX 16 x.f2).length ≤ 32800 := fun hv => by
            unfold valI at c1 f1
            rw [if_pos hv] at c1 f1
            have := (stE_step x.f2 (l - 1) c1 (by omega)).1
            have := f1.1
            omega
          have eS : x.f0 = 2 → (toksS 16 x.f3).length ≤ 32800 := fun hs => by
            unfold shI at c2 f2
            rw [if_pos hs] at c2 f2
            have := (toksS_len 16 x.f3 _ c2 a1).1
            have := f2.1
            omega
          have eL : (exT x.f5).length ≤ 32800 := by
            have := exT_len x.f5 _ h a2
            omega
          unfold hasV at eV
          obtain ⟨nm, v, sh, li, e1, _⟩ := hH
          have hc := items_cases e1
          unfold toksI headT placeT
          simp only [List.length_append, List.length_cons, List.length_nil]
          repeat' split
          all_goals simp only [List.length_append, List.length_cons, List.length_nil]
          all_goals first | omega | (have := eV (by omega); omega) | (have := eS (by omega); omega)
        · rename_i c2; exact absurd h c2
      · rename_i c1; exact absurd h c1
    · cases h
theorem items_len : ∀ (l : List XI) (left : Int), (xlist itemF l left).1 = true → 0 ≤ left → left ≤ 8192 → ∀ x ∈ l, (toksI x).length ≤ 40000
  | [], _, _, _, _, x, hx => absurd hx (by simp)
  | p :: r, left, h, h0, h1, x, hx => by
    rw [xlist] at h
    split at h
    · rename_i h2
      have hf := itemF_falls p left h0
      rcases List.mem_cons.1 hx with rfl | hx
      · exact toksI_len h2 h0 h1
      · exact items_len r _ h (hf.2.2 h2) (by have := hf.2.1; omega) x hx
    · cases h
theorem may_toks {l : List XI} (h : mayI l = true) : ∀ x ∈ l, (toksI x).length ≤ 40000 := by
  unfold mayI at h
  rw [Bool.and_eq_true] at h
  exact items_len l 8192 h.2 (by decide) (by decide)
end Go.Proofs.YtibaidddhmdafaaDoor.E
end
section
namespace Go.Proofs.YtibaidddhmdafaaDoor.E
open Go Go.RowKit Go.Proofs.YtibaidddhmdafaaDoorW.PrintWords Go.Proofs.YtibaidddhmdafaaDoorW.PrintLast Go.Proofs.YtibaidddhmdafaaDoorW.PrintMore Go.Proofs.YtibaidddhmdafaaDoor.PA
set_option linter.unusedVariables false
set_option linter.unusedSimpArgs false
set_option maxRecDepth 100000 in
theorem text_gen (fid : Nat) (fn : Func) (caps : List Value) (toks : List XT) (bs : List Res) (w0 w : World) (hfn : Tryd.prog.funcs[fid]? = some fn) (hnm : (fn.name == "runtime.NumGoroutine") = false) (hbd : fn.body.isNone = false) (hf : ∀ (gw : Nat) (w1 : World), H w0 (pt gw #[.slice none 0 0] 90 :: row 94 5 (.slice none 0 0) 0 [] :: bs) w1 → Calls Tryd.prog fid (.pointer (some ⟨gw, 0, none⟩) :: caps).toArray w1 fun e w' => ∃ A2 c2, e = .returned (.tuple #[]) ∧ H w0 (pt gw #[.slice A2 (toks).length c2] 90 :: row 94 5 (.slice A2 (toks).length c2) (toks).length ((toks).flatMap tokC) :: bs) w') (hmy : ∀ t ∈ toks, mayB t = true) (hln : toks.length ≤ 800000) (hP : Pow10 w0) (r : ByteArray × Int) (hr : joinF toks = r) (h : H w0 bs w) :
    Calls Tryd.prog 30 #[.func (.func fid) #[] caps.toArray] w fun e w' => e = .returned (.tuple #[.string r.1, .int .i64 r.2]) ∧ H w0 bs w' := by
  refine calls_enter (N := 12) (n := 11) (args := [.func (.func fid) #[] caps.toArray]) Tryd.func30 rfl rfl rfl (h) (fun a hs => ?_)
  refine wp_seq (wp_region_lit ?_)
  refine go hs (pA rfl <| pA rfl <| ?_); clear hs a; intro a hs
  refine wpList_nil (then_normal (wp_seq ?_))
  refine wp_region_lit ?_
  refine a_eff rfl (e_alloc (z := .agg #[.slice none 0 0]) (cs := #[.slice none 0 0]) hs rfl (by kernel_rfl) rfl ?_); clear hs a; intro gw a w hs
  refine wpList_nil (then_normal (wp_seq ?_))
  refine wp_region_lit (go hs (pM rfl <| ?_)); clear hs a; intro a hs
  refine a_eff rfl (e_callF hfn hnm hbd hs rfl rfl rfl (hf gw _ ((hs.mem.nilRow 94 5).to 1 rfl)) (fun e w1 ⟨A2, c2, he, hm⟩ => ⟨_, he, _, hm, ?_⟩)); clear hs a; intro a hs
  refine wpList_nil (then_normal (wp_seq ?_))
  refine wp_region_lit (go hs (pV rfl (fun a hs => y_faddr (k' := 0) 0 hs (by kernel_rfl) rfl rfl) <| pV rfl (fun a hs => y_load hs Tryd.underlying88 rfl rfl (fun w hw => (hw.to 0 rfl).cellV rfl)) <| ?_)); clear hs a; intro a hs
  refine a_eff rfl (e_callB Tryd.func64 rfl rfl hs rfl rfl (token_Join A2 c2 toks _ ((hs.mem.to 1 rfl).rowC tokC_K tokC_len rfl rfl (by omega)).1 (by omega) (fun t ht => may_sz (hmy t ht)) (varKeep hs.mem.base hP)) ?_); clear hs a; intro a w hs
  refine go hs (pV rfl (fun a hs => y_extract hs rfl rfl) <| pV rfl (fun a hs => y_extract hs rfl rfl) <| pA rfl <| pA rfl <| ?_); clear hs a; intro a hs
  refine wpList_nil (then_normal (wp_ret ?_))
  refine fin_ret hs (.tmp (hs.slots _ _ rfl) (.tmp (hs.slots _ _ rfl) .nil)) ⟨?_, ((hs.mem.to 0 rfl).drop.to 0 rfl).drop⟩
  rw [← hr]; rfl
set_option maxRecDepth 100000 in
theorem item_put (g gx : Nat) (x : XI) (A5 A10 A11 A12 A16 : Option Addr) (c5 c10 c11 c12 c16 : Nat) (bs : List Res) (w0 w : World) (hA5 : Kd.C k25 w0 A5 x.f2.f3.length x.f2.f3) (hA10 : Kd.C k25 w0 A10 x.f3.f2.length x.f3.f2) (hA11 : Kd.C k42 w0 A11 x.f3.f3.length x.f3.f3) (hA12 : Kd.C (Kd.slice 25 k25) w0 A12 x.f3.f4.length x.f3.f4) (hA16 : Kd.C k25 w0 A16 x.f5.length x.f5) (hG : goodI x) (hln : (toksI x).length ≤ 800000) (h : H w0 (pt g #[.slice none 0 0] 90 :: row 94 5 (.slice none 0 0) 0 [] :: pt gx #[.int .u8 x.f0, .string x.f1, .int .u8 x.f2.f0, .int .i64 x.f2.f1, .string x.f2.f2, .slice A5 x.f2.f3.length c5, .int .i64 x.f2.f4, .int .i64 x.f2.f5, .int .u8 x.f3.f0, .string x.f3.f1, .slice A10 x.f3.f2.length c10, .slice A11 x.f3.f3.length c11, .slice A12 x.f3.f4.length c12, .int .i64 x.f3.f5, .int .i64 x.f3.f6, .int .u8 x.f4, .slice A16 x.f5.length c16, .int .i64 x.f6, .int .i64 x.f7] 45 :: bs) w) :
    Calls Tryd.prog 36 #[.pointer (some ⟨g, 0, none⟩), .pointer (some ⟨gx, 0, none⟩)] w fun e w' => ∃ A7 c7, e = .returned (.tuple #[]) ∧ H w0 (pt g #[.slice A7 (toksI x).length c7] 90 :: row 94 5 (.slice A7 (toksI x).length c7) (toksI x).length ((toksI x).flatMap tokC) :: pt gx #[.int .u8 x.f0, .string x.f1, .int .u8 x.f2.f0, .int .i64 x.f2.f1, .string x.f2.f2, .slice A5 x.f2.f3.length c5, .int .i64 x.f2.f4, .int .i64 x.f2.f5, .int .u8 x.f3.f0, .string x.f3.f1, .slice A10 x.f3.f2.length c10, .slice A11 x.f3.f3.length c11, .slice A12 x.f3.f4.length c12, .int .i64 x.f3.f5, .int .i64 x.f3.f6, .int .u8 x.f4, .slice A16 x.f5.length c16, .int .i64 x.f6, .int .i64 x.f7] 45 :: bs) w' := by
  refine calls_enter (N := 6) (n := 4) (args := [.pointer (some ⟨g, 0, none⟩), .pointer (some ⟨gx, 0, none⟩)]) Tryd.func36 rfl rfl rfl (h) (fun a hs => ?_)
  refine wp_region_lit (go hs (pM rfl <| pV rfl (fun a hs => y_loadAgg (vs := [.int .u8 x.f0, .string x.f1, .int .u8 x.f2.f0, .int .i64 x.f2.f1, .string x.f2.f2, .slice A5 x.f2.f3.length c5, .int .i64 x.f2.f4, .int .i64 x.f2.f5, .int .u8 x.f3.f0, .string x.f3.f1, .slice A10 x.f3.f2.length c10, .slice A11 x.f3.f3.length c11, .slice A12 x.f3.f4.length c12, .int .i64 x.f3.f5, .int .i64 x.f3.f6, .int .u8 x.f4, .slice A16 x.f5.length c16, .int .i64 x.f6, .int .i64 x.f7]) hs Tryd.underlying44 rfl (by kernel_rfl) rfl (fun w hw k v hk => ((hw.to 2 rfl).cell).trans (by rw [Nat.zero_add, ← Array.getElem?_toList]; exact hk))) <| ?_)); clear hs a; intro a hs
  refine a_eff rfl (e_callX Tryd.func37 rfl rfl hs rfl rfl (w_item x A5 A10 A11 A12 A16 c5 c10 c11 c12 c16 g [] none 0 _ w0 _ hA5 hA10 hA11 hA12 hA16 hG (by simpa using hln) ((hs.mem.to 1 rfl).to 1 rfl)) (fun e w1 ⟨A2, c2, he, hm⟩ => ⟨_, he, _, hm, ?_⟩)); clear hs a; intro a hs
  refine wpList_nil ?_
  refine fin_end hs .nil ⟨A2, c2, rfl, (((hs.mem.to 2 rfl).to 2 rfl).to 2 rfl)⟩
def lineB (x : XI) : ByteArray := jb (toksI x) ++ ⟨#[10]⟩
def accB (l : List XI) (acc : ByteArray) : ByteArray := l.foldl (fun a x => a ++ lineB x) acc
theorem accB_ge : ∀ (l : List XI) (acc : ByteArray), acc.size ≤ (accB l acc).size
  | [], _ => Nat.le_refl _
  | x :: r, acc => by
    have h := accB_ge r (acc ++ lineB x)
    rw [ByteArray.size_append] at h
    show acc.size ≤ (accB r (acc ++ lineB x)).size
    omega
theorem lineB_size (x : XI) : (lineB x).size = (jb (toksI x)).size + 1 := by unfold lineB; rw [ByteArray.size_append]; rfl
/-- A description's text, or the error. -/
noncomputable def textsI (l : List XI) : ByteArray × Int := bif mayI l then (if (accB l ⟨#[]⟩).size > 65536 then (⟨#[]⟩, 4) else (accB l ⟨#[]⟩, 0)) else (⟨#[]⟩, 2)
set_option maxHeartbeats 400000 in
set_option maxRecDepth 100000 in
theorem tree_Text (A : Option Addr) (c : Nat) (l : List XI) (v0 : World) (hA : Kd.C k45 v0 A l.length l) (hsl : ∀ p ∈ l, smallI p) (hP : Pow10 v0) :
    Calls Tryd.prog 15 #[.slice A l.length c] v0 fun e w' => e = .returned (.tuple #[.string (textsI l).1, .int .i64 (textsI l).2]) ∧ Below v0.heap.size v0 w' := by
  refine calls_enter (N := 33) (n := 32) (args := [.slice A l.length c]) Tryd.func15 rfl rfl rfl (H.init v0) (fun a hs => ?_)
  have hcl := C_len hA
  refine wp_seq (wp_region_lit ?_)
  refine go hs (pA rfl <| pA rfl <| ?_); clear hs a; intro a hs
  refine wpList_nil (then_normal (wp_seq ?_))
  refine wp_seq (wp_region_lit ?_)
  refine go hs (pM rfl <| ?_); clear hs a; intro a hs
  refine a_eff rfl (e_callB Tryd.func23 rfl rfl hs rfl rfl (tree_May A c l _ (Kd.C_below hA hs.mem.base) hsl) ?_); clear hs a; intro a w hs
  refine go hs (pV rfl (fun a hs => y_not hs rfl) <| ?_); clear hs a; intro a hs
  refine wpList_nil (then_normal ?_)
  refine wp_cond_split (hs.ev rfl) (fun h11 => ?_) (fun h11 => ?_)
  · replace h11 := (not_t h11)
    refine wp_seq (wp_region_lit ?_)
    refine go hs (pA rfl <| pA rfl <| ?_); clear hs a; intro a hs
    refine wpList_nil (then_normal (wp_ret (then_ret ?_)))
    have hX : textsI l = (⟨#[]⟩, 2) := by unfold textsI; rw [h11]; rfl
    refine fin_ret hs (.tmp (hs.slots _ _ rfl) (.tmp (hs.slots _ _ rfl) .nil)) ⟨?_, hs.mem.base⟩
    rw [hX]; rfl
  replace h11 := (not_f h11)
  have hG := may_good h11
  have hT := may_toks h11
  have h64 := may_len h11
  refine wp_skip (then_normal (wp_seq ?_))
  refine wp_region_lit ?_
  refine a_eff rfl (e_alloc (z := .agg #[.pointer none, .slice none 0 0]) (cs := #[.pointer none, .slice none 0 0]) hs rfl (by kernel_rfl) rfl ?_); clear hs a; intro gb a w hs
  refine wpList_nil (then_normal (wp_seq ?_))
  refine wp_seq (wp_region_lit ?_)
  refine go hs (pM rfl <| pV rfl (fun a hs => y_lenL hs Tryd.underlying32 rfl) <| pM rfl <| ?_); clear hs a; intro a hs
  refine wpList_nil (then_normal (wp_block ?_))
  have hm0 : H v0 [pt gb #[.pointer none, .slice none (⟨#[]⟩ : ByteArray).size 0] 62, row 5 1 (.slice none (⟨#[]⟩ : ByteArray).size 0) (⟨#[]⟩ : ByteArray).size (Lib.strCells (⟨#[]⟩ : ByteArray))] _ := (hs.mem.nilRow 5 1).to 1 rfl
  refine wp_loopN (fun m a w1 => ∃ (i : Nat) (acc : ByteArray) (p A2 : Option Addr) (c2 : Nat), (i + m = l.length) ∧ (p = none ∨ p = some ⟨gb, 0, none⟩) ∧ (acc.size ≤ i * 65537) ∧ (accB (l.drop i) acc = accB l ⟨#[]⟩) ∧ St 33 v0 [(4, .pointer (some ⟨gb, 0, none⟩)), (12, .slice A l.length c), (13, .int .i64 (l.length : Int)), (14, .int .i64 ((i : Nat) : Int))] [pt gb #[.pointer p, .slice A2 (acc).size c2] 62, row 5 1 (.slice A2 (acc).size c2) (acc).size (Lib.strCells (acc))] a w1) (l.length) ⟨0, ⟨#[]⟩, none, none, 0, by omega, .inl rfl, by decide, rfl, ?_⟩ (fun m a w1 hJ => ?_)
  · exact (hs.mem_to hm0).cut _ ⟨rfl, rfl, rfl, rfl, trivial⟩
  clear hs hm0
  obtain ⟨i, acc, p, A2, c2, hi, hp, hacc, hinv, hs⟩ := hJ
  refine wp_seq (wp_region_lit ?_)
  refine go hs (pV rfl (fun a hs => y_cmp hs rfl rfl rfl) <| ?_); clear hs a; intro a hs
  refine wpList_nil (then_normal (wp_seq ?_))
  refine wp_cond_split (hs.ev rfl) (fun h15 => ?_) (fun h15 => ?_)
  · replace h15 := of_decide_eq_true h15
    obtain ⟨y, hy⟩ : ∃ p, l[i]? = some p := ⟨_, List.getElem?_eq_getElem (by omega)⟩
    have hyG := hG y (List.mem_of_getElem? hy)
    have hyT : (toksI y).length ≤ 800000 := by have := hT y (List.mem_of_getElem? hy); omega
    obtain ⟨g1, o1, rfl, hcell1⟩ := C_atG (show 0 < 19 by decide) hA (by omega)
    obtain ⟨cs1, hK1, hc1⟩ := hcell1 i y hy
    obtain ⟨A5, c5, A10, c10, A11, c11, A12, c12, A16, c16, rfl, al5, ag5, al10, ag10, al11, ag11, al12, ag12, al16, ag16⟩ := k45_open hK1
    have hdrop : l.drop i = y :: l.drop (i + 1) := by
      rw [List.drop_eq_getElem_cons (by omega)]
      rw [List.getElem?_eq_getElem (by omega)] at hy
      injection hy with hy
      rw [hy]
    refine wp_skip (then_normal (wp_seq ?_))
    refine wp_block (wp_seq ?_)
    refine wp_region_lit (go hs (pV rfl (fun a hs => y_idxB (size := 19) (off := o1 + i * 19) hs Tryd.underlying32 (by kernel_rfl) rfl rfl (by omega) (by omega) (by simp)) <| pV rfl (fun a hs => y_loadAgg (vs := [.int .u8 y.f0, .string y.f1, .int .u8 y.f2.f0, .int .i64 y.f2.f1, .string y.f2.f2, .slice A5 y.f2.f3.length c5, .int .i64 y.f2.f4, .int .i64 y.f2.f5, .int .u8 y.f3.f0, .string y.f3.f1, .slice A10 y.f3.f2.length c10, .slice A11 y.f3.f3.length c11, .slice A12 y.f3.f4.length c12, .int .i64 y.f3.f5, .int .i64 y.f3.f6, .int .u8 y.f4, .slice A16 y.f5.length c16, .int .i64 y.f6, .int .i64 y.f7]) hs Tryd.underlying44 rfl (by kernel_rfl) rfl (fun w hw k v hk => hc1 w hw.base k v hk)) <| ?_)); clear hs a; intro a hs
    refine a_eff rfl (e_alloc (z := .agg #[.int .u8 0, .string ⟨#[]⟩, .int .u8 0, .int .i64 0, .string ⟨#[]⟩, .slice none 0 0, .int .i64 0, .int .i64 0, .int .u8 0, .string ⟨#[]⟩, .slice none 0 0, .slice none 0 0, .slice none 0 0, .int .i64 0, .int .i64 0, .int .u8 0, .slice none 0 0, .int .i64 0, .int .i64 0]) (cs := #[.int .u8 0, .string ⟨#[]⟩, .int .u8 0, .int .i64 0, .string ⟨#[]⟩, .slice none 0 0, .int .i64 0, .int .i64 0, .int .u8 0, .string ⟨#[]⟩, .slice none 0 0, .slice none 0 0, .slice none 0 0, .int .i64 0, .int .i64 0, .int .u8 0, .slice none 0 0, .int .i64 0, .int .i64 0]) hs rfl (by kernel_rfl) rfl ?_); clear hs a; intro gx a w hs
    refine a_eff rfl (e_store (cl := [_, _, _, _, _, _, _, _, _, _, _, _, _, _, _, _, _, _, _]) 0 rfl hs rfl rfl (by kernel_rfl) rfl rfl rfl ?_); clear hs a; intro a w hs
    refine wpList_nil (then_normal (wp_seq ?_))
    rcases Nat.lt_or_ge 65536 (jb (toksI y)).size with hbig | hbig
    · have hj : joinF (toksI y) = (⟨#[]⟩, 4) := by rw [join_jb (toksI_may hyG), if_pos hbig]
      refine wp_region_lit (go hs (pV rfl (fun a hs => y_func hs rfl rfl) <| ?_)); clear hs a; intro a hs
      refine a_eff rfl (e_callX Tryd.func30 rfl rfl hs rfl rfl (text_gen 36 _ [.pointer (some ⟨gx, 0, none⟩)] (toksI y) _ v0 _ Tryd.func36 rfl rfl (fun gw w1 h => item_put gw gx y A5 A10 A11 A12 A16 c5 c10 c11 c12 c16 _ v0 w1 ag5 ag10 ag11 ag12 ag16 hyG hyT h) (toksI_may hyG) hyT hP _ hj (((hs.mem.to 2 rfl).to 2 rfl).to 2 rfl)) (fun e w1 ⟨he, hm⟩ => ⟨_, he, _, hm, ?_⟩)); clear hs a; intro a hs
      refine go hs (pM rfl <| pV rfl (fun a hs => y_extract hs rfl rfl) <| pV rfl (fun a hs => y_extract hs rfl rfl) <| pA rfl <| pA rfl <| ?_); clear hs a; intro a hs
      refine wpList_nil (then_normal (wp_seq ?_))
      refine wp_seq (wp_region_lit ?_)
      refine go hs (pM rfl <| pV rfl (fun a hs => y_cmp (b := true) hs rfl rfl (congrArg some (bne_iff_ne.2 (by decide)))) <| ?_); clear hs a; intro a hs
      refine wpList_nil (then_normal ?_)
      refine wp_cond_true (hs.ev rfl) ?_
      refine wp_seq (wp_region_lit ?_)
      refine go hs (pM rfl <| pA rfl <| pA rfl <| ?_); clear hs a; intro a hs
      refine wpList_nil (then_normal (wp_ret (then_ret (in_ret (then_ret (then_ret (in_ret (then_ret ?_))))))))
      have hX : textsI l = (⟨#[]⟩, 4) := by
        have hge := accB_ge (l.drop (i + 1)) (acc ++ lineB y)
        rw [ByteArray.size_append, lineB_size] at hge
        unfold textsI
        rw [h11, ← hinv, hdrop]
        show (if (accB (l.drop (i + 1)) (acc ++ lineB y)).size > 65536 then _ else _) = _
        rw [if_pos (by omega)]
      refine fin_ret hs (.tmp (hs.slots _ _ rfl) (.tmp (hs.slots _ _ rfl) .nil)) ⟨?_, hs.mem.base⟩
      rw [hX]; rfl
    have hj : joinF (toksI y) = (jb (toksI y), 0) := by rw [join_jb (toksI_may hyG), if_neg (by omega)]
    refine wp_region_lit (go hs (pV rfl (fun a hs => y_func hs rfl rfl) <| ?_)); clear hs a; intro a hs
    refine a_eff rfl (e_callX Tryd.func30 rfl rfl hs rfl rfl (text_gen 36 _ [.pointer (some ⟨gx, 0, none⟩)] (toksI y) _ v0 _ Tryd.func36 rfl rfl (fun gw w1 h => item_put gw gx y A5 A10 A11 A12 A16 c5 c10 c11 c12 c16 _ v0 w1 ag5 ag10 ag11 ag12 ag16 hyG hyT h) (toksI_may hyG) hyT hP _ hj (((hs.mem.to 2 rfl).to 2 rfl).to 2 rfl)) (fun e w1 ⟨he, hm⟩ => ⟨_, he, _, hm, ?_⟩)); clear hs a; intro a hs
    refine go hs (pM rfl <| pV rfl (fun a hs => y_extract hs rfl rfl) <| pV rfl (fun a hs => y_extract hs rfl rfl) <| pA rfl <| pA rfl <| ?_); clear hs a; intro a hs
    refine wpList_nil (then_normal (wp_seq ?_))
    refine wp_seq (wp_region_lit ?_)
    refine go hs (pM rfl <| pV rfl (fun a hs => y_cmp (b := false) hs rfl rfl (congrArg some (bne_eq_false_iff_eq.2 (rfl)))) <| ?_); clear hs a; intro a hs
    refine wpList_nil (then_normal ?_)
    refine wp_cond_false (hs.ev rfl) ?_
    refine wp_skip (then_normal (wp_region_lit ?_))
    refine go hs (pM rfl <| ?_); clear hs a; intro a hs
    replace hs := hs.say 26 rfl (show _ = Value.string (jb (toksI y)) from rfl)
    refine go hs (pV rfl (fun a hs => y_sadd hs rfl rfl (by rw [show (⟨#[10]⟩ : ByteArray).size = 1 from rfl]; omega)) <| ?_); clear hs a; intro a hs
    obtain ⟨sl, hsl⟩ : ∃ s, s = lineB y := ⟨_, rfl⟩
    have hsz : sl.size = (jb (toksI y)).size + 1 := by rw [hsl, lineB_size]
    replace hs := hs.say 27 rfl (show _ = Value.string sl from congrArg Value.string hsl.symm)
    refine a_eff rfl (e_callX Tryd.func38 rfl rfl hs rfl rfl (builder_put gb p hp A2 c2 acc sl (by omega) _ v0 _ ((hs.mem.to 2 rfl).to 2 rfl)) (fun e w1 ⟨A3, c3, he, hm⟩ => ⟨_, he, _, hm, ?_⟩)); clear hs a; intro a hs
    refine wpList_nil (in_normal (then_normal (wp_region_lit ?_)))
    refine go hs (pV rfl (fun a hs => y_add hs rfl rfl (by omega)) <| pM rfl <| ?_); clear hs a; intro a hs
    refine wpList_nil (then_normal ?_)
    refine ⟨m - 1, by omega, i + 1, acc ++ sl, some ⟨gb, 0, none⟩, A3, c3, by omega, .inr rfl, by rw [ByteArray.size_append, hsz, Nat.add_mul]; omega, by rw [← hinv, hdrop, hsl]; rfl, ?_⟩
    exact (hs.mem_to (((hs.mem.to 2 rfl).drop.to 1 rfl).to 1 rfl)).cut _ ⟨rfl, rfl, rfl, rfl, trivial⟩
  replace h15 := of_decide_eq_false h15
  refine wp_exit (then_exit (then_exit (in_here (then_normal (wp_seq ?_)))))
  refine wp_seq (wp_region_lit ?_)
  refine a_eff rfl (e_callX Tryd.func39 rfl rfl hs rfl rfl (builder_Len gb _ A2 _ c2 _ v0 _ ((hs.mem.to 1 rfl).to 1 rfl)) (fun e w1 ⟨he, hm⟩ => ⟨_, he, _, hm, ?_⟩)); clear hs a; intro a hs
  refine go hs (pV rfl (fun a hs => y_cmp hs rfl rfl rfl) <| ?_); clear hs a; intro a hs
  refine wpList_nil (then_normal ?_)
  refine wp_cond_split (hs.ev rfl) (fun h31 => ?_) (fun h31 => ?_)
  · replace h31 := of_decide_eq_true h31
    refine wp_seq (wp_region_lit ?_)
    refine go hs (pA rfl <| pA rfl <| ?_); clear hs a; intro a hs
    refine wpList_nil (then_normal (wp_ret (then_ret ?_)))
    have hX : textsI l = (⟨#[]⟩, 4) := by unfold textsI; rw [h11, ← hinv, List.drop_eq_nil_of_le (by omega)]; show (if acc.size > 65536 then _ else _) = _; rw [if_pos (by omega)]
    refine fin_ret hs (.tmp (hs.slots _ _ rfl) (.tmp (hs.slots _ _ rfl) .nil)) ⟨?_, hs.mem.base⟩
    rw [hX]; rfl
  replace h31 := of_decide_eq_false h31
  refine wp_skip (then_normal (wp_seq ?_))
  refine wp_region_lit ?_
  refine a_eff rfl (e_callX Tryd.func40 rfl rfl hs rfl rfl (builder_String gb p hp A2 _ c2 acc rfl _ v0 _ ((hs.mem.to 1 rfl).to 1 rfl)) (fun e w1 ⟨he, hb⟩ => ⟨_, he, [], hs.mem.bare.onBelow hb, ?_⟩)); clear hs a; intro a hs
  refine go hs (pA rfl <| pA rfl <| ?_); clear hs a; intro a hs
  refine wpList_nil (then_normal (wp_ret ?_))
  have hX : textsI l = (acc, 0) := by unfold textsI; rw [h11, ← hinv, List.drop_eq_nil_of_le (by omega)]; show (if acc.size > 65536 then _ else _) = _; rw [if_neg (by omega)]; rfl
  refine fin_ret hs (.tmp (hs.slots _ _ rfl) (.tmp (hs.slots _ _ rfl) .nil)) ⟨?_, hs.mem.base⟩
  rw [hX]; rfl
end Go.Proofs.YtibaidddhmdafaaDoor.E
end
section
namespace Go.Proofs.YtibaidddhmdafaaDoor.E
open Go Go.RowKit Go.Proofs.YtibaidddhmdafaaDoorW.PrintWords Go.Proofs.YtibaidddhmdafaaDoorW.PrintLast Go.Proofs.YtibaidddhmdafaaDoorW.PrintMore Go.Proofs.YtibaidddhmdafaaDoor.PA
set_option linter.unusedVariables false
set_option linter.unusedSimpArgs false
theorem refE_bad {q : Nat} {x : XE} {left : Int} (hN : ¬ exprParts x = some x.f3.length) (h : 0 ≤ left - 1) : refE (q + 1) x left = -1 := by
  unfold refE
  rw [if_pos]
  rw [xexpr, if_neg (by omega)]
  cases hE : exprParts x with
  | none => rfl
  | some p' =>
    show (if _ then _ else _ : Nat × Int).1 = 0
    rw [if_neg (fun h => hN (by rw [hE, h]))]
theorem refE_next {q : Nat} {y : XE} {r : List XE} {lf : Int} {X : Nat × Int} (h : ∃ d, xexprs (xexpr q) (y :: r) d lf = X) : 0 ≤ refE q y lf → ∃ d, xexprs (xexpr q) r d (refE q y lf) = X := by
  intro h0
  obtain ⟨d, hd⟩ := h
  rw [xexprs] at hd
  unfold refE at h0 ⊢
  split at h0
  · omega
  · rename_i h1
    rw [if_neg h1] at hd
    rw [if_neg h1]
    exact ⟨_, hd⟩
theorem refE_stop {q : Nat} {y : XE} {r : List XE} {lf : Int} {X : Nat × Int} (h : ∃ d, xexprs (xexpr q) (y :: r) d lf = X) (hl : 0 ≤ lf) : refE q y lf < 0 → X.1 = 0 ∧ refE q y lf = -1 := by
  intro h0
  obtain ⟨d, hd⟩ := h
  rw [xexprs] at hd
  unfold refE at h0 ⊢
  split at h0
  · rename_i h1
    rw [if_pos h1] at hd
    rw [if_pos h1, ← hd]
    exact ⟨rfl, rfl⟩
  · rename_i h1
    have := (xexpr_left q y lf hl).2.2 h1
    omega
def RefOk (n : Nat) : Prop := ∀ (x : XE) (A : Option Addr) (C : Nat) (left : Int) (v0 : World), Kd.C k25 v0 A x.f3.length x.f3 → smallX n x → 0 ≤ left ∧ left ≤ 8192 →
    Calls Tryd.prog 42 #[.agg #[.int .u8 x.f0, .int .i64 x.f1, .string x.f2, .slice A x.f3.length C, .int .i64 x.f4, .int .i64 x.f5], .int .i64 left, .int .i64 ((n : Nat) : Int)] v0 fun e w' => e = .returned (.int .i64 (refE n x left)) ∧ Below v0.heap.size v0 w'
set_option maxRecDepth 100000 in
theorem ref_expr_step (n : Nat) (hn : n ≤ 1000) (ih : ∀ q, q + 1 = n → RefOk q) (x : XE) (A : Option Addr) (C : Nat) (left : Int) (v0 : World) (hA : Kd.C k25 v0 A x.f3.length x.f3) (hsm : smallX n x) (hl : 0 ≤ left ∧ left ≤ 8192) :
    Calls Tryd.prog 42 #[.agg #[.int .u8 x.f0, .int .i64 x.f1, .string x.f2, .slice A x.f3.length C, .int .i64 x.f4, .int .i64 x.f5], .int .i64 left, .int .i64 ((n : Nat) : Int)] v0 fun e w' => e = .returned (.int .i64 (refE n x left)) ∧ Below v0.heap.size v0 w' := by
  refine calls_enter (N := 93) (n := 90) (args := [.agg #[.int .u8 x.f0, .int .i64 x.f1, .string x.f2, .slice A x.f3.length C, .int .i64 x.f4, .int .i64 x.f5], .int .i64 left, .int .i64 ((n : Nat) : Int)]) Tryd.func42 rfl rfl rfl (H.init v0) (fun a hs => ?_)
  have hcl := C_len hA
  refine wp_seq (wp_region_lit ?_)
  refine a_eff rfl (e_box (cs := #[_, _, _, _, _, _]) hs rfl rfl rfl ?_); clear hs a; intro gx a w hs
  refine go hs (pA rfl <| ?_); clear hs a; intro a hs
  refine wpList_nil (then_normal (wp_seq ?_))
  refine wp_region_lit (go hs (pM rfl <| pV rfl (fun a hs => y_sub hs rfl rfl (by omega)) <| pA rfl <| ?_)); clear hs a; intro a hs
  refine wpList_nil (then_normal (wp_seq ?_))
  refine wp_seq (wp_region_lit ?_)
  refine go hs (pM rfl <| pV rfl (fun a hs => y_cmp hs rfl rfl rfl) <| pM rfl <| ?_); clear hs a; intro a hs
  rcases hs.know (d := 13) rfl with ⟨h13, hs1⟩ | ⟨h13, hs1⟩ <;> replace hs := hs1 <;> clear hs1
  · replace h13 := of_decide_eq_true h13
    refine go hs (pS rfl <| pS rfl <| pT rfl rfl <| ?_); clear hs a; intro a hs
    refine wpList_nil (then_normal ?_)
    refine wp_cond_true (hs.ev rfl) ?_
    refine wp_seq (wp_region_lit ?_)
    refine go hs (pA rfl <| ?_); clear hs a; intro a hs
    refine wpList_nil (then_normal (wp_ret (then_ret ?_)))
    have hX : refE n x left = -1 := by
      unfold refE
      rw [if_pos]
      cases n with
      | zero => rfl
      | succ q => rw [xexpr, if_pos (by omega)]
    refine fin_ret hs (.tmp (hs.slots _ _ rfl) .nil) ⟨?_, hs.mem.base⟩
    rw [hX]; rfl
  replace h13 := of_decide_eq_false h13
  refine go hs (pG rfl (fun a hs => y_move hs rfl) <| pG rfl (fun a hs => y_cmp hs rfl rfl rfl) <| pF rfl rfl <| ?_); clear hs a; intro a hs
  refine wpList_nil (then_normal ?_)
  refine wp_cond_split (hs.ev rfl) (fun h16 => ?_) (fun h16 => ?_)
  · replace h16 := eq_of_beq h16
    refine wp_seq (wp_region_lit ?_)
    refine go hs (pA rfl <| ?_); clear hs a; intro a hs
    refine wpList_nil (then_normal (wp_ret (then_ret ?_)))
    have hX : refE n x left = -1 := by
      unfold refE
      rw [if_pos]
      cases n with
      | zero => rfl
      | succ q => rw [xexpr, if_pos (by omega)]
    refine fin_ret hs (.tmp (hs.slots _ _ rfl) .nil) ⟨?_, hs.mem.base⟩
    rw [hX]; rfl
  replace h16 := ne_of_beq_false h16
  obtain ⟨q, rfl⟩ : ∃ q, n = q + 1 := ⟨n - 1, by omega⟩
  refine wp_skip (then_normal (wp_seq ?_))
  refine wp_region_lit (go hs (pA rfl <| ?_)); clear hs a; intro a hs
  refine wpList_nil (then_normal ?_)
  refine wp_seq_cut (fun a w1 => ∃ (p : Nat), (p = 0 ∧ exprParts x = some 0 ∨ p = 1 ∧ x.f0 = 3 ∨ p = 2 ∧ 4 ≤ x.f0 ∧ x.f0 ≤ 8) ∧ St 93 v0 [(1, .int .i64 (left - 1)), (2, .int .i64 ((q + 1 : Nat) : Int)), (3, .pointer (some ⟨gx, 0, none⟩)), (7, .int .i64 ((p : Nat) : Int))] [pt gx #[.int .u8 x.f0, .int .i64 x.f1, .string x.f2, .slice A x.f3.length C, .int .i64 x.f4, .int .i64 x.f5] 25] a w1) ?_ (fun a w1 hJ => ?_)
  · refine wp_seq (wp_region_lit ?_)
    refine go hs (pV rfl (fun a hs => y_faddr (k' := 0) 0 hs (by kernel_rfl) rfl rfl) <| pV rfl (fun a hs => y_load hs Tryd.underlying22 rfl rfl (fun w hw => (hw.to 0 rfl).cellV rfl)) <| ?_); clear hs a; intro a hs
    refine wpList_nil (then_normal (wp_block ?_))
    refine wp_seq (wp_region_lit ?_)
    refine go hs (pV rfl (fun a hs => y_cmp hs rfl rfl rfl) <| pA rfl <| ?_); clear hs a; intro a hs
    refine wpList_nil (then_normal ?_)
    refine wp_cond_split (hs.ev rfl) (fun h19 => ?_) (fun h19 => ?_)
    · replace h19 := eq_of_beq h19
      refine wp_seq (wp_region_lit ?_)
      refine go hs (pV rfl (fun a hs => y_faddr (k' := 1) 1 hs (by kernel_rfl) rfl rfl) <| pV rfl (fun a hs => y_load hs Tryd.underlying3 rfl rfl (fun w hw => (hw.to 0 rfl).cellV rfl)) <| pV rfl (fun a hs => y_cmp hs rfl rfl rfl) <| pM rfl <| ?_); clear hs a; intro a hs
      rcases hs.know (d := 24) rfl with ⟨h24, hs1⟩ | ⟨h24, hs1⟩ <;> replace hs := hs1 <;> clear hs1
      · replace h24 := of_decide_eq_true h24
        refine go hs (pS rfl <| pS rfl <| pS rfl <| pT rfl rfl <| pM rfl <| pS rfl <| pS rfl <| pS rfl <| pT rfl rfl <| ?_); clear hs a; intro a hs
        refine wpList_nil (then_normal ?_)
        refine wp_cond_true (hs.ev rfl) ?_
        refine wp_seq (wp_region_lit ?_)
        refine go hs (pA rfl <| ?_); clear hs a; intro a hs
        refine wpList_nil (then_normal (wp_ret (in_ret (then_ret ?_))))
        have hE : exprParts x = none := by
          clear hs
          unfold exprParts
          repeat' split
          all_goals first | rfl | (exfalso; omega) | (rename_i hc; exfalso; omega) | (rename_i hc; exact absurd hc.2 (by assumption)) | (rename_i hc; rw [hc.2] at h44; cases h44)
        have hX : refE (q + 1) x left = -1 := refE_bad (by rw [hE]; exact fun h => by cases h) (by omega)
        refine fin_ret hs (.tmp (hs.slots _ _ rfl) .nil) ⟨?_, hs.mem.base⟩
        rw [hX]; rfl
      replace h24 := of_decide_eq_false h24
      refine go hs (pG rfl (fun a hs => y_faddr (k' := 1) 1 hs (by kernel_rfl) rfl rfl) <| pG rfl (fun a hs => y_load hs Tryd.underlying3 rfl rfl (fun w hw => (hw.to 0 rfl).cellV rfl)) <| pG rfl (fun a hs => y_cmp hs rfl rfl rfl) <| pF rfl rfl <| pM rfl <| ?_); clear hs a; intro a hs
      rcases hs.know (d := 29) rfl with ⟨h29, hs1⟩ | ⟨h29, hs1⟩ <;> replace hs := hs1 <;> clear hs1
      · replace h29 := of_decide_eq_true h29
        refine go hs (pS rfl <| pS rfl <| pS rfl <| pT rfl rfl <| ?_); clear hs a; intro a hs
        refine wpList_nil (then_normal ?_)
        refine wp_cond_true (hs.ev rfl) ?_
        refine wp_seq (wp_region_lit ?_)
        refine go hs (pA rfl <| ?_); clear hs a; intro a hs
        refine wpList_nil (then_normal (wp_ret (in_ret (then_ret ?_))))
        have hE : exprParts x = none := by
          clear hs
          unfold exprParts
          repeat' split
          all_goals first | rfl | (exfalso; omega) | (rename_i hc; exfalso; omega) | (rename_i hc; exact absurd hc.2 (by assumption)) | (rename_i hc; rw [hc.2] at h44; cases h44)
        have hX : refE (q + 1) x left = -1 := refE_bad (by rw [hE]; exact fun h => by cases h) (by omega)
        refine fin_ret hs (.tmp (hs.slots _ _ rfl) .nil) ⟨?_, hs.mem.base⟩
        rw [hX]; rfl
      replace h29 := of_decide_eq_false h29
      refine go hs (pG rfl (fun a hs => y_faddr (k' := 2) 2 hs (by kernel_rfl) rfl rfl) <| pG rfl (fun a hs => y_load hs Tryd.underlying9 rfl rfl (fun w hw => (hw.to 0 rfl).cellV rfl)) <| pG rfl (fun a hs => y_sneE hs rfl rfl) <| pF rfl rfl <| ?_); clear hs a; intro a hs
      refine wpList_nil (then_normal ?_)
      refine wp_cond_split (hs.ev rfl) (fun h33 => ?_) (fun h33 => ?_)
      · replace h33 := of_decide_eq_true h33
        refine wp_seq (wp_region_lit ?_)
        refine go hs (pA rfl <| ?_); clear hs a; intro a hs
        refine wpList_nil (then_normal (wp_ret (in_ret (then_ret ?_))))
        have hE : exprParts x = none := by
          clear hs
          unfold exprParts
          repeat' split
          all_goals first | rfl | (exfalso; omega) | (rename_i hc; exfalso; omega) | (rename_i hc; exact absurd hc.2 (by assumption)) | (rename_i hc; rw [hc.2] at h44; cases h44)
        have hX : refE (q + 1) x left = -1 := refE_bad (by rw [hE]; exact fun h => by cases h) (by omega)
        refine fin_ret hs (.tmp (hs.slots _ _ rfl) .nil) ⟨?_, hs.mem.base⟩
        rw [hX]; rfl
      replace h33 := of_decide_eq_false h33
      refine wp_skip (in_normal (then_normal ?_))
      refine ⟨0, .inl ⟨rfl, (by clear hs; unfold exprParts; (repeat' split) <;> first | rfl | (exfalso; omega) | (rename_i hc; exfalso; omega) | (rename_i hc; exact absurd ⟨by omega, by assumption⟩ hc))⟩, ?_⟩
      exact (hs.mem_to hs.mem).cut _ ⟨rfl, rfl, rfl, rfl, trivial⟩
    replace h19 := ne_of_beq_false h19
    refine wp_seq (wp_region_lit ?_)
    refine go hs (pV rfl (fun a hs => y_cmp hs rfl rfl rfl) <| pA rfl <| ?_); clear hs a; intro a hs
    refine wpList_nil (then_normal ?_)
    refine wp_cond_split (hs.ev rfl) (fun h34 => ?_) (fun h34 => ?_)
    · replace h34 := eq_of_beq h34
      refine wp_seq (wp_region_lit ?_)
      refine go hs (pV rfl (fun a hs => y_faddr (k' := 1) 1 hs (by kernel_rfl) rfl rfl) <| pV rfl (fun a hs => y_load hs Tryd.underlying3 rfl rfl (fun w hw => (hw.to 0 rfl).cellV rfl)) <| pV rfl (fun a hs => y_cmp hs rfl rfl rfl) <| pM rfl <| ?_); clear hs a; intro a hs
      rcases hs.know (d := 39) rfl with ⟨h39, hs1⟩ | ⟨h39, hs1⟩ <;> replace hs := hs1 <;> clear hs1
      · replace h39 := bne_iff_ne.1 h39
        refine go hs (pS rfl <| pS rfl <| pS rfl <| pS rfl <| pT rfl rfl <| ?_); clear hs a; intro a hs
        refine wpList_nil (then_normal ?_)
        refine wp_cond_true (hs.ev rfl) ?_
        refine wp_seq (wp_region_lit ?_)
        refine go hs (pA rfl <| ?_); clear hs a; intro a hs
        refine wpList_nil (then_normal (wp_ret (in_ret (then_ret ?_))))
        have hE : exprParts x = none := by
          clear hs
          unfold exprParts
          repeat' split
          all_goals first | rfl | (exfalso; omega) | (rename_i hc; exfalso; omega) | (rename_i hc; exact absurd hc.2 (by assumption)) | (rename_i hc; rw [hc.2] at h44; cases h44)
        have hX : refE (q + 1) x left = -1 := refE_bad (by rw [hE]; exact fun h => by cases h) (by omega)
        refine fin_ret hs (.tmp (hs.slots _ _ rfl) .nil) ⟨?_, hs.mem.base⟩
        rw [hX]; rfl
      replace h39 := bne_eq_false_iff_eq.1 h39
      refine go hs (pG rfl (fun a hs => y_faddr (k' := 2) 2 hs (by kernel_rfl) rfl rfl) <| pG rfl (fun a hs => y_load hs Tryd.underlying9 rfl rfl (fun w hw => (hw.to 0 rfl).cellV rfl)) <| ?_); clear hs a; intro a hs
      refine a_effG hs rfl (e_callB Tryd.func70 rfl rfl hs rfl rfl (recoupref09_Name.calls _ x.f2 (nameOk x.f2) _ (refName x.f2 hsm.1)) ?_); clear hs a; intro a w hs
      refine go hs (pG rfl (fun a hs => y_not hs rfl) <| pF rfl rfl <| ?_); clear hs a; intro a hs
      refine wpList_nil (then_normal ?_)
      refine wp_cond_split (hs.ev rfl) (fun h44 => ?_) (fun h44 => ?_)
      · replace h44 := (not_t h44)
        refine wp_seq (wp_region_lit ?_)
        refine go hs (pA rfl <| ?_); clear hs a; intro a hs
        refine wpList_nil (then_normal (wp_ret (in_ret (then_ret ?_))))
        have hE : exprParts x = none := by
          clear hs
          unfold exprParts
          repeat' split
          all_goals first | rfl | (exfalso; omega) | (rename_i hc; exfalso; omega) | (rename_i hc; exact absurd hc.2 (by assumption)) | (rename_i hc; rw [hc.2] at h44; cases h44)
        have hX : refE (q + 1) x left = -1 := refE_bad (by rw [hE]; exact fun h => by cases h) (by omega)
        refine fin_ret hs (.tmp (hs.slots _ _ rfl) .nil) ⟨?_, hs.mem.base⟩
        rw [hX]; rfl
      replace h44 := (not_f h44)
      refine wp_skip (in_normal (then_normal ?_))
      refine ⟨0, .inl ⟨rfl, (by clear hs; unfold exprParts; (repeat' split) <;> first | rfl | (exfalso; omega) | (rename_i hc; exfalso; omega) | (rename_i hc; exact absurd ⟨by omega, by assumption⟩ hc))⟩, ?_⟩
      exact (hs.mem_to hs.mem).cut _ ⟨rfl, rfl, rfl, rfl, trivial⟩
    replace h34 := ne_of_beq_false h34
    refine wp_seq (wp_region_lit ?_)
    refine go hs (pV rfl (fun a hs => y_cmp hs rfl rfl rfl) <| pA rfl <| ?_); clear hs a; intro a hs
    refine wpList_nil (then_normal ?_)
    refine wp_cond_split (hs.ev rfl) (fun h45 => ?_) (fun h45 => ?_)
    · replace h45 := eq_of_beq h45
      refine wp_region_lit (go hs (pA rfl <| ?_)); clear hs a; intro a hs
      refine wpList_nil (in_normal (then_normal ?_))
      refine ⟨1, .inr (.inl ⟨rfl, by omega⟩), ?_⟩
      exact (hs.mem_to hs.mem).cut _ ⟨rfl, rfl, rfl, rfl, trivial⟩
    replace h45 := ne_of_beq_false h45
    refine wp_seq (wp_seq ?_)
    refine wp_region_lit (go hs (pV rfl (fun a hs => y_cmp hs rfl rfl rfl) <| pA rfl <| ?_)); clear hs a; intro a hs
    refine wpList_nil (then_normal ?_)
    refine wp_cond_split (hs.ev rfl) (fun h47 => ?_) (fun h47 => ?_)
    · replace h47 := eq_of_beq h47
      replace hs := hs.say 47 rfl (congrArg Value.bool (beq_iff_eq.2 h47))
      refine wp_skip (then_normal ?_)
      refine wp_cond_true (hs.ev rfl) ?_
      refine wp_region_lit (go hs (pA rfl <| ?_)); clear hs a; intro a hs
      refine wpList_nil (in_normal (then_normal ?_))
      refine ⟨2, .inr (.inr ⟨rfl, by omega, by omega⟩), ?_⟩
      exact (hs.mem_to hs.mem).cut _ ⟨rfl, rfl, rfl, rfl, trivial⟩
    replace h47 := ne_of_beq_false h47
    replace hs := hs.say 47 rfl (congrArg Value.bool (beq_eq_false_iff_ne.2 h47))
    refine wp_seq (wp_region_lit ?_)
    refine go hs (pV rfl (fun a hs => y_cmp hs rfl rfl rfl) <| pA rfl <| ?_); clear hs a; intro a hs
    refine wpList_nil (then_normal ?_)
    refine wp_cond_split (hs.ev rfl) (fun h47 => ?_) (fun h47 => ?_)
    · replace h47 := eq_of_beq h47
      replace hs := hs.say 47 rfl (congrArg Value.bool (beq_iff_eq.2 h47))
      refine wp_skip (then_normal ?_)
      refine wp_cond_true (hs.ev rfl) ?_
      refine wp_region_lit (go hs (pA rfl <| ?_)); clear hs a; intro a hs
      refine wpList_nil (in_normal (then_normal ?_))
      refine ⟨2, .inr (.inr ⟨rfl, by omega, by omega⟩), ?_⟩
      exact (hs.mem_to hs.mem).cut _ ⟨rfl, rfl, rfl, rfl, trivial⟩
    replace h47 := ne_of_beq_false h47
    replace hs := hs.say 47 rfl (congrArg Value.bool (beq_eq_false_iff_ne.2 h47))
    refine wp_seq (wp_region_lit ?_)
    refine go hs (pV rfl (fun a hs => y_cmp hs rfl rfl rfl) <| pA rfl <| ?_); clear hs a; intro a hs
    refine wpList_nil (then_normal ?_)
    refine wp_cond_split (hs.ev rfl) (fun h47 => ?_) (fun h47 => ?_)
    · replace h47 := eq_of_beq h47
      replace hs := hs.say 47 rfl (congrArg Value.bool (beq_iff_eq.2 h47))
      refine wp_skip (then_normal ?_)
      refine wp_cond_true (hs.ev rfl) ?_
      refine wp_region_lit (go hs (pA rfl <| ?_)); clear hs a; intro a hs
      refine wpList_nil (in_normal (then_normal ?_))
      refine ⟨2, .inr (.inr ⟨rfl, by omega, by omega⟩), ?_⟩
      exact (hs.mem_to hs.mem).cut _ ⟨rfl, rfl, rfl, rfl, trivial⟩
    replace h47 := ne_of_beq_false h47
    replace hs := hs.say 47 rfl (congrArg Value.bool (beq_eq_false_iff_ne.2 h47))
    refine wp_seq (wp_region_lit ?_)
    refine go hs (pV rfl (fun a hs => y_cmp hs rfl rfl rfl) <| pA rfl <| ?_); clear hs a; intro a hs
    refine wpList_nil (then_normal ?_)
    refine wp_cond_split (hs.ev rfl) (fun h47 => ?_) (fun h47 => ?_)
    · replace h47 := eq_of_beq h47
      replace hs := hs.say 47 rfl (congrArg Value.bool (beq_iff_eq.2 h47))
      refine wp_skip (then_normal ?_)
      refine wp_cond_true (hs.ev rfl) ?_
      refine wp_region_lit (go hs (pA rfl <| ?_)); clear hs a; intro a hs
      refine wpList_nil (in_normal (then_normal ?_))
      refine ⟨2, .inr (.inr ⟨rfl, by omega, by omega⟩), ?_⟩
      exact (hs.mem_to hs.mem).cut _ ⟨rfl, rfl, rfl, rfl, trivial⟩
    replace h47 := ne_of_beq_false h47
    replace hs := hs.say 47 rfl (congrArg Value.bool (beq_eq_false_iff_ne.2 h47))
    refine wp_region_lit (go hs (pV rfl (fun a hs => y_cmp hs rfl rfl rfl) <| pA rfl <| ?_)); clear hs a; intro a hs
    refine wpList_nil (then_normal ?_)
    refine wp_cond_split (hs.ev rfl) (fun h47 => ?_) (fun h47 => ?_)
    · replace h47 := eq_of_beq h47
      replace hs := hs.say 47 rfl (congrArg Value.bool (beq_iff_eq.2 h47))
      refine wp_region_lit (go hs (pA rfl <| ?_)); clear hs a; intro a hs
      refine wpList_nil (in_normal (then_normal ?_))
      refine ⟨2, .inr (.inr ⟨rfl, by omega, by omega⟩), ?_⟩
      exact (hs.mem_to hs.mem).cut _ ⟨rfl, rfl, rfl, rfl, trivial⟩
    replace h47 := ne_of_beq_false h47
    replace hs := hs.say 47 rfl (congrArg Value.bool (beq_eq_false_iff_ne.2 h47))
    refine wp_seq (wp_region_lit ?_)
    refine go hs (pA rfl <| ?_); clear hs a; intro a hs
    refine wpList_nil (then_normal (wp_ret (in_ret (then_ret ?_))))
    have hE : exprParts x = none := by
      clear hs
      unfold exprParts
      repeat' split
      all_goals first | rfl | (exfalso; omega) | (rename_i hc; exfalso; omega) | (rename_i hc; exact absurd hc.2 (by assumption)) | (rename_i hc; rw [hc.2] at h44; cases h44)
    have hX : refE (q + 1) x left = -1 := refE_bad (by rw [hE]; exact fun h => by cases h) (by omega)
    refine fin_ret hs (.tmp (hs.slots _ _ rfl) .nil) ⟨?_, hs.mem.base⟩
    rw [hX]; rfl
  clear hs
  obtain ⟨p, hp, hs⟩ := hJ
  refine wp_seq (wp_seq ?_)
  refine wp_region_lit (go hs (pV rfl (fun a hs => y_faddr (k' := 3) 3 hs (by kernel_rfl) rfl rfl) <| pV rfl (fun a hs => y_load hs Tryd.underlying23 rfl rfl (fun w hw => (hw.to 0 rfl).cellV rfl)) <| pV rfl (fun a hs => y_lenL hs Tryd.underlying23 rfl) <| pM rfl <| pV rfl (fun a hs => y_cmp hs rfl rfl rfl) <| pM rfl <| ?_)); clear hs a; intro a hs
  rcases hs.know (d := 58) rfl with ⟨h58, hs1⟩ | ⟨h58, hs1⟩ <;> replace hs := hs1 <;> clear hs1
  · replace h58 := bne_iff_ne.1 h58
    refine go hs (pS rfl <| pS rfl <| pS rfl <| pS rfl <| pS rfl <| pS rfl <| pS rfl <| pS rfl <| pS rfl <| pS rfl <| pS rfl <| pS rfl <| pT rfl rfl <| ?_); clear hs a; intro a hs
    refine wpList_nil (then_normal ?_)
    refine wp_cond_true (hs.ev rfl) ?_
    refine wp_seq (wp_region_lit ?_)
    refine go hs (pA rfl <| ?_); clear hs a; intro a hs
    refine wpList_nil (then_normal (wp_ret (then_ret ?_)))
    have hN : ¬ exprParts x = some x.f3.length := by
      clear hs
      intro h
      rcases hp with ⟨rfl, hp⟩ | ⟨rfl, hp⟩ | ⟨rfl, hp, hp'⟩
      · rw [hp] at h; have h' := Option.some.inj h; omega
      · unfold exprParts at h; rw [if_neg (by omega), if_neg (by omega), if_pos hp] at h; split at h
        · have h' := Option.some.inj h; omega
        cases h
      unfold exprParts at h; rw [if_neg (by omega), if_neg (by omega), if_neg (by omega), if_pos ⟨hp, hp'⟩] at h; split at h
      · have h' := Option.some.inj h; omega
      cases h
    have hX : refE (q + 1) x left = -1 := refE_bad hN (by omega)
    refine fin_ret hs (.tmp (hs.slots _ _ rfl) .nil) ⟨?_, hs.mem.base⟩
    rw [hX]; rfl
  replace h58 := bne_eq_false_iff_eq.1 h58
  refine go hs (pG rfl (fun a hs => y_move hs rfl) <| pG rfl (fun a hs => y_cmp hs rfl rfl rfl) <| pG rfl (fun a hs => y_move hs rfl) <| ?_); clear hs a; intro a hs
  rcases hs.know (d := 61) rfl with ⟨h61, hs1⟩ | ⟨h61, hs1⟩ <;> replace hs := hs1 <;> clear hs1
  · replace h61 := of_decide_eq_true h61
    refine go hs (pG rfl (fun a hs => y_faddr (k' := 1) 1 hs (by kernel_rfl) rfl rfl) <| pG rfl (fun a hs => y_load hs Tryd.underlying3 rfl rfl (fun w hw => (hw.to 0 rfl).cellV rfl)) <| pG rfl (fun a hs => y_cmp hs rfl rfl rfl) <| pG rfl (fun a hs => y_move hs rfl) <| ?_); clear hs a; intro a hs
    rcases hs.know (d := 65) rfl with ⟨h65, hs1⟩ | ⟨h65, hs1⟩ <;> replace hs := hs1 <;> clear hs1
    · replace h65 := bne_iff_ne.1 h65
      refine go hs (pS rfl <| pS rfl <| pS rfl <| pG rfl (fun a hs => y_pickT hs rfl rfl rfl) <| pG rfl (fun a hs => y_pickT hs rfl rfl rfl) <| pF rfl rfl <| ?_); clear hs a; intro a hs
      refine wpList_nil (then_normal ?_)
      refine wp_cond_true (hs.ev rfl) ?_
      refine wp_seq (wp_region_lit ?_)
      refine go hs (pA rfl <| ?_); clear hs a; intro a hs
      refine wpList_nil (then_normal (wp_ret (then_ret ?_)))
      have hN : ¬ exprParts x = some x.f3.length := by
        clear hs
        intro h
        rcases hp with ⟨rfl, hp⟩ | ⟨rfl, hp⟩ | ⟨rfl, hp, hp'⟩
        · rw [hp] at h; have h' := Option.some.inj h; omega
        · unfold exprParts at h; rw [if_neg (by omega), if_neg (by omega), if_pos hp] at h; split at h
          · have h' := Option.some.inj h; omega
          cases h
        unfold exprParts at h; rw [if_neg (by omega), if_neg (by omega), if_neg (by omega), if_pos ⟨hp, hp'⟩] at h; split at h
        · have h' := Option.some.inj h; omega
        cases h
      have hX : refE (q + 1) x left = -1 := refE_bad hN (by omega)
      refine fin_ret hs (.tmp (hs.slots _ _ rfl) .nil) ⟨?_, hs.mem.base⟩
      rw [hX]; rfl
    replace h65 := bne_eq_false_iff_eq.1 h65
    refine go hs (pG rfl (fun a hs => y_faddr (k' := 2) 2 hs (by kernel_rfl) rfl rfl) <| pG rfl (fun a hs => y_load hs Tryd.underlying9 rfl rfl (fun w hw => (hw.to 0 rfl).cellV rfl)) <| pG rfl (fun a hs => y_sneE hs rfl rfl) <| pG rfl (fun a hs => y_pickF hs rfl rfl rfl) <| pG rfl (fun a hs => y_pickT hs rfl rfl rfl) <| pF rfl rfl <| ?_); clear hs a; intro a hs
    refine wpList_nil (then_normal ?_)
    refine wp_cond_split (hs.ev rfl) (fun h71 => ?_) (fun h71 => ?_)
    · replace h71 := of_decide_eq_true h71
      refine wp_seq (wp_region_lit ?_)
      refine go hs (pA rfl <| ?_); clear hs a; intro a hs
      refine wpList_nil (then_normal (wp_ret (then_ret ?_)))
      have hN : ¬ exprParts x = some x.f3.length := by
        clear hs
        intro h
        rcases hp with ⟨rfl, hp⟩ | ⟨rfl, hp⟩ | ⟨rfl, hp, hp'⟩
        · rw [hp] at h; have h' := Option.some.inj h; omega
        · unfold exprParts at h; rw [if_neg (by omega), if_neg (by omega), if_pos hp] at h; split at h
          · have h' := Option.some.inj h; omega
          cases h
        unfold exprParts at h; rw [if_neg (by omega), if_neg (by omega), if_neg (by omega), if_pos ⟨hp, hp'⟩] at h; split at h
        · have h' := Option.some.inj h; omega
        cases h
      have hX : refE (q + 1) x left = -1 := refE_bad hN (by omega)
      refine fin_ret hs (.tmp (hs.slots _ _ rfl) .nil) ⟨?_, hs.mem.base⟩
      rw [hX]; rfl
    replace h71 := of_decide_eq_false h71
    refine wp_skip (then_normal (wp_seq ?_))
    refine wp_seq (wp_region_lit ?_)
    refine go hs (pA rfl <| ?_); clear hs a; intro a hs
    refine wpList_nil (then_normal (wp_block ?_))
    have hL : x.f3.length = p ∧ (0 < p → x.f1 = 0 ∧ x.f2.size = 0) := by constructor <;> omega
    refine wp_loopN (fun m a w1 => ∃ (i : Nat) (lf : Int), (i + m = x.f3.length) ∧ (-1 ≤ lf ∧ lf ≤ 8192) ∧ (0 ≤ lf → ∃ d, xexprs (xexpr q) (x.f3.drop i) d lf = xexprs (xexpr q) x.f3 0 (left - 1)) ∧ (lf < 0 → (xexprs (xexpr q) x.f3 0 (left - 1)).1 = 0 ∧ lf = -1) ∧ St 93 v0 [(1, .int .i64 lf), (2, .int .i64 ((q + 1 : Nat) : Int)), (3, .pointer (some ⟨gx, 0, none⟩)), (8, .int .i64 ((i : Nat) : Int))] [pt gx #[.int .u8 x.f0, .int .i64 x.f1, .string x.f2, .slice A x.f3.length C, .int .i64 x.f4, .int .i64 x.f5] 25] a w1) (x.f3.length) ⟨0, left - 1, by omega, by omega, fun _ => ⟨0, rfl⟩, fun h => by omega, ?_⟩ (fun m a w1 hJ => ?_)
    · exact (hs.mem_to hs.mem).cut _ ⟨rfl, rfl, rfl, rfl, trivial⟩
    clear hs
    obtain ⟨i, lf, hi, hlf, hinv, hneg, hs⟩ := hJ
    refine wp_seq (wp_seq ?_)
    refine wp_region_lit (go hs (pM rfl <| pV rfl (fun a hs => y_faddr (k' := 3) 3 hs (by kernel_rfl) rfl rfl) <| pV rfl (fun a hs => y_load hs Tryd.underlying23 rfl rfl (fun w hw => (hw.to 0 rfl).cellV rfl)) <| pV rfl (fun a hs => y_lenL hs Tryd.underlying23 rfl) <| pV rfl (fun a hs => y_cmp hs rfl rfl rfl) <| pM rfl <| ?_)); clear hs a; intro a hs
    rcases hs.know (d := 77) rfl with ⟨h77, hs1⟩ | ⟨h77, hs1⟩ <;> replace hs := hs1 <;> clear hs1
    · replace h77 := of_decide_eq_true h77
      refine go hs (pG rfl (fun a hs => y_move hs rfl) <| pG rfl (fun a hs => y_cmp hs rfl rfl rfl) <| pT rfl rfl <| ?_); clear hs a; intro a hs
      refine wpList_nil (then_normal ?_)
      refine wp_cond_split (hs.ev rfl) (fun h80 => ?_) (fun h80 => ?_)
      · replace h80 := of_decide_eq_true h80
        obtain ⟨y, hy⟩ : ∃ y, x.f3[i]? = some y := ⟨_, List.getElem?_eq_getElem (by omega)⟩
        obtain ⟨g0, o, rfl, hcell⟩ := C_atG (show 0 < 6 by decide) hA (by omega)
        obtain ⟨cs, hK, hc⟩ := hcell i y hy
        obtain ⟨A0, c0, rfl, hlc, hC⟩ := k25_open hK
        have hdrop : x.f3.drop i = y :: x.f3.drop (i + 1) := by
          rw [List.drop_eq_getElem_cons (by omega)]
          rw [List.getElem?_eq_getElem (by omega)] at hy
          injection hy with hy
          rw [hy]
        rw [hdrop] at hinv
        refine wp_skip (then_normal (wp_seq ?_))
        refine wp_block (wp_region_lit ?_)
        refine go hs (pV rfl (fun a hs => y_faddr (k' := 3) 3 hs (by kernel_rfl) rfl rfl) <| pV rfl (fun a hs => y_load hs Tryd.underlying23 rfl rfl (fun w hw => (hw.to 0 rfl).cellV rfl)) <| pM rfl <| pV rfl (fun a hs => y_idxB (size := 6) (off := o + i * 6) hs Tryd.underlying23 (by kernel_rfl) rfl rfl (by omega) (by omega) (by simp)) <| pV rfl (fun a hs => y_loadAgg (vs := [.int .u8 y.f0, .int .i64 y.f1, .string y.f2, .slice A0 y.f3.length c0, .int .i64 y.f4, .int .i64 y.f5]) hs Tryd.underlying25 rfl (by kernel_rfl) rfl (fun w hw k v hk => hc w hw.base k v hk)) <| pM rfl <| pM rfl <| pV rfl (fun a hs => y_sub hs rfl rfl (by omega)) <| ?_); clear hs a; intro a hs
        replace hs := hs.say 90 rfl (congrArg (Value.int IntKind.i64) (show (((q + 1 : Nat) : Int) - 1) = ((q : Nat) : Int) by omega))
        have hrb := refE_bounds q y lf (by omega)
        refine a_eff rfl (e_callB Tryd.func42 rfl rfl hs rfl rfl (ih q rfl y A0 c0 lf _ (Kd.C_below hC hs.mem.base) (hsm.2 y (List.mem_of_getElem? hy)) (by omega)) ?_); clear hs a; intro a w hs
        refine go hs (pA rfl <| ?_); clear hs a; intro a hs
        refine wpList_nil (in_normal (then_normal (wp_region_lit ?_)))
        refine go hs (pM rfl <| pV rfl (fun a hs => y_add hs rfl rfl (by omega)) <| pA rfl <| ?_); clear hs a; intro a hs
        refine wpList_nil (then_normal ?_)
        refine ⟨m - 1, by omega, i + 1, refE q y lf, by omega, by omega, refE_next (hinv (by omega)), refE_stop (hinv (by omega)) (by omega), ?_⟩
        exact (hs.mem_to hs.mem).cut _ ⟨rfl, rfl, rfl, rfl, trivial⟩
      replace h80 := of_decide_eq_false h80
      refine wp_exit (then_exit (then_exit (in_here (then_normal (wp_seq ?_)))))
      refine wp_region_lit (go hs (pM rfl <| pA rfl <| ?_)); clear hs a; intro a hs
      refine wpList_nil (then_normal (wp_ret ?_))
      have hE : exprParts x = some x.f3.length := by
        clear hs hinv hneg
        rcases hp with ⟨rfl, hp⟩ | ⟨rfl, hp⟩ | ⟨rfl, hp, hp'⟩
        · rw [hp, hL.1]
        · unfold exprParts; rw [if_neg (by omega), if_neg (by omega), if_pos hp, if_pos (hL.2 (by decide)), hL.1]
        unfold exprParts; rw [if_neg (by omega), if_neg (by omega), if_neg (by omega), if_pos ⟨hp, hp'⟩, if_pos (hL.2 (by decide)), hL.1]
      have hX : refE (q + 1) x left = lf := by
        have h1 : xexpr (q + 1) x left = xexprs (xexpr q) x.f3 0 (left - 1) := by rw [xexpr, if_neg (by omega), hE]; show (if _ then _ else _) = _; rw [if_pos rfl]
        unfold refE
        rw [h1]
        by_cases h0 : 0 ≤ lf
        · obtain ⟨d, hd⟩ := hinv h0
          rw [List.drop_eq_nil_of_le (by omega), xexprs] at hd
          rw [← hd, if_neg (by show ¬ d + 1 = 0; omega)]
        rw [if_pos (hneg (by omega)).1, (hneg (by omega)).2]
      refine fin_ret hs (.tmp (hs.slots _ _ rfl) .nil) ⟨?_, hs.mem.base⟩
      rw [hX]; rfl
    replace h77 := of_decide_eq_false h77
    refine go hs (pS rfl <| pS rfl <| pF rfl rfl <| ?_); clear hs a; intro a hs
    refine wpList_nil (then_normal ?_)
    refine wp_cond_false (hs.ev rfl) ?_
    refine wp_exit (then_exit (then_exit (in_here (then_normal (wp_seq ?_)))))
    refine wp_region_lit (go hs (pM rfl <| pA rfl <| ?_)); clear hs a; intro a hs
    refine wpList_nil (then_normal (wp_ret ?_))
    have hE : exprParts x = some x.f3.length := by
      clear hs hinv hneg
      rcases hp with ⟨rfl, hp⟩ | ⟨rfl, hp⟩ | ⟨rfl, hp, hp'⟩
      · rw [hp, hL.1]
      · unfold exprParts; rw [if_neg (by omega), if_neg (by omega), if_pos hp, if_pos (hL.2 (by decide)), hL.1]
      unfold exprParts; rw [if_neg (by omega), if_neg (by omega), if_neg (by omega), if_pos ⟨hp, hp'⟩, if_pos (hL.2 (by decide)), hL.1]
    have hX : refE (q + 1) x left = lf := by
      have h1 : xexpr (q + 1) x left = xexprs (xexpr q) x.f3 0 (left - 1) := by rw [xexpr, if_neg (by omega), hE]; show (if _ then _ else _) = _; rw [if_pos rfl]
      unfold refE
      rw [h1]
      by_cases h0 : 0 ≤ lf
      · obtain ⟨d, hd⟩ := hinv h0
        rw [List.drop_eq_nil_of_le (by omega), xexprs] at hd
        rw [← hd, if_neg (by show ¬ d + 1 = 0; omega)]
      rw [if_pos (hneg (by omega)).1, (hneg (by omega)).2]
    refine fin_ret hs (.tmp (hs.slots _ _ rfl) .nil) ⟨?_, hs.mem.base⟩
    rw [hX]; rfl
  replace h61 := of_decide_eq_false h61
  refine go hs (pS rfl <| pS rfl <| pS rfl <| pS rfl <| pS rfl <| pS rfl <| pS rfl <| pS rfl <| pG rfl (fun a hs => y_pickF hs rfl rfl rfl) <| pF rfl rfl <| ?_); clear hs a; intro a hs
  refine wpList_nil (then_normal ?_)
  refine wp_cond_false (hs.ev rfl) ?_
  refine wp_skip (then_normal (wp_seq ?_))
  refine wp_seq (wp_region_lit ?_)
  refine go hs (pA rfl <| ?_); clear hs a; intro a hs
  refine wpList_nil (then_normal (wp_block ?_))
  have hL : x.f3.length = p ∧ (0 < p → x.f1 = 0 ∧ x.f2.size = 0) := by constructor <;> omega
  refine wp_loopN (fun m a w1 => ∃ (i : Nat) (lf : Int), (i + m = x.f3.length) ∧ (-1 ≤ lf ∧ lf ≤ 8192) ∧ (0 ≤ lf → ∃ d, xexprs (xexpr q) (x.f3.drop i) d lf = xexprs (xexpr q) x.f3 0 (left - 1)) ∧ (lf < 0 → (xexprs (xexpr q) x.f3 0 (left - 1)).1 = 0 ∧ lf = -1) ∧ St 93 v0 [(1, .int .i64 lf), (2, .int .i64 ((q + 1 : Nat) : Int)), (3, .pointer (some ⟨gx, 0, none⟩)), (8, .int .i64 ((i : Nat) : Int))] [pt gx #[.int .u8 x.f0, .int .i64 x.f1, .string x.f2, .slice A x.f3.length C, .int .i64 x.f4, .int .i64 x.f5] 25] a w1) (x.f3.length) ⟨0, left - 1, by omega, by omega, fun _ => ⟨0, rfl⟩, fun h => by omega, ?_⟩ (fun m a w1 hJ => ?_)
  · exact (hs.mem_to hs.mem).cut _ ⟨rfl, rfl, rfl, rfl, trivial⟩
  clear hs
  obtain ⟨i, lf, hi, hlf, hinv, hneg, hs⟩ := hJ
  refine wp_seq (wp_seq ?_)
  refine wp_region_lit (go hs (pM rfl <| pV rfl (fun a hs => y_faddr (k' := 3) 3 hs (by kernel_rfl) rfl rfl) <| pV rfl (fun a hs => y_load hs Tryd.underlying23 rfl rfl (fun w hw => (hw.to 0 rfl).cellV rfl)) <| pV rfl (fun a hs => y_lenL hs Tryd.underlying23 rfl) <| pV rfl (fun a hs => y_cmp hs rfl rfl rfl) <| pM rfl <| ?_)); clear hs a; intro a hs
  rcases hs.know (d := 77) rfl with ⟨h77, hs1⟩ | ⟨h77, hs1⟩ <;> replace hs := hs1 <;> clear hs1
  · replace h77 := of_decide_eq_true h77
    refine go hs (pG rfl (fun a hs => y_move hs rfl) <| pG rfl (fun a hs => y_cmp hs rfl rfl rfl) <| pT rfl rfl <| ?_); clear hs a; intro a hs
    refine wpList_nil (then_normal ?_)
    refine wp_cond_split (hs.ev rfl) (fun h80 => ?_) (fun h80 => ?_)
    · replace h80 := of_decide_eq_true h80
      obtain ⟨y, hy⟩ : ∃ y, x.f3[i]? = some y := ⟨_, List.getElem?_eq_getElem (by omega)⟩
      obtain ⟨g0, o, rfl, hcell⟩ := C_atG (show 0 < 6 by decide) hA (by omega)
      obtain ⟨cs, hK, hc⟩ := hcell i y hy
      obtain ⟨A0, c0, rfl, hlc, hC⟩ := k25_open hK
      have hdrop : x.f3.drop i = y :: x.f3.drop (i + 1) := by
        rw [List.drop_eq_getElem_cons (by omega)]
        rw [List.getElem?_eq_getElem (by omega)] at hy
        injection hy with hy
        rw [hy]
      rw [hdrop] at hinv
      refine wp_skip (then_normal (wp_seq ?_))
      refine wp_block (wp_region_lit ?_)
      refine go hs (pV rfl (fun a hs => y_faddr (k' := 3) 3 hs (by kernel_rfl) rfl rfl) <| pV rfl (fun a hs => y_load hs Tryd.underlying23 rfl rfl (fun w hw => (hw.to 0 rfl).cellV rfl)) <| pM rfl <| pV rfl (fun a hs => y_idxB (size := 6) (off := o + i * 6) hs Tryd.underlying23 (by kernel_rfl) rfl rfl (by omega) (by omega) (by simp)) <| pV rfl (fun a hs => y_loadAgg (vs := [.int .u8 y.f0, .int .i64 y.f1, .string y.f2, .slice A0 y.f3.length c0, .int .i64 y.f4, .int .i64 y.f5]) hs Tryd.underlying25 rfl (by kernel_rfl) rfl (fun w hw k v hk => hc w hw.base k v hk)) <| pM rfl <| pM rfl <| pV rfl (fun a hs => y_sub hs rfl rfl (by omega)) <| ?_); clear hs a; intro a hs
      replace hs := hs.say 90 rfl (congrArg (Value.int IntKind.i64) (show (((q + 1 : Nat) : Int) - 1) = ((q : Nat) : Int) by omega))
      have hrb := refE_bounds q y lf (by omega)
      refine a_eff rfl (e_callB Tryd.func42 rfl rfl hs rfl rfl (ih q rfl y A0 c0 lf _ (Kd.C_below hC hs.mem.base) (hsm.2 y (List.mem_of_getElem? hy)) (by omega)) ?_); clear hs a; intro a w hs
      refine go hs (pA rfl <| ?_); clear hs a; intro a hs
      refine wpList_nil (in_normal (then_normal (wp_region_lit ?_)))
      refine go hs (pM rfl <| pV rfl (fun a hs => y_add hs rfl rfl (by omega)) <| pA rfl <| ?_); clear hs a; intro a hs
      refine wpList_nil (then_normal ?_)
      refine ⟨m - 1, by omega, i + 1, refE q y lf, by omega, by omega, refE_next (hinv (by omega)), refE_stop (hinv (by omega)) (by omega), ?_⟩
      exact (hs.mem_to hs.mem).cut _ ⟨rfl, rfl, rfl, rfl, trivial⟩
    replace h80 := of_decide_eq_false h80
    refine wp_exit (then_exit (then_exit (in_here (then_normal (wp_seq ?_)))))
    refine wp_region_lit (go hs (pM rfl <| pA rfl <| ?_)); clear hs a; intro a hs
    refine wpList_nil (then_normal (wp_ret ?_))
    have hE : exprParts x = some x.f3.length := by
      clear hs hinv hneg
      rcases hp with ⟨rfl, hp⟩ | ⟨rfl, hp⟩ | ⟨rfl, hp, hp'⟩
      · rw [hp, hL.1]
      · unfold exprParts; rw [if_neg (by omega), if_neg (by omega), if_pos hp, if_pos (hL.2 (by decide)), hL.1]
      unfold exprParts; rw [if_neg (by omega), if_neg (by omega), if_neg (by omega), if_pos ⟨hp, hp'⟩, if_pos (hL.2 (by decide)), hL.1]
    have hX : refE (q + 1) x left = lf := by
      have h1 : xexpr (q + 1) x left = xexprs (xexpr q) x.f3 0 (left - 1) := by rw [xexpr, if_neg (by omega), hE]; show (if _ then _ else _) = _; rw [if_pos rfl]
      unfold refE
      rw [h1]
      by_cases h0 : 0 ≤ lf
      · obtain ⟨d, hd⟩ := hinv h0
        rw [List.drop_eq_nil_of_le (by omega), xexprs] at hd
        rw [← hd, if_neg (by show ¬ d + 1 = 0; omega)]
      rw [if_pos (hneg (by omega)).1, (hneg (by omega)).2]
    refine fin_ret hs (.tmp (hs.slots _ _ rfl) .nil) ⟨?_, hs.mem.base⟩
    rw [hX]; rfl
  replace h77 := of_decide_eq_false h77
  refine go hs (pS rfl <| pS rfl <| pF rfl rfl <| ?_); clear hs a; intro a hs
  refine wpList_nil (then_normal ?_)
  refine wp_cond_false (hs.ev rfl) ?_
  refine wp_exit (then_exit (then_exit (in_here (then_normal (wp_seq ?_)))))
  refine wp_region_lit (go hs (pM rfl <| pA rfl <| ?_)); clear hs a; intro a hs
  refine wpList_nil (then_normal (wp_ret ?_))
  have hE : exprParts x = some x.f3.length := by
    clear hs hinv hneg
    rcases hp with ⟨rfl, hp⟩ | ⟨rfl, hp⟩ | ⟨rfl, hp, hp'⟩
    · rw [hp, hL.1]
    · unfold exprParts; rw [if_neg (by omega), if_neg (by omega), if_pos hp, if_pos (hL.2 (by decide)), hL.1]
    unfold exprParts; rw [if_neg (by omega), if_neg (by omega), if_neg (by omega), if_pos ⟨hp, hp'⟩, if_pos (hL.2 (by decide)), hL.1]
  have hX : refE (q + 1) x left = lf := by
    have h1 : xexpr (q + 1) x left = xexprs (xexpr q) x.f3 0 (left - 1) := by rw [xexpr, if_neg (by omega), hE]; show (if _ then _ else _) = _; rw [if_pos rfl]
    unfold refE
    rw [h1]
    by_cases h0 : 0 ≤ lf
    · obtain ⟨d, hd⟩ := hinv h0
      rw [List.drop_eq_nil_of_le (by omega), xexprs] at hd
      rw [← hd, if_neg (by show ¬ d + 1 = 0; omega)]
    rw [if_pos (hneg (by omega)).1, (hneg (by omega)).2]
  refine fin_ret hs (.tmp (hs.slots _ _ rfl) .nil) ⟨?_, hs.mem.base⟩
  rw [hX]; rfl
theorem ref_expr : ∀ n : Nat, n ≤ 1000 → RefOk n := fun n => by
  induction n using Nat.strongRecOn with
  | _ n ih => exact fun hn x A C left v0 hA hsm hl => ref_expr_step n hn (fun q hq => ih q (by omega) (by omega)) x A C left v0 hA hsm hl
/-- What the reference's exprs answers. -/
def refL (l : List XE) (left : Int) : Int := if (xlist stE l left).1 = true then (xlist stE l left).2 else -1
theorem refL_next {l r : List XE} {y : XE} {left lf : Int} (hst : 0 ≤ lf → xlist stE l left = (if (stE y lf).1 = true then xlist stE r (stE y lf).2 else (false, (stE y lf).2))) (h0 : 0 ≤ lf) : 0 ≤ refE 16 y lf → xlist stE r (refE 16 y lf) = xlist stE l left := by
  intro h
  unfold refE at h ⊢
  split at h
  · omega
  · rename_i h1
    rw [if_neg h1, hst h0, if_pos (show (stE y lf).1 = true from decide_eq_true (by omega))]; rfl
theorem refL_stop {l r : List XE} {y : XE} {left lf : Int} (hst : 0 ≤ lf → xlist stE l left = (if (stE y lf).1 = true then xlist stE r (stE y lf).2 else (false, (stE y lf).2))) (h0 : 0 ≤ lf) : refE 16 y lf < 0 → refL l left = -1 := by
  intro h
  unfold refE at h
  split at h
  · rename_i h1
    unfold refL
    rw [hst h0, if_neg (show ¬ (stE y lf).1 = true from fun h2 => by have := of_decide_eq_true h2; omega)]; rfl
  · rename_i h1
    have := (xexpr_left 16 y lf h0).2.2 h1
    omega
set_option maxRecDepth 100000 in
theorem ref_exprs (A : Option Addr) (c : Nat) (l : List XE) (left : Int) (v0 : World) (hex : RefOk 16) (hA : Kd.C k25 v0 A l.length l) (hsm : ∀ p ∈ l, smallX 16 p) (hl : 0 ≤ left ∧ left ≤ 8192) :
    Calls Tryd.prog 73 #[.slice A l.length c, .int .i64 left] v0 fun e w' => e = .returned (.int .i64 (refL l left)) ∧ Below v0.heap.size v0 w' := by
  refine calls_enter (N := 23) (n := 21) (args := [.slice A l.length c, .int .i64 left]) Tryd.func73 rfl rfl rfl (H.init v0) (fun a hs => ?_)
  have hcl := C_len hA
  refine wp_seq (wp_region_lit ?_)
  refine go hs (pA rfl <| ?_); clear hs a; intro a hs
  refine wpList_nil (then_normal (wp_seq ?_))
  refine wp_seq (wp_region_lit ?_)
  refine go hs (pA rfl <| ?_); clear hs a; intro a hs
  refine wpList_nil (then_normal (wp_block ?_))
  refine wp_loopN (fun m a w1 => ∃ (i : Nat) (lf : Int), (i + m = l.length) ∧ (-1 ≤ lf ∧ lf ≤ 8192) ∧ (0 ≤ lf → xlist stE (l.drop i) lf = xlist stE l left) ∧ (lf < 0 → refL l left = -1) ∧ St 23 v0 [(0, .slice A l.length c), (1, .int .i64 lf), (5, .int .i64 ((i : Nat) : Int))] [] a w1) (l.length) ⟨0, left, by omega, by omega, fun _ => rfl, fun h => by omega, ?_⟩ (fun m a w1 hJ => ?_)
  · exact (hs.mem_to hs.mem).cut _ ⟨rfl, rfl, rfl, trivial⟩
  clear hs
  obtain ⟨i, lf, hi, hlf, hinv, hneg, hs⟩ := hJ
  refine wp_seq (wp_seq ?_)
  refine wp_region_lit (go hs (pM rfl <| pM rfl <| pV rfl (fun a hs => y_lenL hs Tryd.underlying23 rfl) <| pV rfl (fun a hs => y_cmp hs rfl rfl rfl) <| pM rfl <| ?_)); clear hs a; intro a hs
  rcases hs.know (d := 10) rfl with ⟨h10, hs1⟩ | ⟨h10, hs1⟩ <;> replace hs := hs1 <;> clear hs1
  · replace h10 := of_decide_eq_true h10
    refine go hs (pG rfl (fun a hs => y_move hs rfl) <| pG rfl (fun a hs => y_cmp hs rfl rfl rfl) <| pT rfl rfl <| ?_); clear hs a; intro a hs
    refine wpList_nil (then_normal ?_)
    refine wp_cond_split (hs.ev rfl) (fun h13 => ?_) (fun h13 => ?_)
    · replace h13 := of_decide_eq_true h13
      obtain ⟨y, hy⟩ : ∃ y, l[i]? = some y := ⟨_, List.getElem?_eq_getElem (by omega)⟩
      obtain ⟨g0, o, rfl, hcell⟩ := C_atG (show 0 < 6 by decide) hA (by omega)
      obtain ⟨cs, hK, hc⟩ := hcell i y hy
      obtain ⟨A0, c0, rfl, hlc, hC⟩ := k25_open hK
      have hdrop : l.drop i = y :: l.drop (i + 1) := by
        rw [List.drop_eq_getElem_cons (by omega)]
        rw [List.getElem?_eq_getElem (by omega)] at hy
        injection hy with hy
        rw [hy]
      refine wp_skip (then_normal (wp_seq ?_))
      refine wp_block (wp_region_lit ?_)
      refine go hs (pM rfl <| pM rfl <| pV rfl (fun a hs => y_idxB (size := 6) (off := o + i * 6) hs Tryd.underlying23 (by kernel_rfl) rfl rfl (by omega) (by omega) (by simp)) <| pV rfl (fun a hs => y_loadAgg (vs := [.int .u8 y.f0, .int .i64 y.f1, .string y.f2, .slice A0 y.f3.length c0, .int .i64 y.f4, .int .i64 y.f5]) hs Tryd.underlying25 rfl (by kernel_rfl) rfl (fun w hw k v hk => hc w hw.base k v hk)) <| pM rfl <| ?_); clear hs a; intro a hs
      have hrb := refE_bounds 16 y lf (by omega)
      have hfl := xexpr_left 16 y lf (by omega)
      refine a_eff rfl (e_callB Tryd.func42 rfl rfl hs rfl rfl (hex y A0 c0 lf _ (Kd.C_below hC hs.mem.base) (hsm y (List.mem_of_getElem? hy)) (by omega)) ?_); clear hs a; intro a w hs
      refine go hs (pA rfl <| ?_); clear hs a; intro a hs
      refine wpList_nil (in_normal (then_normal (wp_region_lit ?_)))
      refine go hs (pM rfl <| pV rfl (fun a hs => y_add hs rfl rfl (by omega)) <| pA rfl <| ?_); clear hs a; intro a hs
      refine wpList_nil (then_normal ?_)
      have hst : 0 ≤ lf → xlist stE l left = (if (stE y lf).1 = true then xlist stE (l.drop (i + 1)) (stE y lf).2 else (false, (stE y lf).2)) := fun h0 => by rw [← hinv h0, hdrop, xlist]
      refine ⟨m - 1, by omega, i + 1, refE 16 y lf, by omega, by omega, refL_next hst (by omega), refL_stop hst (by omega), ?_⟩
      exact (hs.mem_to hs.mem).cut _ ⟨rfl, rfl, rfl, trivial⟩
    replace h13 := of_decide_eq_false h13
    have hX : refL l left = lf := by
      by_cases h0 : 0 ≤ lf
      · have h1 := (hinv h0).symm
        rw [List.drop_eq_nil_of_le (by omega), xlist] at h1
        unfold refL; rw [h1]; rfl
      rw [hneg (by omega)]; omega
    refine wp_exit (then_exit (then_exit (in_here (then_normal (wp_seq ?_)))))
    refine wp_region_lit (go hs (pM rfl <| pA rfl <| ?_)); clear hs a; intro a hs
    refine wpList_nil (then_normal (wp_ret ?_))
    refine fin_ret hs (.tmp (hs.slots _ _ rfl) .nil) ⟨?_, hs.mem.base⟩
    rw [hX]; rfl
  replace h10 := of_decide_eq_false h10
  have hX : refL l left = lf := by
    by_cases h0 : 0 ≤ lf
    · have h1 := (hinv h0).symm
      rw [List.drop_eq_nil_of_le (by omega), xlist] at h1
      unfold refL; rw [h1]; rfl
    rw [hneg (by omega)]; omega
  refine go hs (pS rfl <| pS rfl <| pF rfl rfl <| ?_); clear hs a; intro a hs
  refine wpList_nil (then_normal ?_)
  refine wp_cond_false (hs.ev rfl) ?_
  refine wp_exit (then_exit (then_exit (in_here (then_normal (wp_seq ?_)))))
  refine wp_region_lit (go hs (pM rfl <| pA rfl <| ?_)); clear hs a; intro a hs
  refine wpList_nil (then_normal (wp_ret ?_))
  refine fin_ret hs (.tmp (hs.slots _ _ rfl) .nil) ⟨?_, hs.mem.base⟩
  rw [hX]; rfl
end Go.Proofs.YtibaidddhmdafaaDoor.E
end
section
namespace Go.Proofs.YtibaidddhmdafaaDoor.E
open Go Go.RowKit Go.Proofs.YtibaidddhmdafaaDoorW.PrintWords Go.Proofs.YtibaidddhmdafaaDoorW.PrintLast Go.Proofs.YtibaidddhmdafaaDoorW.PrintMore Go.Proofs.YtibaidddhmdafaaDoor.PA
set_option linter.unusedVariables false
set_option linter.unusedSimpArgs false
set_option maxRecDepth 100000 in
theorem ref_NoExpr (x : XE) (A : Option Addr) (C : Nat) (v0 : World) :
    Calls Tryd.prog 71 #[.agg #[.int .u8 x.f0, .int .i64 x.f1, .string x.f2, .slice A x.f3.length C, .int .i64 x.f4, .int .i64 x.f5]] v0 fun e w' => e = .returned (.bool (noExprB x)) ∧ Below v0.heap.size v0 w' := by
  refine calls_enter (N := 32) (n := 31) (args := [.agg #[.int .u8 x.f0, .int .i64 x.f1, .string x.f2, .slice A x.f3.length C, .int .i64 x.f4, .int .i64 x.f5]]) Tryd.func71 rfl rfl rfl (H.init v0) (fun a hs => ?_)
  refine wp_seq (wp_region_lit ?_)
  refine a_eff rfl (e_box (cs := #[_, _, _, _, _, _]) hs rfl rfl rfl ?_); clear hs a; intro gx a w hs
  refine go hs (pA rfl <| ?_); clear hs a; intro a hs
  refine wpList_nil (then_normal (wp_seq ?_))
  refine wp_region_lit (go hs (pV rfl (fun a hs => y_faddr (k' := 0) 0 hs (by kernel_rfl) rfl rfl) <| pV rfl (fun a hs => y_load hs Tryd.underlying22 rfl rfl (fun w hw => (hw.to 0 rfl).cellV rfl)) <| pV rfl (fun a hs => y_cmp hs rfl rfl rfl) <| pM rfl <| ?_)); clear hs a; intro a hs
  rcases hs.know (d := 6) rfl with ⟨h6, hs1⟩ | ⟨h6, hs1⟩ <;> replace hs := hs1 <;> clear hs1
  · replace h6 := eq_of_beq h6
    refine go hs (pG rfl (fun a hs => y_faddr (k' := 1) 1 hs (by kernel_rfl) rfl rfl) <| pG rfl (fun a hs => y_load hs Tryd.underlying3 rfl rfl (fun w hw => (hw.to 0 rfl).cellV rfl)) <| pG rfl (fun a hs => y_cmp hs rfl rfl rfl) <| pT rfl rfl <| pM rfl <| ?_); clear hs a; intro a hs
    rcases hs.know (d := 11) rfl with ⟨h11, hs1⟩ | ⟨h11, hs1⟩ <;> replace hs := hs1 <;> clear hs1
    · replace h11 := eq_of_beq h11
      refine go hs (pG rfl (fun a hs => y_faddr (k' := 2) 2 hs (by kernel_rfl) rfl rfl) <| pG rfl (fun a hs => y_load hs Tryd.underlying9 rfl rfl (fun w hw => (hw.to 0 rfl).cellV rfl)) <| pG rfl (fun a hs => y_seqE hs rfl rfl) <| pT rfl rfl <| pM rfl <| ?_); clear hs a; intro a hs
      rcases hs.know (d := 16) rfl with ⟨h16, hs1⟩ | ⟨h16, hs1⟩ <;> replace hs := hs1 <;> clear hs1
      · replace h16 := of_decide_eq_true h16
        refine go hs (pG rfl (fun a hs => y_faddr (k' := 3) 3 hs (by kernel_rfl) rfl rfl) <| pG rfl (fun a hs => y_load hs Tryd.underlying23 rfl rfl (fun w hw => (hw.to 0 rfl).cellV rfl)) <| pG rfl (fun a hs => y_lenL hs Tryd.underlying23 rfl) <| pG rfl (fun a hs => y_cmp hs rfl rfl rfl) <| pT rfl rfl <| pM rfl <| ?_); clear hs a; intro a hs
        rcases hs.know (d := 22) rfl with ⟨h22, hs1⟩ | ⟨h22, hs1⟩ <;> replace hs := hs1 <;> clear hs1
        · replace h22 := eq_of_beq h22
          refine go hs (pG rfl (fun a hs => y_faddr (k' := 4) 4 hs (by kernel_rfl) rfl rfl) <| pG rfl (fun a hs => y_load hs Tryd.underlying3 rfl rfl (fun w hw => (hw.to 0 rfl).cellV rfl)) <| pG rfl (fun a hs => y_cmp hs rfl rfl rfl) <| pT rfl rfl <| pM rfl <| ?_); clear hs a; intro a hs
          rcases hs.know (d := 27) rfl with ⟨h27, hs1⟩ | ⟨h27, hs1⟩ <;> replace hs := hs1 <;> clear hs1
          · replace h27 := eq_of_beq h27
            refine go hs (pG rfl (fun a hs => y_faddr (k' := 5) 5 hs (by kernel_rfl) rfl rfl) <| pG rfl (fun a hs => y_load hs Tryd.underlying3 rfl rfl (fun w hw => (hw.to 0 rfl).cellV rfl)) <| pG rfl (fun a hs => y_cmp hs rfl rfl rfl) <| pT rfl rfl <| pA rfl <| ?_); clear hs a; intro a hs
            refine wpList_nil (then_normal (wp_ret ?_))
            refine fin_ret hs (.tmp (hs.slots _ _ rfl) .nil) ⟨?_, hs.mem.base⟩
            first | (rw [show noExprB x = false from decide_eq_false (by omega)]; rfl) | (rw [show noExprB x = (x.f5 == 0) from by unfold noExprB; rw [Bool.eq_iff_iff]; simp only [decide_eq_true_eq, beq_iff_eq]; omega]; rfl)
          replace h27 := ne_of_beq_false h27
          refine go hs (pS rfl <| pS rfl <| pS rfl <| pF rfl rfl <| pA rfl <| ?_); clear hs a; intro a hs
          refine wpList_nil (then_normal (wp_ret ?_))
          refine fin_ret hs (.tmp (hs.slots _ _ rfl) .nil) ⟨?_, hs.mem.base⟩
          first | (rw [show noExprB x = false from decide_eq_false (by omega)]; rfl) | (rw [show noExprB x = (x.f5 == 0) from by unfold noExprB; rw [Bool.eq_iff_iff]; simp only [decide_eq_true_eq, beq_iff_eq]; omega]; rfl)
        replace h22 := ne_of_beq_false h22
        refine go hs (pS rfl <| pS rfl <| pS rfl <| pF rfl rfl <| pM rfl <| pS rfl <| pS rfl <| pS rfl <| pF rfl rfl <| pA rfl <| ?_); clear hs a; intro a hs
        refine wpList_nil (then_normal (wp_ret ?_))
        refine fin_ret hs (.tmp (hs.slots _ _ rfl) .nil) ⟨?_, hs.mem.base⟩
        first | (rw [show noExprB x = false from decide_eq_false (by omega)]; rfl) | (rw [show noExprB x = (x.f5 == 0) from by unfold noExprB; rw [Bool.eq_iff_iff]; simp only [decide_eq_true_eq, beq_iff_eq]; omega]; rfl)
      replace h16 := of_decide_eq_false h16
      refine go hs (pS rfl <| pS rfl <| pS rfl <| pS rfl <| pF rfl rfl <| pM rfl <| pS rfl <| pS rfl <| pS rfl <| pF rfl rfl <| pM rfl <| pS rfl <| pS rfl <| pS rfl <| pF rfl rfl <| pA rfl <| ?_); clear hs a; intro a hs
      refine wpList_nil (then_normal (wp_ret ?_))
      refine fin_ret hs (.tmp (hs.slots _ _ rfl) .nil) ⟨?_, hs.mem.base⟩
      first | (rw [show noExprB x = false from decide_eq_false (by omega)]; rfl) | (rw [show noExprB x = (x.f5 == 0) from by unfold noExprB; rw [Bool.eq_iff_iff]; simp only [decide_eq_true_eq, beq_iff_eq]; omega]; rfl)
    replace h11 := ne_of_beq_false h11
    refine go hs (pS rfl <| pS rfl <| pS rfl <| pF rfl rfl <| pM rfl <| pS rfl <| pS rfl <| pS rfl <| pS rfl <| pF rfl rfl <| pM rfl <| pS rfl <| pS rfl <| pS rfl <| pF rfl rfl <| pM rfl <| pS rfl <| pS rfl <| pS rfl <| pF rfl rfl <| pA rfl <| ?_); clear hs a; intro a hs
    refine wpList_nil (then_normal (wp_ret ?_))
    refine fin_ret hs (.tmp (hs.slots _ _ rfl) .nil) ⟨?_, hs.mem.base⟩
    first | (rw [show noExprB x = false from decide_eq_false (by omega)]; rfl) | (rw [show noExprB x = (x.f5 == 0) from by unfold noExprB; rw [Bool.eq_iff_iff]; simp only [decide_eq_true_eq, beq_iff_eq]; omega]; rfl)
  replace h6 := ne_of_beq_false h6
  refine go hs (pS rfl <| pS rfl <| pS rfl <| pF rfl rfl <| pM rfl <| pS rfl <| pS rfl <| pS rfl <| pF rfl rfl <| pM rfl <| pS rfl <| pS rfl <| pS rfl <| pS rfl <| pF rfl rfl <| pM rfl <| pS rfl <| pS rfl <| pS rfl <| pF rfl rfl <| pM rfl <| pS rfl <| pS rfl <| pS rfl <| pF rfl rfl <| pA rfl <| ?_); clear hs a; intro a hs
  refine wpList_nil (then_normal (wp_ret ?_))
  refine fin_ret hs (.tmp (hs.slots _ _ rfl) .nil) ⟨?_, hs.mem.base⟩
  first | (rw [show noExprB x = false from decide_eq_false (by omega)]; rfl) | (rw [show noExprB x = (x.f5 == 0) from by unfold noExprB; rw [Bool.eq_iff_iff]; simp only [decide_eq_true_eq, beq_iff_eq]; omega]; rfl)
set_option maxRecDepth 100000 in
theorem ref_noShape (s : XS) (A2 A3 A4 : Option Addr) (c2 c3 c4 : Nat) (v0 : World) :
    Calls Tryd.prog 72 #[.agg #[.int .u8 s.f0, .string s.f1, .slice A2 s.f2.length c2, .slice A3 s.f3.length c3, .slice A4 s.f4.length c4, .int .i64 s.f5, .int .i64 s.f6]] v0 fun e w' => e = .returned (.bool (noShapeB s)) ∧ Below v0.heap.size v0 w' := by
  refine calls_enter (N := 39) (n := 38) (args := [.agg #[.int .u8 s.f0, .string s.f1, .slice A2 s.f2.length c2, .slice A3 s.f3.length c3, .slice A4 s.f4.length c4, .int .i64 s.f5, .int .i64 s.f6]]) Tryd.func72 rfl rfl rfl (H.init v0) (fun a hs => ?_)
  refine wp_seq (wp_region_lit ?_)
  refine a_eff rfl (e_box (cs := #[_, _, _, _, _, _, _]) hs rfl rfl rfl ?_); clear hs a; intro gx a w hs
  refine go hs (pA rfl <| ?_); clear hs a; intro a hs
  refine wpList_nil (then_normal (wp_seq ?_))
  refine wp_region_lit (go hs (pV rfl (fun a hs => y_faddr (k' := 5) 5 hs (by kernel_rfl) rfl rfl) <| pV rfl (fun a hs => y_load hs Tryd.underlying3 rfl rfl (fun w hw => (hw.to 0 rfl).cellV rfl)) <| pV rfl (fun a hs => y_cmp hs rfl rfl rfl) <| pM rfl <| ?_)); clear hs a; intro a hs
  rcases hs.know (d := 6) rfl with ⟨h6, hs1⟩ | ⟨h6, hs1⟩ <;> replace hs := hs1 <;> clear hs1
  · replace h6 := eq_of_beq h6
    refine go hs (pG rfl (fun a hs => y_faddr (k' := 6) 6 hs (by kernel_rfl) rfl rfl) <| pG rfl (fun a hs => y_load hs Tryd.underlying3 rfl rfl (fun w hw => (hw.to 0 rfl).cellV rfl)) <| pG rfl (fun a hs => y_cmp hs rfl rfl rfl) <| pT rfl rfl <| pM rfl <| ?_); clear hs a; intro a hs
    rcases hs.know (d := 11) rfl with ⟨h11, hs1⟩ | ⟨h11, hs1⟩ <;> replace hs := hs1 <;> clear hs1
    · replace h11 := eq_of_beq h11
      refine go hs (pG rfl (fun a hs => y_faddr (k' := 0) 0 hs (by kernel_rfl) rfl rfl) <| pG rfl (fun a hs => y_load hs Tryd.underlying38 rfl rfl (fun w hw => (hw.to 0 rfl).cellV rfl)) <| pG rfl (fun a hs => y_cmp hs rfl rfl rfl) <| pT rfl rfl <| pM rfl <| ?_); clear hs a; intro a hs
      rcases hs.know (d := 16) rfl with ⟨h16, hs1⟩ | ⟨h16, hs1⟩ <;> replace hs := hs1 <;> clear hs1
      · replace h16 := eq_of_beq h16
        refine go hs (pG rfl (fun a hs => y_faddr (k' := 1) 1 hs (by kernel_rfl) rfl rfl) <| pG rfl (fun a hs => y_load hs Tryd.underlying9 rfl rfl (fun w hw => (hw.to 0 rfl).cellV rfl)) <| pG rfl (fun a hs => y_seqE hs rfl rfl) <| pT rfl rfl <| pM rfl <| ?_); clear hs a; intro a hs
        rcases hs.know (d := 21) rfl with ⟨h21, hs1⟩ | ⟨h21, hs1⟩ <;> replace hs := hs1 <;> clear hs1
        · replace h21 := of_decide_eq_true h21
          refine go hs (pG rfl (fun a hs => y_faddr (k' := 2) 2 hs (by kernel_rfl) rfl rfl) <| pG rfl (fun a hs => y_load hs Tryd.underlying23 rfl rfl (fun w hw => (hw.to 0 rfl).cellV rfl)) <| pG rfl (fun a hs => y_lenL hs Tryd.underlying23 rfl) <| pG rfl (fun a hs => y_cmp hs rfl rfl rfl) <| pT rfl rfl <| pM rfl <| ?_); clear hs a; intro a hs
          rcases hs.know (d := 27) rfl with ⟨h27, hs1⟩ | ⟨h27, hs1⟩ <;> replace hs := hs1 <;> clear hs1
          · replace h27 := eq_of_beq h27
            refine go hs (pG rfl (fun a hs => y_faddr (k' := 3) 3 hs (by kernel_rfl) rfl rfl) <| pG rfl (fun a hs => y_load hs Tryd.underlying39 rfl rfl (fun w hw => (hw.to 0 rfl).cellV rfl)) <| pG rfl (fun a hs => y_lenL hs Tryd.underlying39 rfl) <| pG rfl (fun a hs => y_cmp hs rfl rfl rfl) <| pT rfl rfl <| pM rfl <| ?_); clear hs a; intro a hs
            rcases hs.know (d := 33) rfl with ⟨h33, hs1⟩ | ⟨h33, hs1⟩ <;> replace hs := hs1 <;> clear hs1
            · replace h33 := eq_of_beq h33
              refine go hs (pG rfl (fun a hs => y_faddr (k' := 4) 4 hs (by kernel_rfl) rfl rfl) <| pG rfl (fun a hs => y_load hs Tryd.underlying40 rfl rfl (fun w hw => (hw.to 0 rfl).cellV rfl)) <| pG rfl (fun a hs => y_lenL hs Tryd.underlying40 rfl) <| pG rfl (fun a hs => y_cmp hs rfl rfl rfl) <| pT rfl rfl <| pA rfl <| ?_); clear hs a; intro a hs
              refine wpList_nil (then_normal (wp_ret ?_))
              refine fin_ret hs (.tmp (hs.slots _ _ rfl) .nil) ⟨?_, hs.mem.base⟩
              first | (rw [show noShapeB s = false from decide_eq_false (by omega)]; rfl) | (rw [show noShapeB s = ((s.f4.length : Int) == 0) from by unfold noShapeB; rw [Bool.eq_iff_iff]; simp only [decide_eq_true_eq, beq_iff_eq]; omega]; rfl)
            replace h33 := ne_of_beq_false h33
            refine go hs (pS rfl <| pS rfl <| pS rfl <| pS rfl <| pF rfl rfl <| pA rfl <| ?_); clear hs a; intro a hs
            refine wpList_nil (then_normal (wp_ret ?_))
            refine fin_ret hs (.tmp (hs.slots _ _ rfl) .nil) ⟨?_, hs.mem.base⟩
            first | (rw [show noShapeB s = false from decide_eq_false (by omega)]; rfl) | (rw [show noShapeB s = ((s.f4.length : Int) == 0) from by unfold noShapeB; rw [Bool.eq_iff_iff]; simp only [decide_eq_true_eq, beq_iff_eq]; omega]; rfl)
          replace h27 := ne_of_beq_false h27
          refine go hs (pS rfl <| pS rfl <| pS rfl <| pS rfl <| pF rfl rfl <| pM rfl <| pS rfl <| pS rfl <| pS rfl <| pS rfl <| pF rfl rfl <| pA rfl <| ?_); clear hs a; intro a hs
          refine wpList_nil (then_normal (wp_ret ?_))
          refine fin_ret hs (.tmp (hs.slots _ _ rfl) .nil) ⟨?_, hs.mem.base⟩
          first | (rw [show noShapeB s = false from decide_eq_false (by omega)]; rfl) | (rw [show noShapeB s = ((s.f4.length : Int) == 0) from by unfold noShapeB; rw [Bool.eq_iff_iff]; simp only [decide_eq_true_eq, beq_iff_eq]; omega]; rfl)
        replace h21 := of_decide_eq_false h21
        refine go hs (pS rfl <| pS rfl <| pS rfl <| pS rfl <| pF rfl rfl <| pM rfl <| pS rfl <| pS rfl <| pS rfl <| pS rfl <| pF rfl rfl <| pM rfl <| pS rfl <| pS rfl <| pS rfl <| pS rfl <| pF rfl rfl <| pA rfl <| ?_); clear hs a; intro a hs
        refine wpList_nil (then_normal (wp_ret ?_))
        refine fin_ret hs (.tmp (hs.slots _ _ rfl) .nil) ⟨?_, hs.mem.base⟩
        first | (rw [show noShapeB s = false from decide_eq_false (by omega)]; rfl) | (rw [show noShapeB s = ((s.f4.length : Int) == 0) from by unfold noShapeB; rw [Bool.eq_iff_iff]; simp only [decide_eq_true_eq, beq_iff_eq]; omega]; rfl)
      replace h16 := ne_of_beq_false h16
      refine go hs (pS rfl <| pS rfl <| pS rfl <| pF rfl rfl <| pM rfl <| pS rfl <| pS rfl <| pS rfl <| pS rfl <| pF rfl rfl <| pM rfl <| pS rfl <| pS rfl <| pS rfl <| pS rfl <| pF rfl rfl <| pM rfl <| pS rfl <| pS rfl <| pS rfl <| pS rfl <| pF rfl rfl <| pA rfl <| ?_); clear hs a; intro a hs
      refine wpList_nil (then_normal (wp_ret ?_))
      refine fin_ret hs (.tmp (hs.slots _ _ rfl) .nil) ⟨?_, hs.mem.base⟩
      first | (rw [show noShapeB s = false from decide_eq_false (by omega)]; rfl) | (rw [show noShapeB s = ((s.f4.length : Int) == 0) from by unfold noShapeB; rw [Bool.eq_iff_iff]; simp only [decide_eq_true_eq, beq_iff_eq]; omega]; rfl)
    replace h11 := ne_of_beq_false h11
    refine go hs (pS rfl <| pS rfl <| pS rfl <| pF rfl rfl <| pM rfl <| pS rfl <| pS rfl <| pS rfl <| pF rfl rfl <| pM rfl <| pS rfl <| pS rfl <| pS rfl <| pS rfl <| pF rfl rfl <| pM rfl <| pS rfl <| pS rfl <| pS rfl <| pS rfl <| pF rfl rfl <| pM rfl <| pS rfl <| pS rfl <| pS rfl <| pS rfl <| pF rfl rfl <| pA rfl <| ?_); clear hs a; intro a hs
    refine wpList_nil (then_normal (wp_ret ?_))
    refine fin_ret hs (.tmp (hs.slots _ _ rfl) .nil) ⟨?_, hs.mem.base⟩
    first | (rw [show noShapeB s = false from decide_eq_false (by omega)]; rfl) | (rw [show noShapeB s = ((s.f4.length : Int) == 0) from by unfold noShapeB; rw [Bool.eq_iff_iff]; simp only [decide_eq_true_eq, beq_iff_eq]; omega]; rfl)
  replace h6 := ne_of_beq_false h6
  refine go hs (pS rfl <| pS rfl <| pS rfl <| pF rfl rfl <| pM rfl <| pS rfl <| pS rfl <| pS rfl <| pF rfl rfl <| pM rfl <| pS rfl <| pS rfl <| pS rfl <| pF rfl rfl <| pM rfl <| pS rfl <| pS rfl <| pS rfl <| pS rfl <| pF rfl rfl <| pM rfl <| pS rfl <| pS rfl <| pS rfl <| pS rfl <| pF rfl rfl <| pM rfl <| pS rfl <| pS rfl <| pS rfl <| pS rfl <| pF rfl rfl <| pA rfl <| ?_); clear hs a; intro a hs
  refine wpList_nil (then_normal (wp_ret ?_))
  refine fin_ret hs (.tmp (hs.slots _ _ rfl) .nil) ⟨?_, hs.mem.base⟩
  first | (rw [show noShapeB s = false from decide_eq_false (by omega)]; rfl) | (rw [show noShapeB s = ((s.f4.length : Int) == 0) from by unfold noShapeB; rw [Bool.eq_iff_iff]; simp only [decide_eq_true_eq, beq_iff_eq]; omega]; rfl)
end Go.Proofs.YtibaidddhmdafaaDoor.E
end
section
namespace Go.Proofs.YtibaidddhmdafaaDoor.E
open Go Go.RowKit Go.Proofs.YtibaidddhmdafaaDoorW.PrintWords Go.Proofs.YtibaidddhmdafaaDoorW.PrintLast Go.Proofs.YtibaidddhmdafaaDoorW.PrintMore Go.Proofs.YtibaidddhmdafaaDoor.PA
set_option linter.unusedVariables false
set_option linter.unusedSimpArgs false
/-- What the reference answers where the walk tells whether, and what is left. -/
def refB (r : Bool × Int) : Int := if r.1 = true then r.2 else -1
theorem refB_bounds {r : Bool × Int} {l : Int} (h : fallsB r l) : -1 ≤ refB r ∧ refB r ≤ l := by
  obtain ⟨a, b, c⟩ := h
  unfold refB
  split
  · exact ⟨a, b⟩
  · exact ⟨Int.le_refl _, by omega⟩
theorem refL_B (l : List XE) (lf : Int) : refL l lf = refB (xlist stE l lf) := rfl
/-- A search over a list, and what follows it. -/
def xk {α : Type} (st : α → Int → Bool × Int) (l : List α) (k : Int → Bool × Int) (lf : Int) : Bool × Int := if (xlist st l lf).1 = true then k (xlist st l lf).2 else xlist st l lf
theorem xk_nil {α : Type} {st : α → Int → Bool × Int} {k : Int → Bool × Int} {lf : Int} : xk st [] k lf = k lf := rfl
theorem xk_cons {α : Type} {st : α → Int → Bool × Int} {p : α} {r : List α} {k : Int → Bool × Int} {lf : Int} : xk st (p :: r) k lf = if (st p lf).1 = true then xk st r k (st p lf).2 else (false, (st p lf).2) := by
  unfold xk
  rw [xlist]
  by_cases h : (st p lf).1 = true
  · rw [if_pos h, if_pos h]
  · rw [if_neg h, if_neg h, if_neg (by exact Bool.false_ne_true)]
theorem xk_true {α : Type} {st : α → Int → Bool × Int} {l : List α} {lf : Int} : xk st l (fun l => (true, l)) lf = xlist st l lf := by
  unfold xk
  split
  · rename_i h; exact Prod.ext h.symm rfl
  · rfl
theorem xb_next {r X : Bool × Int} {k : Int → Bool × Int} (hX : X = if r.1 = true then k r.2 else r) : 0 ≤ refB r → X = k (refB r) := by
  intro h
  unfold refB at h ⊢
  split at h
  · rename_i h1; rw [if_pos h1, hX, if_pos h1]
  · omega
theorem xb_stop {r X : Bool × Int} {k : Int → Bool × Int} {l : Int} (hX : X = if r.1 = true then k r.2 else r) (hf : fallsB r l) : refB r < 0 → X.1 = false ∧ refB r = -1 := by
  intro h
  unfold refB at h ⊢
  split at h
  · rename_i h1; have := hf.2.2 h1; omega
  · rename_i h1; rw [if_neg h1, hX, if_neg h1]; exact ⟨by simpa using h1, rfl⟩
theorem xk_next {α : Type} {st : α → Int → Bool × Int} {p : α} {r : List α} {k : Int → Bool × Int} {lf : Int} {X : Bool × Int} (hX : X = xk st (p :: r) k lf) : 0 ≤ refB (st p lf) → X = xk st r k (refB (st p lf)) := by
  intro h
  rw [xk_cons] at hX
  unfold refB at h ⊢
  split at h
  · rename_i h1; rw [if_pos h1, hX, if_pos h1]
  · omega
theorem xk_stop {α : Type} {st : α → Int → Bool × Int} {p : α} {r : List α} {k : Int → Bool × Int} {lf : Int} {X : Bool × Int} (hX : X = xk st (p :: r) k lf) (hf : fallsB (st p lf) lf) : refB (st p lf) < 0 → X.1 = false ∧ refB (st p lf) = -1 := by
  intro h
  rw [xk_cons] at hX
  unfold refB at h ⊢
  split at h
  · rename_i h1; have := hf.2.2 h1; omega
  · rename_i h1; rw [if_neg h1, hX, if_neg h1]; exact ⟨rfl, rfl⟩
theorem nameOk_nil {s : ByteArray} (h : s.size = 0) : nameOk s = false := by
  have h1 : s = ⟨#[]⟩ := by
    rcases s with ⟨d⟩
    have h2 : d.size = 0 := h
    rw [Array.size_eq_zero_iff.1 h2]
  subst h1; rfl
/-- What the reference's shape answers: the nodes that are left, or -1. -/
noncomputable def refS (n : Nat) (s : XS) (left : Int) : Int := refB (xshape n s left)
theorem refS_low {q : Nat} {s : XS} {left : Int} (h : left - 1 < 0) : refS (q + 1) s left = -1 := by
  unfold refS refB
  rw [xshape, if_pos h]; rfl
theorem refS_bad {q : Nat} {s : XS} {left : Int} (h : ¬ headS s ∨ s.f0 = 8 ∧ ¬ (1 ≤ s.f4.length ∧ s.f4.length ≤ 64)) : refS (q + 1) s left = -1 := by
  unfold refS refB
  rw [xshape]
  by_cases h1 : left - 1 < 0
  · rw [if_pos h1]; rfl
  · rw [if_neg h1]
    by_cases h2 : headS s
    · rcases h with h | ⟨h3, h4⟩
      · exact absurd h2 h
      · have hR : rowsS s (left - 1) = (false, left - 1) := by unfold rowsS rowsF; rw [if_pos h3, if_neg h4]
        rw [if_pos h2, hR, if_neg (show ¬ (false = true) from Bool.false_ne_true)]; rfl
    · rw [if_neg h2]; rfl
theorem shape_args {q : Nat} {s : XS} {left : Int} (hl : ¬ left - 1 < 0) (hH : headS s) (h8 : s.f0 = 8 → 1 ≤ s.f4.length ∧ s.f4.length ≤ 64) :
    xshape (q + 1) s left = if (xlist stE s.f2 (left - 1)).1 = true then xk stR s.f4 (xk (xshape q) s.f3 (fun l => (true, l))) (xlist stE s.f2 (left - 1)).2 else xlist stE s.f2 (left - 1) := by
  rw [xshape, if_neg hl, if_pos hH]
  obtain ⟨nm, a, p, r, h1, h2, h3, h4, h5, h6⟩ := hH
  by_cases hk : s.f0 = 8
  · have ha : s.f2 = [] := by
      rcases parts_cases h1 with ⟨rfl, rfl, rfl, rfl, hk1⟩ | ⟨rfl, rfl, rfl, rfl, hk1⟩ | ⟨rfl, rfl, rfl, rfl, hk1⟩ | ⟨rfl, rfl, rfl, rfl, hk1⟩ | ⟨rfl, rfl, rfl, rfl, hk1⟩
      all_goals first | omega | exact List.eq_nil_of_length_eq_zero h4
    have hR : ∀ l, rowsS s l = xlist stR s.f4 l := fun l => by unfold rowsS rowsF; rw [if_pos hk, if_pos (h8 hk)]
    rw [ha, hR]
    show _ = xk stR s.f4 _ (left - 1)
    unfold xk
    split
    · rw [if_pos (show (xlist stE [] (xlist stR s.f4 (left - 1)).2).1 = true from rfl)]
      exact xk_true.symm
    · rfl
  · have hr : s.f4 = [] := by
      rcases parts_cases h1 with ⟨rfl, rfl, rfl, rfl, hk1⟩ | ⟨rfl, rfl, rfl, rfl, hk1⟩ | ⟨rfl, rfl, rfl, rfl, hk1⟩ | ⟨rfl, rfl, rfl, rfl, hk1⟩ | ⟨rfl, rfl, rfl, rfl, hk1⟩
      all_goals first | omega | exact List.eq_nil_of_length_eq_zero (h6 rfl)
    have hR : ∀ l, rowsS s l = (true, l) := fun l => by unfold rowsS; rw [if_neg hk]
    rw [hr, hR, if_pos rfl]
    split
    · rw [xk_nil]; exact xk_true.symm
    · rfl
theorem shape_kinds {k : Int} {a : Prop} {na np : Nat} {l : Nat} (h : k = 1 ∧ a ∧ na = 0 ∧ np = 0 ∨ (k = 2 ∨ k = 3) ∧ na = 2 ∧ np = 0 ∨ (k = 4 ∨ k = 5) ∧ na = 3 ∧ np = 0 ∨ (k = 6 ∨ k = 7) ∧ na = 0 ∧ np = 2 ∨ k = 8 ∧ na = 0 ∧ np = 0 ∧ 1 ≤ l ∧ l ≤ 64) :
    k = 1 ∧ na = 0 ∧ np = 0 ∨ (k = 2 ∨ k = 3) ∧ na = 2 ∧ np = 0 ∨ (k = 4 ∨ k = 5) ∧ na = 3 ∧ np = 0 ∨ (k = 6 ∨ k = 7) ∧ na = 0 ∧ np = 2 ∨ k = 8 ∧ na = 0 ∧ np = 0 ∧ 1 ≤ l ∧ l ≤ 64 := by
  rcases h with ⟨h1, _, h2⟩ | h | h | h | h
  · exact .inl ⟨h1, h2⟩
  · exact .inr (.inl h)
  · exact .inr (.inr (.inl h))
  · exact .inr (.inr (.inr (.inl h)))
  · exact .inr (.inr (.inr (.inr h)))
def RefSOk (n : Nat) : Prop := ∀ (s : XS) (A2 A3 A4 : Option Addr) (c2 c3 c4 : Nat) (left : Int) (v0 : World), Kd.C k25 v0 A2 s.f2.length s.f2 → Kd.C k42 v0 A3 s.f3.length s.f3 → Kd.C (Kd.slice 25 k25) v0 A4 s.f4.length s.f4 → smallS n s → 0 ≤ left ∧ left ≤ 8192 → Calls Tryd.prog 46 #[.agg #[.int .u8 s.f0, .string s.f1, .slice A2 s.f2.length c2, .slice A3 s.f3.length c3, .slice A4 s.f4.length c4, .int .i64 s.f5, .int .i64 s.f6], .int .i64 left, .int .i64 ((n : Nat) : Int)] v0 fun e w' => e = .returned (.int .i64 (refS n s left)) ∧ Below v0.heap.size v0 w'
set_option maxRecDepth 100000 in
theorem ref_shape_step (n : Nat) (hn : n ≤ 1000) (ih : ∀ q, q + 1 = n → RefSOk q) (s : XS) (A2 A3 A4 : Option Addr) (c2 c3 c4 : Nat) (left : Int) (v0 : World) (hA2 : Kd.C k25 v0 A2 s.f2.length s.f2) (hA3 : Kd.C k42 v0 A3 s.f3.length s.f3) (hA4 : Kd.C (Kd.slice 25 k25) v0 A4 s.f4.length s.f4) (hsm : smallS n s) (hl : 0 ≤ left ∧ left ≤ 8192) :
    Calls Tryd.prog 46 #[.agg #[.int .u8 s.f0, .string s.f1, .slice A2 s.f2.length c2, .slice A3 s.f3.length c3, .slice A4 s.f4.length c4, .int .i64 s.f5, .int .i64 s.f6], .int .i64 left, .int .i64 ((n : Nat) : Int)] v0 fun e w' => e = .returned (.int .i64 (refS n s left)) ∧ Below v0.heap.size v0 w' := by
  refine calls_enter (N := 139) (n := 136) (args := [.agg #[.int .u8 s.f0, .string s.f1, .slice A2 s.f2.length c2, .slice A3 s.f3.length c3, .slice A4 s.f4.length c4, .int .i64 s.f5, .int .i64 s.f6], .int .i64 left, .int .i64 ((n : Nat) : Int)]) Tryd.func46 rfl rfl rfl (H.init v0) (fun a hs => ?_)
  have hcl2 := C_len hA2
  have hcl3 := C_len hA3
  have hcl4 := C_len hA4
  refine wp_seq (wp_region_lit ?_)
  refine a_eff rfl (e_box (cs := #[_, _, _, _, _, _, _]) hs rfl rfl rfl ?_); clear hs a; intro gx a w hs
  refine go hs (pA rfl <| ?_); clear hs a; intro a hs
  refine wpList_nil (then_normal (wp_seq ?_))
  refine wp_region_lit (go hs (pM rfl <| pV rfl (fun a hs => y_sub hs rfl rfl (by omega)) <| pA rfl <| ?_)); clear hs a; intro a hs
  refine wpList_nil (then_normal (wp_seq ?_))
  refine wp_seq (wp_region_lit ?_)
  refine go hs (pM rfl <| pV rfl (fun a hs => y_cmp hs rfl rfl rfl) <| pM rfl <| ?_); clear hs a; intro a hs
  rcases hs.know (d := 15) rfl with ⟨h15, hs1⟩ | ⟨h15, hs1⟩ <;> replace hs := hs1 <;> clear hs1
  · replace h15 := of_decide_eq_true h15
    refine go hs (pS rfl <| pS rfl <| pT rfl rfl <| pM rfl <| pS rfl <| pS rfl <| pS rfl <| pS rfl <| pS rfl <| pS rfl <| pS rfl <| pT rfl rfl <| ?_); clear hs a; intro a hs
    refine wpList_nil (then_normal ?_)
    refine wp_cond_true (hs.ev rfl) ?_
    refine wp_seq (wp_region_lit ?_)
    refine go hs (pA rfl <| ?_); clear hs a; intro a hs
    refine wpList_nil (then_normal (wp_ret (then_ret ?_)))
    have hX : refS n s left = -1 := by
      cases n with
      | zero => rfl
      | succ q => exact refS_low (by omega)
    refine fin_ret hs (.tmp (hs.slots _ _ rfl) .nil) ⟨?_, hs.mem.base⟩
    rw [hX]; rfl
  replace h15 := of_decide_eq_false h15
  refine go hs (pG rfl (fun a hs => y_move hs rfl) <| pG rfl (fun a hs => y_cmp hs rfl rfl rfl) <| pF rfl rfl <| pM rfl <| ?_); clear hs a; intro a hs
  rcases hs.know (d := 19) rfl with ⟨h19, hs1⟩ | ⟨h19, hs1⟩ <;> replace hs := hs1 <;> clear hs1
  · replace h19 := eq_of_beq h19
    refine go hs (pS rfl <| pS rfl <| pS rfl <| pS rfl <| pS rfl <| pS rfl <| pS rfl <| pT rfl rfl <| ?_); clear hs a; intro a hs
    refine wpList_nil (then_normal ?_)
    refine wp_cond_true (hs.ev rfl) ?_
    refine wp_seq (wp_region_lit ?_)
    refine go hs (pA rfl <| ?_); clear hs a; intro a hs
    refine wpList_nil (then_normal (wp_ret (then_ret ?_)))
    have hX : refS n s left = -1 := by
      cases n with
      | zero => rfl
      | succ q => exact refS_low (by omega)
    refine fin_ret hs (.tmp (hs.slots _ _ rfl) .nil) ⟨?_, hs.mem.base⟩
    rw [hX]; rfl
  replace h19 := ne_of_beq_false h19
  refine go hs (pG rfl (fun a hs => y_faddr (k' := 0) 0 hs (by kernel_rfl) rfl rfl) <| pG rfl (fun a hs => y_load hs Tryd.underlying38 rfl rfl (fun w hw => (hw.to 0 rfl).cellV rfl)) <| pG rfl (fun a hs => y_cmp hs rfl rfl rfl) <| pG rfl (fun a hs => y_faddr (k' := 1) 1 hs (by kernel_rfl) rfl rfl) <| pG rfl (fun a hs => y_load hs Tryd.underlying9 rfl rfl (fun w hw => (hw.to 0 rfl).cellV rfl)) <| pG rfl (fun a hs => y_sneE hs rfl rfl) <| pG rfl (fun a hs => y_bne hs Tryd.underlying4 rfl rfl) <| pF rfl rfl <| ?_); clear hs a; intro a hs
  refine wpList_nil (then_normal ?_)
  refine wp_cond_split (hs.ev rfl) (fun h27 => ?_) (fun h27 => ?_)
  · have h27' : ¬ (s.f0 = 1 ↔ ¬ s.f1.size = 0) := by clear hs; have h27c := h27; simp only [Bool.not_eq_true', Bool.not_eq_false', beq_eq_false_iff_ne, beq_iff_eq, ne_eq] at h27c; rw [Bool.eq_iff_iff] at h27c; simp only [beq_iff_eq, decide_eq_true_eq] at h27c; exact h27c
    refine wp_seq (wp_region_lit ?_)
    refine go hs (pA rfl <| ?_); clear hs a; intro a hs
    refine wpList_nil (then_normal (wp_ret (then_ret ?_)))
    obtain ⟨q, rfl⟩ : ∃ q, n = q + 1 := ⟨n - 1, by omega⟩
    have hH : ¬ headS s := by
      clear hs
      rintro ⟨nm, a, p, r, h1, h2, h3, h4, h5, h6⟩
      rcases parts_cases h1 with ⟨rfl, rfl, rfl, rfl, hk1⟩ | ⟨rfl, rfl, rfl, rfl, hk1⟩ | ⟨rfl, rfl, rfl, rfl, hk1⟩ | ⟨rfl, rfl, rfl, rfl, hk1⟩ | ⟨rfl, rfl, rfl, rfl, hk1⟩
      all_goals first | omega | (have := h3 rfl; omega) | (have := h6 rfl; omega) | (have hz : ¬ s.f1.size = 0 := fun h0 => absurd h2 (by rw [nameOk_nil h0]; exact Bool.false_ne_true); omega) | (rw [h2] at h35; cases h35; done)
    have hX : refS (q + 1) s left = -1 := refS_bad (.inl hH)
    refine fin_ret hs (.tmp (hs.slots _ _ rfl) .nil) ⟨?_, hs.mem.base⟩
    rw [hX]; rfl
  have h27' : s.f0 = 1 ↔ ¬ s.f1.size = 0 := by clear hs; have h27c := h27; simp only [Bool.not_eq_true', Bool.not_eq_false', beq_eq_false_iff_ne, beq_iff_eq, ne_eq] at h27c; rw [Bool.eq_iff_iff] at h27c; simp only [beq_iff_eq, decide_eq_true_eq] at h27c; exact h27c
  obtain ⟨q, rfl⟩ : ∃ q, n = q + 1 := ⟨n - 1, by omega⟩
  refine wp_skip (then_normal (wp_seq ?_))
  refine wp_region_lit (go hs (pA rfl <| pA rfl <| ?_)); clear hs a; intro a hs
  refine wpList_nil (then_normal ?_)
  refine wp_seq_cut (fun a w1 => ∃ (na np : Nat), (s.f0 = 1 ∧ nameOk s.f1 = true ∧ na = 0 ∧ np = 0 ∨ (s.f0 = 2 ∨ s.f0 = 3) ∧ na = 2 ∧ np = 0 ∨ (s.f0 = 4 ∨ s.f0 = 5) ∧ na = 3 ∧ np = 0 ∨ (s.f0 = 6 ∨ s.f0 = 7) ∧ na = 0 ∧ np = 2 ∨ s.f0 = 8 ∧ na = 0 ∧ np = 0 ∧ 1 ≤ s.f4.length ∧ s.f4.length ≤ 64) ∧ St 139 v0 [(1, .int .i64 (left - 1)), (2, .int .i64 ((q + 1 : Nat) : Int)), (3, .pointer (some ⟨gx, 0, none⟩)), (7, .int .i64 ((na : Nat) : Int)), (8, .int .i64 ((np : Nat) : Int))] [pt gx #[.int .u8 s.f0, .string s.f1, .slice A2 s.f2.length c2, .slice A3 s.f3.length c3, .slice A4 s.f4.length c4, .int .i64 s.f5, .int .i64 s.f6] 42] a w1) ?_ (fun a w1 hJ => ?_)
  · refine wp_seq (wp_region_lit ?_)
    refine go hs (pV rfl (fun a hs => y_faddr (k' := 0) 0 hs (by kernel_rfl) rfl rfl) <| pV rfl (fun a hs => y_load hs Tryd.underlying38 rfl rfl (fun w hw => (hw.to 0 rfl).cellV rfl)) <| ?_); clear hs a; intro a hs
    refine wpList_nil (then_normal (wp_block ?_))
    refine wp_seq (wp_region_lit ?_)
    refine go hs (pV rfl (fun a hs => y_cmp hs rfl rfl rfl) <| pA rfl <| ?_); clear hs a; intro a hs
    refine wpList_nil (then_normal ?_)
    refine wp_cond_split (hs.ev rfl) (fun h30 => ?_) (fun h30 => ?_)
    · replace h30 := eq_of_beq h30
      refine wp_seq (wp_region_lit ?_)
      refine go hs (pV rfl (fun a hs => y_faddr (k' := 1) 1 hs (by kernel_rfl) rfl rfl) <| pV rfl (fun a hs => y_load hs Tryd.underlying9 rfl rfl (fun w hw => (hw.to 0 rfl).cellV rfl)) <| ?_); clear hs a; intro a hs
      refine a_eff rfl (e_callB Tryd.func70 rfl rfl hs rfl rfl (recoupref09_Name.calls _ s.f1 (nameOk s.f1) _ (refName s.f1 hsm.1)) ?_); clear hs a; intro a w hs
      refine go hs (pV rfl (fun a hs => y_not hs rfl) <| ?_); clear hs a; intro a hs
      refine wpList_nil (then_normal ?_)
      refine wp_cond_split (hs.ev rfl) (fun h35 => ?_) (fun h35 => ?_)
      · replace h35 := (not_t h35)
        refine wp_seq (wp_region_lit ?_)
        refine go hs (pA rfl <| ?_); clear hs a; intro a hs
        refine wpList_nil (then_normal (wp_ret (in_ret (then_ret ?_))))
        have hH : ¬ headS s := by
          clear hs
          rintro ⟨nm, a, p, r, h1, h2, h3, h4, h5, h6⟩
          rcases parts_cases h1 with ⟨rfl, rfl, rfl, rfl, hk1⟩ | ⟨rfl, rfl, rfl, rfl, hk1⟩ | ⟨rfl, rfl, rfl, rfl, hk1⟩ | ⟨rfl, rfl, rfl, rfl, hk1⟩ | ⟨rfl, rfl, rfl, rfl, hk1⟩
          all_goals first | omega | (have := h3 rfl; omega) | (have := h6 rfl; omega) | (have hz : ¬ s.f1.size = 0 := fun h0 => absurd h2 (by rw [nameOk_nil h0]; exact Bool.false_ne_true); omega) | (rw [h2] at h35; cases h35; done)
        have hX : refS (q + 1) s left = -1 := refS_bad (.inl hH)
        refine fin_ret hs (.tmp (hs.slots _ _ rfl) .nil) ⟨?_, hs.mem.base⟩
        rw [hX]; rfl
      replace h35 := (not_f h35)
      refine wp_skip (in_normal (then_normal ?_))
      refine ⟨0, 0, .inl ⟨by omega, by rw [h35], rfl, rfl⟩, ?_⟩
      exact (hs.mem_to hs.mem).cut _ ⟨rfl, rfl, rfl, rfl, rfl, trivial⟩
    replace h30 := ne_of_beq_false h30
    refine wp_seq (wp_seq ?_)
    refine wp_region_lit (go hs (pV rfl (fun a hs => y_cmp hs rfl rfl rfl) <| pA rfl <| ?_)); clear hs a; intro a hs
    refine wpList_nil (then_normal ?_)
    refine wp_cond_split (hs.ev rfl) (fun h36 => ?_) (fun h36 => ?_)
    · replace h36 := eq_of_beq h36
      replace hs := hs.say 36 rfl (congrArg Value.bool (beq_iff_eq.2 h36))
      refine wp_skip (then_normal ?_)
      refine wp_cond_true (hs.ev rfl) ?_
      refine wp_region_lit (go hs (pA rfl <| ?_)); clear hs a; intro a hs
      refine wpList_nil (in_normal (then_normal ?_))
      refine ⟨2, 0, .inr (.inl ⟨by omega, rfl, rfl⟩), ?_⟩
      exact (hs.mem_to hs.mem).cut _ ⟨rfl, rfl, rfl, rfl, rfl, trivial⟩
    replace h36 := ne_of_beq_false h36
    replace hs := hs.say 36 rfl (congrArg Value.bool (beq_eq_false_iff_ne.2 h36))
    refine wp_region_lit (go hs (pV rfl (fun a hs => y_cmp hs rfl rfl rfl) <| pA rfl <| ?_)); clear hs a; intro a hs
    refine wpList_nil (then_normal ?_)
    refine wp_cond_split (hs.ev rfl) (fun h36 => ?_) (fun h36 => ?_)
    · replace h36 := eq_of_beq h36
      replace hs := hs.say 36 rfl (congrArg Value.bool (beq_iff_eq.2 h36))
      refine wp_region_lit (go hs (pA rfl <| ?_)); clear hs a; intro a hs
      refine wpList_nil (in_normal (then_normal ?_))
      refine ⟨2, 0, .inr (.inl ⟨by omega, rfl, rfl⟩), ?_⟩
      exact (hs.mem_to hs.mem).cut _ ⟨rfl, rfl, rfl, rfl, rfl, trivial⟩
    replace h36 := ne_of_beq_false h36
    replace hs := hs.say 36 rfl (congrArg Value.bool (beq_eq_false_iff_ne.2 h36))
    refine wp_seq (wp_seq ?_)
    refine wp_region_lit (go hs (pV rfl (fun a hs => y_cmp hs rfl rfl rfl) <| pA rfl <| ?_)); clear hs a; intro a hs
    refine wpList_nil (then_normal ?_)
    refine wp_cond_split (hs.ev rfl) (fun h39 => ?_) (fun h39 => ?_)
    · replace h39 := eq_of_beq h39
      replace hs := hs.say 39 rfl (congrArg Value.bool (beq_iff_eq.2 h39))
      refine wp_skip (then_normal ?_)
      refine wp_cond_true (hs.ev rfl) ?_
      refine wp_region_lit (go hs (pA rfl <| ?_)); clear hs a; intro a hs
      refine wpList_nil (in_normal (then_normal ?_))
      refine ⟨3, 0, .inr (.inr (.inl ⟨by omega, rfl, rfl⟩)), ?_⟩
      exact (hs.mem_to hs.mem).cut _ ⟨rfl, rfl, rfl, rfl, rfl, trivial⟩
    replace h39 := ne_of_beq_false h39
    replace hs := hs.say 39 rfl (congrArg Value.bool (beq_eq_false_iff_ne.2 h39))
    refine wp_region_lit (go hs (pV rfl (fun a hs => y_cmp hs rfl rfl rfl) <| pA rfl <| ?_)); clear hs a; intro a hs
    refine wpList_nil (then_normal ?_)
    refine wp_cond_split (hs.ev rfl) (fun h39 => ?_) (fun h39 => ?_)
    · replace h39 := eq_of_beq h39
      replace hs := hs.say 39 rfl (congrArg Value.bool (beq_iff_eq.2 h39))
      refine wp_region_lit (go hs (pA rfl <| ?_)); clear hs a; intro a hs
      refine wpList_nil (in_normal (then_normal ?_))
      refine ⟨3, 0, .inr (.inr (.inl ⟨by omega, rfl, rfl⟩)), ?_⟩
      exact (hs.mem_to hs.mem).cut _ ⟨rfl, rfl, rfl, rfl, rfl, trivial⟩
    replace h39 := ne_of_beq_false h39
    replace hs := hs.say 39 rfl (congrArg Value.bool (beq_eq_false_iff_ne.2 h39))
    refine wp_seq (wp_seq ?_)
    refine wp_region_lit (go hs (pV rfl (fun a hs => y_cmp hs rfl rfl rfl) <| pA rfl <| ?_)); clear hs a; intro a hs
    refine wpList_nil (then_normal ?_)
    refine wp_cond_split (hs.ev rfl) (fun h42 => ?_) (fun h42 => ?_)
    · replace h42 := eq_of_beq h42
      replace hs := hs.say 42 rfl (congrArg Value.bool (beq_iff_eq.2 h42))
      refine wp_skip (then_normal ?_)
      refine wp_cond_true (hs.ev rfl) ?_
      refine wp_region_lit (go hs (pA rfl <| ?_)); clear hs a; intro a hs
      refine wpList_nil (in_normal (then_normal ?_))
      refine ⟨0, 2, .inr (.inr (.inr (.inl ⟨by omega, rfl, rfl⟩))), ?_⟩
      exact (hs.mem_to hs.mem).cut _ ⟨rfl, rfl, rfl, rfl, rfl, trivial⟩
    replace h42 := ne_of_beq_false h42
    replace hs := hs.say 42 rfl (congrArg Value.bool (beq_eq_false_iff_ne.2 h42))
    refine wp_region_lit (go hs (pV rfl (fun a hs => y_cmp hs rfl rfl rfl) <| pA rfl <| ?_)); clear hs a; intro a hs
    refine wpList_nil (then_normal ?_)
    refine wp_cond_split (hs.ev rfl) (fun h42 => ?_) (fun h42 => ?_)
    · replace h42 := eq_of_beq h42
      replace hs := hs.say 42 rfl (congrArg Value.bool (beq_iff_eq.2 h42))
      refine wp_region_lit (go hs (pA rfl <| ?_)); clear hs a; intro a hs
      refine wpList_nil (in_normal (then_normal ?_))
      refine ⟨0, 2, .inr (.inr (.inr (.inl ⟨by omega, rfl, rfl⟩))), ?_⟩
      exact (hs.mem_to hs.mem).cut _ ⟨rfl, rfl, rfl, rfl, rfl, trivial⟩
    replace h42 := ne_of_beq_false h42
    replace hs := hs.say 42 rfl (congrArg Value.bool (beq_eq_false_iff_ne.2 h42))
    refine wp_seq (wp_region_lit ?_)
    refine go hs (pV rfl (fun a hs => y_cmp hs rfl rfl rfl) <| pA rfl <| ?_); clear hs a; intro a hs
    refine wpList_nil (then_normal ?_)
    refine wp_cond_split (hs.ev rfl) (fun h45 => ?_) (fun h45 => ?_)
    · replace h45 := eq_of_beq h45
      refine wp_seq (wp_region_lit ?_)
      refine go hs (pV rfl (fun a hs => y_faddr (k' := 4) 4 hs (by kernel_rfl) rfl rfl) <| pV rfl (fun a hs => y_load hs Tryd.underlying40 rfl rfl (fun w hw => (hw.to 0 rfl).cellV rfl)) <| pV rfl (fun a hs => y_lenL hs Tryd.underlying40 rfl) <| pV rfl (fun a hs => y_cmp hs rfl rfl rfl) <| pM rfl <| ?_); clear hs a; intro a hs
      rcases hs.know (d := 51) rfl with ⟨h51, hs1⟩ | ⟨h51, hs1⟩ <;> replace hs := hs1 <;> clear hs1
      · replace h51 := of_decide_eq_true h51
        refine go hs (pS rfl <| pS rfl <| pS rfl <| pS rfl <| pT rfl rfl <| ?_); clear hs a; intro a hs
        refine wpList_nil (then_normal ?_)
        refine wp_cond_true (hs.ev rfl) ?_
        refine wp_seq (wp_region_lit ?_)
        refine go hs (pA rfl <| ?_); clear hs a; intro a hs
        refine wpList_nil (then_normal (wp_ret (in_ret (then_ret ?_))))
        have hX : refS (q + 1) s left = -1 := refS_bad (.inr (by omega))
        refine fin_ret hs (.tmp (hs.slots _ _ rfl) .nil) ⟨?_, hs.mem.base⟩
        rw [hX]; rfl
      replace h51 := of_decide_eq_false h51
      refine go hs (pG rfl (fun a hs => y_faddr (k' := 4) 4 hs (by kernel_rfl) rfl rfl) <| pG rfl (fun a hs => y_load hs Tryd.underlying40 rfl rfl (fun w hw => (hw.to 0 rfl).cellV rfl)) <| pG rfl (fun a hs => y_lenL hs Tryd.underlying40 rfl) <| pG rfl (fun a hs => y_cmp hs rfl rfl rfl) <| pF rfl rfl <| ?_); clear hs a; intro a hs
      refine wpList_nil (then_normal ?_)
      refine wp_cond_split (hs.ev rfl) (fun h56 => ?_) (fun h56 => ?_)
      · replace h56 := of_decide_eq_true h56
        refine wp_seq (wp_region_lit ?_)
        refine go hs (pA rfl <| ?_); clear hs a; intro a hs
        refine wpList_nil (then_normal (wp_ret (in_ret (then_ret ?_))))
        have hX : refS (q + 1) s left = -1 := refS_bad (.inr (by omega))
        refine fin_ret hs (.tmp (hs.slots _ _ rfl) .nil) ⟨?_, hs.mem.base⟩
        rw [hX]; rfl
      replace h56 := of_decide_eq_false h56
      refine wp_skip (in_normal (then_normal ?_))
      refine ⟨0, 0, .inr (.inr (.inr (.inr (⟨by omega, rfl, rfl, by omega, by omega⟩)))), ?_⟩
      exact (hs.mem_to hs.mem).cut _ ⟨rfl, rfl, rfl, rfl, rfl, trivial⟩
    replace h45 := ne_of_beq_false h45
    refine wp_seq (wp_region_lit ?_)
    refine go hs (pA rfl <| ?_); clear hs a; intro a hs
    refine wpList_nil (then_normal (wp_ret (in_ret (then_ret ?_))))
    have hH : ¬ headS s := by
      clear hs
      rintro ⟨nm, a, p, r, h1, h2, h3, h4, h5, h6⟩
      rcases parts_cases h1 with ⟨rfl, rfl, rfl, rfl, hk1⟩ | ⟨rfl, rfl, rfl, rfl, hk1⟩ | ⟨rfl, rfl, rfl, rfl, hk1⟩ | ⟨rfl, rfl, rfl, rfl, hk1⟩ | ⟨rfl, rfl, rfl, rfl, hk1⟩
      all_goals first | omega | (have := h3 rfl; omega) | (have := h6 rfl; omega) | (have hz : ¬ s.f1.size = 0 := fun h0 => absurd h2 (by rw [nameOk_nil h0]; exact Bool.false_ne_true); omega) | (rw [h2] at h35; cases h35; done)
    have hX : refS (q + 1) s left = -1 := refS_bad (.inl hH)
    refine fin_ret hs (.tmp (hs.slots _ _ rfl) .nil) ⟨?_, hs.mem.base⟩
    rw [hX]; rfl
  clear hs
  obtain ⟨na, np, hk, hs⟩ := hJ
  have hk' := shape_kinds hk
  refine wp_seq (wp_seq ?_)
  refine wp_region_lit (go hs (pV rfl (fun a hs => y_faddr (k' := 2) 2 hs (by kernel_rfl) rfl rfl) <| pV rfl (fun a hs => y_load hs Tryd.underlying23 rfl rfl (fun w hw => (hw.to 0 rfl).cellV rfl)) <| pV rfl (fun a hs => y_lenL hs Tryd.underlying23 rfl) <| pM rfl <| pV rfl (fun a hs => y_cmp hs rfl rfl rfl) <| pM rfl <| ?_)); clear hs a; intro a hs
  rcases hs.know (d := 62) rfl with ⟨h62, hs1⟩ | ⟨h62, hs1⟩ <;> replace hs := hs1 <;> clear hs1
  · replace h62 := bne_iff_ne.1 h62
    refine go hs (pS rfl <| pS rfl <| pS rfl <| pS rfl <| pS rfl <| pT rfl rfl <| pM rfl <| pS rfl <| pS rfl <| pS rfl <| pS rfl <| pS rfl <| pS rfl <| pS rfl <| pS rfl <| pS rfl <| pT rfl rfl <| ?_); clear hs a; intro a hs
    refine wpList_nil (then_normal ?_)
    refine wp_cond_true (hs.ev rfl) ?_
    refine wp_seq (wp_region_lit ?_)
    refine go hs (pA rfl <| ?_); clear hs a; intro a hs
    refine wpList_nil (then_normal (wp_ret (then_ret ?_)))
    have hH : ¬ headS s := by
      clear hs
      rintro ⟨nm, a, p, r, h1, h2, h3, h4, h5, h6⟩
      rcases parts_cases h1 with ⟨rfl, rfl, rfl, rfl, hk1⟩ | ⟨rfl, rfl, rfl, rfl, hk1⟩ | ⟨rfl, rfl, rfl, rfl, hk1⟩ | ⟨rfl, rfl, rfl, rfl, hk1⟩ | ⟨rfl, rfl, rfl, rfl, hk1⟩
      all_goals first | omega | (have := h3 rfl; omega) | (have := h6 rfl; omega) | (have hz : ¬ s.f1.size = 0 := fun h0 => absurd h2 (by rw [nameOk_nil h0]; exact Bool.false_ne_true); omega) | (rw [h2] at h35; cases h35; done)
    have hX : refS (q + 1) s left = -1 := refS_bad (.inl hH)
    refine fin_ret hs (.tmp (hs.slots _ _ rfl) .nil) ⟨?_, hs.mem.base⟩
    rw [hX]; rfl
  replace h62 := bne_eq_false_iff_eq.1 h62
  refine go hs (pG rfl (fun a hs => y_faddr (k' := 3) 3 hs (by kernel_rfl) rfl rfl) <| pG rfl (fun a hs => y_load hs Tryd.underlying39 rfl rfl (fun w hw => (hw.to 0 rfl).cellV rfl)) <| pG rfl (fun a hs => y_lenL hs Tryd.underlying39 rfl) <| pG rfl (fun a hs => y_move hs rfl) <| pG rfl (fun a hs => y_cmp hs rfl rfl rfl) <| pF rfl rfl <| pM rfl <| ?_); clear hs a; intro a hs
  rcases hs.know (d := 69) rfl with ⟨h69, hs1⟩ | ⟨h69, hs1⟩ <;> replace hs := hs1 <;> clear hs1
  · replace h69 := bne_iff_ne.1 h69
    refine go hs (pS rfl <| pS rfl <| pS rfl <| pS rfl <| pS rfl <| pS rfl <| pS rfl <| pS rfl <| pS rfl <| pT rfl rfl <| ?_); clear hs a; intro a hs
    refine wpList_nil (then_normal ?_)
    refine wp_cond_true (hs.ev rfl) ?_
    refine wp_seq (wp_region_lit ?_)
    refine go hs (pA rfl <| ?_); clear hs a; intro a hs
    refine wpList_nil (then_normal (wp_ret (then_ret ?_)))
    have hH : ¬ headS s := by
      clear hs
      rintro ⟨nm, a, p, r, h1, h2, h3, h4, h5, h6⟩
      rcases parts_cases h1 with ⟨rfl, rfl, rfl, rfl, hk1⟩ | ⟨rfl, rfl, rfl, rfl, hk1⟩ | ⟨rfl, rfl, rfl, rfl, hk1⟩ | ⟨rfl, rfl, rfl, rfl, hk1⟩ | ⟨rfl, rfl, rfl, rfl, hk1⟩
      all_goals first | omega | (have := h3 rfl; omega) | (have := h6 rfl; omega) | (have hz : ¬ s.f1.size = 0 := fun h0 => absurd h2 (by rw [nameOk_nil h0]; exact Bool.false_ne_true); omega) | (rw [h2] at h35; cases h35; done)
    have hX : refS (q + 1) s left = -1 := refS_bad (.inl hH)
    refine fin_ret hs (.tmp (hs.slots _ _ rfl) .nil) ⟨?_, hs.mem.base⟩
    rw [hX]; rfl
  replace h69 := bne_eq_false_iff_eq.1 h69
  refine go hs (pG rfl (fun a hs => y_faddr (k' := 0) 0 hs (by kernel_rfl) rfl rfl) <| pG rfl (fun a hs => y_load hs Tryd.underlying38 rfl rfl (fun w hw => (hw.to 0 rfl).cellV rfl)) <| pG rfl (fun a hs => y_cmp hs rfl rfl rfl) <| pG rfl (fun a hs => y_move hs rfl) <| ?_); clear hs a; intro a hs
  rcases hs.know (d := 73) rfl with ⟨h73, hs1⟩ | ⟨h73, hs1⟩ <;> replace hs := hs1 <;> clear hs1
  · replace h73 := bne_iff_ne.1 h73
    refine go hs (pG rfl (fun a hs => y_faddr (k' := 4) 4 hs (by kernel_rfl) rfl rfl) <| pG rfl (fun a hs => y_load hs Tryd.underlying40 rfl rfl (fun w hw => (hw.to 0 rfl).cellV rfl)) <| pG rfl (fun a hs => y_lenL hs Tryd.underlying40 rfl) <| pG rfl (fun a hs => y_cmp hs rfl rfl rfl) <| pG rfl (fun a hs => y_pickT hs rfl rfl rfl) <| pF rfl rfl <| ?_); clear hs a; intro a hs
    refine wpList_nil (then_normal ?_)
    refine wp_cond_split (hs.ev rfl) (fun h79 => ?_) (fun h79 => ?_)
    · replace h79 := of_decide_eq_true h79
      refine wp_seq (wp_region_lit ?_)
      refine go hs (pA rfl <| ?_); clear hs a; intro a hs
      refine wpList_nil (then_normal (wp_ret (then_ret ?_)))
      have hH : ¬ headS s := by
        clear hs
        rintro ⟨nm, a, p, r, h1, h2, h3, h4, h5, h6⟩
        rcases parts_cases h1 with ⟨rfl, rfl, rfl, rfl, hk1⟩ | ⟨rfl, rfl, rfl, rfl, hk1⟩ | ⟨rfl, rfl, rfl, rfl, hk1⟩ | ⟨rfl, rfl, rfl, rfl, hk1⟩ | ⟨rfl, rfl, rfl, rfl, hk1⟩
        all_goals first | omega | (have := h3 rfl; omega) | (have := h6 rfl; omega) | (have hz : ¬ s.f1.size = 0 := fun h0 => absurd h2 (by rw [nameOk_nil h0]; exact Bool.false_ne_true); omega) | (rw [h2] at h35; cases h35; done)
      have hX : refS (q + 1) s left = -1 := refS_bad (.inl hH)
      refine fin_ret hs (.tmp (hs.slots _ _ rfl) .nil) ⟨?_, hs.mem.base⟩
      rw [hX]; rfl
    replace h79 := of_decide_eq_false h79
    refine wp_skip (then_normal (wp_seq ?_))
    have hH : headS s := by
      clear hs
      rcases hk with ⟨k1, k2, rfl, rfl⟩ | ⟨k1, rfl, rfl⟩ | ⟨k1, rfl, rfl⟩ | ⟨k1, rfl, rfl⟩ | ⟨k1, rfl, rfl, k2⟩
      · exact ⟨true, 0, 0, false, by unfold shapeParts; rw [if_pos k1], k2, fun h => (by cases h), by omega, by omega, fun _ => by omega⟩
      · exact ⟨false, 2, 0, false, by unfold shapeParts; rw [if_neg (by omega), if_pos k1], nameOk_nil (by omega), fun _ => by omega, by omega, by omega, fun _ => by omega⟩
      · exact ⟨false, 3, 0, false, by unfold shapeParts; rw [if_neg (by omega), if_neg (by omega), if_pos k1], nameOk_nil (by omega), fun _ => by omega, by omega, by omega, fun _ => by omega⟩
      · exact ⟨false, 0, 2, false, by unfold shapeParts; rw [if_neg (by omega), if_neg (by omega), if_neg (by omega), if_pos k1], nameOk_nil (by omega), fun _ => by omega, by omega, by omega, fun _ => by omega⟩
      exact ⟨false, 0, 0, true, by unfold shapeParts; rw [if_neg (by omega), if_neg (by omega), if_neg (by omega), if_neg (by omega), if_pos k1], nameOk_nil (by omega), fun _ => by omega, by omega, by omega, fun h => by cases h⟩
    have hA := shape_args (q := q) (left := left) (by omega) hH (by omega)
    have hfa := xlist_left s.f2 (left - 1) (fun p _ l h => stE_falls p l h) (by omega)
    have hra : -1 ≤ refL s.f2 (left - 1) ∧ refL s.f2 (left - 1) ≤ left - 1 := refB_bounds hfa
    refine wp_region_lit (go hs (pV rfl (fun a hs => y_faddr (k' := 2) 2 hs (by kernel_rfl) rfl rfl) <| pV rfl (fun a hs => y_load hs Tryd.underlying23 rfl rfl (fun w hw => (hw.to 0 rfl).cellV rfl)) <| pM rfl <| ?_)); clear hs a; intro a hs
    refine a_eff rfl (e_callB Tryd.func73 rfl rfl hs rfl rfl (ref_exprs A2 c2 s.f2 (left - 1) _ (ref_expr 16 (by decide)) (Kd.C_below hA2 hs.mem.base) hsm.2.1 (by omega)) ?_); clear hs a; intro a w hs
    refine go hs (pA rfl <| ?_); clear hs a; intro a hs
    refine wpList_nil (then_normal ?_)
    refine wp_seq_cut (fun a w1 => ∃ (lf : Int), (-1 ≤ lf ∧ lf ≤ 8192) ∧ (0 ≤ lf → (xshape (q + 1) s left) = xk (xshape q) s.f3 (fun l => (true, l)) lf) ∧ (lf < 0 → (xshape (q + 1) s left).1 = false ∧ lf = -1) ∧ St 139 v0 [(1, .int .i64 lf), (2, .int .i64 ((q + 1 : Nat) : Int)), (3, .pointer (some ⟨gx, 0, none⟩))] [pt gx #[.int .u8 s.f0, .string s.f1, .slice A2 s.f2.length c2, .slice A3 s.f3.length c3, .slice A4 s.f4.length c4, .int .i64 s.f5, .int .i64 s.f6] 42] a w1) ?_ (fun a w1 hJ => ?_)
    · refine wp_seq (wp_region_lit ?_)
      refine go hs (pA rfl <| ?_); clear hs a; intro a hs
      refine wpList_nil (then_normal (wp_block ?_))
      refine wp_loopN (fun m a w1 => ∃ (i : Nat) (lf : Int), (i + m = s.f4.length) ∧ (-1 ≤ lf ∧ lf ≤ 8192) ∧ (0 ≤ lf → (xshape (q + 1) s left) = xk stR (s.f4.drop i) (xk (xshape q) s.f3 (fun l => (true, l))) lf) ∧ (lf < 0 → (xshape (q + 1) s left).1 = false ∧ lf = -1) ∧ St 139 v0 [(1, .int .i64 lf), (2, .int .i64 ((q + 1 : Nat) : Int)), (3, .pointer (some ⟨gx, 0, none⟩)), (9, .int .i64 ((i : Nat) : Int))] [pt gx #[.int .u8 s.f0, .string s.f1, .slice A2 s.f2.length c2, .slice A3 s.f3.length c3, .slice A4 s.f4.length c4, .int .i64 s.f5, .int .i64 s.f6] 42] a w1) (s.f4.length) ⟨0, refL s.f2 (left - 1), by omega, by omega, xb_next hA, xb_stop hA hfa, ?_⟩ (fun m a w1 hJ => ?_)
      · exact (hs.mem_to hs.mem).cut _ ⟨rfl, rfl, rfl, rfl, trivial⟩
      clear hs
      obtain ⟨i, lf, hi, hlf, hinv1, hneg1, hs⟩ := hJ
      refine wp_seq (wp_seq ?_)
      refine wp_region_lit (go hs (pM rfl <| pV rfl (fun a hs => y_faddr (k' := 4) 4 hs (by kernel_rfl) rfl rfl) <| pV rfl (fun a hs => y_load hs Tryd.underlying40 rfl rfl (fun w hw => (hw.to 0 rfl).cellV rfl)) <| pV rfl (fun a hs => y_lenL hs Tryd.underlying40 rfl) <| pV rfl (fun a hs => y_cmp hs rfl rfl rfl) <| pM rfl <| ?_)); clear hs a; intro a hs
      rcases hs.know (d := 89) rfl with ⟨h89, hs1⟩ | ⟨h89, hs1⟩ <;> replace hs := hs1 <;> clear hs1
      · replace h89 := of_decide_eq_true h89
        refine go hs (pG rfl (fun a hs => y_move hs rfl) <| pG rfl (fun a hs => y_cmp hs rfl rfl rfl) <| pT rfl rfl <| ?_); clear hs a; intro a hs
        refine wpList_nil (then_normal ?_)
        refine wp_cond_split (hs.ev rfl) (fun h92 => ?_) (fun h92 => ?_)
        · replace h92 := of_decide_eq_true h92
          obtain ⟨r, hr⟩ : ∃ r, s.f4[i]? = some r := ⟨_, List.getElem?_eq_getElem (by omega)⟩
          obtain ⟨g0, o, rfl, hcell⟩ := C_atH (show 0 < 1 by decide) hA4 (by omega)
          obtain ⟨cs, hK, hlen, hc⟩ := hcell i r hr
          obtain ⟨A0, c0, rfl, hlc, hC⟩ := hK
          have hdrop : s.f4.drop i = r :: s.f4.drop (i + 1) := by
            rw [List.drop_eq_getElem_cons (by omega)]
            rw [List.getElem?_eq_getElem (by omega)] at hr
            injection hr with hr
            rw [hr]
          rw [hdrop] at hinv1
          refine wp_skip (then_normal (wp_seq ?_))
          refine wp_block (wp_seq ?_)
          refine wp_seq (wp_region_lit ?_)
          refine go hs (pV rfl (fun a hs => y_faddr (k' := 4) 4 hs (by kernel_rfl) rfl rfl) <| pV rfl (fun a hs => y_load hs Tryd.underlying40 rfl rfl (fun w hw => (hw.to 0 rfl).cellV rfl)) <| pM rfl <| pV rfl (fun a hs => y_idxB (size := 1) (off := o + i * 1) hs Tryd.underlying40 (by kernel_rfl) rfl rfl (by omega) (by omega) (by simp)) <| pV rfl (fun a hs => y_load (v := .slice A0 r.length c0) hs Tryd.underlying23 rfl rfl (fun w hw => hc w hw.base 0 _ rfl)) <| pV rfl (fun a hs => y_lenL hs Tryd.underlying23 rfl) <| pV rfl (fun a hs => y_cmp hs rfl rfl rfl) <| pM rfl <| ?_); clear hs a; intro a hs
          rcases hs.know (d := 102) rfl with ⟨h102, hs1⟩ | ⟨h102, hs1⟩ <;> replace hs := hs1 <;> clear hs1
          · replace h102 := of_decide_eq_true h102
            refine go hs (pS rfl <| pS rfl <| pS rfl <| pS rfl <| pS rfl <| pS rfl <| pS rfl <| pT rfl rfl <| ?_); clear hs a; intro a hs
            refine wpList_nil (then_normal ?_)
            refine wp_cond_true (hs.ev rfl) ?_
            refine wp_seq (wp_region_lit ?_)
            refine go hs (pA rfl <| ?_); clear hs a; intro a hs
            refine wpList_nil (then_normal (wp_ret (then_ret (in_ret (then_ret (then_ret (in_ret (then_ret ?_))))))))
            have hX : refS (q + 1) s left = -1 := by
              have h1 := (xk_stop (hinv1 (by omega)) (stR_falls r lf (by omega)) (by rw [show stR r lf = (false, lf) by unfold stR; rw [if_neg (by omega)]]; show (-1 : Int) < 0; decide)).1
              unfold refS refB; rw [h1]; rfl
            refine fin_ret hs (.tmp (hs.slots _ _ rfl) .nil) ⟨?_, hs.mem.base⟩
            rw [hX]; rfl
          replace h102 := of_decide_eq_false h102
          refine go hs (pG rfl (fun a hs => y_faddr (k' := 4) 4 hs (by kernel_rfl) rfl rfl) <| pG rfl (fun a hs => y_load hs Tryd.underlying40 rfl rfl (fun w hw => (hw.to 0 rfl).cellV rfl)) <| pG rfl (fun a hs => y_move hs rfl) <| pG rfl (fun a hs => y_idxB (size := 1) (off := o + i * 1) hs Tryd.underlying40 (by kernel_rfl) rfl rfl (by omega) (by omega) (by simp)) <| pG rfl (fun a hs => y_load (v := .slice A0 r.length c0) hs Tryd.underlying23 rfl rfl (fun w hw => hc w hw.base 0 _ rfl)) <| pG rfl (fun a hs => y_lenL hs Tryd.underlying23 rfl) <| pG rfl (fun a hs => y_cmp hs rfl rfl rfl) <| pF rfl rfl <| ?_); clear hs a; intro a hs
          refine wpList_nil (then_normal ?_)
          refine wp_cond_split (hs.ev rfl) (fun h110 => ?_) (fun h110 => ?_)
          · replace h110 := of_decide_eq_true h110
            refine wp_seq (wp_region_lit ?_)
            refine go hs (pA rfl <| ?_); clear hs a; intro a hs
            refine wpList_nil (then_normal (wp_ret (then_ret (in_ret (then_ret (then_ret (in_ret (then_ret ?_))))))))
            have hX : refS (q + 1) s left = -1 := by
              have h1 := (xk_stop (hinv1 (by omega)) (stR_falls r lf (by omega)) (by rw [show stR r lf = (false, lf) by unfold stR; rw [if_neg (by omega)]]; show (-1 : Int) < 0; decide)).1
              unfold refS refB; rw [h1]; rfl
            refine fin_ret hs (.tmp (hs.slots _ _ rfl) .nil) ⟨?_, hs.mem.base⟩
            rw [hX]; rfl
          replace h110 := of_decide_eq_false h110
          refine wp_skip (then_normal (wp_region_lit ?_))
          refine go hs (pV rfl (fun a hs => y_faddr (k' := 4) 4 hs (by kernel_rfl) rfl rfl) <| pV rfl (fun a hs => y_load hs Tryd.underlying40 rfl rfl (fun w hw => (hw.to 0 rfl).cellV rfl)) <| pM rfl <| pV rfl (fun a hs => y_idxB (size := 1) (off := o + i * 1) hs Tryd.underlying40 (by kernel_rfl) rfl rfl (by omega) (by omega) (by simp)) <| pV rfl (fun a hs => y_load (v := .slice A0 r.length c0) hs Tryd.underlying23 rfl rfl (fun w hw => hc w hw.base 0 _ rfl)) <| pM rfl <| ?_); clear hs a; intro a hs
          have hR : stR r lf = xlist stE r lf := by unfold stR; rw [if_pos (by omega)]
          have hfl := stR_falls r lf (by omega)
          have hrb : -1 ≤ refL r lf ∧ refL r lf ≤ lf := by rw [refL_B, ← hR]; exact refB_bounds hfl
          refine a_eff rfl (e_callB Tryd.func73 rfl rfl hs rfl rfl (ref_exprs A0 c0 r lf _ (ref_expr 16 (by decide)) (Kd.C_below hC hs.mem.base) (hsm.2.2.2 r (List.mem_of_getElem? hr)) (by omega)) ?_); clear hs a; intro a w hs
          refine go hs (pA rfl <| ?_); clear hs a; intro a hs
          refine wpList_nil (in_normal (then_normal (wp_region_lit ?_)))
          refine go hs (pM rfl <| pV rfl (fun a hs => y_add hs rfl rfl (by omega)) <| pA rfl <| ?_); clear hs a; intro a hs
          refine wpList_nil (then_normal ?_)
          refine ⟨m - 1, by omega, i + 1, refL r lf, by omega, by omega, by rw [refL_B, ← hR]; exact xk_next (hinv1 (by omega)), by rw [refL_B, ← hR]; exact xk_stop (hinv1 (by omega)) hfl, ?_⟩
          exact (hs.mem_to hs.mem).cut _ ⟨rfl, rfl, rfl, rfl, trivial⟩
        replace h92 := of_decide_eq_false h92
        refine wp_exit (then_exit (then_exit (in_here (then_normal ?_))))
        refine ⟨lf, hlf, fun h0 => by have h1 := hinv1 h0; rw [List.drop_eq_nil_of_le (by omega), xk_nil] at h1; exact h1, hneg1, ?_⟩
        exact (hs.mem_to hs.mem).cut _ ⟨rfl, rfl, rfl, trivial⟩
      replace h89 := of_decide_eq_false h89
      refine go hs (pS rfl <| pS rfl <| pF rfl rfl <| ?_); clear hs a; intro a hs
      refine wpList_nil (then_normal ?_)
      refine wp_cond_false (hs.ev rfl) ?_
      refine wp_exit (then_exit (then_exit (in_here (then_normal ?_))))
      refine ⟨lf, hlf, fun h0 => by have h1 := hinv1 h0; rw [List.drop_eq_nil_of_le (by omega), xk_nil] at h1; exact h1, hneg1, ?_⟩
      exact (hs.mem_to hs.mem).cut _ ⟨rfl, rfl, rfl, trivial⟩
    clear hs
    obtain ⟨lf, hlf, hinv0, hneg0, hs⟩ := hJ
    refine wp_seq (wp_seq ?_)
    refine wp_region_lit (go hs (pA rfl <| ?_)); clear hs a; intro a hs
    refine wpList_nil (then_normal (wp_block ?_))
    refine wp_loopN (fun m a w1 => ∃ (i : Nat) (lf : Int), (i + m = s.f3.length) ∧ (-1 ≤ lf ∧ lf ≤ 8192) ∧ (0 ≤ lf → (xshape (q + 1) s left) = xk (xshape q) (s.f3.drop i) (fun l => (true, l)) lf) ∧ (lf < 0 → (xshape (q + 1) s left).1 = false ∧ lf = -1) ∧ St 139 v0 [(1, .int .i64 lf), (2, .int .i64 ((q + 1 : Nat) : Int)), (3, .pointer (some ⟨gx, 0, none⟩)), (10, .int .i64 ((i : Nat) : Int))] [pt gx #[.int .u8 s.f0, .string s.f1, .slice A2 s.f2.length c2, .slice A3 s.f3.length c3, .slice A4 s.f4.length c4, .int .i64 s.f5, .int .i64 s.f6] 42] a w1) (s.f3.length) ⟨0, lf, by omega, hlf, hinv0, hneg0, ?_⟩ (fun m a w1 hJ => ?_)
    · exact (hs.mem_to hs.mem).cut _ ⟨rfl, rfl, rfl, rfl, trivial⟩
    clear hs
    obtain ⟨i, lf, hi, hlf, hinv, hneg, hs⟩ := hJ
    refine wp_seq (wp_seq ?_)
    refine wp_region_lit (go hs (pM rfl <| pV rfl (fun a hs => y_faddr (k' := 3) 3 hs (by kernel_rfl) rfl rfl) <| pV rfl (fun a hs => y_load hs Tryd.underlying39 rfl rfl (fun w hw => (hw.to 0 rfl).cellV rfl)) <| pV rfl (fun a hs => y_lenL hs Tryd.underlying39 rfl) <| pV rfl (fun a hs => y_cmp hs rfl rfl rfl) <| pM rfl <| ?_)); clear hs a; intro a hs
    rcases hs.know (d := 123) rfl with ⟨h123, hs1⟩ | ⟨h123, hs1⟩ <;> replace hs := hs1 <;> clear hs1
    · replace h123 := of_decide_eq_true h123
      refine go hs (pG rfl (fun a hs => y_move hs rfl) <| pG rfl (fun a hs => y_cmp hs rfl rfl rfl) <| pT rfl rfl <| ?_); clear hs a; intro a hs
      refine wpList_nil (then_normal ?_)
      refine wp_cond_split (hs.ev rfl) (fun h126 => ?_) (fun h126 => ?_)
      · replace h126 := of_decide_eq_true h126
        obtain ⟨y, hy⟩ : ∃ y, s.f3[i]? = some y := ⟨_, List.getElem?_eq_getElem (by omega)⟩
        obtain ⟨g0, o, rfl, hcell⟩ := C_atG (show 0 < 7 by decide) hA3 (by omega)
        obtain ⟨cs, hK, hc⟩ := hcell i y hy
        obtain ⟨B2, d2, B3, d3, B4, d4, rfl, e2, g2, e3, g3, e4, g4⟩ := k42_open hK
        have hdrop : s.f3.drop i = y :: s.f3.drop (i + 1) := by
          rw [List.drop_eq_getElem_cons (by omega)]
          rw [List.getElem?_eq_getElem (by omega)] at hy
          injection hy with hy
          rw [hy]
        rw [hdrop] at hinv
        refine wp_skip (then_normal (wp_seq ?_))
        refine wp_block (wp_region_lit ?_)
        refine go hs (pV rfl (fun a hs => y_faddr (k' := 3) 3 hs (by kernel_rfl) rfl rfl) <| pV rfl (fun a hs => y_load hs Tryd.underlying39 rfl rfl (fun w hw => (hw.to 0 rfl).cellV rfl)) <| pM rfl <| pV rfl (fun a hs => y_idxB (size := 7) (off := o + i * 7) hs Tryd.underlying39 (by kernel_rfl) rfl rfl (by omega) (by omega) (by simp)) <| pV rfl (fun a hs => y_loadAgg (vs := [.int .u8 y.f0, .string y.f1, .slice B2 y.f2.length d2, .slice B3 y.f3.length d3, .slice B4 y.f4.length d4, .int .i64 y.f5, .int .i64 y.f6]) hs Tryd.underlying42 rfl (by kernel_rfl) rfl (fun w hw k v hk => hc w hw.base k v hk)) <| pM rfl <| pM rfl <| pV rfl (fun a hs => y_sub hs rfl rfl (by omega)) <| ?_); clear hs a; intro a hs
        replace hs := hs.say 136 rfl (congrArg (Value.int IntKind.i64) (show (((q + 1 : Nat) : Int) - 1) = ((q : Nat) : Int) by omega))
        have hfl := xshape_falls q y lf (by omega)
        have hrb : -1 ≤ refS q y lf ∧ refS q y lf ≤ lf := refB_bounds hfl
        refine a_eff rfl (e_callB Tryd.func46 rfl rfl hs rfl rfl (ih q rfl y B2 B3 B4 d2 d3 d4 lf _ (Kd.C_below g2 hs.mem.base) (Kd.C_below g3 hs.mem.base) (Kd.C_below g4 hs.mem.base) (hsm.2.2.1 y (List.mem_of_getElem? hy)) (by omega)) ?_); clear hs a; intro a w hs
        refine go hs (pA rfl <| ?_); clear hs a; intro a hs
        refine wpList_nil (in_normal (then_normal (wp_region_lit ?_)))
        refine go hs (pM rfl <| pV rfl (fun a hs => y_add hs rfl rfl (by omega)) <| pA rfl <| ?_); clear hs a; intro a hs
        refine wpList_nil (then_normal ?_)
        refine ⟨m - 1, by omega, i + 1, refS q y lf, by omega, by omega, xk_next (hinv (by omega)), xk_stop (hinv (by omega)) hfl, ?_⟩
        exact (hs.mem_to hs.mem).cut _ ⟨rfl, rfl, rfl, rfl, trivial⟩
      replace h126 := of_decide_eq_false h126
      refine wp_exit (then_exit (then_exit (in_here (then_normal (wp_seq ?_)))))
      refine wp_region_lit (go hs (pM rfl <| pA rfl <| ?_)); clear hs a; intro a hs
      refine wpList_nil (then_normal (wp_ret ?_))
      have hX : refS (q + 1) s left = lf := by
        by_cases h0 : 0 ≤ lf
        · have h1 := hinv h0
          rw [List.drop_eq_nil_of_le (by omega), xk_nil] at h1
          unfold refS; rw [h1]; rfl
        obtain ⟨h1, h2⟩ := hneg (by omega)
        unfold refS refB; rw [h1, h2]; rfl
      refine fin_ret hs (.tmp (hs.slots _ _ rfl) .nil) ⟨?_, hs.mem.base⟩
      rw [hX]; rfl
    replace h123 := of_decide_eq_false h123
    refine go hs (pS rfl <| pS rfl <| pF rfl rfl <| ?_); clear hs a; intro a hs
    refine wpList_nil (then_normal ?_)
    refine wp_cond_false (hs.ev rfl) ?_
    refine wp_exit (then_exit (then_exit (in_here (then_normal (wp_seq ?_)))))
    refine wp_region_lit (go hs (pM rfl <| pA rfl <| ?_)); clear hs a; intro a hs
    refine wpList_nil (then_normal (wp_ret ?_))
    have hX : refS (q + 1) s left = lf := by
      by_cases h0 : 0 ≤ lf
      · have h1 := hinv h0
        rw [List.drop_eq_nil_of_le (by omega), xk_nil] at h1
        unfold refS; rw [h1]; rfl
      obtain ⟨h1, h2⟩ := hneg (by omega)
      unfold refS refB; rw [h1, h2]; rfl
    refine fin_ret hs (.tmp (hs.slots _ _ rfl) .nil) ⟨?_, hs.mem.base⟩
    rw [hX]; rfl
  replace h73 := bne_eq_false_iff_eq.1 h73
  refine go hs (pS rfl <| pS rfl <| pS rfl <| pS rfl <| pG rfl (fun a hs => y_pickF hs rfl rfl rfl) <| pF rfl rfl <| ?_); clear hs a; intro a hs
  refine wpList_nil (then_normal ?_)
  refine wp_cond_false (hs.ev rfl) ?_
  refine wp_skip (then_normal (wp_seq ?_))
  have hH : headS s := by
    clear hs
    rcases hk with ⟨k1, k2, rfl, rfl⟩ | ⟨k1, rfl, rfl⟩ | ⟨k1, rfl, rfl⟩ | ⟨k1, rfl, rfl⟩ | ⟨k1, rfl, rfl, k2⟩
    · exact ⟨true, 0, 0, false, by unfold shapeParts; rw [if_pos k1], k2, fun h => (by cases h), by omega, by omega, fun _ => by omega⟩
    · exact ⟨false, 2, 0, false, by unfold shapeParts; rw [if_neg (by omega), if_pos k1], nameOk_nil (by omega), fun _ => by omega, by omega, by omega, fun _ => by omega⟩
    · exact ⟨false, 3, 0, false, by unfold shapeParts; rw [if_neg (by omega), if_neg (by omega), if_pos k1], nameOk_nil (by omega), fun _ => by omega, by omega, by omega, fun _ => by omega⟩
    · exact ⟨false, 0, 2, false, by unfold shapeParts; rw [if_neg (by omega), if_neg (by omega), if_neg (by omega), if_pos k1], nameOk_nil (by omega), fun _ => by omega, by omega, by omega, fun _ => by omega⟩
    exact ⟨false, 0, 0, true, by unfold shapeParts; rw [if_neg (by omega), if_neg (by omega), if_neg (by omega), if_neg (by omega), if_pos k1], nameOk_nil (by omega), fun _ => by omega, by omega, by omega, fun h => by cases h⟩
  have hA := shape_args (q := q) (left := left) (by omega) hH (by omega)
  have hfa := xlist_left s.f2 (left - 1) (fun p _ l h => stE_falls p l h) (by omega)
  have hra : -1 ≤ refL s.f2 (left - 1) ∧ refL s.f2 (left - 1) ≤ left - 1 := refB_bounds hfa
  refine wp_region_lit (go hs (pV rfl (fun a hs => y_faddr (k' := 2) 2 hs (by kernel_rfl) rfl rfl) <| pV rfl (fun a hs => y_load hs Tryd.underlying23 rfl rfl (fun w hw => (hw.to 0 rfl).cellV rfl)) <| pM rfl <| ?_)); clear hs a; intro a hs
  refine a_eff rfl (e_callB Tryd.func73 rfl rfl hs rfl rfl (ref_exprs A2 c2 s.f2 (left - 1) _ (ref_expr 16 (by decide)) (Kd.C_below hA2 hs.mem.base) hsm.2.1 (by omega)) ?_); clear hs a; intro a w hs
  refine go hs (pA rfl <| ?_); clear hs a; intro a hs
  refine wpList_nil (then_normal ?_)
  refine wp_seq_cut (fun a w1 => ∃ (lf : Int), (-1 ≤ lf ∧ lf ≤ 8192) ∧ (0 ≤ lf → (xshape (q + 1) s left) = xk (xshape q) s.f3 (fun l => (true, l)) lf) ∧ (lf < 0 → (xshape (q + 1) s left).1 = false ∧ lf = -1) ∧ St 139 v0 [(1, .int .i64 lf), (2, .int .i64 ((q + 1 : Nat) : Int)), (3, .pointer (some ⟨gx, 0, none⟩))] [pt gx #[.int .u8 s.f0, .string s.f1, .slice A2 s.f2.length c2, .slice A3 s.f3.length c3, .slice A4 s.f4.length c4, .int .i64 s.f5, .int .i64 s.f6] 42] a w1) ?_ (fun a w1 hJ => ?_)
  · refine wp_seq (wp_region_lit ?_)
    refine go hs (pA rfl <| ?_); clear hs a; intro a hs
    refine wpList_nil (then_normal (wp_block ?_))
    refine wp_loopN (fun m a w1 => ∃ (i : Nat) (lf : Int), (i + m = s.f4.length) ∧ (-1 ≤ lf ∧ lf ≤ 8192) ∧ (0 ≤ lf → (xshape (q + 1) s left) = xk stR (s.f4.drop i) (xk (xshape q) s.f3 (fun l => (true, l))) lf) ∧ (lf < 0 → (xshape (q + 1) s left).1 = false ∧ lf = -1) ∧ St 139 v0 [(1, .int .i64 lf), (2, .int .i64 ((q + 1 : Nat) : Int)), (3, .pointer (some ⟨gx, 0, none⟩)), (9, .int .i64 ((i : Nat) : Int))] [pt gx #[.int .u8 s.f0, .string s.f1, .slice A2 s.f2.length c2, .slice A3 s.f3.length c3, .slice A4 s.f4.length c4, .int .i64 s.f5, .int .i64 s.f6] 42] a w1) (s.f4.length) ⟨0, refL s.f2 (left - 1), by omega, by omega, xb_next hA, xb_stop hA hfa, ?_⟩ (fun m a w1 hJ => ?_)
    · exact (hs.mem_to hs.mem).cut _ ⟨rfl, rfl, rfl, rfl, trivial⟩
    clear hs
    obtain ⟨i, lf, hi, hlf, hinv1, hneg1, hs⟩ := hJ
    refine wp_seq (wp_seq ?_)
    refine wp_region_lit (go hs (pM rfl <| pV rfl (fun a hs => y_faddr (k' := 4) 4 hs (by kernel_rfl) rfl rfl) <| pV rfl (fun a hs => y_load hs Tryd.underlying40 rfl rfl (fun w hw => (hw.to 0 rfl).cellV rfl)) <| pV rfl (fun a hs => y_lenL hs Tryd.underlying40 rfl) <| pV rfl (fun a hs => y_cmp hs rfl rfl rfl) <| pM rfl <| ?_)); clear hs a; intro a hs
    rcases hs.know (d := 89) rfl with ⟨h89, hs1⟩ | ⟨h89, hs1⟩ <;> replace hs := hs1 <;> clear hs1
    · replace h89 := of_decide_eq_true h89
      refine go hs (pG rfl (fun a hs => y_move hs rfl) <| pG rfl (fun a hs => y_cmp hs rfl rfl rfl) <| pT rfl rfl <| ?_); clear hs a; intro a hs
      refine wpList_nil (then_normal ?_)
      refine wp_cond_split (hs.ev rfl) (fun h92 => ?_) (fun h92 => ?_)
      · replace h92 := of_decide_eq_true h92
        obtain ⟨r, hr⟩ : ∃ r, s.f4[i]? = some r := ⟨_, List.getElem?_eq_getElem (by omega)⟩
        obtain ⟨g0, o, rfl, hcell⟩ := C_atH (show 0 < 1 by decide) hA4 (by omega)
        obtain ⟨cs, hK, hlen, hc⟩ := hcell i r hr
        obtain ⟨A0, c0, rfl, hlc, hC⟩ := hK
        have hdrop : s.f4.drop i = r :: s.f4.drop (i + 1) := by
          rw [List.drop_eq_getElem_cons (by omega)]
          rw [List.getElem?_eq_getElem (by omega)] at hr
          injection hr with hr
          rw [hr]
        rw [hdrop] at hinv1
        refine wp_skip (then_normal (wp_seq ?_))
        refine wp_block (wp_seq ?_)
        refine wp_seq (wp_region_lit ?_)
        refine go hs (pV rfl (fun a hs => y_faddr (k' := 4) 4 hs (by kernel_rfl) rfl rfl) <| pV rfl (fun a hs => y_load hs Tryd.underlying40 rfl rfl (fun w hw => (hw.to 0 rfl).cellV rfl)) <| pM rfl <| pV rfl (fun a hs => y_idxB (size := 1) (off := o + i * 1) hs Tryd.underlying40 (by kernel_rfl) rfl rfl (by omega) (by omega) (by simp)) <| pV rfl (fun a hs => y_load (v := .slice A0 r.length c0) hs Tryd.underlying23 rfl rfl (fun w hw => hc w hw.base 0 _ rfl)) <| pV rfl (fun a hs => y_lenL hs Tryd.underlying23 rfl) <| pV rfl (fun a hs => y_cmp hs rfl rfl rfl) <| pM rfl <| ?_); clear hs a; intro a hs
        rcases hs.know (d := 102) rfl with ⟨h102, hs1⟩ | ⟨h102, hs1⟩ <;> replace hs := hs1 <;> clear hs1
        · replace h102 := of_decide_eq_true h102
          refine go hs (pS rfl <| pS rfl <| pS rfl <| pS rfl <| pS rfl <| pS rfl <| pS rfl <| pT rfl rfl <| ?_); clear hs a; intro a hs
          refine wpList_nil (then_normal ?_)
          refine wp_cond_true (hs.ev rfl) ?_
          refine wp_seq (wp_region_lit ?_)
          refine go hs (pA rfl <| ?_); clear hs a; intro a hs
          refine wpList_nil (then_normal (wp_ret (then_ret (in_ret (then_ret (then_ret (in_ret (then_ret ?_))))))))
          have hX : refS (q + 1) s left = -1 := by
            have h1 := (xk_stop (hinv1 (by omega)) (stR_falls r lf (by omega)) (by rw [show stR r lf = (false, lf) by unfold stR; rw [if_neg (by omega)]]; show (-1 : Int) < 0; decide)).1
            unfold refS refB; rw [h1]; rfl
          refine fin_ret hs (.tmp (hs.slots _ _ rfl) .nil) ⟨?_, hs.mem.base⟩
          rw [hX]; rfl
        replace h102 := of_decide_eq_false h102
        refine go hs (pG rfl (fun a hs => y_faddr (k' := 4) 4 hs (by kernel_rfl) rfl rfl) <| pG rfl (fun a hs => y_load hs Tryd.underlying40 rfl rfl (fun w hw => (hw.to 0 rfl).cellV rfl)) <| pG rfl (fun a hs => y_move hs rfl) <| pG rfl (fun a hs => y_idxB (size := 1) (off := o + i * 1) hs Tryd.underlying40 (by kernel_rfl) rfl rfl (by omega) (by omega) (by simp)) <| pG rfl (fun a hs => y_load (v := .slice A0 r.length c0) hs Tryd.underlying23 rfl rfl (fun w hw => hc w hw.base 0 _ rfl)) <| pG rfl (fun a hs => y_lenL hs Tryd.underlying23 rfl) <| pG rfl (fun a hs => y_cmp hs rfl rfl rfl) <| pF rfl rfl <| ?_); clear hs a; intro a hs
        refine wpList_nil (then_normal ?_)
        refine wp_cond_split (hs.ev rfl) (fun h110 => ?_) (fun h110 => ?_)
        · replace h110 := of_decide_eq_true h110
          refine wp_seq (wp_region_lit ?_)
          refine go hs (pA rfl <| ?_); clear hs a; intro a hs
          refine wpList_nil (then_normal (wp_ret (then_ret (in_ret (then_ret (then_ret (in_ret (then_ret ?_))))))))
          have hX : refS (q + 1) s left = -1 := by
            have h1 := (xk_stop (hinv1 (by omega)) (stR_falls r lf (by omega)) (by rw [show stR r lf = (false, lf) by unfold stR; rw [if_neg (by omega)]]; show (-1 : Int) < 0; decide)).1
            unfold refS refB; rw [h1]; rfl
          refine fin_ret hs (.tmp (hs.slots _ _ rfl) .nil) ⟨?_, hs.mem.base⟩
          rw [hX]; rfl
        replace h110 := of_decide_eq_false h110
        refine wp_skip (then_normal (wp_region_lit ?_))
        refine go hs (pV rfl (fun a hs => y_faddr (k' := 4) 4 hs (by kernel_rfl) rfl rfl) <| pV rfl (fun a hs => y_load hs Tryd.underlying40 rfl rfl (fun w hw => (hw.to 0 rfl).cellV rfl)) <| pM rfl <| pV rfl (fun a hs => y_idxB (size := 1) (off := o + i * 1) hs Tryd.underlying40 (by kernel_rfl) rfl rfl (by omega) (by omega) (by simp)) <| pV rfl (fun a hs => y_load (v := .slice A0 r.length c0) hs Tryd.underlying23 rfl rfl (fun w hw => hc w hw.base 0 _ rfl)) <| pM rfl <| ?_); clear hs a; intro a hs
        have hR : stR r lf = xlist stE r lf := by unfold stR; rw [if_pos (by omega)]
        have hfl := stR_falls r lf (by omega)
        have hrb : -1 ≤ refL r lf ∧ refL r lf ≤ lf := by rw [refL_B, ← hR]; exact refB_bounds hfl
        refine a_eff rfl (e_callB Tryd.func73 rfl rfl hs rfl rfl (ref_exprs A0 c0 r lf _ (ref_expr 16 (by decide)) (Kd.C_below hC hs.mem.base) (hsm.2.2.2 r (List.mem_of_getElem? hr)) (by omega)) ?_); clear hs a; intro a w hs
        refine go hs (pA rfl <| ?_); clear hs a; intro a hs
        refine wpList_nil (in_normal (then_normal (wp_region_lit ?_)))
        refine go hs (pM rfl <| pV rfl (fun a hs => y_add hs rfl rfl (by omega)) <| pA rfl <| ?_); clear hs a; intro a hs
        refine wpList_nil (then_normal ?_)
        refine ⟨m - 1, by omega, i + 1, refL r lf, by omega, by omega, by rw [refL_B, ← hR]; exact xk_next (hinv1 (by omega)), by rw [refL_B, ← hR]; exact xk_stop (hinv1 (by omega)) hfl, ?_⟩
        exact (hs.mem_to hs.mem).cut _ ⟨rfl, rfl, rfl, rfl, trivial⟩
      replace h92 := of_decide_eq_false h92
      refine wp_exit (then_exit (then_exit (in_here (then_normal ?_))))
      refine ⟨lf, hlf, fun h0 => by have h1 := hinv1 h0; rw [List.drop_eq_nil_of_le (by omega), xk_nil] at h1; exact h1, hneg1, ?_⟩
      exact (hs.mem_to hs.mem).cut _ ⟨rfl, rfl, rfl, trivial⟩
    replace h89 := of_decide_eq_false h89
    refine go hs (pS rfl <| pS rfl <| pF rfl rfl <| ?_); clear hs a; intro a hs
    refine wpList_nil (then_normal ?_)
    refine wp_cond_false (hs.ev rfl) ?_
    refine wp_exit (then_exit (then_exit (in_here (then_normal ?_))))
    refine ⟨lf, hlf, fun h0 => by have h1 := hinv1 h0; rw [List.drop_eq_nil_of_le (by omega), xk_nil] at h1; exact h1, hneg1, ?_⟩
    exact (hs.mem_to hs.mem).cut _ ⟨rfl, rfl, rfl, trivial⟩
  clear hs
  obtain ⟨lf, hlf, hinv0, hneg0, hs⟩ := hJ
  refine wp_seq (wp_seq ?_)
  refine wp_region_lit (go hs (pA rfl <| ?_)); clear hs a; intro a hs
  refine wpList_nil (then_normal (wp_block ?_))
  refine wp_loopN (fun m a w1 => ∃ (i : Nat) (lf : Int), (i + m = s.f3.length) ∧ (-1 ≤ lf ∧ lf ≤ 8192) ∧ (0 ≤ lf → (xshape (q + 1) s left) = xk (xshape q) (s.f3.drop i) (fun l => (true, l)) lf) ∧ (lf < 0 → (xshape (q + 1) s left).1 = false ∧ lf = -1) ∧ St 139 v0 [(1, .int .i64 lf), (2, .int .i64 ((q + 1 : Nat) : Int)), (3, .pointer (some ⟨gx, 0, none⟩)), (10, .int .i64 ((i : Nat) : Int))] [pt gx #[.int .u8 s.f0, .string s.f1, .slice A2 s.f2.length c2, .slice A3 s.f3.length c3, .slice A4 s.f4.length c4, .int .i64 s.f5, .int .i64 s.f6] 42] a w1) (s.f3.length) ⟨0, lf, by omega, hlf, hinv0, hneg0, ?_⟩ (fun m a w1 hJ => ?_)
  · exact (hs.mem_to hs.mem).cut _ ⟨rfl, rfl, rfl, rfl, trivial⟩
  clear hs
  obtain ⟨i, lf, hi, hlf, hinv, hneg, hs⟩ := hJ
  refine wp_seq (wp_seq ?_)
  refine wp_region_lit (go hs (pM rfl <| pV rfl (fun a hs => y_faddr (k' := 3) 3 hs (by kernel_rfl) rfl rfl) <| pV rfl (fun a hs => y_load hs Tryd.underlying39 rfl rfl (fun w hw => (hw.to 0 rfl).cellV rfl)) <| pV rfl (fun a hs => y_lenL hs Tryd.underlying39 rfl) <| pV rfl (fun a hs => y_cmp hs rfl rfl rfl) <| pM rfl <| ?_)); clear hs a; intro a hs
  rcases hs.know (d := 123) rfl with ⟨h123, hs1⟩ | ⟨h123, hs1⟩ <;> replace hs := hs1 <;> clear hs1
  · replace h123 := of_decide_eq_true h123
    refine go hs (pG rfl (fun a hs => y_move hs rfl) <| pG rfl (fun a hs => y_cmp hs rfl rfl rfl) <| pT rfl rfl <| ?_); clear hs a; intro a hs
    refine wpList_nil (then_normal ?_)
    refine wp_cond_split (hs.ev rfl) (fun h126 => ?_) (fun h126 => ?_)
    · replace h126 := of_decide_eq_true h126
      obtain ⟨y, hy⟩ : ∃ y, s.f3[i]? = some y := ⟨_, List.getElem?_eq_getElem (by omega)⟩
      obtain ⟨g0, o, rfl, hcell⟩ := C_atG (show 0 < 7 by decide) hA3 (by omega)
      obtain ⟨cs, hK, hc⟩ := hcell i y hy
      obtain ⟨B2, d2, B3, d3, B4, d4, rfl, e2, g2, e3, g3, e4, g4⟩ := k42_open hK
      have hdrop : s.f3.drop i = y :: s.f3.drop (i + 1) := by
        rw [List.drop_eq_getElem_cons (by omega)]
        rw [List.getElem?_eq_getElem (by omega)] at hy
        injection hy with hy
        rw [hy]
      rw [hdrop] at hinv
      refine wp_skip (then_normal (wp_seq ?_))
      refine wp_block (wp_region_lit ?_)
      refine go hs (pV rfl (fun a hs => y_faddr (k' := 3) 3 hs (by kernel_rfl) rfl rfl) <| pV rfl (fun a hs => y_load hs Tryd.underlying39 rfl rfl (fun w hw => (hw.to 0 rfl).cellV rfl)) <| pM rfl <| pV rfl (fun a hs => y_idxB (size := 7) (off := o + i * 7) hs Tryd.underlying39 (by kernel_rfl) rfl rfl (by omega) (by omega) (by simp)) <| pV rfl (fun a hs => y_loadAgg (vs := [.int .u8 y.f0, .string y.f1, .slice B2 y.f2.length d2, .slice B3 y.f3.length d3, .slice B4 y.f4.length d4, .int .i64 y.f5, .int .i64 y.f6]) hs Tryd.underlying42 rfl (by kernel_rfl) rfl (fun w hw k v hk => hc w hw.base k v hk)) <| pM rfl <| pM rfl <| pV rfl (fun a hs => y_sub hs rfl rfl (by omega)) <| ?_); clear hs a; intro a hs
      replace hs := hs.say 136 rfl (congrArg (Value.int IntKind.i64) (show (((q + 1 : Nat) : Int) - 1) = ((q : Nat) : Int) by omega))
      have hfl := xshape_falls q y lf (by omega)
      have hrb : -1 ≤ refS q y lf ∧ refS q y lf ≤ lf := refB_bounds hfl
      refine a_eff rfl (e_callB Tryd.func46 rfl rfl hs rfl rfl (ih q rfl y B2 B3 B4 d2 d3 d4 lf _ (Kd.C_below g2 hs.mem.base) (Kd.C_below g3 hs.mem.base) (Kd.C_below g4 hs.mem.base) (hsm.2.2.1 y (List.mem_of_getElem? hy)) (by omega)) ?_); clear hs a; intro a w hs
      refine go hs (pA rfl <| ?_); clear hs a; intro a hs
      refine wpList_nil (in_normal (then_normal (wp_region_lit ?_)))
      refine go hs (pM rfl <| pV rfl (fun a hs => y_add hs rfl rfl (by omega)) <| pA rfl <| ?_); clear hs a; intro a hs
      refine wpList_nil (then_normal ?_)
      refine ⟨m - 1, by omega, i + 1, refS q y lf, by omega, by omega, xk_next (hinv (by omega)), xk_stop (hinv (by omega)) hfl, ?_⟩
      exact (hs.mem_to hs.mem).cut _ ⟨rfl, rfl, rfl, rfl, trivial⟩
    replace h126 := of_decide_eq_false h126
    refine wp_exit (then_exit (then_exit (in_here (then_normal (wp_seq ?_)))))
    refine wp_region_lit (go hs (pM rfl <| pA rfl <| ?_)); clear hs a; intro a hs
    refine wpList_nil (then_normal (wp_ret ?_))
    have hX : refS (q + 1) s left = lf := by
      by_cases h0 : 0 ≤ lf
      · have h1 := hinv h0
        rw [List.drop_eq_nil_of_le (by omega), xk_nil] at h1
        unfold refS; rw [h1]; rfl
      obtain ⟨h1, h2⟩ := hneg (by omega)
      unfold refS refB; rw [h1, h2]; rfl
    refine fin_ret hs (.tmp (hs.slots _ _ rfl) .nil) ⟨?_, hs.mem.base⟩
    rw [hX]; rfl
  replace h123 := of_decide_eq_false h123
  refine go hs (pS rfl <| pS rfl <| pF rfl rfl <| ?_); clear hs a; intro a hs
  refine wpList_nil (then_normal ?_)
  refine wp_cond_false (hs.ev rfl) ?_
  refine wp_exit (then_exit (then_exit (in_here (then_normal (wp_seq ?_)))))
  refine wp_region_lit (go hs (pM rfl <| pA rfl <| ?_)); clear hs a; intro a hs
  refine wpList_nil (then_normal (wp_ret ?_))
  have hX : refS (q + 1) s left = lf := by
    by_cases h0 : 0 ≤ lf
    · have h1 := hinv h0
      rw [List.drop_eq_nil_of_le (by omega), xk_nil] at h1
      unfold refS; rw [h1]; rfl
    obtain ⟨h1, h2⟩ := hneg (by omega)
    unfold refS refB; rw [h1, h2]; rfl
  refine fin_ret hs (.tmp (hs.slots _ _ rfl) .nil) ⟨?_, hs.mem.base⟩
  rw [hX]; rfl
theorem ref_shape : ∀ n : Nat, n ≤ 1000 → RefSOk n := fun n => by
  induction n using Nat.strongRecOn with
  | _ n ih => exact fun hn s A2 A3 A4 c2 c3 c4 left v0 hA2 hA3 hA4 hsm hl => ref_shape_step n hn (fun q hq => ih q (by omega) (by omega)) s A2 A3 A4 c2 c3 c4 left v0 hA2 hA3 hA4 hsm hl
end Go.Proofs.YtibaidddhmdafaaDoor.E
end
