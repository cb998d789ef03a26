/- What YtibaidddhmdafaaDoorRTreeSames's proof reaches of its texts, part 18. Conditions: as each says. -/
import Derived.ArgAppend
import Derived.Below
import Derived.BigCall
import Derived.BigQuiet
import Derived.Deep.AppendLies
import Derived.Deep.CutBlock
import Derived.Deep.DeepCutAuto
import Derived.Deep.Draws
import Derived.Deep.LoopGhost
import Derived.Deep.OwnRows
import Derived.Deep.QuietTactic
import Derived.Deep.RegionHeld3
import Derived.Deep.WholeRow
import Derived.KernelRfl
import Derived.Laws.AppendOwn
import Derived.Laws.BitsLemmas
import Derived.Laws.BytesArg
import Derived.Laws.CopyRow
import Derived.Laws.Externs
import Derived.Laws.IdiomCopy
import Derived.Laws.MakeOwn
import Derived.Laws.OwnMore
import Derived.Laws.Rows
import Derived.Laws.Slices
import Derived.Laws.StructEq
import Derived.Laws.Tables
import Derived.Lib.AppendStr
import Derived.Lib.Builder
import Derived.Lib.Bytealg
import Derived.Lib.ConvBytes
import Derived.Lib.ItoaLen
import Derived.Lib.ItoaMem
import Derived.Lib.LaidTab
import Derived.Lib.Strings
import Derived.Lib.Walk
import Derived.Maps.AppendAt
import Derived.OrdersHeld
import Derived.OwnWalk
import Derived.RowKit
import Derived.RowKit3
import Derived.ScopeJumps
import Derived.Shelf.LaysM
import Derived.Shelf.Strconv.Itoa3
import Derived.Shelf.Strings.Builder1
import Derived.Sort.Grow
import Derived.Tactics
import Derived.Test.YtibaidddhmdafaaDoorProg
import Derived.WalkKit
import Derived.WideLaws
import Derived.Test.YtibaidddhmdafaaDoorZTreeSames17
section
namespace Go.Proofs.YtibaidddhmdafaaDoor.E
open Go Go.RowKit Go.Proofs.YtibaidddhmdafaaDoorW.PrintWords Go.Proofs.YtibaidddhmdafaaDoorW.PrintLast Go.Proofs.YtibaidddhmdafaaDoorW.PrintMore Go.Proofs.YtibaidddhmdafaaDoor.PA
set_option linter.unusedVariables false
set_option linter.unusedSimpArgs false
set_option maxRecDepth 100000 in
theorem equal_E (fid : Nat) (fn : Func) (caps : List Value) (eq : XE → XE → Bool) (A B : Option Addr) (c d : Nat) (l m : List (XE)) (v0 : World) (hfn : Tryd.prog.funcs[fid]? = some fn) (hnm : (fn.name == "runtime.NumGoroutine") = false) (hbd : fn.body.isNone = false) (hA : Kd.C k25 v0 A l.length l) (hB : Kd.C k25 v0 B m.length m) (hf : ∀ p ∈ l, ∀ q ∈ m, ∀ (cs ds : List Value) (w1 : World), Below v0.heap.size v0 w1 → k25.K v0 p cs → cs.length = 6 → k25.K v0 q ds → ds.length = 6 → Calls Tryd.prog fid (.agg cs.toArray :: .agg ds.toArray :: caps).toArray w1 fun e w' => e = .returned (.bool (eq p q)) ∧ Below w1.heap.size w1 w') :
    Calls Tryd.prog 86 #[.slice A l.length c, .slice B m.length d, .func (.func fid) #[] caps.toArray] v0 fun e w' => e = .returned (.bool (eqL eq l m)) ∧ Below v0.heap.size v0 w' := by
  refine calls_enter (N := 32) (n := 29) (args := [.slice A l.length c, .slice B m.length d, .func (.func fid) #[] caps.toArray]) Tryd.func86 rfl rfl rfl (H.init v0) (fun a hs => ?_)
  have hcl := C_len hA
  have hcl2 := C_len hB
  refine wp_seq (wp_region_lit ?_)
  refine go hs (pA rfl <| ?_); clear hs a; intro a hs
  refine wpList_nil (then_normal (wp_seq ?_))
  refine wp_seq (wp_region_lit ?_)
  refine go hs (pM rfl <| pV rfl (fun a hs => y_lenL hs Tryd.underlying23 rfl) <| pM rfl <| pV rfl (fun a hs => y_lenL hs Tryd.underlying23 rfl) <| pV rfl (fun a hs => y_cmp hs rfl rfl rfl) <| ?_); clear hs a; intro a hs
  refine wpList_nil (then_normal ?_)
  refine wp_cond_split (hs.ev rfl) (fun h14 => ?_) (fun h14 => ?_)
  · replace h14 := bne_iff_ne.1 h14
    have hX : eqL eq l m = false := eqL_len (by omega)
    refine wp_seq (wp_region_lit ?_)
    refine go hs (pA rfl <| ?_); clear hs a; intro a hs
    refine wpList_nil (then_normal (wp_ret (then_ret ?_)))
    refine fin_ret hs (.tmp (hs.slots _ _ rfl) .nil) ⟨?_, hs.mem.base⟩
    rw [hX]; rfl
  replace h14 := bne_eq_false_iff_eq.1 h14
  refine wp_skip (then_normal (wp_seq ?_))
  refine wp_seq (wp_region_lit ?_)
  refine go hs (pM rfl <| pV rfl (fun a hs => y_lenL hs Tryd.underlying23 rfl) <| pM rfl <| ?_); clear hs a; intro a hs
  refine wpList_nil (then_normal (wp_block ?_))
  refine wp_loopN (fun mm a w1 => ∃ (i : Nat), (i + mm = l.length) ∧ (eqL eq (l.drop i) (m.drop i) = eqL eq l m) ∧ St 32 v0 [(1, .slice B m.length d), (2, .func (.func fid) #[] caps.toArray), (15, .slice A l.length c), (16, .int .i64 (l.length : Int)), (17, .int .i64 ((i : Nat) : Int))] [] a w1) (l.length) ⟨0, by omega, rfl, ?_⟩ (fun mm a w1 hJ => ?_)
  · exact (hs.mem_to hs.mem).cut _ ⟨rfl, rfl, rfl, rfl, rfl, trivial⟩
  clear hs
  obtain ⟨i, hi, hinv, hs⟩ := hJ
  refine wp_seq (wp_region_lit ?_)
  refine go hs (pV rfl (fun a hs => y_cmp hs rfl rfl rfl) <| ?_); clear hs a; intro a hs
  refine wpList_nil (then_normal (wp_seq ?_))
  refine wp_cond_split (hs.ev rfl) (fun h18 => ?_) (fun h18 => ?_)
  · replace h18 := of_decide_eq_true h18
    obtain ⟨p, hp⟩ : ∃ p, l[i]? = some p := ⟨_, List.getElem?_eq_getElem (by omega)⟩
    obtain ⟨q, hq⟩ : ∃ q, m[i]? = some q := ⟨_, List.getElem?_eq_getElem (by omega)⟩
    obtain ⟨g1, o1, rfl, hcell1⟩ := C_atH (show 0 < 6 by decide) hA (by omega)
    obtain ⟨cs, hK1, hlen1, hc1⟩ := hcell1 i p hp
    obtain ⟨g2, o2, rfl, hcell2⟩ := C_atH (show 0 < 6 by decide) hB (by omega)
    obtain ⟨ds, hK2, hlen2, hc2⟩ := hcell2 i q hq
    replace hlen1 : cs.length = 6 := hlen1
    replace hlen2 : ds.length = 6 := hlen2
    have hO1 := hK1
    have hO2 := hK2
    obtain ⟨A1, c1, rfl, _⟩ := k25_open hO1
    obtain ⟨B1, d1, rfl, _⟩ := k25_open hO2
    have hd := eqL_at eq hp hq
    refine wp_skip (then_normal (wp_seq ?_))
    refine wp_block (wp_seq ?_)
    refine wp_region_lit (go hs (pM rfl <| pV rfl (fun a hs => y_idxB (size := 6) (off := o1 + i * 6) hs Tryd.underlying23 (by kernel_rfl) rfl rfl (by omega) (by omega) (by simp)) <| pV rfl (fun a hs => y_loadAgg (vs := [.int .u8 p.f0, .int .i64 p.f1, .string p.f2, .slice A1 p.f3.length c1, .int .i64 p.f4, .int .i64 p.f5]) hs Tryd.underlying24 rfl (by kernel_rfl) rfl (fun w hw k v hk => hc1 w hw.base k v hk)) <| ?_)); clear hs a; intro a hs
    refine a_eff rfl (e_alloc (z := .agg #[.int .u8 0, .int .i64 0, .string ⟨#[]⟩, .slice none 0 0, .int .i64 0, .int .i64 0]) (cs := #[.int .u8 0, .int .i64 0, .string ⟨#[]⟩, .slice none 0 0, .int .i64 0, .int .i64 0]) hs rfl (by kernel_rfl) rfl ?_); clear hs a; intro g1 a w hs
    refine go hs (pA rfl <| ?_); clear hs a; intro a hs
    refine a_eff rfl (e_store (cl := [_, _, _, _, _, _]) 0 rfl hs rfl rfl (by kernel_rfl) rfl rfl rfl ?_); clear hs a; intro a w hs
    refine wpList_nil (then_normal (wp_seq ?_))
    refine wp_region_lit (go hs (pM rfl <| pM rfl <| pV rfl (fun a hs => y_idxB (size := 6) (off := o2 + i * 6) hs Tryd.underlying23 (by kernel_rfl) rfl rfl (by omega) (by omega) (by simp)) <| pV rfl (fun a hs => y_loadAgg (vs := [.int .u8 q.f0, .int .i64 q.f1, .string q.f2, .slice B1 q.f3.length d1, .int .i64 q.f4, .int .i64 q.f5]) hs Tryd.underlying24 rfl (by kernel_rfl) rfl (fun w hw k v hk => hc2 w hw.base k v hk)) <| ?_)); clear hs a; intro a hs
    refine a_eff rfl (e_alloc (z := .agg #[.int .u8 0, .int .i64 0, .string ⟨#[]⟩, .slice none 0 0, .int .i64 0, .int .i64 0]) (cs := #[.int .u8 0, .int .i64 0, .string ⟨#[]⟩, .slice none 0 0, .int .i64 0, .int .i64 0]) hs rfl (by kernel_rfl) rfl ?_); clear hs a; intro g2 a w hs
    refine a_eff rfl (e_store (cl := [_, _, _, _, _, _]) 0 rfl hs rfl rfl (by kernel_rfl) rfl rfl rfl ?_); clear hs a; intro a w hs
    refine wpList_nil (then_normal (wp_seq ?_))
    refine wp_region_lit (go hs (pM rfl <| pV rfl (fun a hs => y_loadPt 1 rfl hs Tryd.underlying25 rfl (by kernel_rfl) rfl) <| pV rfl (fun a hs => y_loadPt 0 rfl hs Tryd.underlying25 rfl (by kernel_rfl) rfl) <| ?_)); clear hs a; intro a hs
    refine a_eff rfl (e_callF hfn hnm hbd hs rfl rfl rfl (hf p (List.mem_of_getElem? hp) q (List.mem_of_getElem? hq) _ _ _ hs.mem.base hK1 hlen1 hK2 hlen2) (fun e w1 ⟨he, hb1⟩ => ⟨_, he, _, hs.mem.grow hb1, ?_⟩)); clear hs a; intro a hs
    refine go hs (pV rfl (fun a hs => y_not hs rfl) <| ?_); clear hs a; intro a hs
    refine wpList_nil (then_normal ?_)
    refine wp_cond_split (hs.ev rfl) (fun h30 => ?_) (fun h30 => ?_)
    · replace h30 := (not_t h30)
      have hX : eqL eq l m = false := by rw [← hinv, hd, h30, Bool.false_and]
      refine wp_seq (wp_region_lit ?_)
      refine go hs (pA rfl <| ?_); clear hs a; intro a hs
      refine wpList_nil (then_normal (wp_ret (in_ret (then_ret (then_ret (in_ret (then_ret ?_)))))))
      refine fin_ret hs (.tmp (hs.slots _ _ rfl) .nil) ⟨?_, hs.mem.base⟩
      rw [hX]; rfl
    replace h30 := (not_f h30)
    have hn := hinv
    rw [hd, h30, Bool.true_and] at hn
    refine wp_skip (in_normal (then_normal (wp_region_lit ?_)))
    refine go hs (pV rfl (fun a hs => y_add hs rfl rfl (by omega)) <| pM rfl <| ?_); clear hs a; intro a hs
    refine wpList_nil (then_normal ?_)
    refine ⟨mm - 1, by omega, i + 1, by omega, hn, ?_⟩
    exact (hs.mem_to ((hs.mem.to 0 rfl).drop.to 0 rfl).drop).cut _ ⟨rfl, rfl, rfl, rfl, rfl, trivial⟩
  replace h18 := of_decide_eq_false h18
  have hX : eqL eq l m = true := by rw [← hinv, List.drop_eq_nil_of_le (by omega), List.drop_eq_nil_of_le (by omega)]; rfl
  refine wp_exit (then_exit (then_exit (in_here (then_normal (wp_seq ?_)))))
  refine wp_region_lit (go hs (pA rfl <| ?_)); clear hs a; intro a hs
  refine wpList_nil (then_normal (wp_ret ?_))
  refine fin_ret hs (.tmp (hs.slots _ _ rfl) .nil) ⟨?_, hs.mem.base⟩
  rw [hX]; rfl
set_option maxRecDepth 100000 in
theorem equal_S (fid : Nat) (fn : Func) (caps : List Value) (eq : XS → XS → Bool) (A B : Option Addr) (c d : Nat) (l m : List (XS)) (v0 : World) (hfn : Tryd.prog.funcs[fid]? = some fn) (hnm : (fn.name == "runtime.NumGoroutine") = false) (hbd : fn.body.isNone = false) (hA : Kd.C k42 v0 A l.length l) (hB : Kd.C k42 v0 B m.length m) (hf : ∀ p ∈ l, ∀ q ∈ m, ∀ (cs ds : List Value) (w1 : World), Below v0.heap.size v0 w1 → k42.K v0 p cs → cs.length = 7 → k42.K v0 q ds → ds.length = 7 → Calls Tryd.prog fid (.agg cs.toArray :: .agg ds.toArray :: caps).toArray w1 fun e w' => e = .returned (.bool (eq p q)) ∧ Below w1.heap.size w1 w') :
    Calls Tryd.prog 84 #[.slice A l.length c, .slice B m.length d, .func (.func fid) #[] caps.toArray] v0 fun e w' => e = .returned (.bool (eqL eq l m)) ∧ Below v0.heap.size v0 w' := by
  refine calls_enter (N := 32) (n := 29) (args := [.slice A l.length c, .slice B m.length d, .func (.func fid) #[] caps.toArray]) Tryd.func84 rfl rfl rfl (H.init v0) (fun a hs => ?_)
  have hcl := C_len hA
  have hcl2 := C_len hB
  refine wp_seq (wp_region_lit ?_)
  refine go hs (pA rfl <| ?_); clear hs a; intro a hs
  refine wpList_nil (then_normal (wp_seq ?_))
  refine wp_seq (wp_region_lit ?_)
  refine go hs (pM rfl <| pV rfl (fun a hs => y_lenL hs Tryd.underlying39 rfl) <| pM rfl <| pV rfl (fun a hs => y_lenL hs Tryd.underlying39 rfl) <| pV rfl (fun a hs => y_cmp hs rfl rfl rfl) <| ?_); clear hs a; intro a hs
  refine wpList_nil (then_normal ?_)
  refine wp_cond_split (hs.ev rfl) (fun h14 => ?_) (fun h14 => ?_)
  · replace h14 := bne_iff_ne.1 h14
    have hX : eqL eq l m = false := eqL_len (by omega)
    refine wp_seq (wp_region_lit ?_)
    refine go hs (pA rfl <| ?_); clear hs a; intro a hs
    refine wpList_nil (then_normal (wp_ret (then_ret ?_)))
    refine fin_ret hs (.tmp (hs.slots _ _ rfl) .nil) ⟨?_, hs.mem.base⟩
    rw [hX]; rfl
  replace h14 := bne_eq_false_iff_eq.1 h14
  refine wp_skip (then_normal (wp_seq ?_))
  refine wp_seq (wp_region_lit ?_)
  refine go hs (pM rfl <| pV rfl (fun a hs => y_lenL hs Tryd.underlying39 rfl) <| pM rfl <| ?_); clear hs a; intro a hs
  refine wpList_nil (then_normal (wp_block ?_))
  refine wp_loopN (fun mm a w1 => ∃ (i : Nat), (i + mm = l.length) ∧ (eqL eq (l.drop i) (m.drop i) = eqL eq l m) ∧ St 32 v0 [(1, .slice B m.length d), (2, .func (.func fid) #[] caps.toArray), (15, .slice A l.length c), (16, .int .i64 (l.length : Int)), (17, .int .i64 ((i : Nat) : Int))] [] a w1) (l.length) ⟨0, by omega, rfl, ?_⟩ (fun mm a w1 hJ => ?_)
  · exact (hs.mem_to hs.mem).cut _ ⟨rfl, rfl, rfl, rfl, rfl, trivial⟩
  clear hs
  obtain ⟨i, hi, hinv, hs⟩ := hJ
  refine wp_seq (wp_region_lit ?_)
  refine go hs (pV rfl (fun a hs => y_cmp hs rfl rfl rfl) <| ?_); clear hs a; intro a hs
  refine wpList_nil (then_normal (wp_seq ?_))
  refine wp_cond_split (hs.ev rfl) (fun h18 => ?_) (fun h18 => ?_)
  · replace h18 := of_decide_eq_true h18
    obtain ⟨p, hp⟩ : ∃ p, l[i]? = some p := ⟨_, List.getElem?_eq_getElem (by omega)⟩
    obtain ⟨q, hq⟩ : ∃ q, m[i]? = some q := ⟨_, List.getElem?_eq_getElem (by omega)⟩
    obtain ⟨g1, o1, rfl, hcell1⟩ := C_atH (show 0 < 7 by decide) hA (by omega)
    obtain ⟨cs, hK1, hlen1, hc1⟩ := hcell1 i p hp
    obtain ⟨g2, o2, rfl, hcell2⟩ := C_atH (show 0 < 7 by decide) hB (by omega)
    obtain ⟨ds, hK2, hlen2, hc2⟩ := hcell2 i q hq
    replace hlen1 : cs.length = 7 := hlen1
    replace hlen2 : ds.length = 7 := hlen2
    have hO1 := hK1
    have hO2 := hK2
    obtain ⟨A2, c2, A3, c3, A4, c4, rfl, _⟩ := k42_open hO1
    obtain ⟨B2, d2, B3, d3, B4, d4, rfl, _⟩ := k42_open hO2
    have hd := eqL_at eq hp hq
    refine wp_skip (then_normal (wp_seq ?_))
    refine wp_block (wp_seq ?_)
    refine wp_region_lit (go hs (pM rfl <| pV rfl (fun a hs => y_idxB (size := 7) (off := o1 + i * 7) hs Tryd.underlying39 (by kernel_rfl) rfl rfl (by omega) (by omega) (by simp)) <| pV rfl (fun a hs => y_loadAgg (vs := [.int .u8 p.f0, .string p.f1, .slice A2 p.f2.length c2, .slice A3 p.f3.length c3, .slice A4 p.f4.length c4, .int .i64 p.f5, .int .i64 p.f6]) hs Tryd.underlying41 rfl (by kernel_rfl) rfl (fun w hw k v hk => hc1 w hw.base k v hk)) <| ?_)); clear hs a; intro a hs
    refine a_eff rfl (e_alloc (z := .agg #[.int .u8 0, .string ⟨#[]⟩, .slice none 0 0, .slice none 0 0, .slice none 0 0, .int .i64 0, .int .i64 0]) (cs := #[.int .u8 0, .string ⟨#[]⟩, .slice none 0 0, .slice none 0 0, .slice none 0 0, .int .i64 0, .int .i64 0]) hs rfl (by kernel_rfl) rfl ?_); clear hs a; intro g1 a w hs
    refine go hs (pA rfl <| ?_); clear hs a; intro a hs
    refine a_eff rfl (e_store (cl := [_, _, _, _, _, _, _]) 0 rfl hs rfl rfl (by kernel_rfl) rfl rfl rfl ?_); clear hs a; intro a w hs
    refine wpList_nil (then_normal (wp_seq ?_))
    refine wp_region_lit (go hs (pM rfl <| pM rfl <| pV rfl (fun a hs => y_idxB (size := 7) (off := o2 + i * 7) hs Tryd.underlying39 (by kernel_rfl) rfl rfl (by omega) (by omega) (by simp)) <| pV rfl (fun a hs => y_loadAgg (vs := [.int .u8 q.f0, .string q.f1, .slice B2 q.f2.length d2, .slice B3 q.f3.length d3, .slice B4 q.f4.length d4, .int .i64 q.f5, .int .i64 q.f6]) hs Tryd.underlying41 rfl (by kernel_rfl) rfl (fun w hw k v hk => hc2 w hw.base k v hk)) <| ?_)); clear hs a; intro a hs
    refine a_eff rfl (e_alloc (z := .agg #[.int .u8 0, .string ⟨#[]⟩, .slice none 0 0, .slice none 0 0, .slice none 0 0, .int .i64 0, .int .i64 0]) (cs := #[.int .u8 0, .string ⟨#[]⟩, .slice none 0 0, .slice none 0 0, .slice none 0 0, .int .i64 0, .int .i64 0]) hs rfl (by kernel_rfl) rfl ?_); clear hs a; intro g2 a w hs
    refine a_eff rfl (e_store (cl := [_, _, _, _, _, _, _]) 0 rfl hs rfl rfl (by kernel_rfl) rfl rfl rfl ?_); clear hs a; intro a w hs
    refine wpList_nil (then_normal (wp_seq ?_))
    refine wp_region_lit (go hs (pM rfl <| pV rfl (fun a hs => y_loadPt 1 rfl hs Tryd.underlying42 rfl (by kernel_rfl) rfl) <| pV rfl (fun a hs => y_loadPt 0 rfl hs Tryd.underlying42 rfl (by kernel_rfl) rfl) <| ?_)); clear hs a; intro a hs
    refine a_eff rfl (e_callF hfn hnm hbd hs rfl rfl rfl (hf p (List.mem_of_getElem? hp) q (List.mem_of_getElem? hq) _ _ _ hs.mem.base hK1 hlen1 hK2 hlen2) (fun e w1 ⟨he, hb1⟩ => ⟨_, he, _, hs.mem.grow hb1, ?_⟩)); clear hs a; intro a hs
    refine go hs (pV rfl (fun a hs => y_not hs rfl) <| ?_); clear hs a; intro a hs
    refine wpList_nil (then_normal ?_)
    refine wp_cond_split (hs.ev rfl) (fun h30 => ?_) (fun h30 => ?_)
    · replace h30 := (not_t h30)
      have hX : eqL eq l m = false := by rw [← hinv, hd, h30, Bool.false_and]
      refine wp_seq (wp_region_lit ?_)
      refine go hs (pA rfl <| ?_); clear hs a; intro a hs
      refine wpList_nil (then_normal (wp_ret (in_ret (then_ret (then_ret (in_ret (then_ret ?_)))))))
      refine fin_ret hs (.tmp (hs.slots _ _ rfl) .nil) ⟨?_, hs.mem.base⟩
      rw [hX]; rfl
    replace h30 := (not_f h30)
    have hn := hinv
    rw [hd, h30, Bool.true_and] at hn
    refine wp_skip (in_normal (then_normal (wp_region_lit ?_)))
    refine go hs (pV rfl (fun a hs => y_add hs rfl rfl (by omega)) <| pM rfl <| ?_); clear hs a; intro a hs
    refine wpList_nil (then_normal ?_)
    refine ⟨mm - 1, by omega, i + 1, by omega, hn, ?_⟩
    exact (hs.mem_to ((hs.mem.to 0 rfl).drop.to 0 rfl).drop).cut _ ⟨rfl, rfl, rfl, rfl, rfl, trivial⟩
  replace h18 := of_decide_eq_false h18
  have hX : eqL eq l m = true := by rw [← hinv, List.drop_eq_nil_of_le (by omega), List.drop_eq_nil_of_le (by omega)]; rfl
  refine wp_exit (then_exit (then_exit (in_here (then_normal (wp_seq ?_)))))
  refine wp_region_lit (go hs (pA rfl <| ?_)); clear hs a; intro a hs
  refine wpList_nil (then_normal (wp_ret ?_))
  refine fin_ret hs (.tmp (hs.slots _ _ rfl) .nil) ⟨?_, hs.mem.base⟩
  rw [hX]; rfl
set_option maxRecDepth 100000 in
theorem equal_R (fid : Nat) (fn : Func) (caps : List Value) (eq : List XE → List XE → Bool) (A B : Option Addr) (c d : Nat) (l m : List (List XE)) (v0 : World) (hfn : Tryd.prog.funcs[fid]? = some fn) (hnm : (fn.name == "runtime.NumGoroutine") = false) (hbd : fn.body.isNone = false) (hA : Kd.C (Kd.slice 25 k25) v0 A l.length l) (hB : Kd.C (Kd.slice 25 k25) v0 B m.length m) (hf : ∀ p ∈ l, ∀ q ∈ m, ∀ (A0 B0 : Option Addr) (c0 d0 : Nat) (w1 : World), Below v0.heap.size v0 w1 → Kd.C k25 v0 A0 p.length p → Kd.C k25 v0 B0 q.length q → Calls Tryd.prog fid (.slice A0 p.length c0 :: .slice B0 q.length d0 :: caps).toArray w1 fun e w' => e = .returned (.bool (eq p q)) ∧ Below w1.heap.size w1 w') :
    Calls Tryd.prog 85 #[.slice A l.length c, .slice B m.length d, .func (.func fid) #[] caps.toArray] v0 fun e w' => e = .returned (.bool (eqL eq l m)) ∧ Below v0.heap.size v0 w' := by
  refine calls_enter (N := 32) (n := 29) (args := [.slice A l.length c, .slice B m.length d, .func (.func fid) #[] caps.toArray]) Tryd.func85 rfl rfl rfl (H.init v0) (fun a hs => ?_)
  have hcl := C_len hA
  have hcl2 := C_len hB
  refine wp_seq (wp_region_lit ?_)
  refine go hs (pA rfl <| ?_); clear hs a; intro a hs
  refine wpList_nil (then_normal (wp_seq ?_))
  refine wp_seq (wp_region_lit ?_)
  refine go hs (pM rfl <| pV rfl (fun a hs => y_lenL hs Tryd.underlying40 rfl) <| pM rfl <| pV rfl (fun a hs => y_lenL hs Tryd.underlying40 rfl) <| pV rfl (fun a hs => y_cmp hs rfl rfl rfl) <| ?_); clear hs a; intro a hs
  refine wpList_nil (then_normal ?_)
  refine wp_cond_split (hs.ev rfl) (fun h14 => ?_) (fun h14 => ?_)
  · replace h14 := bne_iff_ne.1 h14
    have hX : eqL eq l m = false := eqL_len (by omega)
    refine wp_seq (wp_region_lit ?_)
    refine go hs (pA rfl <| ?_); clear hs a; intro a hs
    refine wpList_nil (then_normal (wp_ret (then_ret ?_)))
    refine fin_ret hs (.tmp (hs.slots _ _ rfl) .nil) ⟨?_, hs.mem.base⟩
    rw [hX]; rfl
  replace h14 := bne_eq_false_iff_eq.1 h14
  refine wp_skip (then_normal (wp_seq ?_))
  refine wp_seq (wp_region_lit ?_)
  refine go hs (pM rfl <| pV rfl (fun a hs => y_lenL hs Tryd.underlying40 rfl) <| pM rfl <| ?_); clear hs a; intro a hs
  refine wpList_nil (then_normal (wp_block ?_))
  refine wp_loopN (fun mm a w1 => ∃ (i : Nat), (i + mm = l.length) ∧ (eqL eq (l.drop i) (m.drop i) = eqL eq l m) ∧ St 32 v0 [(1, .slice B m.length d), (2, .func (.func fid) #[] caps.toArray), (15, .slice A l.length c), (16, .int .i64 (l.length : Int)), (17, .int .i64 ((i : Nat) : Int))] [] a w1) (l.length) ⟨0, by omega, rfl, ?_⟩ (fun mm a w1 hJ => ?_)
  · exact (hs.mem_to hs.mem).cut _ ⟨rfl, rfl, rfl, rfl, rfl, trivial⟩
  clear hs
  obtain ⟨i, hi, hinv, hs⟩ := hJ
  refine wp_seq (wp_region_lit ?_)
  refine go hs (pV rfl (fun a hs => y_cmp hs rfl rfl rfl) <| ?_); clear hs a; intro a hs
  refine wpList_nil (then_normal (wp_seq ?_))
  refine wp_cond_split (hs.ev rfl) (fun h18 => ?_) (fun h18 => ?_)
  · replace h18 := of_decide_eq_true h18
    obtain ⟨p, hp⟩ : ∃ p, l[i]? = some p := ⟨_, List.getElem?_eq_getElem (by omega)⟩
    obtain ⟨q, hq⟩ : ∃ q, m[i]? = some q := ⟨_, List.getElem?_eq_getElem (by omega)⟩
    obtain ⟨g1, o1, rfl, hcell1⟩ := C_atH (show 0 < 1 by decide) hA (by omega)
    obtain ⟨cs, hK1, hlen1, hc1⟩ := hcell1 i p hp
    obtain ⟨g2, o2, rfl, hcell2⟩ := C_atH (show 0 < 1 by decide) hB (by omega)
    obtain ⟨ds, hK2, hlen2, hc2⟩ := hcell2 i q hq
    obtain ⟨A0, c0, rfl, hlc1, hK1⟩ := hK1
    obtain ⟨B0, d0, rfl, hlc2, hK2⟩ := hK2
    have hd := eqL_at eq hp hq
    refine wp_skip (then_normal (wp_seq ?_))
    refine wp_block (wp_seq ?_)
    refine wp_region_lit (go hs (pM rfl <| pV rfl (fun a hs => y_idxB (size := 1) (off := o1 + i * 1) hs Tryd.underlying40 (by kernel_rfl) rfl rfl (by omega) (by omega) (by simp)) <| pV rfl (fun a hs => y_load (v := .slice A0 p.length c0) hs Tryd.underlying23 rfl rfl (fun w hw => hc1 w hw.base 0 _ rfl)) <| pA rfl <| pA rfl <| ?_)); clear hs a; intro a hs
    refine wpList_nil (then_normal (wp_seq ?_))
    refine wp_region_lit (go hs (pM rfl <| pM rfl <| pV rfl (fun a hs => y_idxB (size := 1) (off := o2 + i * 1) hs Tryd.underlying40 (by kernel_rfl) rfl rfl (by omega) (by omega) (by simp)) <| pV rfl (fun a hs => y_load (v := .slice B0 q.length d0) hs Tryd.underlying23 rfl rfl (fun w hw => hc2 w hw.base 0 _ rfl)) <| pA rfl <| ?_)); clear hs a; intro a hs
    refine wpList_nil (then_normal (wp_seq ?_))
    refine wp_region_lit (go hs (pM rfl <| pM rfl <| pM rfl <| ?_)); clear hs a; intro a hs
    refine a_eff rfl (e_callF hfn hnm hbd hs rfl rfl rfl (hf p (List.mem_of_getElem? hp) q (List.mem_of_getElem? hq) A0 B0 c0 d0 _ hs.mem.base hK1 hK2) (fun e w1 ⟨he, hb1⟩ => ⟨_, he, _, hs.mem.grow hb1, ?_⟩)); clear hs a; intro a hs
    refine go hs (pV rfl (fun a hs => y_not hs rfl) <| ?_); clear hs a; intro a hs
    refine wpList_nil (then_normal ?_)
    refine wp_cond_split (hs.ev rfl) (fun h30 => ?_) (fun h30 => ?_)
    · replace h30 := (not_t h30)
      have hX : eqL eq l m = false := by rw [← hinv, hd, h30, Bool.false_and]
      refine wp_seq (wp_region_lit ?_)
      refine go hs (pA rfl <| ?_); clear hs a; intro a hs
      refine wpList_nil (then_normal (wp_ret (in_ret (then_ret (then_ret (in_ret (then_ret ?_)))))))
      refine fin_ret hs (.tmp (hs.slots _ _ rfl) .nil) ⟨?_, hs.mem.base⟩
      rw [hX]; rfl
    replace h30 := (not_f h30)
    have hn := hinv
    rw [hd, h30, Bool.true_and] at hn
    refine wp_skip (in_normal (then_normal (wp_region_lit ?_)))
    refine go hs (pV rfl (fun a hs => y_add hs rfl rfl (by omega)) <| pM rfl <| ?_); clear hs a; intro a hs
    refine wpList_nil (then_normal ?_)
    refine ⟨mm - 1, by omega, i + 1, by omega, hn, ?_⟩
    exact (hs.mem_to hs.mem).cut _ ⟨rfl, rfl, rfl, rfl, rfl, trivial⟩
  replace h18 := of_decide_eq_false h18
  have hX : eqL eq l m = true := by rw [← hinv, List.drop_eq_nil_of_le (by omega), List.drop_eq_nil_of_le (by omega)]; rfl
  refine wp_exit (then_exit (then_exit (in_here (then_normal (wp_seq ?_)))))
  refine wp_region_lit (go hs (pA rfl <| ?_)); clear hs a; intro a hs
  refine wpList_nil (then_normal (wp_ret ?_))
  refine fin_ret hs (.tmp (hs.slots _ _ rfl) .nil) ⟨?_, hs.mem.base⟩
  rw [hX]; rfl
set_option maxRecDepth 100000 in
theorem equal_I (fid : Nat) (fn : Func) (caps : List Value) (eq : XI → XI → Bool) (A B : Option Addr) (c d : Nat) (l m : List (XI)) (v0 : World) (hfn : Tryd.prog.funcs[fid]? = some fn) (hnm : (fn.name == "runtime.NumGoroutine") = false) (hbd : fn.body.isNone = false) (hA : Kd.C k45 v0 A l.length l) (hB : Kd.C k45 v0 B m.length m) (hf : ∀ p ∈ l, ∀ q ∈ m, ∀ (cs ds : List Value) (w1 : World), Below v0.heap.size v0 w1 → k45.K v0 p cs → cs.length = 19 → k45.K v0 q ds → ds.length = 19 → Calls Tryd.prog fid (.agg cs.toArray :: .agg ds.toArray :: caps).toArray w1 fun e w' => e = .returned (.bool (eq p q)) ∧ Below w1.heap.size w1 w') :
    Calls Tryd.prog 50 #[.slice A l.length c, .slice B m.length d, .func (.func fid) #[] caps.toArray] v0 fun e w' => e = .returned (.bool (eqL eq l m)) ∧ Below v0.heap.size v0 w' := by
  refine calls_enter (N := 32) (n := 29) (args := [.slice A l.length c, .slice B m.length d, .func (.func fid) #[] caps.toArray]) Tryd.func50 rfl rfl rfl (H.init v0) (fun a hs => ?_)
  have hcl := C_len hA
  have hcl2 := C_len hB
  refine wp_seq (wp_region_lit ?_)
  refine go hs (pA rfl <| ?_); clear hs a; intro a hs
  refine wpList_nil (then_normal (wp_seq ?_))
  refine wp_seq (wp_region_lit ?_)
  refine go hs (pM rfl <| pV rfl (fun a hs => y_lenL hs Tryd.underlying32 rfl) <| pM rfl <| pV rfl (fun a hs => y_lenL hs Tryd.underlying32 rfl) <| pV rfl (fun a hs => y_cmp hs rfl rfl rfl) <| ?_); clear hs a; intro a hs
  refine wpList_nil (then_normal ?_)
  refine wp_cond_split (hs.ev rfl) (fun h14 => ?_) (fun h14 => ?_)
  · replace h14 := bne_iff_ne.1 h14
    have hX : eqL eq l m = false := eqL_len (by omega)
    refine wp_seq (wp_region_lit ?_)
    refine go hs (pA rfl <| ?_); clear hs a; intro a hs
    refine wpList_nil (then_normal (wp_ret (then_ret ?_)))
    refine fin_ret hs (.tmp (hs.slots _ _ rfl) .nil) ⟨?_, hs.mem.base⟩
    rw [hX]; rfl
  replace h14 := bne_eq_false_iff_eq.1 h14
  refine wp_skip (then_normal (wp_seq ?_))
  refine wp_seq (wp_region_lit ?_)
  refine go hs (pM rfl <| pV rfl (fun a hs => y_lenL hs Tryd.underlying32 rfl) <| pM rfl <| ?_); clear hs a; intro a hs
  refine wpList_nil (then_normal (wp_block ?_))
  refine wp_loopN (fun mm a w1 => ∃ (i : Nat), (i + mm = l.length) ∧ (eqL eq (l.drop i) (m.drop i) = eqL eq l m) ∧ St 32 v0 [(1, .slice B m.length d), (2, .func (.func fid) #[] caps.toArray), (15, .slice A l.length c), (16, .int .i64 (l.length : Int)), (17, .int .i64 ((i : Nat) : Int))] [] a w1) (l.length) ⟨0, by omega, rfl, ?_⟩ (fun mm a w1 hJ => ?_)
  · exact (hs.mem_to hs.mem).cut _ ⟨rfl, rfl, rfl, rfl, rfl, trivial⟩
  clear hs
  obtain ⟨i, hi, hinv, hs⟩ := hJ
  refine wp_seq (wp_region_lit ?_)
  refine go hs (pV rfl (fun a hs => y_cmp hs rfl rfl rfl) <| ?_); clear hs a; intro a hs
  refine wpList_nil (then_normal (wp_seq ?_))
  refine wp_cond_split (hs.ev rfl) (fun h18 => ?_) (fun h18 => ?_)
  · replace h18 := of_decide_eq_true h18
    obtain ⟨p, hp⟩ : ∃ p, l[i]? = some p := ⟨_, List.getElem?_eq_getElem (by omega)⟩
    obtain ⟨q, hq⟩ : ∃ q, m[i]? = some q := ⟨_, List.getElem?_eq_getElem (by omega)⟩
    obtain ⟨g1, o1, rfl, hcell1⟩ := C_atH (show 0 < 19 by decide) hA (by omega)
    obtain ⟨cs, hK1, hlen1, hc1⟩ := hcell1 i p hp
    obtain ⟨g2, o2, rfl, hcell2⟩ := C_atH (show 0 < 19 by decide) hB (by omega)
    obtain ⟨ds, hK2, hlen2, hc2⟩ := hcell2 i q hq
    replace hlen1 : cs.length = 19 := hlen1
    replace hlen2 : ds.length = 19 := hlen2
    have hO1 := hK1
    have hO2 := hK2
    obtain ⟨A5, c5, A10, c10, A11, c11, A12, c12, A16, c16, rfl, _⟩ := k45_open hO1
    obtain ⟨B5, d5, B10, d10, B11, d11, B12, d12, B16, d16, rfl, _⟩ := k45_open hO2
    have hd := eqL_at eq hp hq
    refine wp_skip (then_normal (wp_seq ?_))
    refine wp_block (wp_seq ?_)
    refine wp_region_lit (go hs (pM rfl <| pV rfl (fun a hs => y_idxB (size := 19) (off := o1 + i * 19) hs Tryd.underlying32 (by kernel_rfl) rfl rfl (by omega) (by omega) (by simp)) <| pV rfl (fun a hs => y_loadAgg (vs := [.int .u8 p.f0, .string p.f1, .int .u8 p.f2.f0, .int .i64 p.f2.f1, .string p.f2.f2, .slice A5 p.f2.f3.length c5, .int .i64 p.f2.f4, .int .i64 p.f2.f5, .int .u8 p.f3.f0, .string p.f3.f1, .slice A10 p.f3.f2.length c10, .slice A11 p.f3.f3.length c11, .slice A12 p.f3.f4.length c12, .int .i64 p.f3.f5, .int .i64 p.f3.f6, .int .u8 p.f4, .slice A16 p.f5.length c16, .int .i64 p.f6, .int .i64 p.f7]) hs Tryd.underlying44 rfl (by kernel_rfl) rfl (fun w hw k v hk => hc1 w hw.base k v hk)) <| ?_)); clear hs a; intro a hs
    refine a_eff rfl (e_alloc (z := .agg #[.int .u8 0, .string ⟨#[]⟩, .int .u8 0, .int .i64 0, .string ⟨#[]⟩, .slice none 0 0, .int .i64 0, .int .i64 0, .int .u8 0, .string ⟨#[]⟩, .slice none 0 0, .slice none 0 0, .slice none 0 0, .int .i64 0, .int .i64 0, .int .u8 0, .slice none 0 0, .int .i64 0, .int .i64 0]) (cs := #[.int .u8 0, .string ⟨#[]⟩, .int .u8 0, .int .i64 0, .string ⟨#[]⟩, .slice none 0 0, .int .i64 0, .int .i64 0, .int .u8 0, .string ⟨#[]⟩, .slice none 0 0, .slice none 0 0, .slice none 0 0, .int .i64 0, .int .i64 0, .int .u8 0, .slice none 0 0, .int .i64 0, .int .i64 0]) hs rfl (by kernel_rfl) rfl ?_); clear hs a; intro g1 a w hs
    refine go hs (pA rfl <| ?_); clear hs a; intro a hs
    refine a_eff rfl (e_store (cl := [_, _, _, _, _, _, _, _, _, _, _, _, _, _, _, _, _, _, _]) 0 rfl hs rfl rfl (by kernel_rfl) rfl rfl rfl ?_); clear hs a; intro a w hs
    refine wpList_nil (then_normal (wp_seq ?_))
    refine wp_region_lit (go hs (pM rfl <| pM rfl <| pV rfl (fun a hs => y_idxB (size := 19) (off := o2 + i * 19) hs Tryd.underlying32 (by kernel_rfl) rfl rfl (by omega) (by omega) (by simp)) <| pV rfl (fun a hs => y_loadAgg (vs := [.int .u8 q.f0, .string q.f1, .int .u8 q.f2.f0, .int .i64 q.f2.f1, .string q.f2.f2, .slice B5 q.f2.f3.length d5, .int .i64 q.f2.f4, .int .i64 q.f2.f5, .int .u8 q.f3.f0, .string q.f3.f1, .slice B10 q.f3.f2.length d10, .slice B11 q.f3.f3.length d11, .slice B12 q.f3.f4.length d12, .int .i64 q.f3.f5, .int .i64 q.f3.f6, .int .u8 q.f4, .slice B16 q.f5.length d16, .int .i64 q.f6, .int .i64 q.f7]) hs Tryd.underlying44 rfl (by kernel_rfl) rfl (fun w hw k v hk => hc2 w hw.base k v hk)) <| ?_)); clear hs a; intro a hs
    refine a_eff rfl (e_alloc (z := .agg #[.int .u8 0, .string ⟨#[]⟩, .int .u8 0, .int .i64 0, .string ⟨#[]⟩, .slice none 0 0, .int .i64 0, .int .i64 0, .int .u8 0, .string ⟨#[]⟩, .slice none 0 0, .slice none 0 0, .slice none 0 0, .int .i64 0, .int .i64 0, .int .u8 0, .slice none 0 0, .int .i64 0, .int .i64 0]) (cs := #[.int .u8 0, .string ⟨#[]⟩, .int .u8 0, .int .i64 0, .string ⟨#[]⟩, .slice none 0 0, .int .i64 0, .int .i64 0, .int .u8 0, .string ⟨#[]⟩, .slice none 0 0, .slice none 0 0, .slice none 0 0, .int .i64 0, .int .i64 0, .int .u8 0, .slice none 0 0, .int .i64 0, .int .i64 0]) hs rfl (by kernel_rfl) rfl ?_); clear hs a; intro g2 a w hs
    refine a_eff rfl (e_store (cl := [_, _, _, _, _, _, _, _, _, _, _, _, _, _, _, _, _, _, _]) 0 rfl hs rfl rfl (by kernel_rfl) rfl rfl rfl ?_); clear hs a; intro a w hs
    refine wpList_nil (then_normal (wp_seq ?_))
    refine wp_region_lit (go hs (pM rfl <| pV rfl (fun a hs => y_loadPt 1 rfl hs Tryd.underlying45 rfl (by kernel_rfl) rfl) <| pV rfl (fun a hs => y_loadPt 0 rfl hs Tryd.underlying45 rfl (by kernel_rfl) rfl) <| ?_)); clear hs a; intro a hs
    refine a_eff rfl (e_callF hfn hnm hbd hs rfl rfl rfl (hf p (List.mem_of_getElem? hp) q (List.mem_of_getElem? hq) _ _ _ hs.mem.base hK1 hlen1 hK2 hlen2) (fun e w1 ⟨he, hb1⟩ => ⟨_, he, _, hs.mem.grow hb1, ?_⟩)); clear hs a; intro a hs
    refine go hs (pV rfl (fun a hs => y_not hs rfl) <| ?_); clear hs a; intro a hs
    refine wpList_nil (then_normal ?_)
    refine wp_cond_split (hs.ev rfl) (fun h30 => ?_) (fun h30 => ?_)
    · replace h30 := (not_t h30)
      have hX : eqL eq l m = false := by rw [← hinv, hd, h30, Bool.false_and]
      refine wp_seq (wp_region_lit ?_)
      refine go hs (pA rfl <| ?_); clear hs a; intro a hs
      refine wpList_nil (then_normal (wp_ret (in_ret (then_ret (then_ret (in_ret (then_ret ?_)))))))
      refine fin_ret hs (.tmp (hs.slots _ _ rfl) .nil) ⟨?_, hs.mem.base⟩
      rw [hX]; rfl
    replace h30 := (not_f h30)
    have hn := hinv
    rw [hd, h30, Bool.true_and] at hn
    refine wp_skip (in_normal (then_normal (wp_region_lit ?_)))
    refine go hs (pV rfl (fun a hs => y_add hs rfl rfl (by omega)) <| pM rfl <| ?_); clear hs a; intro a hs
    refine wpList_nil (then_normal ?_)
    refine ⟨mm - 1, by omega, i + 1, by omega, hn, ?_⟩
    exact (hs.mem_to ((hs.mem.to 0 rfl).drop.to 0 rfl).drop).cut _ ⟨rfl, rfl, rfl, rfl, rfl, trivial⟩
  replace h18 := of_decide_eq_false h18
  have hX : eqL eq l m = true := by rw [← hinv, List.drop_eq_nil_of_le (by omega), List.drop_eq_nil_of_le (by omega)]; rfl
  refine wp_exit (then_exit (then_exit (in_here (then_normal (wp_seq ?_)))))
  refine wp_region_lit (go hs (pA rfl <| ?_)); clear hs a; intro a hs
  refine wpList_nil (then_normal (wp_ret ?_))
  refine fin_ret hs (.tmp (hs.slots _ _ rfl) .nil) ⟨?_, hs.mem.base⟩
  rw [hX]; rfl
/-- The same, but for places. -/
def likeX : Nat → XE → XE → Bool
  | 0, _, _ => false
  | n + 1, x, y => (x.f0 == y.f0) && ((x.f1 == y.f1) && ((x.f2.toList == y.f2.toList) && eqL (likeX n) x.f3 y.f3))
def likeS : Nat → XS → XS → Bool
  | 0, _, _ => false
  | n + 1, x, y => (x.f0 == y.f0) && ((x.f1.toList == y.f1.toList) && (eqL (likeX 16) x.f2 y.f2 && (eqL (likeS n) x.f3 y.f3 && eqL (eqL (likeX 16)) x.f4 y.f4)))
def likeI (x y : XI) : Bool := (x.f0 == y.f0) && ((x.f1.toList == y.f1.toList) && (likeX 16 x.f2 y.f2 && (likeS 16 x.f3 y.f3 && ((x.f4 == y.f4) && eqL (likeX 16) x.f5 y.f5))))
def SameOk (n : Nat) : Prop := ∀ (x y : XE) (A B : Option Addr) (c d : Nat) (v0 : World), Kd.C k25 v0 A x.f3.length x.f3 → Kd.C k25 v0 B y.f3.length y.f3 → inX n x → inX n y → Calls Tryd.prog 52 #[.agg #[.int .u8 x.f0, .int .i64 x.f1, .string x.f2, .slice A x.f3.length c, .int .i64 x.f4, .int .i64 x.f5], .agg #[.int .u8 y.f0, .int .i64 y.f1, .string y.f2, .slice B y.f3.length d, .int .i64 y.f4, .int .i64 y.f5]] v0 fun e w' => e = .returned (.bool (likeX n x y)) ∧ Below v0.heap.size v0 w'
def SamesOk (n : Nat) : Prop := ∀ (l m : List XE) (A B : Option Addr) (c d : Nat) (v0 : World), Kd.C k25 v0 A l.length l → Kd.C k25 v0 B m.length m → (∀ p ∈ l, inX n p) → (∀ p ∈ m, inX n p) → Calls Tryd.prog 54 #[.slice A l.length c, .slice B m.length d] v0 fun e w' => e = .returned (.bool (eqL (likeX n) l m)) ∧ Below v0.heap.size v0 w'
set_option maxRecDepth 100000 in
theorem sames_of (n : Nat) (hE : SameOk n) (l m : List XE) (A B : Option Addr) (c d : Nat) (v0 : World) (hA : Kd.C k25 v0 A l.length l) (hB : Kd.C k25 v0 B m.length m) (hl : ∀ p ∈ l, inX n p) (hm : ∀ p ∈ m, inX n p) :
    Calls Tryd.prog 54 #[.slice A l.length c, .slice B m.length d] v0 fun e w' => e = .returned (.bool (eqL (likeX n) l m)) ∧ Below v0.heap.size v0 w' := by
  refine calls_enter (N := 8) (n := 6) (args := [.slice A l.length c, .slice B m.length d]) Tryd.func54 rfl rfl rfl (H.init v0) (fun a hs => ?_)
  refine wp_seq (wp_region_lit ?_)
  refine go hs (pA rfl <| ?_); clear hs a; intro a hs
  refine wpList_nil (then_normal (wp_seq ?_))
  refine wp_region_lit (go hs (pM rfl <| pM rfl <| ?_)); clear hs a; intro a hs
  refine a_eff rfl (e_callB Tryd.func86 rfl rfl hs rfl rfl (equal_E 52 _ [] (likeX n) A B c d l m _ Tryd.func52 rfl rfl (Kd.C_below hA hs.mem.base) (Kd.C_below hB hs.mem.base) (fun p hp q2 hq cs ds w1 hb hK1 hl1 hK2 hl2 => by obtain ⟨A1, c1, rfl, e1, C1⟩ := k25_open hK1; obtain ⟨B1, d1, rfl, e2, C2⟩ := k25_open hK2; exact hE p q2 A1 B1 c1 d1 w1 (Kd.C_below C1 hb) (Kd.C_below C2 hb) (hl p hp) (hm q2 hq))) ?_); clear hs a; intro a w hs
  refine go hs (pA rfl <| ?_); clear hs a; intro a hs
  refine wpList_nil (then_normal (wp_ret ?_))
  refine fin_ret hs (.tmp (hs.slots _ _ rfl) .nil) ⟨rfl, hs.mem.base⟩
set_option maxRecDepth 100000 in
theorem tree_same_step (n : Nat) (hn : n ≤ 1000) (ih : ∀ q, q + 1 = n → SameOk q) (x y : XE) (A B : Option Addr) (c d : Nat) (v0 : World) (hA : Kd.C k25 v0 A x.f3.length x.f3) (hB : Kd.C k25 v0 B y.f3.length y.f3) (hx : inX n x) (hy : inX n y) :
    Calls Tryd.prog 52 #[.agg #[.int .u8 x.f0, .int .i64 x.f1, .string x.f2, .slice A x.f3.length c, .int .i64 x.f4, .int .i64 x.f5], .agg #[.int .u8 y.f0, .int .i64 y.f1, .string y.f2, .slice B y.f3.length d, .int .i64 y.f4, .int .i64 y.f5]] v0 fun e w' => e = .returned (.bool (likeX n x y)) ∧ Below v0.heap.size v0 w' := by
  refine calls_enter (N := 31) (n := 29) (args := [.agg #[.int .u8 x.f0, .int .i64 x.f1, .string x.f2, .slice A x.f3.length c, .int .i64 x.f4, .int .i64 x.f5], .agg #[.int .u8 y.f0, .int .i64 y.f1, .string y.f2, .slice B y.f3.length d, .int .i64 y.f4, .int .i64 y.f5]]) Tryd.func52 rfl rfl rfl (H.init v0) (fun a hs => ?_)
  obtain ⟨q, rfl⟩ : ∃ q, n = q + 1 := by cases n with | zero => exact hx.elim | succ q => exact ⟨q, rfl⟩
  refine wp_seq (wp_region_lit ?_)
  refine a_eff rfl (e_box (cs := #[_, _, _, _, _, _]) hs rfl rfl rfl ?_); clear hs a; intro gx a w hs
  refine a_eff rfl (e_box (cs := #[_, _, _, _, _, _]) hs rfl rfl rfl ?_); clear hs a; intro gy a w hs
  refine go hs (pA rfl <| ?_); clear hs a; intro a hs
  refine wpList_nil (then_normal (wp_seq ?_))
  refine wp_region_lit (go hs (pV rfl (fun a hs => y_faddr (k' := 0) 0 hs (by kernel_rfl) rfl rfl) <| pV rfl (fun a hs => y_load hs Tryd.underlying22 rfl rfl (fun w hw => (hw.to 1 rfl).cellV rfl)) <| pV rfl (fun a hs => y_faddr (k' := 0) 0 hs (by kernel_rfl) rfl rfl) <| pV rfl (fun a hs => y_load hs Tryd.underlying22 rfl rfl (fun w hw => (hw.to 0 rfl).cellV rfl)) <| pV rfl (fun a hs => y_cmp hs rfl rfl rfl) <| pM rfl <| ?_)); clear hs a; intro a hs
  rcases hs.know (d := 10) rfl with ⟨h10, hs1⟩ | ⟨h10, hs1⟩ <;> replace hs := hs1 <;> clear hs1
  · replace h10 := eq_of_beq h10
    refine go hs (pG rfl (fun a hs => y_faddr (k' := 1) 1 hs (by kernel_rfl) rfl rfl) <| pG rfl (fun a hs => y_load hs Tryd.underlying3 rfl rfl (fun w hw => (hw.to 1 rfl).cellV rfl)) <| pG rfl (fun a hs => y_faddr (k' := 1) 1 hs (by kernel_rfl) rfl rfl) <| pG rfl (fun a hs => y_load hs Tryd.underlying3 rfl rfl (fun w hw => (hw.to 0 rfl).cellV rfl)) <| pG rfl (fun a hs => y_cmp hs rfl rfl rfl) <| pT rfl rfl <| pM rfl <| ?_); clear hs a; intro a hs
    rcases hs.know (d := 17) rfl with ⟨h17, hs1⟩ | ⟨h17, hs1⟩ <;> replace hs := hs1 <;> clear hs1
    · replace h17 := eq_of_beq h17
      refine go hs (pG rfl (fun a hs => y_faddr (k' := 2) 2 hs (by kernel_rfl) rfl rfl) <| pG rfl (fun a hs => y_load hs Tryd.underlying9 rfl rfl (fun w hw => (hw.to 1 rfl).cellV rfl)) <| pG rfl (fun a hs => y_faddr (k' := 2) 2 hs (by kernel_rfl) rfl rfl) <| pG rfl (fun a hs => y_load hs Tryd.underlying9 rfl rfl (fun w hw => (hw.to 0 rfl).cellV rfl)) <| pG rfl (fun a hs => y_seq hs rfl rfl) <| pT rfl rfl <| pM rfl <| ?_); clear hs a; intro a hs
      rcases hs.know (d := 24) rfl with ⟨h24, hs1⟩ | ⟨h24, hs1⟩ <;> replace hs := hs1 <;> clear hs1
      · replace h24 := eq_of_beq h24
        refine go hs (pG rfl (fun a hs => y_faddr (k' := 3) 3 hs (by kernel_rfl) rfl rfl) <| pG rfl (fun a hs => y_load hs Tryd.underlying23 rfl rfl (fun w hw => (hw.to 1 rfl).cellV rfl)) <| pG rfl (fun a hs => y_faddr (k' := 3) 3 hs (by kernel_rfl) rfl rfl) <| pG rfl (fun a hs => y_load hs Tryd.underlying23 rfl rfl (fun w hw => (hw.to 0 rfl).cellV rfl)) <| ?_); clear hs a; intro a hs
        refine a_effG hs rfl (e_callB Tryd.func54 rfl rfl hs rfl rfl (sames_of q (ih q rfl) x.f3 y.f3 A B c d _ (Kd.C_below hA hs.mem.base) (Kd.C_below hB hs.mem.base) hx.2 hy.2) ?_); clear hs a; intro a w hs
        refine go hs (pT rfl rfl <| pA rfl <| ?_); clear hs a; intro a hs
        refine wpList_nil (then_normal (wp_ret ?_))
        have hX : likeX (q + 1) x y = eqL (likeX q) x.f3 y.f3 := by rw [likeX]; rw [(beq_iff_eq.2 h10), Bool.true_and, (beq_iff_eq.2 h17), Bool.true_and, (beq_iff_eq.2 h24), Bool.true_and]
        refine fin_ret hs (.tmp (hs.slots _ _ rfl) .nil) ⟨?_, hs.mem.base⟩
        rw [hX]; rfl
      replace h24 := ne_of_beq_false h24
      refine go hs (pS rfl <| pS rfl <| pS rfl <| pS rfl <| pS rfl <| pF rfl rfl <| pA rfl <| ?_); clear hs a; intro a hs
      refine wpList_nil (then_normal (wp_ret ?_))
      have hX : likeX (q + 1) x y = false := by rw [likeX]; rw [(beq_eq_false_iff_ne.2 h24)]; simp only [Bool.false_and, Bool.and_false]
      refine fin_ret hs (.tmp (hs.slots _ _ rfl) .nil) ⟨?_, hs.mem.base⟩
      rw [hX]; rfl
    replace h17 := ne_of_beq_false h17
    refine go hs (pS rfl <| pS rfl <| pS rfl <| pS rfl <| pS rfl <| pF rfl rfl <| pM rfl <| pS rfl <| pS rfl <| pS rfl <| pS rfl <| pS rfl <| pF rfl rfl <| pA rfl <| ?_); clear hs a; intro a hs
    refine wpList_nil (then_normal (wp_ret ?_))
    have hX : likeX (q + 1) x y = false := by rw [likeX]; rw [(beq_eq_false_iff_ne.2 h17)]; simp only [Bool.false_and, Bool.and_false]
    refine fin_ret hs (.tmp (hs.slots _ _ rfl) .nil) ⟨?_, hs.mem.base⟩
    rw [hX]; rfl
  replace h10 := ne_of_beq_false h10
  refine go hs (pS rfl <| pS rfl <| pS rfl <| pS rfl <| pS rfl <| pF rfl rfl <| pM rfl <| pS rfl <| pS rfl <| pS rfl <| pS rfl <| pS rfl <| pF rfl rfl <| pM rfl <| pS rfl <| pS rfl <| pS rfl <| pS rfl <| pS rfl <| pF rfl rfl <| pA rfl <| ?_); clear hs a; intro a hs
  refine wpList_nil (then_normal (wp_ret ?_))
  have hX : likeX (q + 1) x y = false := by rw [likeX]; rw [(beq_eq_false_iff_ne.2 h10)]; simp only [Bool.false_and, Bool.and_false]
  refine fin_ret hs (.tmp (hs.slots _ _ rfl) .nil) ⟨?_, hs.mem.base⟩
  rw [hX]; rfl
theorem tree_same : ∀ n : Nat, n ≤ 1000 → SameOk n := fun n => by
  induction n using Nat.strongRecOn with
  | _ n ih => exact fun hn x y A B c d v0 hA hB hx hy => tree_same_step n hn (fun q hq => ih q (by omega) (by omega)) x y A B c d v0 hA hB hx hy
theorem tree_sames (n : Nat) (hn : n ≤ 1000) : SamesOk n := fun l m A B c d v0 hA hB hl hm => sames_of n (tree_same n hn) l m A B c d v0 hA hB hl hm
def SameSOk (n : Nat) : Prop := ∀ (x y : XS) (A2 A3 A4 B2 B3 B4 : Option Addr) (c2 c3 c4 d2 d3 d4 : Nat) (v0 : World), Kd.C k25 v0 A2 x.f2.length x.f2 → Kd.C k42 v0 A3 x.f3.length x.f3 → Kd.C (Kd.slice 25 k25) v0 A4 x.f4.length x.f4 → Kd.C k25 v0 B2 y.f2.length y.f2 → Kd.C k42 v0 B3 y.f3.length y.f3 → Kd.C (Kd.slice 25 k25) v0 B4 y.f4.length y.f4 → inS n x → inS n y → Calls Tryd.prog 53 #[.agg #[.int .u8 x.f0, .string x.f1, .slice A2 x.f2.length c2, .slice A3 x.f3.length c3, .slice A4 x.f4.length c4, .int .i64 x.f5, .int .i64 x.f6], .agg #[.int .u8 y.f0, .string y.f1, .slice B2 y.f2.length d2, .slice B3 y.f3.length d3, .slice B4 y.f4.length d4, .int .i64 y.f5, .int .i64 y.f6]] v0 fun e w' => e = .returned (.bool (likeS n x y)) ∧ Below v0.heap.size v0 w'
set_option maxRecDepth 100000 in
theorem tree_sameS_step (n : Nat) (hn : n ≤ 1000) (ih : ∀ q, q + 1 = n → SameSOk q) (x y : XS) (A2 A3 A4 B2 B3 B4 : Option Addr) (c2 c3 c4 d2 d3 d4 : Nat) (v0 : World) (hA2 : Kd.C k25 v0 A2 x.f2.length x.f2) (hA3 : Kd.C k42 v0 A3 x.f3.length x.f3) (hA4 : Kd.C (Kd.slice 25 k25) v0 A4 x.f4.length x.f4) (hB2 : Kd.C k25 v0 B2 y.f2.length y.f2) (hB3 : Kd.C k42 v0 B3 y.f3.length y.f3) (hB4 : Kd.C (Kd.slice 25 k25) v0 B4 y.f4.length y.f4) (hx : inS n x) (hy : inS n y) :
    Calls Tryd.prog 53 #[.agg #[.int .u8 x.f0, .string x.f1, .slice A2 x.f2.length c2, .slice A3 x.f3.length c3, .slice A4 x.f4.length c4, .int .i64 x.f5, .int .i64 x.f6], .agg #[.int .u8 y.f0, .string y.f1, .slice B2 y.f2.length d2, .slice B3 y.f3.length d3, .slice B4 y.f4.length d4, .int .i64 y.f5, .int .i64 y.f6]] v0 fun e w' => e = .returned (.bool (likeS n x y)) ∧ Below v0.heap.size v0 w' := by
  refine calls_enter (N := 38) (n := 36) (args := [.agg #[.int .u8 x.f0, .string x.f1, .slice A2 x.f2.length c2, .slice A3 x.f3.length c3, .slice A4 x.f4.length c4, .int .i64 x.f5, .int .i64 x.f6], .agg #[.int .u8 y.f0, .string y.f1, .slice B2 y.f2.length d2, .slice B3 y.f3.length d3, .slice B4 y.f4.length d4, .int .i64 y.f5, .int .i64 y.f6]]) Tryd.func53 rfl rfl rfl (H.init v0) (fun a hs => ?_)
  obtain ⟨q, rfl⟩ : ∃ q, n = q + 1 := by cases n with | zero => exact hx.elim | succ q => exact ⟨q, rfl⟩
  refine wp_seq (wp_region_lit ?_)
  refine a_eff rfl (e_box (cs := #[_, _, _, _, _, _, _]) hs rfl rfl rfl ?_); clear hs a; intro gx a w hs
  refine a_eff rfl (e_box (cs := #[_, _, _, _, _, _, _]) hs rfl rfl rfl ?_); clear hs a; intro gy a w hs
  refine go hs (pA rfl <| ?_); clear hs a; intro a hs
  refine wpList_nil (then_normal (wp_seq ?_))
  refine wp_region_lit (go hs (pV rfl (fun a hs => y_faddr (k' := 0) 0 hs (by kernel_rfl) rfl rfl) <| pV rfl (fun a hs => y_load hs Tryd.underlying38 rfl rfl (fun w hw => (hw.to 1 rfl).cellV rfl)) <| pV rfl (fun a hs => y_faddr (k' := 0) 0 hs (by kernel_rfl) rfl rfl) <| pV rfl (fun a hs => y_load hs Tryd.underlying38 rfl rfl (fun w hw => (hw.to 0 rfl).cellV rfl)) <| pV rfl (fun a hs => y_cmp hs rfl rfl rfl) <| pM rfl <| ?_)); clear hs a; intro a hs
  rcases hs.know (d := 10) rfl with ⟨h10, hs1⟩ | ⟨h10, hs1⟩ <;> replace hs := hs1 <;> clear hs1
  · replace h10 := eq_of_beq h10
    refine go hs (pG rfl (fun a hs => y_faddr (k' := 1) 1 hs (by kernel_rfl) rfl rfl) <| pG rfl (fun a hs => y_load hs Tryd.underlying9 rfl rfl (fun w hw => (hw.to 1 rfl).cellV rfl)) <| pG rfl (fun a hs => y_faddr (k' := 1) 1 hs (by kernel_rfl) rfl rfl) <| pG rfl (fun a hs => y_load hs Tryd.underlying9 rfl rfl (fun w hw => (hw.to 0 rfl).cellV rfl)) <| pG rfl (fun a hs => y_seq hs rfl rfl) <| pT rfl rfl <| pM rfl <| ?_); clear hs a; intro a hs
    rcases hs.know (d := 17) rfl with ⟨h17, hs1⟩ | ⟨h17, hs1⟩ <;> replace hs := hs1 <;> clear hs1
    · replace h17 := eq_of_beq h17
      refine go hs (pG rfl (fun a hs => y_faddr (k' := 2) 2 hs (by kernel_rfl) rfl rfl) <| pG rfl (fun a hs => y_load hs Tryd.underlying23 rfl rfl (fun w hw => (hw.to 1 rfl).cellV rfl)) <| pG rfl (fun a hs => y_faddr (k' := 2) 2 hs (by kernel_rfl) rfl rfl) <| pG rfl (fun a hs => y_load hs Tryd.underlying23 rfl rfl (fun w hw => (hw.to 0 rfl).cellV rfl)) <| ?_); clear hs a; intro a hs
      refine a_effG hs rfl (e_callB Tryd.func54 rfl rfl hs rfl rfl (tree_sames 16 (by decide) x.f2 y.f2 A2 B2 c2 d2 _ (Kd.C_below hA2 hs.mem.base) (Kd.C_below hB2 hs.mem.base) hx.2.1 hy.2.1) ?_); clear hs a; intro a w hs
      refine go hs (pT rfl rfl <| pM rfl <| ?_); clear hs a; intro a hs
      rcases hs.know (d := 24) rfl with ⟨h24, hs1⟩ | ⟨h24, hs1⟩ <;> replace hs := hs1 <;> clear hs1
      · refine go hs (pG rfl (fun a hs => y_faddr (k' := 3) 3 hs (by kernel_rfl) rfl rfl) <| pG rfl (fun a hs => y_load hs Tryd.underlying39 rfl rfl (fun w hw => (hw.to 1 rfl).cellV rfl)) <| pG rfl (fun a hs => y_faddr (k' := 3) 3 hs (by kernel_rfl) rfl rfl) <| pG rfl (fun a hs => y_load hs Tryd.underlying39 rfl rfl (fun w hw => (hw.to 0 rfl).cellV rfl)) <| ?_); clear hs a; intro a hs
        refine a_effG hs rfl (e_callB Tryd.func84 rfl rfl hs rfl rfl (equal_S 53 _ [] (likeS q) A3 B3 c3 d3 x.f3 y.f3 _ Tryd.func53 rfl rfl (Kd.C_below hA3 hs.mem.base) (Kd.C_below hB3 hs.mem.base) (fun p hp q2 hq cs ds w1 hb hK1 hl1 hK2 hl2 => by obtain ⟨P2, e2, P3, e3, P4, e4, rfl, i2, G2, i3, G3, i4, G4⟩ := k42_open hK1; obtain ⟨Q2, f2, Q3, f3, Q4, f4, rfl, j2, J2, j3, J3, j4, J4⟩ := k42_open hK2; exact ih q rfl p q2 P2 P3 P4 Q2 Q3 Q4 e2 e3 e4 f2 f3 f4 w1 (Kd.C_below G2 hb) (Kd.C_below G3 hb) (Kd.C_below G4 hb) (Kd.C_below J2 hb) (Kd.C_below J3 hb) (Kd.C_below J4 hb) (hx.2.2.2.1 p hp) (hy.2.2.2.1 q2 hq))) ?_); clear hs a; intro a w hs
        refine go hs (pT rfl rfl <| pM rfl <| ?_); clear hs a; intro a hs
        rcases hs.know (d := 31) rfl with ⟨h31, hs1⟩ | ⟨h31, hs1⟩ <;> replace hs := hs1 <;> clear hs1
        · refine go hs (pG rfl (fun a hs => y_faddr (k' := 4) 4 hs (by kernel_rfl) rfl rfl) <| pG rfl (fun a hs => y_load hs Tryd.underlying40 rfl rfl (fun w hw => (hw.to 1 rfl).cellV rfl)) <| pG rfl (fun a hs => y_faddr (k' := 4) 4 hs (by kernel_rfl) rfl rfl) <| pG rfl (fun a hs => y_load hs Tryd.underlying40 rfl rfl (fun w hw => (hw.to 0 rfl).cellV rfl)) <| ?_); clear hs a; intro a hs
          refine a_effG hs rfl (e_callB Tryd.func85 rfl rfl hs rfl rfl (equal_R 54 _ [] (eqL (likeX 16)) A4 B4 c4 d4 x.f4 y.f4 _ Tryd.func54 rfl rfl (Kd.C_below hA4 hs.mem.base) (Kd.C_below hB4 hs.mem.base) (fun p hp q2 hq A1 B1 c1 d1 w1 hb C1 C2 => tree_sames 16 (by decide) p q2 A1 B1 c1 d1 w1 (Kd.C_below C1 hb) (Kd.C_below C2 hb) (hx.2.2.2.2.2 p hp).2 (hy.2.2.2.2.2 q2 hq).2)) ?_); clear hs a; intro a w hs
          refine go hs (pT rfl rfl <| pA rfl <| ?_); clear hs a; intro a hs
          refine wpList_nil (then_normal (wp_ret ?_))
          have hX : likeS (q + 1) x y = eqL (eqL (likeX 16)) x.f4 y.f4 := by rw [likeS]; rw [(beq_iff_eq.2 h10), Bool.true_and, (beq_iff_eq.2 h17), Bool.true_and, h24, Bool.true_and, h31, Bool.true_and]
          refine fin_ret hs (.tmp (hs.slots _ _ rfl) .nil) ⟨?_, hs.mem.base⟩
          rw [hX]; rfl
        refine go hs (pS rfl <| pS rfl <| pS rfl <| pS rfl <| pS rfl <| pF rfl rfl <| pA rfl <| ?_); clear hs a; intro a hs
        refine wpList_nil (then_normal (wp_ret ?_))
        have hX : likeS (q + 1) x y = false := by rw [likeS]; rw [h31]; simp only [Bool.false_and, Bool.and_false]
        refine fin_ret hs (.tmp (hs.slots _ _ rfl) .nil) ⟨?_, hs.mem.base⟩
        rw [hX]; rfl
      refine go hs (pS rfl <| pS rfl <| pS rfl <| pS rfl <| pS rfl <| pF rfl rfl <| pM rfl <| pS rfl <| pS rfl <| pS rfl <| pS rfl <| pS rfl <| pF rfl rfl <| pA rfl <| ?_); clear hs a; intro a hs
      refine wpList_nil (then_normal (wp_ret ?_))
      have hX : likeS (q + 1) x y = false := by rw [likeS]; rw [h24]; simp only [Bool.false_and, Bool.and_false]
      refine fin_ret hs (.tmp (hs.slots _ _ rfl) .nil) ⟨?_, hs.mem.base⟩
      rw [hX]; rfl
    replace h17 := ne_of_beq_false h17
    refine go hs (pS rfl <| pS rfl <| pS rfl <| pS rfl <| pS rfl <| pF rfl rfl <| pM rfl <| pS rfl <| pS rfl <| pS rfl <| pS rfl <| pS rfl <| pF rfl rfl <| pM rfl <| pS rfl <| pS rfl <| pS rfl <| pS rfl <| pS rfl <| pF rfl rfl <| pA rfl <| ?_); clear hs a; intro a hs
    refine wpList_nil (then_normal (wp_ret ?_))
    have hX : likeS (q + 1) x y = false := by rw [likeS]; rw [(beq_eq_false_iff_ne.2 h17)]; simp only [Bool.false_and, Bool.and_false]
    refine fin_ret hs (.tmp (hs.slots _ _ rfl) .nil) ⟨?_, hs.mem.base⟩
    rw [hX]; rfl
  replace h10 := ne_of_beq_false h10
  refine go hs (pS rfl <| pS rfl <| pS rfl <| pS rfl <| pS rfl <| pF rfl rfl <| pM rfl <| pS rfl <| pS rfl <| pS rfl <| pS rfl <| pS rfl <| pF rfl rfl <| pM rfl <| pS rfl <| pS rfl <| pS rfl <| pS rfl <| pS rfl <| pF rfl rfl <| pM rfl <| pS rfl <| pS rfl <| pS rfl <| pS rfl <| pS rfl <| pF rfl rfl <| pA rfl <| ?_); clear hs a; intro a hs
  refine wpList_nil (then_normal (wp_ret ?_))
  have hX : likeS (q + 1) x y = false := by rw [likeS]; rw [(beq_eq_false_iff_ne.2 h10)]; simp only [Bool.false_and, Bool.and_false]
  refine fin_ret hs (.tmp (hs.slots _ _ rfl) .nil) ⟨?_, hs.mem.base⟩
  rw [hX]; rfl
theorem tree_sameS : ∀ n : Nat, n ≤ 1000 → SameSOk n := fun n => by
  induction n using Nat.strongRecOn with
  | _ n ih => exact fun hn x y A2 A3 A4 B2 B3 B4 c2 c3 c4 d2 d3 d4 v0 hA2 hA3 hA4 hB2 hB3 hB4 hx hy => tree_sameS_step n hn (fun q hq => ih q (by omega) (by omega)) x y A2 A3 A4 B2 B3 B4 c2 c3 c4 d2 d3 d4 v0 hA2 hA3 hA4 hB2 hB3 hB4 hx hy
set_option maxRecDepth 100000 in
theorem tree_sameI (x : XI) (A5 A10 A11 A12 A16 : Option Addr) (c5 c10 c11 c12 c16 : Nat) (y : XI) (B5 B10 B11 B12 B16 : Option Addr) (d5 d10 d11 d12 d16 : Nat) (v0 : World) (hA5 : Kd.C k25 v0 A5 x.f2.f3.length x.f2.f3) (hA10 : Kd.C k25 v0 A10 x.f3.f2.length x.f3.f2) (hA11 : Kd.C k42 v0 A11 x.f3.f3.length x.f3.f3) (hA12 : Kd.C (Kd.slice 25 k25) v0 A12 x.f3.f4.length x.f3.f4) (hA16 : Kd.C k25 v0 A16 x.f5.length x.f5) (hB5 : Kd.C k25 v0 B5 y.f2.f3.length y.f2.f3) (hB10 : Kd.C k25 v0 B10 y.f3.f2.length y.f3.f2) (hB11 : Kd.C k42 v0 B11 y.f3.f3.length y.f3.f3) (hB12 : Kd.C (Kd.slice 25 k25) v0 B12 y.f3.f4.length y.f3.f4) (hB16 : Kd.C k25 v0 B16 y.f5.length y.f5) (hx : inI x) (hy : inI y) :
    Calls Tryd.prog 51 #[.agg #[.int .u8 x.f0, .string x.f1, .int .u8 x.f2.f0, .int .i64 x.f2.f1, .string x.f2.f2, .slice A5 x.f2.f3.length c5, .int .i64 x.f2.f4, .int .i64 x.f2.f5, .int .u8 x.f3.f0, .string x.f3.f1, .slice A10 x.f3.f2.length c10, .slice A11 x.f3.f3.length c11, .slice A12 x.f3.f4.length c12, .int .i64 x.f3.f5, .int .i64 x.f3.f6, .int .u8 x.f4, .slice A16 x.f5.length c16, .int .i64 x.f6, .int .i64 x.f7], .agg #[.int .u8 y.f0, .string y.f1, .int .u8 y.f2.f0, .int .i64 y.f2.f1, .string y.f2.f2, .slice B5 y.f2.f3.length d5, .int .i64 y.f2.f4, .int .i64 y.f2.f5, .int .u8 y.f3.f0, .string y.f3.f1, .slice B10 y.f3.f2.length d10, .slice B11 y.f3.f3.length d11, .slice B12 y.f3.f4.length d12, .int .i64 y.f3.f5, .int .i64 y.f3.f6, .int .u8 y.f4, .slice B16 y.f5.length d16, .int .i64 y.f6, .int .i64 y.f7]] v0 fun e w' => e = .returned (.bool (likeI x y)) ∧ Below v0.heap.size v0 w' := by
  refine calls_enter (N := 45) (n := 43) (args := [.agg #[.int .u8 x.f0, .string x.f1, .int .u8 x.f2.f0, .int .i64 x.f2.f1, .string x.f2.f2, .slice A5 x.f2.f3.length c5, .int .i64 x.f2.f4, .int .i64 x.f2.f5, .int .u8 x.f3.f0, .string x.f3.f1, .slice A10 x.f3.f2.length c10, .slice A11 x.f3.f3.length c11, .slice A12 x.f3.f4.length c12, .int .i64 x.f3.f5, .int .i64 x.f3.f6, .int .u8 x.f4, .slice A16 x.f5.length c16, .int .i64 x.f6, .int .i64 x.f7], .agg #[.int .u8 y.f0, .string y.f1, .int .u8 y.f2.f0, .int .i64 y.f2.f1, .string y.f2.f2, .slice B5 y.f2.f3.length d5, .int .i64 y.f2.f4, .int .i64 y.f2.f5, .int .u8 y.f3.f0, .string y.f3.f1, .slice B10 y.f3.f2.length d10, .slice B11 y.f3.f3.length d11, .slice B12 y.f3.f4.length d12, .int .i64 y.f3.f5, .int .i64 y.f3.f6, .int .u8 y.f4, .slice B16 y.f5.length d16, .int .i64 y.f6, .int .i64 y.f7]]) Tryd.func51 rfl rfl rfl (H.init v0) (fun a hs => ?_)
  refine wp_seq (wp_region_lit ?_)
  refine a_eff rfl (e_box (cs := #[_, _, _, _, _, _, _, _, _, _, _, _, _, _, _, _, _, _, _]) hs rfl rfl rfl ?_); clear hs a; intro gx a w hs
  refine a_eff rfl (e_box (cs := #[_, _, _, _, _, _, _, _, _, _, _, _, _, _, _, _, _, _, _]) hs rfl rfl rfl ?_); clear hs a; intro gy a w hs
  refine go hs (pA rfl <| ?_); clear hs a; intro a hs
  refine wpList_nil (then_normal (wp_seq ?_))
  refine wp_region_lit (go hs (pV rfl (fun a hs => y_faddr (k' := 0) 0 hs (by kernel_rfl) rfl rfl) <| pV rfl (fun a hs => y_load hs Tryd.underlying37 rfl rfl (fun w hw => (hw.to 1 rfl).cellV rfl)) <| pV rfl (fun a hs => y_faddr (k' := 0) 0 hs (by kernel_rfl) rfl rfl) <| pV rfl (fun a hs => y_load hs Tryd.underlying37 rfl rfl (fun w hw => (hw.to 0 rfl).cellV rfl)) <| pV rfl (fun a hs => y_cmp hs rfl rfl rfl) <| pM rfl <| ?_)); clear hs a; intro a hs
  rcases hs.know (d := 10) rfl with ⟨h10, hs1⟩ | ⟨h10, hs1⟩ <;> replace hs := hs1 <;> clear hs1
  · replace h10 := eq_of_beq h10
    refine go hs (pG rfl (fun a hs => y_faddr (k' := 1) 1 hs (by kernel_rfl) rfl rfl) <| pG rfl (fun a hs => y_load hs Tryd.underlying9 rfl rfl (fun w hw => (hw.to 1 rfl).cellV rfl)) <| pG rfl (fun a hs => y_faddr (k' := 1) 1 hs (by kernel_rfl) rfl rfl) <| pG rfl (fun a hs => y_load hs Tryd.underlying9 rfl rfl (fun w hw => (hw.to 0 rfl).cellV rfl)) <| pG rfl (fun a hs => y_seq hs rfl rfl) <| pT rfl rfl <| pM rfl <| ?_); clear hs a; intro a hs
    rcases hs.know (d := 17) rfl with ⟨h17, hs1⟩ | ⟨h17, hs1⟩ <;> replace hs := hs1 <;> clear hs1
    · replace h17 := eq_of_beq h17
      refine go hs (pG rfl (fun a hs => y_faddr (k' := 2) 2 hs (by kernel_rfl) rfl rfl) <| pG rfl (fun a hs => y_loadAgg (vs := [.int .u8 x.f2.f0, .int .i64 x.f2.f1, .string x.f2.f2, .slice A5 x.f2.f3.length c5, .int .i64 x.f2.f4, .int .i64 x.f2.f5]) hs Tryd.underlying24 rfl (by kernel_rfl) rfl (fun w hw k v hk => ((hw.to 1 rfl).cell).trans (sub_at 6 rfl hk))) <| pG rfl (fun a hs => y_faddr (k' := 2) 2 hs (by kernel_rfl) rfl rfl) <| pG rfl (fun a hs => y_loadAgg (vs := [.int .u8 y.f2.f0, .int .i64 y.f2.f1, .string y.f2.f2, .slice B5 y.f2.f3.length d5, .int .i64 y.f2.f4, .int .i64 y.f2.f5]) hs Tryd.underlying24 rfl (by kernel_rfl) rfl (fun w hw k v hk => ((hw.to 0 rfl).cell).trans (sub_at 6 rfl hk))) <| ?_); clear hs a; intro a hs
      refine a_effG hs rfl (e_callB Tryd.func52 rfl rfl hs rfl rfl (tree_same 16 (by decide) x.f2 y.f2 A5 B5 c5 d5 _ (Kd.C_below hA5 hs.mem.base) (Kd.C_below hB5 hs.mem.base) hx.1 hy.1) ?_); clear hs a; intro a w hs
      refine go hs (pT rfl rfl <| pM rfl <| ?_); clear hs a; intro a hs
      rcases hs.know (d := 24) rfl with ⟨h24, hs1⟩ | ⟨h24, hs1⟩ <;> replace hs := hs1 <;> clear hs1
      · refine go hs (pG rfl (fun a hs => y_faddr (k' := 8) 8 hs (by kernel_rfl) rfl rfl) <| pG rfl (fun a hs => y_loadAgg (vs := [.int .u8 x.f3.f0, .string x.f3.f1, .slice A10 x.f3.f2.length c10, .slice A11 x.f3.f3.length c11, .slice A12 x.f3.f4.length c12, .int .i64 x.f3.f5, .int .i64 x.f3.f6]) hs Tryd.underlying41 rfl (by kernel_rfl) rfl (fun w hw k v hk => ((hw.to 1 rfl).cell).trans (sub_at 7 rfl hk))) <| pG rfl (fun a hs => y_faddr (k' := 8) 8 hs (by kernel_rfl) rfl rfl) <| pG rfl (fun a hs => y_loadAgg (vs := [.int .u8 y.f3.f0, .string y.f3.f1, .slice B10 y.f3.f2.length d10, .slice B11 y.f3.f3.length d11, .slice B12 y.f3.f4.length d12, .int .i64 y.f3.f5, .int .i64 y.f3.f6]) hs Tryd.underlying41 rfl (by kernel_rfl) rfl (fun w hw k v hk => ((hw.to 0 rfl).cell).trans (sub_at 7 rfl hk))) <| ?_); clear hs a; intro a hs
        refine a_effG hs rfl (e_callB Tryd.func53 rfl rfl hs rfl rfl (tree_sameS 16 (by decide) x.f3 y.f3 A10 A11 A12 B10 B11 B12 c10 c11 c12 d10 d11 d12 _ (Kd.C_below hA10 hs.mem.base) (Kd.C_below hA11 hs.mem.base) (Kd.C_below hA12 hs.mem.base) (Kd.C_below hB10 hs.mem.base) (Kd.C_below hB11 hs.mem.base) (Kd.C_below hB12 hs.mem.base) hx.2.1 hy.2.1) ?_); clear hs a; intro a w hs
        refine go hs (pT rfl rfl <| pM rfl <| ?_); clear hs a; intro a hs
        rcases hs.know (d := 31) rfl with ⟨h31, hs1⟩ | ⟨h31, hs1⟩ <;> replace hs := hs1 <;> clear hs1
        · refine go hs (pG rfl (fun a hs => y_faddr (k' := 15) 15 hs (by kernel_rfl) rfl rfl) <| pG rfl (fun a hs => y_load hs Tryd.underlying43 rfl rfl (fun w hw => (hw.to 1 rfl).cellV rfl)) <| pG rfl (fun a hs => y_faddr (k' := 15) 15 hs (by kernel_rfl) rfl rfl) <| pG rfl (fun a hs => y_load hs Tryd.underlying43 rfl rfl (fun w hw => (hw.to 0 rfl).cellV rfl)) <| pG rfl (fun a hs => y_cmp hs rfl rfl rfl) <| pT rfl rfl <| pM rfl <| ?_); clear hs a; intro a hs
          rcases hs.know (d := 38) rfl with ⟨h38, hs1⟩ | ⟨h38, hs1⟩ <;> replace hs := hs1 <;> clear hs1
          · replace h38 := eq_of_beq h38
            refine go hs (pG rfl (fun a hs => y_faddr (k' := 16) 16 hs (by kernel_rfl) rfl rfl) <| pG rfl (fun a hs => y_load hs Tryd.underlying23 rfl rfl (fun w hw => (hw.to 1 rfl).cellV rfl)) <| pG rfl (fun a hs => y_faddr (k' := 16) 16 hs (by kernel_rfl) rfl rfl) <| pG rfl (fun a hs => y_load hs Tryd.underlying23 rfl rfl (fun w hw => (hw.to 0 rfl).cellV rfl)) <| ?_); clear hs a; intro a hs
            refine a_effG hs rfl (e_callB Tryd.func54 rfl rfl hs rfl rfl (tree_sames 16 (by decide) x.f5 y.f5 A16 B16 c16 d16 _ (Kd.C_below hA16 hs.mem.base) (Kd.C_below hB16 hs.mem.base) hx.2.2.2 hy.2.2.2) ?_); clear hs a; intro a w hs
            refine go hs (pT rfl rfl <| pA rfl <| ?_); clear hs a; intro a hs
            refine wpList_nil (then_normal (wp_ret ?_))
            have hX : likeI x y = eqL (likeX 16) x.f5 y.f5 := by unfold likeI; rw [(beq_iff_eq.2 h10), Bool.true_and, (beq_iff_eq.2 h17), Bool.true_and, h24, Bool.true_and, h31, Bool.true_and, (beq_iff_eq.2 h38), Bool.true_and]
            refine fin_ret hs (.tmp (hs.slots _ _ rfl) .nil) ⟨?_, hs.mem.base⟩
            rw [hX]; rfl
          replace h38 := ne_of_beq_false h38
          refine go hs (pS rfl <| pS rfl <| pS rfl <| pS rfl <| pS rfl <| pF rfl rfl <| pA rfl <| ?_); clear hs a; intro a hs
          refine wpList_nil (then_normal (wp_ret ?_))
          have hX : likeI x y = false := by unfold likeI; rw [(beq_eq_false_iff_ne.2 h38)]; simp only [Bool.false_and, Bool.and_false]
          refine fin_ret hs (.tmp (hs.slots _ _ rfl) .nil) ⟨?_, hs.mem.base⟩
          rw [hX]; rfl
        refine go hs (pS rfl <| pS rfl <| pS rfl <| pS rfl <| pS rfl <| pF rfl rfl <| pM rfl <| pS rfl <| pS rfl <| pS rfl <| pS rfl <| pS rfl <| pF rfl rfl <| pA rfl <| ?_); clear hs a; intro a hs
        refine wpList_nil (then_normal (wp_ret ?_))
        have hX : likeI x y = false := by unfold likeI; rw [h31]; simp only [Bool.false_and, Bool.and_false]
        refine fin_ret hs (.tmp (hs.slots _ _ rfl) .nil) ⟨?_, hs.mem.base⟩
        rw [hX]; rfl
      refine go hs (pS rfl <| pS rfl <| pS rfl <| pS rfl <| pS rfl <| pF rfl rfl <| pM rfl <| pS rfl <| pS rfl <| pS rfl <| pS rfl <| pS rfl <| pF rfl rfl <| pM rfl <| pS rfl <| pS rfl <| pS rfl <| pS rfl <| pS rfl <| pF rfl rfl <| pA rfl <| ?_); clear hs a; intro a hs
      refine wpList_nil (then_normal (wp_ret ?_))
      have hX : likeI x y = false := by unfold likeI; rw [h24]; simp only [Bool.false_and, Bool.and_false]
      refine fin_ret hs (.tmp (hs.slots _ _ rfl) .nil) ⟨?_, hs.mem.base⟩
      rw [hX]; rfl
    replace h17 := ne_of_beq_false h17
    refine go hs (pS rfl <| pS rfl <| pS rfl <| pS rfl <| pS rfl <| pF rfl rfl <| pM rfl <| pS rfl <| pS rfl <| pS rfl <| pS rfl <| pS rfl <| pF rfl rfl <| pM rfl <| pS rfl <| pS rfl <| pS rfl <| pS rfl <| pS rfl <| pF rfl rfl <| pM rfl <| pS rfl <| pS rfl <| pS rfl <| pS rfl <| pS rfl <| pF rfl rfl <| pA rfl <| ?_); clear hs a; intro a hs
    refine wpList_nil (then_normal (wp_ret ?_))
    have hX : likeI x y = false := by unfold likeI; rw [(beq_eq_false_iff_ne.2 h17)]; simp only [Bool.false_and, Bool.and_false]
    refine fin_ret hs (.tmp (hs.slots _ _ rfl) .nil) ⟨?_, hs.mem.base⟩
    rw [hX]; rfl
  replace h10 := ne_of_beq_false h10
  refine go hs (pS rfl <| pS rfl <| pS rfl <| pS rfl <| pS rfl <| pF rfl rfl <| pM rfl <| pS rfl <| pS rfl <| pS rfl <| pS rfl <| pS rfl <| pF rfl rfl <| pM rfl <| pS rfl <| pS rfl <| pS rfl <| pS rfl <| pS rfl <| pF rfl rfl <| pM rfl <| pS rfl <| pS rfl <| pS rfl <| pS rfl <| pS rfl <| pF rfl rfl <| pM rfl <| pS rfl <| pS rfl <| pS rfl <| pS rfl <| pS rfl <| pF rfl rfl <| pA rfl <| ?_); clear hs a; intro a hs
  refine wpList_nil (then_normal (wp_ret ?_))
  have hX : likeI x y = false := by unfold likeI; rw [(beq_eq_false_iff_ne.2 h10)]; simp only [Bool.false_and, Bool.and_false]
  refine fin_ret hs (.tmp (hs.slots _ _ rfl) .nil) ⟨?_, hs.mem.base⟩
  rw [hX]; rfl
noncomputable def sameI (l m : List XI) : Bool := mayI l && (mayI m && eqL likeI l m)
set_option maxRecDepth 100000 in
theorem tree_Same (A B : Option Addr) (c d : Nat) (l m : List XI) (v0 : World) (hA : Kd.C k45 v0 A l.length l) (hB : Kd.C k45 v0 B m.length m) (hsl : ∀ p ∈ l, smallI p) (hsm : ∀ p ∈ m, smallI p) :
    Calls Tryd.prog 24 #[.slice A l.length c, .slice B m.length d] v0 fun e w' => e = .returned (.bool (sameI l m)) ∧ Below v0.heap.size v0 w' := by
  refine calls_enter (N := 16) (n := 14) (args := [.slice A l.length c, .slice B m.length d]) Tryd.func24 rfl rfl rfl (H.init v0) (fun a hs => ?_)
  refine wp_seq (wp_region_lit ?_)
  refine go hs (pA rfl <| ?_); clear hs a; intro a hs
  refine wpList_nil (then_normal (wp_seq ?_))
  refine wp_region_lit (go hs (pM rfl <| ?_)); clear hs a; intro a hs
  refine a_eff rfl (e_callB Tryd.func23 rfl rfl hs rfl rfl (tree_May A c l _ (Kd.C_below hA hs.mem.base) hsl) ?_); clear hs a; intro a w hs
  refine go hs (pM rfl <| ?_); clear hs a; intro a hs
  rcases hs.know (d := 7) rfl with ⟨h7, hs1⟩ | ⟨h7, hs1⟩ <;> replace hs := hs1 <;> clear hs1
  · have hl := may_in h7
    refine go hs (pG rfl (fun a hs => y_move hs rfl) <| ?_); clear hs a; intro a hs
    refine a_effG hs rfl (e_callB Tryd.func23 rfl rfl hs rfl rfl (tree_May B d m _ (Kd.C_below hB hs.mem.base) hsm) ?_); clear hs a; intro a w hs
    refine go hs (pT rfl rfl <| pM rfl <| ?_); clear hs a; intro a hs
    rcases hs.know (d := 11) rfl with ⟨h11, hs1⟩ | ⟨h11, hs1⟩ <;> replace hs := hs1 <;> clear hs1
    · have hm := may_in h11
      have hX : sameI l m = eqL likeI l m := by unfold sameI; rw [h7, h11]; rfl
      refine go hs (pG rfl (fun a hs => y_move hs rfl) <| pG rfl (fun a hs => y_move hs rfl) <| ?_); clear hs a; intro a hs
      refine a_effG hs rfl (e_callB Tryd.func50 rfl rfl hs rfl rfl (equal_I 51 _ [] likeI A B c d l m _ Tryd.func51 rfl rfl (Kd.C_below hA hs.mem.base) (Kd.C_below hB hs.mem.base) (fun p hp q2 hq cs ds w1 hb hK1 hl1 hK2 hl2 => by obtain ⟨A5, c5, A10, c10, A11, c11, A12, c12, A16, c16, rfl, al5, ag5, al10, ag10, al11, ag11, al12, ag12, al16, ag16⟩ := k45_open hK1; obtain ⟨B5, d5, B10, d10, B11, d11, B12, d12, B16, d16, rfl, bl5, bg5, bl10, bg10, bl11, bg11, bl12, bg12, bl16, bg16⟩ := k45_open hK2; exact tree_sameI p A5 A10 A11 A12 A16 c5 c10 c11 c12 c16 q2 B5 B10 B11 B12 B16 d5 d10 d11 d12 d16 w1 (Kd.C_below ag5 hb) (Kd.C_below ag10 hb) (Kd.C_below ag11 hb) (Kd.C_below ag12 hb) (Kd.C_below ag16 hb) (Kd.C_below bg5 hb) (Kd.C_below bg10 hb) (Kd.C_below bg11 hb) (Kd.C_below bg12 hb) (Kd.C_below bg16 hb) (hl p hp) (hm q2 hq))) ?_); clear hs a; intro a w hs
      refine go hs (pT rfl rfl <| pA rfl <| ?_); clear hs a; intro a hs
      refine wpList_nil (then_normal (wp_ret ?_))
      refine fin_ret hs (.tmp (hs.slots _ _ rfl) .nil) ⟨?_, hs.mem.base⟩
      rw [hX]; rfl
    have hX : sameI l m = false := by unfold sameI; rw [h7, h11]; rfl
    refine go hs (pS rfl <| pS rfl <| pS rfl <| pF rfl rfl <| pA rfl <| ?_); clear hs a; intro a hs
    refine wpList_nil (then_normal (wp_ret ?_))
    refine fin_ret hs (.tmp (hs.slots _ _ rfl) .nil) ⟨?_, hs.mem.base⟩
    rw [hX]; rfl
  have hX : sameI l m = false := by unfold sameI; rw [h7]; rfl
  refine go hs (pS rfl <| pS rfl <| pF rfl rfl <| pM rfl <| pS rfl <| pS rfl <| pS rfl <| pF rfl rfl <| pA rfl <| ?_); clear hs a; intro a hs
  refine wpList_nil (then_normal (wp_ret ?_))
  refine fin_ret hs (.tmp (hs.slots _ _ rfl) .nil) ⟨?_, hs.mem.base⟩
  rw [hX]; rfl
end Go.Proofs.YtibaidddhmdafaaDoor.E
end
section
namespace Go.Proofs.YtibaidddhmdafaaDoor.E
open Go Go.RowKit Go.Proofs.YtibaidddhmdafaaDoorW.PrintWords Go.Proofs.YtibaidddhmdafaaDoorW.PrintLast Go.Proofs.YtibaidddhmdafaaDoorW.PrintMore Go.Proofs.YtibaidddhmdafaaDoor.PA
set_option linter.unusedVariables false
set_option linter.unusedSimpArgs false
def nopX : Nat → XE → Prop
  | 0, _ => False
  | n + 1, x => x.f4 = 0 ∧ x.f5 = 0 ∧ ∀ p ∈ x.f3, nopX n p
def nopS : Nat → XS → Prop
  | 0, _ => False
  | n + 1, s => s.f5 = 0 ∧ s.f6 = 0 ∧ (∀ p ∈ s.f2, nopX 16 p) ∧ (∀ p ∈ s.f3, nopS n p) ∧ ∀ r ∈ s.f4, ∀ p ∈ r, nopX 16 p
def nopI (x : XI) : Prop := x.f6 = 0 ∧ x.f7 = 0 ∧ nopX 16 x.f2 ∧ nopS 16 x.f3 ∧ ∀ p ∈ x.f5, nopX 16 p
theorem all_map {α : Type} {P Q : α → Prop} {f : α → α} {l : List α} (h : ∀ p ∈ l, P p) (hf : ∀ p, P p → Q (f p)) : ∀ p ∈ l.map f, Q p := fun p hp => by
  obtain ⟨q, hq, rfl⟩ := List.mem_map.1 hp
  exact hf q (h q hq)
theorem nop_bareX : ∀ (n : Nat) (x : XE), inX n x → nopX n (bareX n x)
  | 0, _, h => h.elim
  | n + 1, x, h => ⟨rfl, rfl, all_map h.2 (fun p hp => nop_bareX n p hp)⟩
theorem nop_bareS : ∀ (n : Nat) (s : XS), inS n s → nopS n (bareS n s)
  | 0, _, h => h.elim
  | n + 1, s, h => ⟨rfl, rfl, all_map h.2.1 (fun p hp => nop_bareX 16 p hp), all_map h.2.2.2.1 (fun p hp => nop_bareS n p hp), fun r hr => by
    obtain ⟨q, hq, rfl⟩ := List.mem_map.1 hr
    exact all_map (h.2.2.2.2.2 q hq).2 (fun p hp => nop_bareX 16 p hp)⟩
theorem nop_bareI (x : XI) (h : inI x) : nopI (bareI x) := ⟨rfl, rfl, nop_bareX 16 _ h.1, nop_bareS 16 _ h.2.1, all_map h.2.2.2 (fun p hp => nop_bareX 16 p hp)⟩
theorem in_bareX : ∀ (n : Nat) (x : XE), inX n x → inX n (bareX n x)
  | 0, _, h => h.elim
  | n + 1, x, h => ⟨by show (x.f3.map _).length ≤ 64; rw [List.length_map]; exact h.1, all_map h.2 (fun p hp => in_bareX n p hp)⟩
theorem in_bareS : ∀ (n : Nat) (s : XS), inS n s → inS n (bareS n s)
  | 0, _, h => h.elim
  | n + 1, s, h => ⟨by show (s.f2.map _).length ≤ 64; rw [List.length_map]; exact h.1, all_map h.2.1 (fun p hp => in_bareX 16 p hp), by show (s.f3.map _).length ≤ 64; rw [List.length_map]; exact h.2.2.1, all_map h.2.2.2.1 (fun p hp => in_bareS n p hp),
    by show (s.f4.map _).length ≤ 64; rw [List.length_map]; exact h.2.2.2.2.1, fun r hr => by
    obtain ⟨q, hq, rfl⟩ := List.mem_map.1 hr
    exact ⟨by rw [List.length_map]; exact (h.2.2.2.2.2 q hq).1, all_map (h.2.2.2.2.2 q hq).2 (fun p hp => in_bareX 16 p hp)⟩⟩
theorem in_bareI (x : XI) (h : inI x) : inI (bareI x) := ⟨in_bareX 16 _ h.1, in_bareS 16 _ h.2.1, by show (x.f5.map _).length ≤ 64; rw [List.length_map]; exact h.2.2.1, all_map h.2.2.2 (fun p hp => in_bareX 16 p hp)⟩
theorem small_bareX : ∀ (n : Nat) (x : XE), smallX n x → smallX n (bareX n x)
  | 0, _, _ => trivial
  | n + 1, x, h => ⟨h.1, all_map h.2 (fun p hp => small_bareX n p hp)⟩
theorem small_bareS : ∀ (n : Nat) (s : XS), smallS n s → smallS n (bareS n s)
  | 0, _, _ => trivial
  | n + 1, s, h => ⟨h.1, all_map h.2.1 (fun p hp => small_bareX 16 p hp), all_map h.2.2.1 (fun p hp => small_bareS n p hp), fun r hr => by
    obtain ⟨q, hq, rfl⟩ := List.mem_map.1 hr
    exact all_map (h.2.2.2 q hq) (fun p hp => small_bareX 16 p hp)⟩
theorem small_bareI (x : XI) (h : smallI x) : smallI (bareI x) := ⟨h.1, small_bareX 16 _ h.2.1, small_bareS 16 _ h.2.2.1, all_map h.2.2.2 (fun p hp => small_bareX 16 p hp)⟩
theorem likeX_refl : ∀ (n : Nat) (x : XE), inX n x → likeX n x x = true
  | 0, _, h => h.elim
  | n + 1, x, h => by rw [likeX, beq_self_eq_true, beq_self_eq_true, beq_self_eq_true, eqL_refl (fun p hp => likeX_refl n p (h.2 p hp))]; rfl
theorem likeX_bare : ∀ (n : Nat) (x : XE), inX n x → likeX n (bareX n x) x = true
  | 0, _, h => h.elim
  | n + 1, x, h => by
    rw [likeX]
    show ((x.f0 == x.f0) && ((x.f1 == x.f1) && ((x.f2.toList == x.f2.toList) && eqL (likeX n) (x.f3.map (bareX n)) x.f3))) = true
    rw [beq_self_eq_true, beq_self_eq_true, beq_self_eq_true, eqL_map (fun p hp => likeX_bare n p (h.2 p hp))]; rfl
theorem likeS_refl : ∀ (n : Nat) (s : XS), inS n s → likeS n s s = true
  | 0, _, h => h.elim
  | n + 1, s, h => by
    rw [likeS, beq_self_eq_true, beq_self_eq_true, eqL_refl (fun p hp => likeX_refl 16 p (h.2.1 p hp)), eqL_refl (fun p hp => likeS_refl n p (h.2.2.2.1 p hp)), eqL_refl (fun r hr => eqL_refl (fun p hp => likeX_refl 16 p ((h.2.2.2.2.2 r hr).2 p hp)))]; rfl
theorem likeS_bare : ∀ (n : Nat) (s : XS), inS n s → likeS n (bareS n s) s = true
  | 0, _, h => h.elim
  | n + 1, s, h => by
    rw [likeS]
    show ((s.f0 == s.f0) && ((s.f1.toList == s.f1.toList) && (eqL (likeX 16) (s.f2.map (bareX 16)) s.f2 && (eqL (likeS n) (s.f3.map (bareS n)) s.f3 && eqL (eqL (likeX 16)) (s.f4.map (List.map (bareX 16))) s.f4)))) = true
    rw [beq_self_eq_true, beq_self_eq_true, eqL_map (fun p hp => likeX_bare 16 p (h.2.1 p hp)), eqL_map (fun p hp => likeS_bare n p (h.2.2.2.1 p hp)), eqL_map (fun r hr => eqL_map (fun p hp => likeX_bare 16 p ((h.2.2.2.2.2 r hr).2 p hp)))]; rfl
theorem likeI_refl (x : XI) (h : inI x) : likeI x x = true := by
  unfold likeI
  rw [beq_self_eq_true, beq_self_eq_true, likeX_refl 16 _ h.1, likeS_refl 16 _ h.2.1, beq_self_eq_true, eqL_refl (fun p hp => likeX_refl 16 p (h.2.2.2 p hp))]; rfl
theorem likeI_bare (x : XI) (h : inI x) : likeI (bareI x) x = true := by
  show ((x.f0 == x.f0) && ((x.f1.toList == x.f1.toList) && (likeX 16 (bareX 16 x.f2) x.f2 && (likeS 16 (bareS 16 x.f3) x.f3 && ((x.f4 == x.f4) && eqL (likeX 16) (x.f5.map (bareX 16)) x.f5))))) = true
  rw [beq_self_eq_true, beq_self_eq_true, likeX_bare 16 _ h.1, likeS_bare 16 _ h.2.1, beq_self_eq_true, eqL_map (fun p hp => likeX_bare 16 p (h.2.2.2 p hp))]; rfl
theorem xexprs_map {f : XE → Int → Nat × Int} {g : XE → XE} : ∀ (l : List XE) (d : Nat) (left : Int), (∀ p ∈ l, ∀ lf, f (g p) lf = f p lf) → xexprs f (l.map g) d left = xexprs f l d left
  | [], _, _, _ => rfl
  | p :: r, d, left, h => by
    rw [List.map_cons, xexprs, xexprs, h p (.head _), xexprs_map r _ _ (fun q hq => h q (.tail _ hq))]
theorem xlist_map {α : Type} {st : α → Int → Bool × Int} {g : α → α} : ∀ (l : List α) (left : Int), (∀ p ∈ l, ∀ lf, st (g p) lf = st p lf) → xlist st (l.map g) left = xlist st l left
  | [], _, _ => rfl
  | p :: r, left, h => by
    rw [List.map_cons, xlist, xlist, h p (.head _), xlist_map r _ (fun q hq => h q (.tail _ hq))]
theorem parts_bare (n : Nat) (x : XE) : exprParts (bareX n x) = exprParts x := by cases n <;> rfl
theorem xexpr_bare : ∀ (n : Nat) (x : XE) (left : Int), inX n x → xexpr n (bareX n x) left = xexpr n x left
  | 0, _, _, h => h.elim
  | n + 1, x, left, h => by
    rw [xexpr, xexpr, parts_bare]
    show (if left - 1 < 0 then (0, left - 1) else match exprParts x with
      | none => (0, left - 1)
      | some p => if (x.f3.map (bareX n)).length = p then xexprs (xexpr n) (x.f3.map (bareX n)) 0 (left - 1) else (0, left - 1)) = _
    rw [List.length_map, xexprs_map x.f3 0 (left - 1) (fun p hp lf => xexpr_bare n p lf (h.2 p hp))]
    rfl
theorem stE_bare (x : XE) (left : Int) (h : inX 16 x) : stE (bareX 16 x) left = stE x left := by
  unfold stE; rw [xexpr_bare 16 x left h]
theorem stR_bare (r : List XE) (left : Int) (h : ∀ p ∈ r, inX 16 p) : stR (r.map (bareX 16)) left = stR r left := by
  unfold stR; rw [List.length_map, xlist_map r left (fun p hp lf => stE_bare p lf (h p hp))]
theorem xshape_bare : ∀ (n : Nat) (s : XS) (left : Int), inS n s → xshape n (bareS n s) left = xshape n s left
  | 0, _, _, h => h.elim
  | n + 1, s, left, h => by
    have hR : ∀ lf, rowsS (bareS (n + 1) s) lf = rowsS s lf := fun lf => by
      show (if s.f0 = 8 then rowsF (s.f4.map (List.map (bareX 16))) lf else (true, lf)) = rowsS s lf
      unfold rowsS rowsF
      rw [List.length_map, xlist_map s.f4 lf (fun r hr lf => stR_bare r lf (h.2.2.2.2.2 r hr).2)]
    have hA : ∀ lf, xlist stE (bareS (n + 1) s).f2 lf = xlist stE s.f2 lf := fun lf => xlist_map s.f2 lf (fun p hp lf => stE_bare p lf (h.2.1 p hp))
    have hP : ∀ lf, xlist (xshape n) (bareS (n + 1) s).f3 lf = xlist (xshape n) s.f3 lf := fun lf => xlist_map s.f3 lf (fun p hp lf => xshape_bare n p lf (h.2.2.2.1 p hp))
    have hH : headS (bareS (n + 1) s) ↔ headS s := by
      unfold headS
      show (∃ nm a p r, shapeParts s.f0 = some (nm, a, p, r) ∧ nameOk s.f1 = nm ∧ (nm = false → s.f1.size = 0) ∧ (s.f2.map (bareX 16)).length = a ∧ (s.f3.map (bareS n)).length = p ∧ (r = false → (s.f4.map (List.map (bareX 16))).length = 0)) ↔ _
      rw [List.length_map, List.length_map, List.length_map]
    rw [xshape, xshape]
    by_cases h1 : left - 1 < 0
    · rw [if_pos h1, if_pos h1]
    · rw [if_neg h1, if_neg h1]
      by_cases h2 : headS s
      · rw [if_pos h2, if_pos (hH.2 h2)]
        simp only [hR, hA, hP]
      · rw [if_neg h2, if_neg (fun h3 => h2 (hH.1 h3))]
theorem itemF_bare (x : XI) (left : Int) (h : (itemF x left).1 = true) : itemF (bareI x) left = itemF x left := by
  have hi := item_in h
  have hH : headI x ∧ ¬ left - 1 < 0 := by
    unfold itemF at h
    split at h
    · cases h
    · rename_i h1
      split at h
      · rename_i h2; exact ⟨h2, h1⟩
      · cases h
  have hH2 : headI (bareI x) := by
    obtain ⟨nm, v, sh, li, e1, e2, e3, e4, e5, e6, e7, e8⟩ := hH.1
    refine ⟨nm, v, sh, li, e1, e2, e3, e4, fun h => ?_, fun h => ?_, fun h => ?_, fun h => ?_⟩
    · show 1 ≤ (x.f5.map _).length ∧ (x.f5.map _).length ≤ 64
      rw [List.length_map]; exact e5 h
    · show (x.f5.map _).length = 0
      rw [List.length_map]; exact e6 h
    · have h0 := of_decide_eq_true (e7 h)
      refine decide_eq_true ⟨h0.1, h0.2.1, h0.2.2.1, ?_, rfl, rfl⟩
      show (x.f2.f3.map _).length = 0
      rw [List.length_map]; exact h0.2.2.2.1
    · have h0 := of_decide_eq_true (e8 h)
      refine decide_eq_true ⟨h0.1, h0.2.1, ?_, ?_, ?_, rfl, rfl⟩
      · show (x.f3.f2.map _).length = 0
        rw [List.length_map]; exact h0.2.2.1
      · show (x.f3.f3.map _).length = 0
        rw [List.length_map]; exact h0.2.2.2.1
      · show (x.f3.f4.map _).length = 0
        rw [List.length_map]; exact h0.2.2.2.2.1
  have hV : ∀ lf, valI (bareI x) lf = valI x lf := fun lf => by
    show (if hasV x then stE (bareX 16 x.f2) lf else (true, lf)) = valI x lf
    rw [stE_bare _ _ hi.1]; rfl
  have hS : ∀ lf, shI (bareI x) lf = shI x lf := fun lf => by
    show (if x.f0 = 2 then xshape 16 (bareS 16 x.f3) lf else (true, lf)) = shI x lf
    rw [xshape_bare 16 _ _ hi.2.1]; rfl
  have hL : ∀ lf, xlist stE (bareI x).f5 lf = xlist stE x.f5 lf := fun lf => xlist_map x.f5 lf (fun p hp lf => stE_bare p lf (hi.2.2.2 p hp))
  unfold itemF
  rw [if_neg hH.2, if_neg hH.2, if_pos hH.1, if_pos hH2]
  simp only [hV, hS, hL]
theorem items_bare : ∀ (l : List XI) (left : Int), (xlist itemF l left).1 = true → xlist itemF (l.map bareI) left = xlist itemF l left
  | [], _, _ => rfl
  | x :: r, left, h => by
    rw [xlist] at h
    split at h
    · rename_i h1
      rw [List.map_cons, xlist, xlist, itemF_bare x left h1, items_bare r _ h]
    · cases h
theorem may_bare {l : List XI} (h : mayI l = true) : mayI (l.map bareI) = true := by
  unfold mayI at h ⊢
  rw [Bool.and_eq_true] at h
  rw [List.length_map, items_bare l 8192 h.2, h.1, h.2]; rfl
theorem same_refl {l : List XI} (h : mayI l = true) : sameI l l = true := by
  unfold sameI; rw [h, eqL_refl (fun p hp => likeI_refl p (may_in h p hp))]; rfl
theorem like_bare {l : List XI} (h : mayI l = true) : eqL likeI (l.map bareI) l = true := eqL_map (fun p hp => likeI_bare p (may_in h p hp))
theorem same_bare {l : List XI} (h : mayI l = true) : sameI (l.map bareI) l = true := by
  unfold sameI; rw [may_bare h, h, like_bare h]; rfl
theorem H.trC {α : Type} {d : Kd α} {w0 w : World} {bs : List Res} {b e c : Nat} {S : Nat → Prop} {A : Option Addr} {xs : List α} (h : H w0 (tr b d e S (.slice A xs.length c) xs :: bs) w) : Kd.C d w A xs.length xs := by
  obtain ⟨A', c', he, _, hc⟩ := Kd.R_reads (h.own _ (.head _)).1
  injection he with h1
  subst h1; exact hc
end Go.Proofs.YtibaidddhmdafaaDoor.E
end
section
namespace Go.Proofs.YtibaidddhmdafaaDoor.E
open Go Go.RowKit Go.Proofs.YtibaidddhmdafaaDoorW.PrintWords Go.Proofs.YtibaidddhmdafaaDoorW.PrintLast Go.Proofs.YtibaidddhmdafaaDoorW.PrintMore Go.Proofs.YtibaidddhmdafaaDoor.PA
set_option linter.unusedVariables false
set_option linter.unusedSimpArgs false
def LikeOk (n : Nat) : Prop := ∀ (x y : XE) (A B : Option Addr) (c d : Nat) (v0 : World), Kd.C k25 v0 A x.f3.length x.f3 → Kd.C k25 v0 B y.f3.length y.f3 → inX n x → inX n y → Calls Tryd.prog 55 #[.agg #[.int .u8 x.f0, .int .i64 x.f1, .string x.f2, .slice A x.f3.length c, .int .i64 x.f4, .int .i64 x.f5], .agg #[.int .u8 y.f0, .int .i64 y.f1, .string y.f2, .slice B y.f3.length d, .int .i64 y.f4, .int .i64 y.f5]] v0 fun e w' => e = .returned (.bool (likeX n x y)) ∧ Below v0.heap.size v0 w'
def LikesOk (n : Nat) : Prop := ∀ (l m : List XE) (A B : Option Addr) (c d : Nat) (v0 : World), Kd.C k25 v0 A l.length l → Kd.C k25 v0 B m.length m → (∀ p ∈ l, inX n p) → (∀ p ∈ m, inX n p) → Calls Tryd.prog 57 #[.slice A l.length c, .slice B m.length d] v0 fun e w' => e = .returned (.bool (eqL (likeX n) l m)) ∧ Below v0.heap.size v0 w'
set_option maxRecDepth 100000 in
theorem likes_of (n : Nat) (hE : LikeOk n) (l m : List XE) (A B : Option Addr) (c d : Nat) (v0 : World) (hA : Kd.C k25 v0 A l.length l) (hB : Kd.C k25 v0 B m.length m) (hl : ∀ p ∈ l, inX n p) (hm : ∀ p ∈ m, inX n p) :
    Calls Tryd.prog 57 #[.slice A l.length c, .slice B m.length d] v0 fun e w' => e = .returned (.bool (eqL (likeX n) l m)) ∧ Below v0.heap.size v0 w' := by
  refine calls_enter (N := 27) (n := 25) (args := [.slice A l.length c, .slice B m.length d]) Tryd.func57 rfl rfl rfl (H.init v0) (fun a hs => ?_)
  have hcl := C_len hA
  have hcl2 := C_len hB
  refine wp_seq (wp_region_lit ?_)
  refine go hs (pA rfl <| ?_); clear hs a; intro a hs
  refine wpList_nil (then_normal (wp_seq ?_))
  refine wp_seq (wp_region_lit ?_)
  refine go hs (pM rfl <| pV rfl (fun a hs => y_lenL hs Tryd.underlying23 rfl) <| pM rfl <| pV rfl (fun a hs => y_lenL hs Tryd.underlying23 rfl) <| pV rfl (fun a hs => y_cmp hs rfl rfl rfl) <| ?_); clear hs a; intro a hs
  refine wpList_nil (then_normal ?_)
  refine wp_cond_split (hs.ev rfl) (fun h10 => ?_) (fun h10 => ?_)
  · replace h10 := bne_iff_ne.1 h10
    have hX : eqL (likeX n) l m = false := eqL_len (by omega)
    refine wp_seq (wp_region_lit ?_)
    refine go hs (pA rfl <| ?_); clear hs a; intro a hs
    refine wpList_nil (then_normal (wp_ret (then_ret ?_)))
    refine fin_ret hs (.tmp (hs.slots _ _ rfl) .nil) ⟨?_, hs.mem.base⟩
    rw [hX]; rfl
  replace h10 := bne_eq_false_iff_eq.1 h10
  refine wp_skip (then_normal (wp_seq ?_))
  refine wp_seq (wp_region_lit ?_)
  refine go hs (pA rfl <| ?_); clear hs a; intro a hs
  refine wpList_nil (then_normal (wp_block ?_))
  refine wp_loopN (fun mm a w1 => ∃ (i : Nat), (i + mm = l.length) ∧ (eqL (likeX n) (l.drop i) (m.drop i) = eqL (likeX n) l m) ∧ St 27 v0 [(0, .slice A l.length c), (1, .slice B m.length d), (5, .int .i64 ((i : Nat) : Int))] [] a w1) (l.length) ⟨0, by omega, rfl, ?_⟩ (fun mm a w1 hJ => ?_)
  · exact (hs.mem_to hs.mem).cut _ ⟨rfl, rfl, rfl, trivial⟩
  clear hs
  obtain ⟨i, hi, hinv, hs⟩ := hJ
  refine wp_seq (wp_seq ?_)
  refine wp_region_lit (go hs (pM rfl <| pM rfl <| pV rfl (fun a hs => y_lenL hs Tryd.underlying23 rfl) <| pV rfl (fun a hs => y_cmp hs rfl rfl rfl) <| ?_)); clear hs a; intro a hs
  refine wpList_nil (then_normal ?_)
  refine wp_cond_split (hs.ev rfl) (fun h14 => ?_) (fun h14 => ?_)
  · replace h14 := of_decide_eq_true h14
    obtain ⟨p, hp⟩ : ∃ p, l[i]? = some p := ⟨_, List.getElem?_eq_getElem (by omega)⟩
    obtain ⟨q2, hq⟩ : ∃ q, m[i]? = some q := ⟨_, List.getElem?_eq_getElem (by omega)⟩
    obtain ⟨g1, o1, rfl, hcell1⟩ := C_atH (show 0 < 6 by decide) hA (by omega)
    obtain ⟨cs, hK1, hlen1, hc1⟩ := hcell1 i p hp
    obtain ⟨g2, o2, rfl, hcell2⟩ := C_atH (show 0 < 6 by decide) hB (by omega)
    obtain ⟨ds, hK2, hlen2, hc2⟩ := hcell2 i q2 hq
    obtain ⟨A1, c1, rfl, e1, C1⟩ := k25_open hK1
    obtain ⟨B1, d1, rfl, e2, C2⟩ := k25_open hK2
    have hd := eqL_at (likeX n) hp hq
    refine wp_skip (then_normal (wp_seq ?_))
    refine wp_block (wp_seq ?_)
    refine b_enter [] (by kernel_rfl) hs #[false, false, false, false, false, false, false, false, false, false] (by rfl) 10 (by rfl) ?_; clear hs; intro w hs
    refine b_take 0 rfl #[true, false, false, false, false, false, false, false, false, false] rfl (by kernel_rfl) hs ((hs.mem.first 0)) rfl rfl rfl (fun _ _ _ h => h) (y_move hs rfl) ?_; clear hs a; intro a hs
    refine b_take 1 rfl #[true, true, false, false, false, false, false, false, false, false] rfl (by kernel_rfl) hs ((hs.mem.first 0)) rfl rfl rfl (fun _ _ _ h => h) (y_move hs rfl) ?_; clear hs a; intro a hs
    refine b_take 2 rfl #[true, true, true, false, false, false, false, false, false, false] rfl (by kernel_rfl) hs ((hs.mem.first 0)) rfl rfl rfl (fun _ _ _ h => h) (y_idxB (size := 6) (off := o1 + i * 6) hs Tryd.underlying23 (by kernel_rfl) rfl rfl (by omega) (by omega) (by simp)) ?_; clear hs a; intro a hs
    refine b_take 3 rfl #[true, true, true, true, false, false, false, false, false, false] rfl (by kernel_rfl) hs ((hs.mem.first 0)) rfl rfl rfl (fun _ _ _ h => h) (y_loadAgg (vs := [.int .u8 p.f0, .int .i64 p.f1, .string p.f2, .slice A1 p.f3.length c1, .int .i64 p.f4, .int .i64 p.f5]) hs Tryd.underlying24 rfl (by kernel_rfl) rfl (fun w hw k v hk => hc1 w hw.base k v hk)) ?_; clear hs a; intro a hs
    refine b_take 4 rfl #[true, true, true, true, true, false, false, false, false, false] rfl (by kernel_rfl) hs ((hs.mem.first 0)) rfl rfl rfl (fun _ _ _ h => h) (y_move hs rfl) ?_; clear hs a; intro a hs
    refine b_take 5 rfl #[true, true, true, true, true, true, false, false, false, false] rfl (by kernel_rfl) hs ((hs.mem.first 0)) rfl rfl rfl (fun _ _ _ h => h) (y_move hs rfl) ?_; clear hs a; intro a hs
    refine b_take 6 rfl #[true, true, true, true, true, true, true, false, false, false] rfl (by kernel_rfl) hs ((hs.mem.first 0)) rfl rfl rfl (fun _ _ _ h => h) (y_idxB (size := 6) (off := o2 + i * 6) hs Tryd.underlying23 (by kernel_rfl) rfl rfl (by omega) (by omega) (by simp)) ?_; clear hs a; intro a hs
    refine b_take 7 rfl #[true, true, true, true, true, true, true, true, false, false] rfl (by kernel_rfl) hs ((hs.mem.first 0)) rfl rfl rfl (fun _ _ _ h => h) (y_loadAgg (vs := [.int .u8 q2.f0, .int .i64 q2.f1, .string q2.f2, .slice B1 q2.f3.length d1, .int .i64 q2.f4, .int .i64 q2.f5]) hs Tryd.underlying24 rfl (by kernel_rfl) rfl (fun w hw k v hk => hc2 w hw.base k v hk)) ?_; clear hs a; intro a hs
    refine b_eff 8 (by kernel_rfl) rfl #[true, true, true, true, true, true, true, true, true, false] rfl hs rfl (e_callB Tryd.func55 rfl rfl hs rfl rfl (hE p q2 A1 B1 c1 d1 _ (Kd.C_below C1 hs.mem.base) (Kd.C_below C2 hs.mem.base) (hl p (List.mem_of_getElem? hp)) (hm q2 (List.mem_of_getElem? hq))) ?_); clear hs a; intro a w hs
    refine ⟨(hs.mem.first 0), ?_⟩
    refine b_take 9 rfl #[true, true, true, true, true, true, true, true, true, true] rfl (by kernel_rfl) hs ((hs.mem.first 0)) rfl rfl rfl (fun _ _ _ h => h) (y_not hs rfl) ?_; clear hs a; intro a hs
    refine b_done (by kernel_rfl) (then_normal ?_)
    refine wp_cond_split (hs.ev rfl) (fun h26 => ?_) (fun h26 => ?_)
    · replace h26 := (not_t h26)
      have hX : eqL (likeX n) l m = false := by rw [← hinv, hd, h26, Bool.false_and]
      refine wp_seq (wp_region_lit ?_)
      refine go hs (pA rfl <| ?_); clear hs a; intro a hs
      refine wpList_nil (then_normal (wp_ret (in_ret (then_ret (then_ret (in_ret (then_ret ?_)))))))
      refine fin_ret hs (.tmp (hs.slots _ _ rfl) .nil) ⟨?_, hs.mem.base⟩
      rw [hX]; rfl
    replace h26 := (not_f h26)
    have hn := hinv
    rw [hd, h26, Bool.true_and] at hn
    refine wp_skip (in_normal (then_normal (wp_region_lit ?_)))
    refine go hs (pM rfl <| pV rfl (fun a hs => y_add hs rfl rfl (by omega)) <| pA rfl <| ?_); clear hs a; intro a hs
    refine wpList_nil (then_normal ?_)
    refine ⟨mm - 1, by omega, i + 1, by omega, hn, ?_⟩
    exact (hs.mem_to hs.mem).cut _ ⟨rfl, rfl, rfl, trivial⟩
  replace h14 := of_decide_eq_false h14
  have hX : eqL (likeX n) l m = true := by rw [← hinv, List.drop_eq_nil_of_le (by omega), List.drop_eq_nil_of_le (by omega)]; rfl
  refine wp_exit (then_exit (then_exit (in_here (then_normal (wp_seq ?_)))))
  refine wp_region_lit (go hs (pA rfl <| ?_)); clear hs a; intro a hs
  refine wpList_nil (then_normal (wp_ret ?_))
  refine fin_ret hs (.tmp (hs.slots _ _ rfl) .nil) ⟨?_, hs.mem.base⟩
  rw [hX]; rfl
set_option maxRecDepth 100000 in
theorem ref_like_step (n : Nat) (hn : n ≤ 1000) (ih : ∀ q, q + 1 = n → LikeOk q) (x y : XE) (A B : Option Addr) (c d : Nat) (v0 : World) (hA : Kd.C k25 v0 A x.f3.length x.f3) (hB : Kd.C k25 v0 B y.f3.length y.f3) (hx : inX n x) (hy : inX n y) :
    Calls Tryd.prog 55 #[.agg #[.int .u8 x.f0, .int .i64 x.f1, .string x.f2, .slice A x.f3.length c, .int .i64 x.f4, .int .i64 x.f5], .agg #[.int .u8 y.f0, .int .i64 y.f1, .string y.f2, .slice B y.f3.length d, .int .i64 y.f4, .int .i64 y.f5]] v0 fun e w' => e = .returned (.bool (likeX n x y)) ∧ Below v0.heap.size v0 w' := by
  refine calls_enter (N := 31) (n := 29) (args := [.agg #[.int .u8 x.f0, .int .i64 x.f1, .string x.f2, .slice A x.f3.length c, .int .i64 x.f4, .int .i64 x.f5], .agg #[.int .u8 y.f0, .int .i64 y.f1, .string y.f2, .slice B y.f3.length d, .int .i64 y.f4, .int .i64 y.f5]]) Tryd.func55 rfl rfl rfl (H.init v0) (fun a hs => ?_)
  obtain ⟨q, rfl⟩ : ∃ q, n = q + 1 := by cases n with | zero => exact hx.elim | succ q => exact ⟨q, rfl⟩
  refine wp_seq (wp_region_lit ?_)
  refine a_eff rfl (e_box (cs := #[_, _, _, _, _, _]) hs rfl rfl rfl ?_); clear hs a; intro gx a w hs
  refine a_eff rfl (e_box (cs := #[_, _, _, _, _, _]) hs rfl rfl rfl ?_); clear hs a; intro gy a w hs
  refine go hs (pA rfl <| ?_); clear hs a; intro a hs
  refine wpList_nil (then_normal (wp_seq ?_))
  refine wp_region_lit (go hs (pV rfl (fun a hs => y_faddr (k' := 0) 0 hs (by kernel_rfl) rfl rfl) <| pV rfl (fun a hs => y_load hs Tryd.underlying22 rfl rfl (fun w hw => (hw.to 1 rfl).cellV rfl)) <| pV rfl (fun a hs => y_faddr (k' := 0) 0 hs (by kernel_rfl) rfl rfl) <| pV rfl (fun a hs => y_load hs Tryd.underlying22 rfl rfl (fun w hw => (hw.to 0 rfl).cellV rfl)) <| pV rfl (fun a hs => y_cmp hs rfl rfl rfl) <| pM rfl <| ?_)); clear hs a; intro a hs
  rcases hs.know (d := 10) rfl with ⟨h10, hs1⟩ | ⟨h10, hs1⟩ <;> replace hs := hs1 <;> clear hs1
  · replace h10 := eq_of_beq h10
    refine go hs (pG rfl (fun a hs => y_faddr (k' := 1) 1 hs (by kernel_rfl) rfl rfl) <| pG rfl (fun a hs => y_load hs Tryd.underlying3 rfl rfl (fun w hw => (hw.to 1 rfl).cellV rfl)) <| pG rfl (fun a hs => y_faddr (k' := 1) 1 hs (by kernel_rfl) rfl rfl) <| pG rfl (fun a hs => y_load hs Tryd.underlying3 rfl rfl (fun w hw => (hw.to 0 rfl).cellV rfl)) <| pG rfl (fun a hs => y_cmp hs rfl rfl rfl) <| pT rfl rfl <| pM rfl <| ?_); clear hs a; intro a hs
    rcases hs.know (d := 17) rfl with ⟨h17, hs1⟩ | ⟨h17, hs1⟩ <;> replace hs := hs1 <;> clear hs1
    · replace h17 := eq_of_beq h17
      refine go hs (pG rfl (fun a hs => y_faddr (k' := 2) 2 hs (by kernel_rfl) rfl rfl) <| pG rfl (fun a hs => y_load hs Tryd.underlying9 rfl rfl (fun w hw => (hw.to 1 rfl).cellV rfl)) <| pG rfl (fun a hs => y_faddr (k' := 2) 2 hs (by kernel_rfl) rfl rfl) <| pG rfl (fun a hs => y_load hs Tryd.underlying9 rfl rfl (fun w hw => (hw.to 0 rfl).cellV rfl)) <| pG rfl (fun a hs => y_seq hs rfl rfl) <| pT rfl rfl <| pM rfl <| ?_); clear hs a; intro a hs
      rcases hs.know (d := 24) rfl with ⟨h24, hs1⟩ | ⟨h24, hs1⟩ <;> replace hs := hs1 <;> clear hs1
      · replace h24 := eq_of_beq h24
        refine go hs (pG rfl (fun a hs => y_faddr (k' := 3) 3 hs (by kernel_rfl) rfl rfl) <| pG rfl (fun a hs => y_load hs Tryd.underlying23 rfl rfl (fun w hw => (hw.to 1 rfl).cellV rfl)) <| pG rfl (fun a hs => y_faddr (k' := 3) 3 hs (by kernel_rfl) rfl rfl) <| pG rfl (fun a hs => y_load hs Tryd.underlying23 rfl rfl (fun w hw => (hw.to 0 rfl).cellV rfl)) <| ?_); clear hs a; intro a hs
        refine a_effG hs rfl (e_callB Tryd.func57 rfl rfl hs rfl rfl (likes_of q (ih q rfl) x.f3 y.f3 A B c d _ (Kd.C_below hA hs.mem.base) (Kd.C_below hB hs.mem.base) hx.2 hy.2) ?_); clear hs a; intro a w hs
        refine go hs (pT rfl rfl <| pA rfl <| ?_); clear hs a; intro a hs
        refine wpList_nil (then_normal (wp_ret ?_))
        have hX : likeX (q + 1) x y = eqL (likeX q) x.f3 y.f3 := by rw [likeX]; rw [(beq_iff_eq.2 h10), Bool.true_and, (beq_iff_eq.2 h17), Bool.true_and, (beq_iff_eq.2 h24), Bool.true_and]
        refine fin_ret hs (.tmp (hs.slots _ _ rfl) .nil) ⟨?_, hs.mem.base⟩
        rw [hX]; rfl
      replace h24 := ne_of_beq_false h24
      refine go hs (pS rfl <| pS rfl <| pS rfl <| pS rfl <| pS rfl <| pF rfl rfl <| pA rfl <| ?_); clear hs a; intro a hs
      refine wpList_nil (then_normal (wp_ret ?_))
      have hX : likeX (q + 1) x y = false := by rw [likeX]; rw [(beq_eq_false_iff_ne.2 h24)]; simp only [Bool.false_and, Bool.and_false]
      refine fin_ret hs (.tmp (hs.slots _ _ rfl) .nil) ⟨?_, hs.mem.base⟩
      rw [hX]; rfl
    replace h17 := ne_of_beq_false h17
    refine go hs (pS rfl <| pS rfl <| pS rfl <| pS rfl <| pS rfl <| pF rfl rfl <| pM rfl <| pS rfl <| pS rfl <| pS rfl <| pS rfl <| pS rfl <| pF rfl rfl <| pA rfl <| ?_); clear hs a; intro a hs
    refine wpList_nil (then_normal (wp_ret ?_))
    have hX : likeX (q + 1) x y = false := by rw [likeX]; rw [(beq_eq_false_iff_ne.2 h17)]; simp only [Bool.false_and, Bool.and_false]
    refine fin_ret hs (.tmp (hs.slots _ _ rfl) .nil) ⟨?_, hs.mem.base⟩
    rw [hX]; rfl
  replace h10 := ne_of_beq_false h10
  refine go hs (pS rfl <| pS rfl <| pS rfl <| pS rfl <| pS rfl <| pF rfl rfl <| pM rfl <| pS rfl <| pS rfl <| pS rfl <| pS rfl <| pS rfl <| pF rfl rfl <| pM rfl <| pS rfl <| pS rfl <| pS rfl <| pS rfl <| pS rfl <| pF rfl rfl <| pA rfl <| ?_); clear hs a; intro a hs
  refine wpList_nil (then_normal (wp_ret ?_))
  have hX : likeX (q + 1) x y = false := by rw [likeX]; rw [(beq_eq_false_iff_ne.2 h10)]; simp only [Bool.false_and, Bool.and_false]
  refine fin_ret hs (.tmp (hs.slots _ _ rfl) .nil) ⟨?_, hs.mem.base⟩
  rw [hX]; rfl
theorem ref_like : ∀ n : Nat, n ≤ 1000 → LikeOk n := fun n => by
  induction n using Nat.strongRecOn with
  | _ n ih => exact fun hn x y A B c d v0 hA hB hx hy => ref_like_step n hn (fun q hq => ih q (by omega) (by omega)) x y A B c d v0 hA hB hx hy
theorem ref_likes (n : Nat) (hn : n ≤ 1000) : LikesOk n := fun l m A B c d v0 hA hB hl hm => likes_of n (ref_like n hn) l m A B c d v0 hA hB hl hm
def LikeSOk (n : Nat) : Prop := ∀ (x y : XS) (A2 A3 A4 B2 B3 B4 : Option Addr) (c2 c3 c4 d2 d3 d4 : Nat) (v0 : World), Kd.C k25 v0 A2 x.f2.length x.f2 → Kd.C k42 v0 A3 x.f3.length x.f3 → Kd.C (Kd.slice 25 k25) v0 A4 x.f4.length x.f4 → Kd.C k25 v0 B2 y.f2.length y.f2 → Kd.C k42 v0 B3 y.f3.length y.f3 → Kd.C (Kd.slice 25 k25) v0 B4 y.f4.length y.f4 → inS n x → inS n y → Calls Tryd.prog 56 #[.agg #[.int .u8 x.f0, .string x.f1, .slice A2 x.f2.length c2, .slice A3 x.f3.length c3, .slice A4 x.f4.length c4, .int .i64 x.f5, .int .i64 x.f6], .agg #[.int .u8 y.f0, .string y.f1, .slice B2 y.f2.length d2, .slice B3 y.f3.length d3, .slice B4 y.f4.length d4, .int .i64 y.f5, .int .i64 y.f6]] v0 fun e w' => e = .returned (.bool (likeS n x y)) ∧ Below v0.heap.size v0 w'
set_option maxRecDepth 100000 in
theorem ref_likeS_step (n : Nat) (hn : n ≤ 1000) (ih : ∀ q, q + 1 = n → LikeSOk q) (x y : XS) (A2 A3 A4 B2 B3 B4 : Option Addr) (c2 c3 c4 d2 d3 d4 : Nat) (v0 : World) (hA2 : Kd.C k25 v0 A2 x.f2.length x.f2) (hA3 : Kd.C k42 v0 A3 x.f3.length x.f3) (hA4 : Kd.C (Kd.slice 25 k25) v0 A4 x.f4.length x.f4) (hB2 : Kd.C k25 v0 B2 y.f2.length y.f2) (hB3 : Kd.C k42 v0 B3 y.f3.length y.f3) (hB4 : Kd.C (Kd.slice 25 k25) v0 B4 y.f4.length y.f4) (hx : inS n x) (hy : inS n y) :
    Calls Tryd.prog 56 #[.agg #[.int .u8 x.f0, .string x.f1, .slice A2 x.f2.length c2, .slice A3 x.f3.length c3, .slice A4 x.f4.length c4, .int .i64 x.f5, .int .i64 x.f6], .agg #[.int .u8 y.f0, .string y.f1, .slice B2 y.f2.length d2, .slice B3 y.f3.length d3, .slice B4 y.f4.length d4, .int .i64 y.f5, .int .i64 y.f6]] v0 fun e w' => e = .returned (.bool (likeS n x y)) ∧ Below v0.heap.size v0 w' := by
  refine calls_enter (N := 83) (n := 81) (args := [.agg #[.int .u8 x.f0, .string x.f1, .slice A2 x.f2.length c2, .slice A3 x.f3.length c3, .slice A4 x.f4.length c4, .int .i64 x.f5, .int .i64 x.f6], .agg #[.int .u8 y.f0, .string y.f1, .slice B2 y.f2.length d2, .slice B3 y.f3.length d3, .slice B4 y.f4.length d4, .int .i64 y.f5, .int .i64 y.f6]]) Tryd.func56 rfl rfl rfl (H.init v0) (fun a hs => ?_)
  obtain ⟨q, rfl⟩ : ∃ q, n = q + 1 := by cases n with | zero => exact hx.elim | succ q => exact ⟨q, rfl⟩
  have hcl3 := C_len hA3
  have hcl4 := C_len hA4
  have hdl3 := C_len hB3
  have hdl4 := C_len hB4
  refine wp_seq (wp_region_lit ?_)
  refine a_eff rfl (e_box (cs := #[_, _, _, _, _, _, _]) hs rfl rfl rfl ?_); clear hs a; intro gx a w hs
  refine a_eff rfl (e_box (cs := #[_, _, _, _, _, _, _]) hs rfl rfl rfl ?_); clear hs a; intro gy a w hs
  refine go hs (pA rfl <| ?_); clear hs a; intro a hs
  refine wpList_nil (then_normal (wp_seq ?_))
  refine wp_seq (wp_region_lit ?_)
  refine go hs (pV rfl (fun a hs => y_faddr (k' := 0) 0 hs (by kernel_rfl) rfl rfl) <| pV rfl (fun a hs => y_load hs Tryd.underlying38 rfl rfl (fun w hw => (hw.to 1 rfl).cellV rfl)) <| pV rfl (fun a hs => y_faddr (k' := 0) 0 hs (by kernel_rfl) rfl rfl) <| pV rfl (fun a hs => y_load hs Tryd.underlying38 rfl rfl (fun w hw => (hw.to 0 rfl).cellV rfl)) <| pV rfl (fun a hs => y_cmp hs rfl rfl rfl) <| pM rfl <| ?_); clear hs a; intro a hs
  rcases hs.know (d := 12) rfl with ⟨h12, hs1⟩ | ⟨h12, hs1⟩ <;> replace hs := hs1 <;> clear hs1
  · replace h12 := bne_iff_ne.1 h12
    refine go hs (pS rfl <| pS rfl <| pS rfl <| pS rfl <| pS rfl <| pT rfl rfl <| pM rfl <| pS rfl <| pS rfl <| pS rfl <| pS rfl <| pS rfl <| pS rfl <| pT rfl rfl <| pM rfl <| pS rfl <| pS rfl <| pS rfl <| pS rfl <| pS rfl <| pS rfl <| pS rfl <| pT rfl rfl <| pM rfl <| pS rfl <| pS rfl <| pS rfl <| pS rfl <| pS rfl <| pS rfl <| pS rfl <| pT rfl rfl <| ?_); clear hs a; intro a hs
    refine wpList_nil (then_normal ?_)
    refine wp_cond_true (hs.ev rfl) ?_
    refine wp_seq (wp_region_lit ?_)
    refine go hs (pA rfl <| ?_); clear hs a; intro a hs
    refine wpList_nil (then_normal (wp_ret (then_ret ?_)))
    have hX : likeS (q + 1) x y = false := by rw [likeS]; rw [(beq_eq_false_iff_ne.2 h12)]; simp only [Bool.false_and, Bool.and_false]
    refine fin_ret hs (.tmp (hs.slots _ _ rfl) .nil) ⟨?_, hs.mem.base⟩
    rw [hX]; rfl
  replace h12 := bne_eq_false_iff_eq.1 h12
  refine go hs (pG rfl (fun a hs => y_faddr (k' := 1) 1 hs (by kernel_rfl) rfl rfl) <| pG rfl (fun a hs => y_load hs Tryd.underlying9 rfl rfl (fun w hw => (hw.to 1 rfl).cellV rfl)) <| pG rfl (fun a hs => y_faddr (k' := 1) 1 hs (by kernel_rfl) rfl rfl) <| pG rfl (fun a hs => y_load hs Tryd.underlying9 rfl rfl (fun w hw => (hw.to 0 rfl).cellV rfl)) <| pG rfl (fun a hs => y_sne hs rfl rfl) <| pF rfl rfl <| pM rfl <| ?_); clear hs a; intro a hs
  rcases hs.know (d := 19) rfl with ⟨h19, hs1⟩ | ⟨h19, hs1⟩ <;> replace hs := hs1 <;> clear hs1
  · replace h19 := ne_of_beq_false (not_t h19)
    refine go hs (pS rfl <| pS rfl <| pS rfl <| pS rfl <| pS rfl <| pS rfl <| pT rfl rfl <| pM rfl <| pS rfl <| pS rfl <| pS rfl <| pS rfl <| pS rfl <| pS rfl <| pS rfl <| pT rfl rfl <| pM rfl <| pS rfl <| pS rfl <| pS rfl <| pS rfl <| pS rfl <| pS rfl <| pS rfl <| pT rfl rfl <| ?_); clear hs a; intro a hs
    refine wpList_nil (then_normal ?_)
    refine wp_cond_true (hs.ev rfl) ?_
    refine wp_seq (wp_region_lit ?_)
    refine go hs (pA rfl <| ?_); clear hs a; intro a hs
    refine wpList_nil (then_normal (wp_ret (then_ret ?_)))
    have hX : likeS (q + 1) x y = false := by rw [likeS]; rw [(beq_eq_false_iff_ne.2 h19)]; simp only [Bool.false_and, Bool.and_false]
    refine fin_ret hs (.tmp (hs.slots _ _ rfl) .nil) ⟨?_, hs.mem.base⟩
    rw [hX]; rfl
  replace h19 := eq_of_beq (not_f h19)
  refine go hs (pG rfl (fun a hs => y_faddr (k' := 2) 2 hs (by kernel_rfl) rfl rfl) <| pG rfl (fun a hs => y_load hs Tryd.underlying23 rfl rfl (fun w hw => (hw.to 1 rfl).cellV rfl)) <| pG rfl (fun a hs => y_faddr (k' := 2) 2 hs (by kernel_rfl) rfl rfl) <| pG rfl (fun a hs => y_load hs Tryd.underlying23 rfl rfl (fun w hw => (hw.to 0 rfl).cellV rfl)) <| ?_); clear hs a; intro a hs
  refine a_effG hs rfl (e_callB Tryd.func57 rfl rfl hs rfl rfl (ref_likes 16 (by decide) x.f2 y.f2 A2 B2 c2 d2 _ (Kd.C_below hA2 hs.mem.base) (Kd.C_below hB2 hs.mem.base) hx.2.1 hy.2.1) ?_); clear hs a; intro a w hs
  refine go hs (pG rfl (fun a hs => y_not hs rfl) <| pF rfl rfl <| pM rfl <| ?_); clear hs a; intro a hs
  rcases hs.know (d := 27) rfl with ⟨h27, hs1⟩ | ⟨h27, hs1⟩ <;> replace hs := hs1 <;> clear hs1
  · replace h27 := (not_t h27)
    refine go hs (pS rfl <| pS rfl <| pS rfl <| pS rfl <| pS rfl <| pS rfl <| pS rfl <| pT rfl rfl <| pM rfl <| pS rfl <| pS rfl <| pS rfl <| pS rfl <| pS rfl <| pS rfl <| pS rfl <| pT rfl rfl <| ?_); clear hs a; intro a hs
    refine wpList_nil (then_normal ?_)
    refine wp_cond_true (hs.ev rfl) ?_
    refine wp_seq (wp_region_lit ?_)
    refine go hs (pA rfl <| ?_); clear hs a; intro a hs
    refine wpList_nil (then_normal (wp_ret (then_ret ?_)))
    have hX : likeS (q + 1) x y = false := by rw [likeS]; rw [h27]; simp only [Bool.false_and, Bool.and_false]
    refine fin_ret hs (.tmp (hs.slots _ _ rfl) .nil) ⟨?_, hs.mem.base⟩
    rw [hX]; rfl
  replace h27 := (not_f h27)
  refine go hs (pG rfl (fun a hs => y_faddr (k' := 3) 3 hs (by kernel_rfl) rfl rfl) <| pG rfl (fun a hs => y_load hs Tryd.underlying39 rfl rfl (fun w hw => (hw.to 1 rfl).cellV rfl)) <| pG rfl (fun a hs => y_lenL hs Tryd.underlying39 rfl) <| pG rfl (fun a hs => y_faddr (k' := 3) 3 hs (by kernel_rfl) rfl rfl) <| pG rfl (fun a hs => y_load hs Tryd.underlying39 rfl rfl (fun w hw => (hw.to 0 rfl).cellV rfl)) <| pG rfl (fun a hs => y_lenL hs Tryd.underlying39 rfl) <| pG rfl (fun a hs => y_cmp hs rfl rfl rfl) <| pF rfl rfl <| pM rfl <| ?_); clear hs a; intro a hs
  rcases hs.know (d := 36) rfl with ⟨h36, hs1⟩ | ⟨h36, hs1⟩ <;> replace hs := hs1 <;> clear hs1
  · replace h36 := bne_iff_ne.1 h36
    have hP : eqL (likeS q) x.f3 y.f3 = false := eqL_len (by omega)
    refine go hs (pS rfl <| pS rfl <| pS rfl <| pS rfl <| pS rfl <| pS rfl <| pS rfl <| pT rfl rfl <| ?_); clear hs a; intro a hs
    refine wpList_nil (then_normal ?_)
    refine wp_cond_true (hs.ev rfl) ?_
    refine wp_seq (wp_region_lit ?_)
    refine go hs (pA rfl <| ?_); clear hs a; intro a hs
    refine wpList_nil (then_normal (wp_ret (then_ret ?_)))
    have hX : likeS (q + 1) x y = false := by rw [likeS]; rw [hP]; simp only [Bool.false_and, Bool.and_false]
    refine fin_ret hs (.tmp (hs.slots _ _ rfl) .nil) ⟨?_, hs.mem.base⟩
    rw [hX]; rfl
  replace h36 := bne_eq_false_iff_eq.1 h36
  refine go hs (pG rfl (fun a hs => y_faddr (k' := 4) 4 hs (by kernel_rfl) rfl rfl) <| pG rfl (fun a hs => y_load hs Tryd.underlying40 rfl rfl (fun w hw => (hw.to 1 rfl).cellV rfl)) <| pG rfl (fun a hs => y_lenL hs Tryd.underlying40 rfl) <| pG rfl (fun a hs => y_faddr (k' := 4) 4 hs (by kernel_rfl) rfl rfl) <| pG rfl (fun a hs => y_load hs Tryd.underlying40 rfl rfl (fun w hw => (hw.to 0 rfl).cellV rfl)) <| pG rfl (fun a hs => y_lenL hs Tryd.underlying40 rfl) <| pG rfl (fun a hs => y_cmp hs rfl rfl rfl) <| pF rfl rfl <| ?_); clear hs a; intro a hs
  refine wpList_nil (then_normal ?_)
  refine wp_cond_split (hs.ev rfl) (fun h44 => ?_) (fun h44 => ?_)
  · replace h44 := bne_iff_ne.1 h44
    have hR : eqL (eqL (likeX 16)) x.f4 y.f4 = false := eqL_len (by omega)
    refine wp_seq (wp_region_lit ?_)
    refine go hs (pA rfl <| ?_); clear hs a; intro a hs
    refine wpList_nil (then_normal (wp_ret (then_ret ?_)))
    have hX : likeS (q + 1) x y = false := by rw [likeS]; rw [hR]; simp only [Bool.false_and, Bool.and_false]
    refine fin_ret hs (.tmp (hs.slots _ _ rfl) .nil) ⟨?_, hs.mem.base⟩
    rw [hX]; rfl
  replace h44 := bne_eq_false_iff_eq.1 h44
  refine wp_skip (then_normal (wp_seq ?_))
  refine wp_seq (wp_region_lit ?_)
  refine go hs (pA rfl <| ?_); clear hs a; intro a hs
  refine wpList_nil (then_normal (wp_block ?_))
  refine wp_loopN (fun mm a w1 => ∃ (i : Nat), (i + mm = x.f3.length) ∧ (eqL (likeS q) (x.f3.drop i) (y.f3.drop i) = eqL (likeS q) x.f3 y.f3) ∧ St 83 v0 [(2, .pointer (some ⟨gx, 0, none⟩)), (3, .pointer (some ⟨gy, 0, none⟩)), (5, .int .i64 ((i : Nat) : Int))] [pt gx #[.int .u8 x.f0, .string x.f1, .slice A2 x.f2.length c2, .slice A3 x.f3.length c3, .slice A4 x.f4.length c4, .int .i64 x.f5, .int .i64 x.f6] 42, pt gy #[.int .u8 y.f0, .string y.f1, .slice B2 y.f2.length d2, .slice B3 y.f3.length d3, .slice B4 y.f4.length d4, .int .i64 y.f5, .int .i64 y.f6] 42] a w1) (x.f3.length) ⟨0, by omega, rfl, ?_⟩ (fun mm a w1 hJ => ?_)
  · exact (hs.mem_to (hs.mem.to 1 rfl)).cut _ ⟨rfl, rfl, rfl, trivial⟩
  clear hs
  obtain ⟨i, hi, hinv, hs⟩ := hJ
  refine wp_seq (wp_seq ?_)
  refine wp_region_lit (go hs (pM rfl <| pV rfl (fun a hs => y_faddr (k' := 3) 3 hs (by kernel_rfl) rfl rfl) <| pV rfl (fun a hs => y_load hs Tryd.underlying39 rfl rfl (fun w hw => (hw.to 0 rfl).cellV rfl)) <| pV rfl (fun a hs => y_lenL hs Tryd.underlying39 rfl) <| pV rfl (fun a hs => y_cmp hs rfl rfl rfl) <| ?_)); clear hs a; intro a hs
  refine wpList_nil (then_normal ?_)
  refine wp_cond_split (hs.ev rfl) (fun h49 => ?_) (fun h49 => ?_)
  · replace h49 := of_decide_eq_true h49
    obtain ⟨p, hp⟩ : ∃ p, x.f3[i]? = some p := ⟨_, List.getElem?_eq_getElem (by omega)⟩
    obtain ⟨q2, hq⟩ : ∃ q, y.f3[i]? = some q := ⟨_, List.getElem?_eq_getElem (by omega)⟩
    obtain ⟨g1, o1, rfl, hcell1⟩ := C_atH (show 0 < 7 by decide) hA3 (by omega)
    obtain ⟨cs, hK1, hlen1, hc1⟩ := hcell1 i p hp
    obtain ⟨g2, o2, rfl, hcell2⟩ := C_atH (show 0 < 7 by decide) hB3 (by omega)
    obtain ⟨ds, hK2, hlen2, hc2⟩ := hcell2 i q2 hq
    obtain ⟨P2, e2, P3, e3, P4, e4, rfl, i2, G2, i3, G3, i4, G4⟩ := k42_open hK1
    obtain ⟨Q2, f2, Q3, f3, Q4, f4, rfl, j2, J2, j3, J3, j4, J4⟩ := k42_open hK2
    have hd := eqL_at (likeS q) hp hq
    refine wp_skip (then_normal (wp_seq ?_))
    refine wp_block (wp_seq ?_)
    refine b_enter [0, 1] (by kernel_rfl) hs #[false, false, false, false, false, false, false, false, false, false, false, false] (by rfl) 12 (by rfl) ?_; clear hs; intro w hs
    refine b_take 0 rfl #[true, false, false, false, false, false, false, false, false, false, false, false] rfl (by kernel_rfl) hs ((((hs.mem.to 1 rfl).to 1 rfl).first 2)) rfl rfl rfl (fun _ _ _ h => h) (y_faddr (k' := 3) 3 hs (by kernel_rfl) rfl rfl) ?_; clear hs a; intro a hs
    refine b_take 1 rfl #[true, true, false, false, false, false, false, false, false, false, false, false] rfl (by kernel_rfl) hs ((((hs.mem.to 1 rfl).to 1 rfl).first 2)) rfl rfl rfl (fun _ _ _ h => h) (y_load hs Tryd.underlying39 rfl rfl (fun w hw => (hw.to 0 rfl).cellV rfl)) ?_; clear hs a; intro a hs
    refine b_take 2 rfl #[true, true, true, false, false, false, false, false, false, false, false, false] rfl (by kernel_rfl) hs ((((hs.mem.to 1 rfl).to 1 rfl).first 2)) rfl rfl rfl (fun _ _ _ h => h) (y_move hs rfl) ?_; clear hs a; intro a hs
    refine b_take 3 rfl #[true, true, true, true, false, false, false, false, false, false, false, false] rfl (by kernel_rfl) hs ((((hs.mem.to 1 rfl).to 1 rfl).first 2)) rfl rfl rfl (fun _ _ _ h => h) (y_idxB (size := 7) (off := o1 + i * 7) hs Tryd.underlying39 (by kernel_rfl) rfl rfl (by omega) (by omega) (by simp)) ?_; clear hs a; intro a hs
    refine b_take 4 rfl #[true, true, true, true, true, false, false, false, false, false, false, false] rfl (by kernel_rfl) hs ((((hs.mem.to 1 rfl).to 1 rfl).first 2)) rfl rfl rfl (fun _ _ _ h => h) (y_loadAgg (vs := [.int .u8 p.f0, .string p.f1, .slice P2 p.f2.length e2, .slice P3 p.f3.length e3, .slice P4 p.f4.length e4, .int .i64 p.f5, .int .i64 p.f6]) hs Tryd.underlying41 rfl (by kernel_rfl) rfl (fun w hw k v hk => hc1 w hw.base k v hk)) ?_; clear hs a; intro a hs
    refine b_take 5 rfl #[true, true, true, true, true, true, false, false, false, false, false, false] rfl (by kernel_rfl) hs ((((hs.mem.to 1 rfl).to 1 rfl).first 2)) rfl rfl rfl (fun _ _ _ h => h) (y_faddr (k' := 3) 3 hs (by kernel_rfl) rfl rfl) ?_; clear hs a; intro a hs
    refine b_take 6 rfl #[true, true, true, true, true, true, true, false, false, false, false, false] rfl (by kernel_rfl) hs ((((hs.mem.to 1 rfl).to 1 rfl).first 2)) rfl rfl rfl (fun _ _ _ h => h) (y_load hs Tryd.underlying39 rfl rfl (fun w hw => (hw.to 1 rfl).cellV rfl)) ?_; clear hs a; intro a hs
    refine b_take 7 rfl #[true, true, true, true, true, true, true, true, false, false, false, false] rfl (by kernel_rfl) hs ((((hs.mem.to 1 rfl).to 1 rfl).first 2)) rfl rfl rfl (fun _ _ _ h => h) (y_move hs rfl) ?_; clear hs a; intro a hs
    refine b_take 8 rfl #[true, true, true, true, true, true, true, true, true, false, false, false] rfl (by kernel_rfl) hs ((((hs.mem.to 1 rfl).to 1 rfl).first 2)) rfl rfl rfl (fun _ _ _ h => h) (y_idxB (size := 7) (off := o2 + i * 7) hs Tryd.underlying39 (by kernel_rfl) rfl rfl (by omega) (by omega) (by simp)) ?_; clear hs a; intro a hs
    refine b_take 9 rfl #[true, true, true, true, true, true, true, true, true, true, false, false] rfl (by kernel_rfl) hs ((((hs.mem.to 1 rfl).to 1 rfl).first 2)) rfl rfl rfl (fun _ _ _ h => h) (y_loadAgg (vs := [.int .u8 q2.f0, .string q2.f1, .slice Q2 q2.f2.length f2, .slice Q3 q2.f3.length f3, .slice Q4 q2.f4.length f4, .int .i64 q2.f5, .int .i64 q2.f6]) hs Tryd.underlying41 rfl (by kernel_rfl) rfl (fun w hw k v hk => hc2 w hw.base k v hk)) ?_; clear hs a; intro a hs
    refine b_eff 10 (by kernel_rfl) rfl #[true, true, true, true, true, true, true, true, true, true, true, false] rfl hs rfl (e_callB Tryd.func56 rfl rfl hs rfl rfl (ih q rfl p q2 P2 P3 P4 Q2 Q3 Q4 e2 e3 e4 f2 f3 f4 _ (Kd.C_below G2 hs.mem.base) (Kd.C_below G3 hs.mem.base) (Kd.C_below G4 hs.mem.base) (Kd.C_below J2 hs.mem.base) (Kd.C_below J3 hs.mem.base) (Kd.C_below J4 hs.mem.base) (hx.2.2.2.1 p (List.mem_of_getElem? hp)) (hy.2.2.2.1 q2 (List.mem_of_getElem? hq))) ?_); clear hs a; intro a w hs
    refine ⟨(((hs.mem.to 1 rfl).to 1 rfl).first 2), ?_⟩
    refine b_take 11 rfl #[true, true, true, true, true, true, true, true, true, true, true, true] rfl (by kernel_rfl) hs ((((hs.mem.to 1 rfl).to 1 rfl).first 2)) rfl rfl rfl (fun _ _ _ h => h) (y_not hs rfl) ?_; clear hs a; intro a hs
    refine b_done (by kernel_rfl) (then_normal ?_)
    refine wp_cond_split (hs.ev rfl) (fun h63 => ?_) (fun h63 => ?_)
    · replace h63 := (not_t h63)
      have hP : eqL (likeS q) x.f3 y.f3 = false := by rw [← hinv, hd, h63, Bool.false_and]
      refine wp_seq (wp_region_lit ?_)
      refine go hs (pA rfl <| ?_); clear hs a; intro a hs
      refine wpList_nil (then_normal (wp_ret (in_ret (then_ret (then_ret (in_ret (then_ret ?_)))))))
      have hX : likeS (q + 1) x y = false := by rw [likeS]; rw [hP]; simp only [Bool.false_and, Bool.and_false]
      refine fin_ret hs (.tmp (hs.slots _ _ rfl) .nil) ⟨?_, hs.mem.base⟩
      rw [hX]; rfl
    replace h63 := (not_f h63)
    have hn := hinv
    rw [hd, h63, Bool.true_and] at hn
    refine wp_skip (in_normal (then_normal (wp_region_lit ?_)))
    refine go hs (pM rfl <| pV rfl (fun a hs => y_add hs rfl rfl (by omega)) <| pA rfl <| ?_); clear hs a; intro a hs
    refine wpList_nil (then_normal ?_)
    refine ⟨mm - 1, by omega, i + 1, by omega, hn, ?_⟩
    exact (hs.mem_to ((hs.mem.to 1 rfl).to 1 rfl)).cut _ ⟨rfl, rfl, rfl, trivial⟩
  replace h49 := of_decide_eq_false h49
  have hP : eqL (likeS q) x.f3 y.f3 = true := by rw [← hinv, List.drop_eq_nil_of_le (by omega), List.drop_eq_nil_of_le (by omega)]; rfl
  refine wp_exit (then_exit (then_exit (in_here (then_normal (wp_seq ?_)))))
  refine wp_seq (wp_region_lit ?_)
  refine go hs (pA rfl <| ?_); clear hs a; intro a hs
  refine wpList_nil (then_normal (wp_block ?_))
  refine wp_loopN (fun mm a w1 => ∃ (i : Nat), (i + mm = x.f4.length) ∧ (eqL (eqL (likeX 16)) (x.f4.drop i) (y.f4.drop i) = eqL (eqL (likeX 16)) x.f4 y.f4) ∧ St 83 v0 [(2, .pointer (some ⟨gx, 0, none⟩)), (3, .pointer (some ⟨gy, 0, none⟩)), (6, .int .i64 ((i : Nat) : Int))] [pt gx #[.int .u8 x.f0, .string x.f1, .slice A2 x.f2.length c2, .slice A3 x.f3.length c3, .slice A4 x.f4.length c4, .int .i64 x.f5, .int .i64 x.f6] 42, pt gy #[.int .u8 y.f0, .string y.f1, .slice B2 y.f2.length d2, .slice B3 y.f3.length d3, .slice B4 y.f4.length d4, .int .i64 y.f5, .int .i64 y.f6] 42] a w1) (x.f4.length) ⟨0, by omega, rfl, ?_⟩ (fun mm a w1 hJ => ?_)
  · exact (hs.mem_to ((hs.mem.to 1 rfl).to 1 rfl)).cut _ ⟨rfl, rfl, rfl, trivial⟩
  clear hs
  obtain ⟨i, hi, hinv, hs⟩ := hJ
  refine wp_seq (wp_seq ?_)
  refine wp_region_lit (go hs (pM rfl <| pV rfl (fun a hs => y_faddr (k' := 4) 4 hs (by kernel_rfl) rfl rfl) <| pV rfl (fun a hs => y_load hs Tryd.underlying40 rfl rfl (fun w hw => (hw.to 0 rfl).cellV rfl)) <| pV rfl (fun a hs => y_lenL hs Tryd.underlying40 rfl) <| pV rfl (fun a hs => y_cmp hs rfl rfl rfl) <| ?_)); clear hs a; intro a hs
  refine wpList_nil (then_normal ?_)
  refine wp_cond_split (hs.ev rfl) (fun h68 => ?_) (fun h68 => ?_)
  · replace h68 := of_decide_eq_true h68
    obtain ⟨p, hp⟩ : ∃ p, x.f4[i]? = some p := ⟨_, List.getElem?_eq_getElem (by omega)⟩
    obtain ⟨q2, hq⟩ : ∃ q, y.f4[i]? = some q := ⟨_, List.getElem?_eq_getElem (by omega)⟩
    obtain ⟨g1, o1, rfl, hcell1⟩ := C_atH (show 0 < 1 by decide) hA4 (by omega)
    obtain ⟨cs, hK1, hlen1, hc1⟩ := hcell1 i p hp
    obtain ⟨g2, o2, rfl, hcell2⟩ := C_atH (show 0 < 1 by decide) hB4 (by omega)
    obtain ⟨ds, hK2, hlen2, hc2⟩ := hcell2 i q2 hq
    obtain ⟨P0, e0, rfl, i1, G1⟩ := hK1
    obtain ⟨Q0, f0, rfl, j1, J1⟩ := hK2
    have hd := eqL_at (eqL (likeX 16)) hp hq
    refine wp_skip (then_normal (wp_seq ?_))
    refine wp_block (wp_seq ?_)
    refine b_enter [0, 1] (by kernel_rfl) hs #[false, false, false, false, false, false, false, false, false, false, false, false] (by rfl) 12 (by rfl) ?_; clear hs; intro w hs
    refine b_take 0 rfl #[true, false, false, false, false, false, false, false, false, false, false, false] rfl (by kernel_rfl) hs ((((hs.mem.to 1 rfl).to 1 rfl).first 2)) rfl rfl rfl (fun _ _ _ h => h) (y_faddr (k' := 4) 4 hs (by kernel_rfl) rfl rfl) ?_; clear hs a; intro a hs
    refine b_take 1 rfl #[true, true, false, false, false, false, false, false, false, false, false, false] rfl (by kernel_rfl) hs ((((hs.mem.to 1 rfl).to 1 rfl).first 2)) rfl rfl rfl (fun _ _ _ h => h) (y_load hs Tryd.underlying40 rfl rfl (fun w hw => (hw.to 0 rfl).cellV rfl)) ?_; clear hs a; intro a hs
    refine b_take 2 rfl #[true, true, true, false, false, false, false, false, false, false, false, false] rfl (by kernel_rfl) hs ((((hs.mem.to 1 rfl).to 1 rfl).first 2)) rfl rfl rfl (fun _ _ _ h => h) (y_move hs rfl) ?_; clear hs a; intro a hs
    refine b_take 3 rfl #[true, true, true, true, false, false, false, false, false, false, false, false] rfl (by kernel_rfl) hs ((((hs.mem.to 1 rfl).to 1 rfl).first 2)) rfl rfl rfl (fun _ _ _ h => h) (y_idxB (size := 1) (off := o1 + i * 1) hs Tryd.underlying40 (by kernel_rfl) rfl rfl (by omega) (by omega) (by simp)) ?_; clear hs a; intro a hs
    refine b_take 4 rfl #[true, true, true, true, true, false, false, false, false, false, false, false] rfl (by kernel_rfl) hs ((((hs.mem.to 1 rfl).to 1 rfl).first 2)) rfl rfl rfl (fun _ _ _ h => h) (y_load (v := .slice P0 p.length e0) hs Tryd.underlying23 rfl rfl (fun w hw => hc1 w hw.base 0 _ rfl)) ?_; clear hs a; intro a hs
    refine b_take 5 rfl #[true, true, true, true, true, true, false, false, false, false, false, false] rfl (by kernel_rfl) hs ((((hs.mem.to 1 rfl).to 1 rfl).first 2)) rfl rfl rfl (fun _ _ _ h => h) (y_faddr (k' := 4) 4 hs (by kernel_rfl) rfl rfl) ?_; clear hs a; intro a hs
    refine b_take 6 rfl #[true, true, true, true, true, true, true, false, false, false, false, false] rfl (by kernel_rfl) hs ((((hs.mem.to 1 rfl).to 1 rfl).first 2)) rfl rfl rfl (fun _ _ _ h => h) (y_load hs Tryd.underlying40 rfl rfl (fun w hw => (hw.to 1 rfl).cellV rfl)) ?_; clear hs a; intro a hs
    refine b_take 7 rfl #[true, true, true, true, true, true, true, true, false, false, false, false] rfl (by kernel_rfl) hs ((((hs.mem.to 1 rfl).to 1 rfl).first 2)) rfl rfl rfl (fun _ _ _ h => h) (y_move hs rfl) ?_; clear hs a; intro a hs
    refine b_take 8 rfl #[true, true, true, true, true, true, true, true, true, false, false, false] rfl (by kernel_rfl) hs ((((hs.mem.to 1 rfl).to 1 rfl).first 2)) rfl rfl rfl (fun _ _ _ h => h) (y_idxB (size := 1) (off := o2 + i * 1) hs Tryd.underlying40 (by kernel_rfl) rfl rfl (by omega) (by omega) (by simp)) ?_; clear hs a; intro a hs
    refine b_take 9 rfl #[true, true, true, true, true, true, true, true, true, true, false, false] rfl (by kernel_rfl) hs ((((hs.mem.to 1 rfl).to 1 rfl).first 2)) rfl rfl rfl (fun _ _ _ h => h) (y_load (v := .slice Q0 q2.length f0) hs Tryd.underlying23 rfl rfl (fun w hw => hc2 w hw.base 0 _ rfl)) ?_; clear hs a; intro a hs
    refine b_eff 10 (by kernel_rfl) rfl #[true, true, true, true, true, true, true, true, true, true, true, false] rfl hs rfl (e_callB Tryd.func57 rfl rfl hs rfl rfl (ref_likes 16 (by decide) p q2 P0 Q0 e0 f0 _ (Kd.C_below G1 hs.mem.base) (Kd.C_below J1 hs.mem.base) (hx.2.2.2.2.2 p (List.mem_of_getElem? hp)).2 (hy.2.2.2.2.2 q2 (List.mem_of_getElem? hq)).2) ?_); clear hs a; intro a w hs
    refine ⟨(((hs.mem.to 1 rfl).to 1 rfl).first 2), ?_⟩
    refine b_take 11 rfl #[true, true, true, true, true, true, true, true, true, true, true, true] rfl (by kernel_rfl) hs ((((hs.mem.to 1 rfl).to 1 rfl).first 2)) rfl rfl rfl (fun _ _ _ h => h) (y_not hs rfl) ?_; clear hs a; intro a hs
    refine b_done (by kernel_rfl) (then_normal ?_)
    refine wp_cond_split (hs.ev rfl) (fun h82 => ?_) (fun h82 => ?_)
    · replace h82 := (not_t h82)
      have hR : eqL (eqL (likeX 16)) x.f4 y.f4 = false := by rw [← hinv, hd, h82, Bool.false_and]
      refine wp_seq (wp_region_lit ?_)
      refine go hs (pA rfl <| ?_); clear hs a; intro a hs
      refine wpList_nil (then_normal (wp_ret (in_ret (then_ret (then_ret (in_ret (then_ret ?_)))))))
      have hX : likeS (q + 1) x y = false := by rw [likeS]; rw [hR]; simp only [Bool.false_and, Bool.and_false]
      refine fin_ret hs (.tmp (hs.slots _ _ rfl) .nil) ⟨?_, hs.mem.base⟩
      rw [hX]; rfl
    replace h82 := (not_f h82)
    have hn := hinv
    rw [hd, h82, Bool.true_and] at hn
    refine wp_skip (in_normal (then_normal (wp_region_lit ?_)))
    refine go hs (pM rfl <| pV rfl (fun a hs => y_add hs rfl rfl (by omega)) <| pA rfl <| ?_); clear hs a; intro a hs
    refine wpList_nil (then_normal ?_)
    refine ⟨mm - 1, by omega, i + 1, by omega, hn, ?_⟩
    exact (hs.mem_to ((hs.mem.to 1 rfl).to 1 rfl)).cut _ ⟨rfl, rfl, rfl, trivial⟩
  replace h68 := of_decide_eq_false h68
  have hR : eqL (eqL (likeX 16)) x.f4 y.f4 = true := by rw [← hinv, List.drop_eq_nil_of_le (by omega), List.drop_eq_nil_of_le (by omega)]; rfl
  refine wp_exit (then_exit (then_exit (in_here (then_normal (wp_seq ?_)))))
  refine wp_region_lit (go hs (pA rfl <| ?_)); clear hs a; intro a hs
  refine wpList_nil (then_normal (wp_ret ?_))
  have hX : likeS (q + 1) x y = true := by rw [likeS]; rw [(beq_iff_eq.2 h12), Bool.true_and, (beq_iff_eq.2 h19), Bool.true_and, h27, Bool.true_and, hP, Bool.true_and, hR]
  refine fin_ret hs (.tmp (hs.slots _ _ rfl) .nil) ⟨?_, hs.mem.base⟩
  rw [hX]; rfl
theorem ref_likeS : ∀ n : Nat, n ≤ 1000 → LikeSOk n := fun n => by
  induction n using Nat.strongRecOn with
  | _ n ih => exact fun hn x y A2 A3 A4 B2 B3 B4 c2 c3 c4 d2 d3 d4 v0 hA2 hA3 hA4 hB2 hB3 hB4 hx hy => ref_likeS_step n hn (fun q hq => ih q (by omega) (by omega)) x y A2 A3 A4 B2 B3 B4 c2 c3 c4 d2 d3 d4 v0 hA2 hA3 hA4 hB2 hB3 hB4 hx hy
set_option maxHeartbeats 1000000 in
set_option maxRecDepth 100000 in
theorem ref_Like (A B : Option Addr) (c d : Nat) (l m : List XI) (v0 : World) (hA : Kd.C k45 v0 A l.length l) (hB : Kd.C k45 v0 B m.length m) (hl : ∀ p ∈ l, inI p) (hm : ∀ p ∈ m, inI p) :
    Calls Tryd.prog 25 #[.slice A l.length c, .slice B m.length d] v0 fun e w' => e = .returned (.bool (eqL likeI l m)) ∧ Below v0.heap.size v0 w' := by
  refine calls_enter (N := 70) (n := 68) (args := [.slice A l.length c, .slice B m.length d]) Tryd.func25 rfl rfl rfl (H.init v0) (fun a hs => ?_)
  have hcl := C_len hA
  have hcl2 := C_len hB
  refine wp_seq (wp_region_lit ?_)
  refine go hs (pA rfl <| ?_); clear hs a; intro a hs
  refine wpList_nil (then_normal (wp_seq ?_))
  refine wp_seq (wp_region_lit ?_)
  refine go hs (pM rfl <| pV rfl (fun a hs => y_lenL hs Tryd.underlying32 rfl) <| pM rfl <| pV rfl (fun a hs => y_lenL hs Tryd.underlying32 rfl) <| pV rfl (fun a hs => y_cmp hs rfl rfl rfl) <| ?_); clear hs a; intro a hs
  refine wpList_nil (then_normal ?_)
  refine wp_cond_split (hs.ev rfl) (fun h12 => ?_) (fun h12 => ?_)
  · replace h12 := bne_iff_ne.1 h12
    have hX : eqL likeI l m = false := eqL_len (by omega)
    refine wp_seq (wp_region_lit ?_)
    refine go hs (pA rfl <| ?_); clear hs a; intro a hs
    refine wpList_nil (then_normal (wp_ret (then_ret ?_)))
    refine fin_ret hs (.tmp (hs.slots _ _ rfl) .nil) ⟨?_, hs.mem.base⟩
    rw [hX]; rfl
  replace h12 := bne_eq_false_iff_eq.1 h12
  refine wp_skip (then_normal (wp_seq ?_))
  refine wp_seq (wp_region_lit ?_)
  refine go hs (pA rfl <| ?_); clear hs a; intro a hs
  refine wpList_nil (then_normal (wp_block ?_))
  refine wp_loopN (fun mm a w1 => ∃ (i : Nat), (i + mm = l.length) ∧ (eqL likeI (l.drop i) (m.drop i) = eqL likeI l m) ∧ St 70 v0 [(0, .slice A l.length c), (1, .slice B m.length d), (5, .int .i64 ((i : Nat) : Int))] [] a w1) (l.length) ⟨0, by omega, rfl, ?_⟩ (fun mm a w1 hJ => ?_)
  · exact (hs.mem_to hs.mem).cut _ ⟨rfl, rfl, rfl, trivial⟩
  clear hs
  obtain ⟨i, hi, hinv, hs⟩ := hJ
  refine wp_seq (wp_seq ?_)
  refine wp_region_lit (go hs (pM rfl <| pM rfl <| pV rfl (fun a hs => y_lenL hs Tryd.underlying32 rfl) <| pV rfl (fun a hs => y_cmp hs rfl rfl rfl) <| ?_)); clear hs a; intro a hs
  refine wpList_nil (then_normal ?_)
  refine wp_cond_split (hs.ev rfl) (fun h16 => ?_) (fun h16 => ?_)
  · replace h16 := of_decide_eq_true h16
    obtain ⟨p, hp⟩ : ∃ p, l[i]? = some p := ⟨_, List.getElem?_eq_getElem (by omega)⟩
    obtain ⟨q2, hq⟩ : ∃ q, m[i]? = some q := ⟨_, List.getElem?_eq_getElem (by omega)⟩
    obtain ⟨g1, o1, rfl, hcell1⟩ := C_atH (show 0 < 19 by decide) hA (by omega)
    obtain ⟨cs, hK1, hlen1, hc1⟩ := hcell1 i p hp
    obtain ⟨g2, o2, rfl, hcell2⟩ := C_atH (show 0 < 19 by decide) hB (by omega)
    obtain ⟨ds, hK2, hlen2, hc2⟩ := hcell2 i q2 hq
    obtain ⟨A5, c5, A10, c10, A11, c11, A12, c12, A16, c16, rfl, al5, ag5, al10, ag10, al11, ag11, al12, ag12, al16, ag16⟩ := k45_open hK1
    obtain ⟨B5, d5, B10, d10, B11, d11, B12, d12, B16, d16, rfl, bl5, bg5, bl10, bg10, bl11, bg11, bl12, bg12, bl16, bg16⟩ := k45_open hK2
    have hpI := hl p (List.mem_of_getElem? hp)
    have hqI := hm q2 (List.mem_of_getElem? hq)
    have hd := eqL_at likeI hp hq
    refine wp_skip (then_normal (wp_seq ?_))
    refine wp_block (wp_seq ?_)
    refine b_enter [] (by kernel_rfl) hs #[false, false, false, false, false, false, false, false, false, false, false, false] (by rfl) 12 (by rfl) ?_; clear hs; intro w hs
    refine b_take 0 rfl #[true, false, false, false, false, false, false, false, false, false, false, false] rfl (by kernel_rfl) hs ((hs.mem.first 0)) rfl rfl rfl (fun _ _ _ h => h) (y_move hs rfl) ?_; clear hs a; intro a hs
    refine b_take 1 rfl #[true, true, false, false, false, false, false, false, false, false, false, false] rfl (by kernel_rfl) hs ((hs.mem.first 0)) rfl rfl rfl (fun _ _ _ h => h) (y_move hs rfl) ?_; clear hs a; intro a hs
    refine b_take 2 rfl #[true, true, true, false, false, false, false, false, false, false, false, false] rfl (by kernel_rfl) hs ((hs.mem.first 0)) rfl rfl rfl (fun _ _ _ h => h) (y_idxB (size := 19) (off := o1 + i * 19) hs Tryd.underlying32 (by kernel_rfl) rfl rfl (by omega) (by omega) (by simp)) ?_; clear hs a; intro a hs
    refine b_take 3 rfl #[true, true, true, true, false, false, false, false, false, false, false, false] rfl (by kernel_rfl) hs ((hs.mem.first 0)) rfl rfl rfl (fun _ _ _ h => h) (y_loadAgg (vs := [.int .u8 p.f0, .string p.f1, .int .u8 p.f2.f0, .int .i64 p.f2.f1, .string p.f2.f2, .slice A5 p.f2.f3.length c5, .int .i64 p.f2.f4, .int .i64 p.f2.f5, .int .u8 p.f3.f0, .string p.f3.f1, .slice A10 p.f3.f2.length c10, .slice A11 p.f3.f3.length c11, .slice A12 p.f3.f4.length c12, .int .i64 p.f3.f5, .int .i64 p.f3.f6, .int .u8 p.f4, .slice A16 p.f5.length c16, .int .i64 p.f6, .int .i64 p.f7]) hs Tryd.underlying44 rfl (by kernel_rfl) rfl (fun w hw k v hk => hc1 w hw.base k v hk)) ?_; clear hs a; intro a hs
    refine b_take 4 rfl #[true, true, true, true, true, false, false, false, false, false, false, false] rfl (by kernel_rfl) hs ((hs.mem.first 0)) rfl rfl rfl (fun _ _ _ h => h) (y_move hs rfl) ?_; clear hs a; intro a hs
    refine b_take 5 rfl #[true, true, true, true, true, true, false, false, false, false, false, false] rfl (by kernel_rfl) hs ((hs.mem.first 0)) rfl rfl rfl (fun _ _ _ h => h) (y_move hs rfl) ?_; clear hs a; intro a hs
    refine b_take 6 rfl #[true, true, true, true, true, true, true, false, false, false, false, false] rfl (by kernel_rfl) hs ((hs.mem.first 0)) rfl rfl rfl (fun _ _ _ h => h) (y_idxB (size := 19) (off := o2 + i * 19) hs Tryd.underlying32 (by kernel_rfl) rfl rfl (by omega) (by omega) (by simp)) ?_; clear hs a; intro a hs
    refine b_take 7 rfl #[true, true, true, true, true, true, true, true, false, false, false, false] rfl (by kernel_rfl) hs ((hs.mem.first 0)) rfl rfl rfl (fun _ _ _ h => h) (y_loadAgg (vs := [.int .u8 q2.f0, .string q2.f1, .int .u8 q2.f2.f0, .int .i64 q2.f2.f1, .string q2.f2.f2, .slice B5 q2.f2.f3.length d5, .int .i64 q2.f2.f4, .int .i64 q2.f2.f5, .int .u8 q2.f3.f0, .string q2.f3.f1, .slice B10 q2.f3.f2.length d10, .slice B11 q2.f3.f3.length d11, .slice B12 q2.f3.f4.length d12, .int .i64 q2.f3.f5, .int .i64 q2.f3.f6, .int .u8 q2.f4, .slice B16 q2.f5.length d16, .int .i64 q2.f6, .int .i64 q2.f7]) hs Tryd.underlying44 rfl (by kernel_rfl) rfl (fun w hw k v hk => hc2 w hw.base k v hk)) ?_; clear hs a; intro a hs
    refine b_eff2 8 9 (by kernel_rfl) rfl rfl #[true, true, true, true, true, true, true, true, true, false, false, false] #[true, true, true, true, true, true, true, true, false, true, false, false] rfl rfl hs rfl rfl (e_alloc (z := .agg #[.int .u8 0, .string ⟨#[]⟩, .int .u8 0, .int .i64 0, .string ⟨#[]⟩, .slice none 0 0, .int .i64 0, .int .i64 0, .int .u8 0, .string ⟨#[]⟩, .slice none 0 0, .slice none 0 0, .slice none 0 0, .int .i64 0, .int .i64 0, .int .u8 0, .slice none 0 0, .int .i64 0, .int .i64 0]) (cs := #[.int .u8 0, .string ⟨#[]⟩, .int .u8 0, .int .i64 0, .string ⟨#[]⟩, .slice none 0 0, .int .i64 0, .int .i64 0, .int .u8 0, .string ⟨#[]⟩, .slice none 0 0, .slice none 0 0, .slice none 0 0, .int .i64 0, .int .i64 0, .int .u8 0, .slice none 0 0, .int .i64 0, .int .i64 0]) hs rfl (by kernel_rfl) rfl ?_) (e_alloc (z := .agg #[.int .u8 0, .string ⟨#[]⟩, .int .u8 0, .int .i64 0, .string ⟨#[]⟩, .slice none 0 0, .int .i64 0, .int .i64 0, .int .u8 0, .string ⟨#[]⟩, .slice none 0 0, .slice none 0 0, .slice none 0 0, .int .i64 0, .int .i64 0, .int .u8 0, .slice none 0 0, .int .i64 0, .int .i64 0]) (cs := #[.int .u8 0, .string ⟨#[]⟩, .int .u8 0, .int .i64 0, .string ⟨#[]⟩, .slice none 0 0, .int .i64 0, .int .i64 0, .int .u8 0, .string ⟨#[]⟩, .slice none 0 0, .slice none 0 0, .slice none 0 0, .int .i64 0, .int .i64 0, .int .u8 0, .slice none 0 0, .int .i64 0, .int .i64 0]) hs rfl (by kernel_rfl) rfl ?_)
    · clear hs a; intro gx a w hs
      refine ⟨(hs.mem.first 0), ?_⟩
      refine b_eff 9 (by kernel_rfl) rfl #[true, true, true, true, true, true, true, true, true, true, false, false] rfl hs rfl (e_alloc (z := .agg #[.int .u8 0, .string ⟨#[]⟩, .int .u8 0, .int .i64 0, .string ⟨#[]⟩, .slice none 0 0, .int .i64 0, .int .i64 0, .int .u8 0, .string ⟨#[]⟩, .slice none 0 0, .slice none 0 0, .slice none 0 0, .int .i64 0, .int .i64 0, .int .u8 0, .slice none 0 0, .int .i64 0, .int .i64 0]) (cs := #[.int .u8 0, .string ⟨#[]⟩, .int .u8 0, .int .i64 0, .string ⟨#[]⟩, .slice none 0 0, .int .i64 0, .int .i64 0, .int .u8 0, .string ⟨#[]⟩, .slice none 0 0, .slice none 0 0, .slice none 0 0, .int .i64 0, .int .i64 0, .int .u8 0, .slice none 0 0, .int .i64 0, .int .i64 0]) hs rfl (by kernel_rfl) rfl ?_); clear hs a; intro gy a w hs
      refine ⟨(hs.mem.first 0), ?_⟩
      refine b_eff 10 (by kernel_rfl) rfl #[true, true, true, true, true, true, true, true, true, true, true, false] rfl hs rfl (e_store (cl := [_, _, _, _, _, _, _, _, _, _, _, _, _, _, _, _, _, _, _]) 1 rfl hs rfl rfl (by kernel_rfl) rfl rfl rfl ?_); clear hs a; intro a w hs
      refine ⟨(hs.mem.first 0), ?_⟩
      refine b_eff 11 (by kernel_rfl) rfl #[true, true, true, true, true, true, true, true, true, true, true, true] rfl hs rfl (e_store (cl := [_, _, _, _, _, _, _, _, _, _, _, _, _, _, _, _, _, _, _]) 1 rfl hs rfl rfl (by kernel_rfl) rfl rfl rfl ?_); clear hs a; intro a w hs
      refine ⟨(hs.mem.first 0), ?_⟩
      refine b_done (by kernel_rfl) (then_normal ?_)
      refine wp_seq (wp_region_lit ?_)
      refine go hs (pV rfl (fun a hs => y_faddr (k' := 0) 0 hs (by kernel_rfl) rfl rfl) <| pV rfl (fun a hs => y_load hs Tryd.underlying37 rfl rfl (fun w hw => (hw.to 1 rfl).cellV rfl)) <| pV rfl (fun a hs => y_faddr (k' := 0) 0 hs (by kernel_rfl) rfl rfl) <| pV rfl (fun a hs => y_load hs Tryd.underlying37 rfl rfl (fun w hw => (hw.to 0 rfl).cellV rfl)) <| pV rfl (fun a hs => y_cmp hs rfl rfl rfl) <| pM rfl <| ?_); clear hs a; intro a hs
      rcases hs.know (d := 32) rfl with ⟨h32, hs1⟩ | ⟨h32, hs1⟩ <;> replace hs := hs1 <;> clear hs1
      · replace h32 := bne_iff_ne.1 h32
        refine go hs (pS rfl <| pS rfl <| pS rfl <| pS rfl <| pS rfl <| pT rfl rfl <| pM rfl <| pS rfl <| pS rfl <| pS rfl <| pS rfl <| pS rfl <| pT rfl rfl <| pM rfl <| pS rfl <| pS rfl <| pS rfl <| pS rfl <| pS rfl <| pS rfl <| pT rfl rfl <| pM rfl <| pS rfl <| pS rfl <| pS rfl <| pS rfl <| pS rfl <| pS rfl <| pT rfl rfl <| pM rfl <| pS rfl <| pS rfl <| pS rfl <| pS rfl <| pS rfl <| pS rfl <| pT rfl rfl <| ?_); clear hs a; intro a hs
        refine wpList_nil (then_normal ?_)
        refine wp_cond_true (hs.ev rfl) ?_
        refine wp_seq (wp_region_lit ?_)
        refine go hs (pA rfl <| ?_); clear hs a; intro a hs
        refine wpList_nil (then_normal (wp_ret (in_ret (then_ret (then_ret (in_ret (then_ret ?_)))))))
        have hL : likeI p q2 = false := by unfold likeI; rw [(beq_eq_false_iff_ne.2 h32)]; simp only [Bool.false_and, Bool.and_false]
        have hX : eqL likeI l m = false := by rw [← hinv, hd, hL, Bool.false_and]
        refine fin_ret hs (.tmp (hs.slots _ _ rfl) .nil) ⟨?_, hs.mem.base⟩
        rw [hX]; rfl
      replace h32 := bne_eq_false_iff_eq.1 h32
      refine go hs (pG rfl (fun a hs => y_faddr (k' := 1) 1 hs (by kernel_rfl) rfl rfl) <| pG rfl (fun a hs => y_load hs Tryd.underlying9 rfl rfl (fun w hw => (hw.to 1 rfl).cellV rfl)) <| pG rfl (fun a hs => y_faddr (k' := 1) 1 hs (by kernel_rfl) rfl rfl) <| pG rfl (fun a hs => y_load hs Tryd.underlying9 rfl rfl (fun w hw => (hw.to 0 rfl).cellV rfl)) <| pG rfl (fun a hs => y_sne hs rfl rfl) <| pF rfl rfl <| pM rfl <| ?_); clear hs a; intro a hs
      rcases hs.know (d := 39) rfl with ⟨h39, hs1⟩ | ⟨h39, hs1⟩ <;> replace hs := hs1 <;> clear hs1
      · replace h39 := ne_of_beq_false (not_t h39)
        refine go hs (pS rfl <| pS rfl <| pS rfl <| pS rfl <| pS rfl <| pT rfl rfl <| pM rfl <| pS rfl <| pS rfl <| pS rfl <| pS rfl <| pS rfl <| pS rfl <| pT rfl rfl <| pM rfl <| pS rfl <| pS rfl <| pS rfl <| pS rfl <| pS rfl <| pS rfl <| pT rfl rfl <| pM rfl <| pS rfl <| pS rfl <| pS rfl <| pS rfl <| pS rfl <| pS rfl <| pT rfl rfl <| ?_); clear hs a; intro a hs
        refine wpList_nil (then_normal ?_)
        refine wp_cond_true (hs.ev rfl) ?_
        refine wp_seq (wp_region_lit ?_)
        refine go hs (pA rfl <| ?_); clear hs a; intro a hs
        refine wpList_nil (then_normal (wp_ret (in_ret (then_ret (then_ret (in_ret (then_ret ?_)))))))
        have hL : likeI p q2 = false := by unfold likeI; rw [(beq_eq_false_iff_ne.2 h39)]; simp only [Bool.false_and, Bool.and_false]
        have hX : eqL likeI l m = false := by rw [← hinv, hd, hL, Bool.false_and]
        refine fin_ret hs (.tmp (hs.slots _ _ rfl) .nil) ⟨?_, hs.mem.base⟩
        rw [hX]; rfl
      replace h39 := eq_of_beq (not_f h39)
      refine go hs (pG rfl (fun a hs => y_faddr (k' := 15) 15 hs (by kernel_rfl) rfl rfl) <| pG rfl (fun a hs => y_load hs Tryd.underlying43 rfl rfl (fun w hw => (hw.to 1 rfl).cellV rfl)) <| pG rfl (fun a hs => y_faddr (k' := 15) 15 hs (by kernel_rfl) rfl rfl) <| pG rfl (fun a hs => y_load hs Tryd.underlying43 rfl rfl (fun w hw => (hw.to 0 rfl).cellV rfl)) <| pG rfl (fun a hs => y_cmp hs rfl rfl rfl) <| pF rfl rfl <| pM rfl <| ?_); clear hs a; intro a hs
      rcases hs.know (d := 46) rfl with ⟨h46, hs1⟩ | ⟨h46, hs1⟩ <;> replace hs := hs1 <;> clear hs1
      · replace h46 := bne_iff_ne.1 h46
        refine go hs (pS rfl <| pS rfl <| pS rfl <| pS rfl <| pS rfl <| pS rfl <| pT rfl rfl <| pM rfl <| pS rfl <| pS rfl <| pS rfl <| pS rfl <| pS rfl <| pS rfl <| pT rfl rfl <| pM rfl <| pS rfl <| pS rfl <| pS rfl <| pS rfl <| pS rfl <| pS rfl <| pT rfl rfl <| ?_); clear hs a; intro a hs
        refine wpList_nil (then_normal ?_)
        refine wp_cond_true (hs.ev rfl) ?_
        refine wp_seq (wp_region_lit ?_)
        refine go hs (pA rfl <| ?_); clear hs a; intro a hs
        refine wpList_nil (then_normal (wp_ret (in_ret (then_ret (then_ret (in_ret (then_ret ?_)))))))
        have hL : likeI p q2 = false := by unfold likeI; rw [(beq_eq_false_iff_ne.2 h46)]; simp only [Bool.false_and, Bool.and_false]
        have hX : eqL likeI l m = false := by rw [← hinv, hd, hL, Bool.false_and]
        refine fin_ret hs (.tmp (hs.slots _ _ rfl) .nil) ⟨?_, hs.mem.base⟩
        rw [hX]; rfl
      replace h46 := bne_eq_false_iff_eq.1 h46
      refine go hs (pG rfl (fun a hs => y_faddr (k' := 2) 2 hs (by kernel_rfl) rfl rfl) <| pG rfl (fun a hs => y_loadAgg (vs := [.int .u8 p.f2.f0, .int .i64 p.f2.f1, .string p.f2.f2, .slice A5 p.f2.f3.length c5, .int .i64 p.f2.f4, .int .i64 p.f2.f5]) hs Tryd.underlying24 rfl (by kernel_rfl) rfl (fun w hw k v hk => ((hw.to 1 rfl).cell).trans (sub_at 6 rfl hk))) <| pG rfl (fun a hs => y_faddr (k' := 2) 2 hs (by kernel_rfl) rfl rfl) <| pG rfl (fun a hs => y_loadAgg (vs := [.int .u8 q2.f2.f0, .int .i64 q2.f2.f1, .string q2.f2.f2, .slice B5 q2.f2.f3.length d5, .int .i64 q2.f2.f4, .int .i64 q2.f2.f5]) hs Tryd.underlying24 rfl (by kernel_rfl) rfl (fun w hw k v hk => ((hw.to 0 rfl).cell).trans (sub_at 6 rfl hk))) <| ?_); clear hs a; intro a hs
      refine a_effG hs rfl (e_callB Tryd.func55 rfl rfl hs rfl rfl (ref_like 16 (by decide) p.f2 q2.f2 A5 B5 c5 d5 _ (Kd.C_below ag5 hs.mem.base) (Kd.C_below bg5 hs.mem.base) hpI.1 hqI.1) ?_); clear hs a; intro a w hs
      refine go hs (pG rfl (fun a hs => y_not hs rfl) <| pF rfl rfl <| pM rfl <| ?_); clear hs a; intro a hs
      rcases hs.know (d := 54) rfl with ⟨h54, hs1⟩ | ⟨h54, hs1⟩ <;> replace hs := hs1 <;> clear hs1
      · replace h54 := (not_t h54)
        refine go hs (pS rfl <| pS rfl <| pS rfl <| pS rfl <| pS rfl <| pS rfl <| pT rfl rfl <| pM rfl <| pS rfl <| pS rfl <| pS rfl <| pS rfl <| pS rfl <| pS rfl <| pT rfl rfl <| ?_); clear hs a; intro a hs
        refine wpList_nil (then_normal ?_)
        refine wp_cond_true (hs.ev rfl) ?_
        refine wp_seq (wp_region_lit ?_)
        refine go hs (pA rfl <| ?_); clear hs a; intro a hs
        refine wpList_nil (then_normal (wp_ret (in_ret (then_ret (then_ret (in_ret (then_ret ?_)))))))
        have hL : likeI p q2 = false := by unfold likeI; rw [h54]; simp only [Bool.false_and, Bool.and_false]
        have hX : eqL likeI l m = false := by rw [← hinv, hd, hL, Bool.false_and]
        refine fin_ret hs (.tmp (hs.slots _ _ rfl) .nil) ⟨?_, hs.mem.base⟩
        rw [hX]; rfl
      replace h54 := (not_f h54)
      refine go hs (pG rfl (fun a hs => y_faddr (k' := 8) 8 hs (by kernel_rfl) rfl rfl) <| pG rfl (fun a hs => y_loadAgg (vs := [.int .u8 p.f3.f0, .string p.f3.f1, .slice A10 p.f3.f2.length c10, .slice A11 p.f3.f3.length c11, .slice A12 p.f3.f4.length c12, .int .i64 p.f3.f5, .int .i64 p.f3.f6]) hs Tryd.underlying41 rfl (by kernel_rfl) rfl (fun w hw k v hk => ((hw.to 1 rfl).cell).trans (sub_at 7 rfl hk))) <| pG rfl (fun a hs => y_faddr (k' := 8) 8 hs (by kernel_rfl) rfl rfl) <| pG rfl (fun a hs => y_loadAgg (vs := [.int .u8 q2.f3.f0, .string q2.f3.f1, .slice B10 q2.f3.f2.length d10, .slice B11 q2.f3.f3.length d11, .slice B12 q2.f3.f4.length d12, .int .i64 q2.f3.f5, .int .i64 q2.f3.f6]) hs Tryd.underlying41 rfl (by kernel_rfl) rfl (fun w hw k v hk => ((hw.to 0 rfl).cell).trans (sub_at 7 rfl hk))) <| ?_); clear hs a; intro a hs
      refine a_effG hs rfl (e_callB Tryd.func56 rfl rfl hs rfl rfl (ref_likeS 16 (by decide) p.f3 q2.f3 A10 A11 A12 B10 B11 B12 c10 c11 c12 d10 d11 d12 _ (Kd.C_below ag10 hs.mem.base) (Kd.C_below ag11 hs.mem.base) (Kd.C_below ag12 hs.mem.base) (Kd.C_below bg10 hs.mem.base) (Kd.C_below bg11 hs.mem.base) (Kd.C_below bg12 hs.mem.base) hpI.2.1 hqI.2.1) ?_); clear hs a; intro a w hs
      refine go hs (pG rfl (fun a hs => y_not hs rfl) <| pF rfl rfl <| pM rfl <| ?_); clear hs a; intro a hs
      rcases hs.know (d := 62) rfl with ⟨h62, hs1⟩ | ⟨h62, hs1⟩ <;> replace hs := hs1 <;> clear hs1
      · replace h62 := (not_t h62)
        refine go hs (pS rfl <| pS rfl <| pS rfl <| pS rfl <| pS rfl <| pS rfl <| pT rfl rfl <| ?_); clear hs a; intro a hs
        refine wpList_nil (then_normal ?_)
        refine wp_cond_true (hs.ev rfl) ?_
        refine wp_seq (wp_region_lit ?_)
        refine go hs (pA rfl <| ?_); clear hs a; intro a hs
        refine wpList_nil (then_normal (wp_ret (in_ret (then_ret (then_ret (in_ret (then_ret ?_)))))))
        have hL : likeI p q2 = false := by unfold likeI; rw [h62]; simp only [Bool.false_and, Bool.and_false]
        have hX : eqL likeI l m = false := by rw [← hinv, hd, hL, Bool.false_and]
        refine fin_ret hs (.tmp (hs.slots _ _ rfl) .nil) ⟨?_, hs.mem.base⟩
        rw [hX]; rfl
      replace h62 := (not_f h62)
      refine go hs (pG rfl (fun a hs => y_faddr (k' := 16) 16 hs (by kernel_rfl) rfl rfl) <| pG rfl (fun a hs => y_load hs Tryd.underlying23 rfl rfl (fun w hw => (hw.to 1 rfl).cellV rfl)) <| pG rfl (fun a hs => y_faddr (k' := 16) 16 hs (by kernel_rfl) rfl rfl) <| pG rfl (fun a hs => y_load hs Tryd.underlying23 rfl rfl (fun w hw => (hw.to 0 rfl).cellV rfl)) <| ?_); clear hs a; intro a hs
      refine a_effG hs rfl (e_callB Tryd.func57 rfl rfl hs rfl rfl (ref_likes 16 (by decide) p.f5 q2.f5 A16 B16 c16 d16 _ (Kd.C_below ag16 hs.mem.base) (Kd.C_below bg16 hs.mem.base) hpI.2.2.2 hqI.2.2.2) ?_); clear hs a; intro a w hs
      refine go hs (pG rfl (fun a hs => y_not hs rfl) <| pF rfl rfl <| ?_); clear hs a; intro a hs
      refine wpList_nil (then_normal ?_)
      refine wp_cond_split (hs.ev rfl) (fun h69 => ?_) (fun h69 => ?_)
      · replace h69 := (not_t h69)
        refine wp_seq (wp_region_lit ?_)
        refine go hs (pA rfl <| ?_); clear hs a; intro a hs
        refine wpList_nil (then_normal (wp_ret (in_ret (then_ret (then_ret (in_ret (then_ret ?_)))))))
        have hL : likeI p q2 = false := by unfold likeI; rw [h69]; simp only [Bool.false_and, Bool.and_false]
        have hX : eqL likeI l m = false := by rw [← hinv, hd, hL, Bool.false_and]
        refine fin_ret hs (.tmp (hs.slots _ _ rfl) .nil) ⟨?_, hs.mem.base⟩
        rw [hX]; rfl
      replace h69 := (not_f h69)
      have hL : likeI p q2 = true := by unfold likeI; rw [(beq_iff_eq.2 h32), Bool.true_and, (beq_iff_eq.2 h39), Bool.true_and, h54, Bool.true_and, h62, Bool.true_and, (beq_iff_eq.2 h46), Bool.true_and, h69]
      have hn := hinv
      rw [hd, hL, Bool.true_and] at hn
      refine wp_skip (in_normal (then_normal (wp_region_lit ?_)))
      refine go hs (pM rfl <| pV rfl (fun a hs => y_add hs rfl rfl (by omega)) <| pA rfl <| ?_); clear hs a; intro a hs
      refine wpList_nil (then_normal ?_)
      refine ⟨mm - 1, by omega, i + 1, by omega, hn, ?_⟩
      exact (hs.mem_to ((hs.mem.to 0 rfl).drop.to 0 rfl).drop).cut _ ⟨rfl, rfl, rfl, trivial⟩
    clear hs a; intro gy a w hs
    refine ⟨(hs.mem.first 0), ?_⟩
    refine b_eff 8 (by kernel_rfl) rfl #[true, true, true, true, true, true, true, true, true, true, false, false] rfl hs rfl (e_alloc (z := .agg #[.int .u8 0, .string ⟨#[]⟩, .int .u8 0, .int .i64 0, .string ⟨#[]⟩, .slice none 0 0, .int .i64 0, .int .i64 0, .int .u8 0, .string ⟨#[]⟩, .slice none 0 0, .slice none 0 0, .slice none 0 0, .int .i64 0, .int .i64 0, .int .u8 0, .slice none 0 0, .int .i64 0, .int .i64 0]) (cs := #[.int .u8 0, .string ⟨#[]⟩, .int .u8 0, .int .i64 0, .string ⟨#[]⟩, .slice none 0 0, .int .i64 0, .int .i64 0, .int .u8 0, .string ⟨#[]⟩, .slice none 0 0, .slice none 0 0, .slice none 0 0, .int .i64 0, .int .i64 0, .int .u8 0, .slice none 0 0, .int .i64 0, .int .i64 0]) hs rfl (by kernel_rfl) rfl ?_); clear hs a; intro gx a w hs
    refine ⟨(hs.mem.first 0), ?_⟩
    refine b_eff 10 (by kernel_rfl) rfl #[true, true, true, true, true, true, true, true, true, true, true, false] rfl hs rfl (e_store (cl := [_, _, _, _, _, _, _, _, _, _, _, _, _, _, _, _, _, _, _]) 0 rfl hs rfl rfl (by kernel_rfl) rfl rfl rfl ?_); clear hs a; intro a w hs
    refine ⟨(hs.mem.first 0), ?_⟩
    refine b_eff 11 (by kernel_rfl) rfl #[true, true, true, true, true, true, true, true, true, true, true, true] rfl hs rfl (e_store (cl := [_, _, _, _, _, _, _, _, _, _, _, _, _, _, _, _, _, _, _]) 1 rfl hs rfl rfl (by kernel_rfl) rfl rfl rfl ?_); clear hs a; intro a w hs
    refine ⟨(hs.mem.first 0), ?_⟩
    refine b_done (by kernel_rfl) (then_normal ?_)
    refine wp_seq (wp_region_lit ?_)
    refine go hs (pV rfl (fun a hs => y_faddr (k' := 0) 0 hs (by kernel_rfl) rfl rfl) <| pV rfl (fun a hs => y_load hs Tryd.underlying37 rfl rfl (fun w hw => (hw.to 1 rfl).cellV rfl)) <| pV rfl (fun a hs => y_faddr (k' := 0) 0 hs (by kernel_rfl) rfl rfl) <| pV rfl (fun a hs => y_load hs Tryd.underlying37 rfl rfl (fun w hw => (hw.to 0 rfl).cellV rfl)) <| pV rfl (fun a hs => y_cmp hs rfl rfl rfl) <| pM rfl <| ?_); clear hs a; intro a hs
    rcases hs.know (d := 32) rfl with ⟨h32, hs1⟩ | ⟨h32, hs1⟩ <;> replace hs := hs1 <;> clear hs1
    · replace h32 := bne_iff_ne.1 h32
      refine go hs (pS rfl <| pS rfl <| pS rfl <| pS rfl <| pS rfl <| pT rfl rfl <| pM rfl <| pS rfl <| pS rfl <| pS rfl <| pS rfl <| pS rfl <| pT rfl rfl <| pM rfl <| pS rfl <| pS rfl <| pS rfl <| pS rfl <| pS rfl <| pS rfl <| pT rfl rfl <| pM rfl <| pS rfl <| pS rfl <| pS rfl <| pS rfl <| pS rfl <| pS rfl <| pT rfl rfl <| pM rfl <| pS rfl <| pS rfl <| pS rfl <| pS rfl <| pS rfl <| pS rfl <| pT rfl rfl <| ?_); clear hs a; intro a hs
      refine wpList_nil (then_normal ?_)
      refine wp_cond_true (hs.ev rfl) ?_
      refine wp_seq (wp_region_lit ?_)
      refine go hs (pA rfl <| ?_); clear hs a; intro a hs
      refine wpList_nil (then_normal (wp_ret (in_ret (then_ret (then_ret (in_ret (then_ret ?_)))))))
      have hL : likeI p q2 = false := by unfold likeI; rw [(beq_eq_false_iff_ne.2 h32)]; simp only [Bool.false_and, Bool.and_false]
      have hX : eqL likeI l m = false := by rw [← hinv, hd, hL, Bool.false_and]
      refine fin_ret hs (.tmp (hs.slots _ _ rfl) .nil) ⟨?_, hs.mem.base⟩
      rw [hX]; rfl
    replace h32 := bne_eq_false_iff_eq.1 h32
    refine go hs (pG rfl (fun a hs => y_faddr (k' := 1) 1 hs (by kernel_rfl) rfl rfl) <| pG rfl (fun a hs => y_load hs Tryd.underlying9 rfl rfl (fun w hw => (hw.to 1 rfl).cellV rfl)) <| pG rfl (fun a hs => y_faddr (k' := 1) 1 hs (by kernel_rfl) rfl rfl) <| pG rfl (fun a hs => y_load hs Tryd.underlying9 rfl rfl (fun w hw => (hw.to 0 rfl).cellV rfl)) <| pG rfl (fun a hs => y_sne hs rfl rfl) <| pF rfl rfl <| pM rfl <| ?_); clear hs a; intro a hs
    rcases hs.know (d := 39) rfl with ⟨h39, hs1⟩ | ⟨h39, hs1⟩ <;> replace hs := hs1 <;> clear hs1
    · replace h39 := ne_of_beq_false (not_t h39)
      refine go hs (pS rfl <| pS rfl <| pS rfl <| pS rfl <| pS rfl <| pT rfl rfl <| pM rfl <| pS rfl <| pS rfl <| pS rfl <| pS rfl <| pS rfl <| pS rfl <| pT rfl rfl <| pM rfl <| pS rfl <| pS rfl <| pS rfl <| pS rfl <| pS rfl <| pS rfl <| pT rfl rfl <| pM rfl <| pS rfl <| pS rfl <| pS rfl <| pS rfl <| pS rfl <| pS rfl <| pT rfl rfl <| ?_); clear hs a; intro a hs
      refine wpList_nil (then_normal ?_)
      refine wp_cond_true (hs.ev rfl) ?_
      refine wp_seq (wp_region_lit ?_)
      refine go hs (pA rfl <| ?_); clear hs a; intro a hs
      refine wpList_nil (then_normal (wp_ret (in_ret (then_ret (then_ret (in_ret (then_ret ?_)))))))
      have hL : likeI p q2 = false := by unfold likeI; rw [(beq_eq_false_iff_ne.2 h39)]; simp only [Bool.false_and, Bool.and_false]
      have hX : eqL likeI l m = false := by rw [← hinv, hd, hL, Bool.false_and]
      refine fin_ret hs (.tmp (hs.slots _ _ rfl) .nil) ⟨?_, hs.mem.base⟩
      rw [hX]; rfl
    replace h39 := eq_of_beq (not_f h39)
    refine go hs (pG rfl (fun a hs => y_faddr (k' := 15) 15 hs (by kernel_rfl) rfl rfl) <| pG rfl (fun a hs => y_load hs Tryd.underlying43 rfl rfl (fun w hw => (hw.to 1 rfl).cellV rfl)) <| pG rfl (fun a hs => y_faddr (k' := 15) 15 hs (by kernel_rfl) rfl rfl) <| pG rfl (fun a hs => y_load hs Tryd.underlying43 rfl rfl (fun w hw => (hw.to 0 rfl).cellV rfl)) <| pG rfl (fun a hs => y_cmp hs rfl rfl rfl) <| pF rfl rfl <| pM rfl <| ?_); clear hs a; intro a hs
    rcases hs.know (d := 46) rfl with ⟨h46, hs1⟩ | ⟨h46, hs1⟩ <;> replace hs := hs1 <;> clear hs1
    · replace h46 := bne_iff_ne.1 h46
      refine go hs (pS rfl <| pS rfl <| pS rfl <| pS rfl <| pS rfl <| pS rfl <| pT rfl rfl <| pM rfl <| pS rfl <| pS rfl <| pS rfl <| pS rfl <| pS rfl <| pS rfl <| pT rfl rfl <| pM rfl <| pS rfl <| pS rfl <| pS rfl <| pS rfl <| pS rfl <| pS rfl <| pT rfl rfl <| ?_); clear hs a; intro a hs
      refine wpList_nil (then_normal ?_)
      refine wp_cond_true (hs.ev rfl) ?_
      refine wp_seq (wp_region_lit ?_)
      refine go hs (pA rfl <| ?_); clear hs a; intro a hs
      refine wpList_nil (then_normal (wp_ret (in_ret (then_ret (then_ret (in_ret (then_ret ?_)))))))
      have hL : likeI p q2 = false := by unfold likeI; rw [(beq_eq_false_iff_ne.2 h46)]; simp only [Bool.false_and, Bool.and_false]
      have hX : eqL likeI l m = false := by rw [← hinv, hd, hL, Bool.false_and]
      refine fin_ret hs (.tmp (hs.slots _ _ rfl) .nil) ⟨?_, hs.mem.base⟩
      rw [hX]; rfl
    replace h46 := bne_eq_false_iff_eq.1 h46
    refine go hs (pG rfl (fun a hs => y_faddr (k' := 2) 2 hs (by kernel_rfl) rfl rfl) <| pG rfl (fun a hs => y_loadAgg (vs := [.int .u8 p.f2.f0, .int .i64 p.f2.f1, .string p.f2.f2, .slice A5 p.f2.f3.length c5, .int .i64 p.f2.f4, .int .i64 p.f2.f5]) hs Tryd.underlying24 rfl (by kernel_rfl) rfl (fun w hw k v hk => ((hw.to 1 rfl).cell).trans (sub_at 6 rfl hk))) <| pG rfl (fun a hs => y_faddr (k' := 2) 2 hs (by kernel_rfl) rfl rfl) <| pG rfl (fun a hs => y_loadAgg (vs := [.int .u8 q2.f2.f0, .int .i64 q2.f2.f1, .string q2.f2.f2, .slice B5 q2.f2.f3.length d5, .int .i64 q2.f2.f4, .int .i64 q2.f2.f5]) hs Tryd.underlying24 rfl (by kernel_rfl) rfl (fun w hw k v hk => ((hw.to 0 rfl).cell).trans (sub_at 6 rfl hk))) <| ?_); clear hs a; intro a hs
    refine a_effG hs rfl (e_callB Tryd.func55 rfl rfl hs rfl rfl (ref_like 16 (by decide) p.f2 q2.f2 A5 B5 c5 d5 _ (Kd.C_below ag5 hs.mem.base) (Kd.C_below bg5 hs.mem.base) hpI.1 hqI.1) ?_); clear hs a; intro a w hs
    refine go hs (pG rfl (fun a hs => y_not hs rfl) <| pF rfl rfl <| pM rfl <| ?_); clear hs a; intro a hs
    rcases hs.know (d := 54) rfl with ⟨h54, hs1⟩ | ⟨h54, hs1⟩ <;> replace hs := hs1 <;> clear hs1
    · replace h54 := (not_t h54)
      refine go hs (pS rfl <| pS rfl <| pS rfl <| pS rfl <| pS rfl <| pS rfl <| pT rfl rfl <| pM rfl <| pS rfl <| pS rfl <| pS rfl <| pS rfl <| pS rfl <| pS rfl <| pT rfl rfl <| ?_); clear hs a; intro a hs
      refine wpList_nil (then_normal ?_)
      refine wp_cond_true (hs.ev rfl) ?_
      refine wp_seq (wp_region_lit ?_)
      refine go hs (pA rfl <| ?_); clear hs a; intro a hs
      refine wpList_nil (then_normal (wp_ret (in_ret (then_ret (then_ret (in_ret (then_ret ?_)))))))
      have hL : likeI p q2 = false := by unfold likeI; rw [h54]; simp only [Bool.false_and, Bool.and_false]
      have hX : eqL likeI l m = false := by rw [← hinv, hd, hL, Bool.false_and]
      refine fin_ret hs (.tmp (hs.slots _ _ rfl) .nil) ⟨?_, hs.mem.base⟩
      rw [hX]; rfl
    replace h54 := (not_f h54)
    refine go hs (pG rfl (fun a hs => y_faddr (k' := 8) 8 hs (by kernel_rfl) rfl rfl) <| pG rfl (fun a hs => y_loadAgg (vs := [.int .u8 p.f3.f0, .string p.f3.f1, .slice A10 p.f3.f2.length c10, .slice A11 p.f3.f3.length c11, .slice A12 p.f3.f4.length c12, .int .i64 p.f3.f5, .int .i64 p.f3.f6]) hs Tryd.underlying41 rfl (by kernel_rfl) rfl (fun w hw k v hk => ((hw.to 1 rfl).cell).trans (sub_at 7 rfl hk))) <| pG rfl (fun a hs => y_faddr (k' := 8) 8 hs (by kernel_rfl) rfl rfl) <| pG rfl (fun a hs => y_loadAgg (vs := [.int .u8 q2.f3.f0, .string q2.f3.f1, .slice B10 q2.f3.f2.length d10, .slice B11 q2.f3.f3.length d11, .slice B12 q2.f3.f4.length d12, .int .i64 q2.f3.f5, .int .i64 q2.f3.f6]) hs Tryd.underlying41 rfl (by kernel_rfl) rfl (fun w hw k v hk => ((hw.to 0 rfl).cell).trans (sub_at 7 rfl hk))) <| ?_); clear hs a; intro a hs
    refine a_effG hs rfl (e_callB Tryd.func56 rfl rfl hs rfl rfl (ref_likeS 16 (by decide) p.f3 q2.f3 A10 A11 A12 B10 B11 B12 c10 c11 c12 d10 d11 d12 _ (Kd.C_below ag10 hs.mem.base) (Kd.C_below ag11 hs.mem.base) (Kd.C_below ag12 hs.mem.base) (Kd.C_below bg10 hs.mem.base) (Kd.C_below bg11 hs.mem.base) (Kd.C_below bg12 hs.mem.base) hpI.2.1 hqI.2.1) ?_); clear hs a; intro a w hs
    refine go hs (pG rfl (fun a hs => y_not hs rfl) <| pF rfl rfl <| pM rfl <| ?_); clear hs a; intro a hs
    rcases hs.know (d := 62) rfl with ⟨h62, hs1⟩ | ⟨h62, hs1⟩ <;> replace hs := hs1 <;> clear hs1
    · replace h62 := (not_t h62)
      refine go hs (pS rfl <| pS rfl <| pS rfl <| pS rfl <| pS rfl <| pS rfl <| pT rfl rfl <| ?_); clear hs a; intro a hs
      refine wpList_nil (then_normal ?_)
      refine wp_cond_true (hs.ev rfl) ?_
      refine wp_seq (wp_region_lit ?_)
      refine go hs (pA rfl <| ?_); clear hs a; intro a hs
      refine wpList_nil (then_normal (wp_ret (in_ret (then_ret (then_ret (in_ret (then_ret ?_)))))))
      have hL : likeI p q2 = false := by unfold likeI; rw [h62]; simp only [Bool.false_and, Bool.and_false]
      have hX : eqL likeI l m = false := by rw [← hinv, hd, hL, Bool.false_and]
      refine fin_ret hs (.tmp (hs.slots _ _ rfl) .nil) ⟨?_, hs.mem.base⟩
      rw [hX]; rfl
    replace h62 := (not_f h62)
    refine go hs (pG rfl (fun a hs => y_faddr (k' := 16) 16 hs (by kernel_rfl) rfl rfl) <| pG rfl (fun a hs => y_load hs Tryd.underlying23 rfl rfl (fun w hw => (hw.to 1 rfl).cellV rfl)) <| pG rfl (fun a hs => y_faddr (k' := 16) 16 hs (by kernel_rfl) rfl rfl) <| pG rfl (fun a hs => y_load hs Tryd.underlying23 rfl rfl (fun w hw => (hw.to 0 rfl).cellV rfl)) <| ?_); clear hs a; intro a hs
    refine a_effG hs rfl (e_callB Tryd.func57 rfl rfl hs rfl rfl (ref_likes 16 (by decide) p.f5 q2.f5 A16 B16 c16 d16 _ (Kd.C_below ag16 hs.mem.base) (Kd.C_below bg16 hs.mem.base) hpI.2.2.2 hqI.2.2.2) ?_); clear hs a; intro a w hs
    refine go hs (pG rfl (fun a hs => y_not hs rfl) <| pF rfl rfl <| ?_); clear hs a; intro a hs
    refine wpList_nil (then_normal ?_)
    refine wp_cond_split (hs.ev rfl) (fun h69 => ?_) (fun h69 => ?_)
    · replace h69 := (not_t h69)
      refine wp_seq (wp_region_lit ?_)
      refine go hs (pA rfl <| ?_); clear hs a; intro a hs
      refine wpList_nil (then_normal (wp_ret (in_ret (then_ret (then_ret (in_ret (then_ret ?_)))))))
      have hL : likeI p q2 = false := by unfold likeI; rw [h69]; simp only [Bool.false_and, Bool.and_false]
      have hX : eqL likeI l m = false := by rw [← hinv, hd, hL, Bool.false_and]
      refine fin_ret hs (.tmp (hs.slots _ _ rfl) .nil) ⟨?_, hs.mem.base⟩
      rw [hX]; rfl
    replace h69 := (not_f h69)
    have hL : likeI p q2 = true := by unfold likeI; rw [(beq_iff_eq.2 h32), Bool.true_and, (beq_iff_eq.2 h39), Bool.true_and, h54, Bool.true_and, h62, Bool.true_and, (beq_iff_eq.2 h46), Bool.true_and, h69]
    have hn := hinv
    rw [hd, hL, Bool.true_and] at hn
    refine wp_skip (in_normal (then_normal (wp_region_lit ?_)))
    refine go hs (pM rfl <| pV rfl (fun a hs => y_add hs rfl rfl (by omega)) <| pA rfl <| ?_); clear hs a; intro a hs
    refine wpList_nil (then_normal ?_)
    refine ⟨mm - 1, by omega, i + 1, by omega, hn, ?_⟩
    exact (hs.mem_to ((hs.mem.to 0 rfl).drop.to 0 rfl).drop).cut _ ⟨rfl, rfl, rfl, trivial⟩
  replace h16 := of_decide_eq_false h16
  have hX : eqL likeI l m = true := by rw [← hinv, List.drop_eq_nil_of_le (by omega), List.drop_eq_nil_of_le (by omega)]; rfl
  refine wp_exit (then_exit (then_exit (in_here (then_normal (wp_seq ?_)))))
  refine wp_region_lit (go hs (pA rfl <| ?_)); clear hs a; intro a hs
  refine wpList_nil (then_normal (wp_ret ?_))
  refine fin_ret hs (.tmp (hs.slots _ _ rfl) .nil) ⟨?_, hs.mem.base⟩
  rw [hX]; rfl
end Go.Proofs.YtibaidddhmdafaaDoor.E
end
section
namespace Go.Proofs.YtibaidddhmdafaaDoor.E
open Go Go.RowKit Go.Proofs.YtibaidddhmdafaaDoorW.PrintWords Go.Proofs.YtibaidddhmdafaaDoorW.PrintLast Go.Proofs.YtibaidddhmdafaaDoorW.PrintMore Go.Proofs.YtibaidddhmdafaaDoor.PA
set_option linter.unusedVariables false
set_option linter.unusedSimpArgs false
theorem refE_bad {q : Nat} {x : XE} {left : Int} (hN : ¬ exprParts x = some x.f3.length) (h : 0 ≤ left - 1) : refE (q + 1) x left = -1 := by
  unfold refE
  rw [if_pos]
  rw [xexpr, if_neg (by omega)]
  cases hE : exprParts x with
  | none => rfl
  | some p' =>
    show (if _ then _ else _ : Nat × Int).1 = 0
    rw [if_neg (fun h => hN (by rw [hE, h]))]
theorem refE_next {q : Nat} {y : XE} {r : List XE} {lf : Int} {X : Nat × Int} (h : ∃ d, xexprs (xexpr q) (y :: r) d lf = X) : 0 ≤ refE q y lf → ∃ d, xexprs (xexpr q) r d (refE q y lf) = X := by
  intro h0
  obtain ⟨d, hd⟩ := h
  rw [xexprs] at hd
  unfold refE at h0 ⊢
  split at h0
  · omega
  · rename_i h1
    rw [if_neg h1] at hd
    rw [if_neg h1]
    exact ⟨_, hd⟩
theorem refE_stop {q : Nat} {y : XE} {r : List XE} {lf : Int} {X : Nat × Int} (h : ∃ d, xexprs (xexpr q) (y :: r) d lf = X) (hl : 0 ≤ lf) : refE q y lf < 0 → X.1 = 0 ∧ refE q y lf = -1 := by
  intro h0
  obtain ⟨d, hd⟩ := h
  rw [xexprs] at hd
  unfold refE at h0 ⊢
  split at h0
  · rename_i h1
    rw [if_pos h1] at hd
    rw [if_pos h1, ← hd]
    exact ⟨rfl, rfl⟩
  · rename_i h1
    have := (xexpr_left q y lf hl).2.2 h1
    omega
def RefOk (n : Nat) : Prop := ∀ (x : XE) (A : Option Addr) (C : Nat) (left : Int) (v0 : World), Kd.C k25 v0 A x.f3.length x.f3 → smallX n x → 0 ≤ left ∧ left ≤ 8192 →
    Calls Tryd.prog 42 #[.agg #[.int .u8 x.f0, .int .i64 x.f1, .string x.f2, .slice A x.f3.length C, .int .i64 x.f4, .int .i64 x.f5], .int .i64 left, .int .i64 ((n : Nat) : Int)] v0 fun e w' => e = .returned (.int .i64 (refE n x left)) ∧ Below v0.heap.size v0 w'
set_option maxRecDepth 100000 in
theorem ref_expr_step (n : Nat) (hn : n ≤ 1000) (ih : ∀ q, q + 1 = n → RefOk q) (x : XE) (A : Option Addr) (C : Nat) (left : Int) (v0 : World) (hA : Kd.C k25 v0 A x.f3.length x.f3) (hsm : smallX n x) (hl : 0 ≤ left ∧ left ≤ 8192) :
    Calls Tryd.prog 42 #[.agg #[.int .u8 x.f0, .int .i64 x.f1, .string x.f2, .slice A x.f3.length C, .int .i64 x.f4, .int .i64 x.f5], .int .i64 left, .int .i64 ((n : Nat) : Int)] v0 fun e w' => e = .returned (.int .i64 (refE n x left)) ∧ Below v0.heap.size v0 w' := by
  refine calls_enter (N := 93) (n := 90) (args := [.agg #[.int .u8 x.f0, .int .i64 x.f1, .string x.f2, .slice A x.f3.length C, .int .i64 x.f4, .int .i64 x.f5], .int .i64 left, .int .i64 ((n : Nat) : Int)]) Tryd.func42 rfl rfl rfl (H.init v0) (fun a hs => ?_)
  have hcl := C_len hA
  refine wp_seq (wp_region_lit ?_)
  refine a_eff rfl (e_box (cs := #[_, _, _, _, _, _]) hs rfl rfl rfl ?_); clear hs a; intro gx a w hs
  refine go hs (pA rfl <| ?_); clear hs a; intro a hs
  refine wpList_nil (then_normal (wp_seq ?_))
  refine wp_region_lit (go hs (pM rfl <| pV rfl (fun a hs => y_sub hs rfl rfl (by omega)) <| pA rfl <| ?_)); clear hs a; intro a hs
  refine wpList_nil (then_normal (wp_seq ?_))
  refine wp_seq (wp_region_lit ?_)
  refine go hs (pM rfl <| pV rfl (fun a hs => y_cmp hs rfl rfl rfl) <| pM rfl <| ?_); clear hs a; intro a hs
  rcases hs.know (d := 13) rfl with ⟨h13, hs1⟩ | ⟨h13, hs1⟩ <;> replace hs := hs1 <;> clear hs1
  · replace h13 := of_decide_eq_true h13
    refine go hs (pS rfl <| pS rfl <| pT rfl rfl <| ?_); clear hs a; intro a hs
    refine wpList_nil (then_normal ?_)
    refine wp_cond_true (hs.ev rfl) ?_
    refine wp_seq (wp_region_lit ?_)
    refine go hs (pA rfl <| ?_); clear hs a; intro a hs
    refine wpList_nil (then_normal (wp_ret (then_ret ?_)))
    have hX : refE n x left = -1 := by
      unfold refE
      rw [if_pos]
      cases n with
      | zero => rfl
      | succ q => rw [xexpr, if_pos (by omega)]
    refine fin_ret hs (.tmp (hs.slots _ _ rfl) .nil) ⟨?_, hs.mem.base⟩
    rw [hX]; rfl
  replace h13 := of_decide_eq_false h13
  refine go hs (pG rfl (fun a hs => y_move hs rfl) <| pG rfl (fun a hs => y_cmp hs rfl rfl rfl) <| pF rfl rfl <| ?_); clear hs a; intro a hs
  refine wpList_nil (then_normal ?_)
  refine wp_cond_split (hs.ev rfl) (fun h16 => ?_) (fun h16 => ?_)
  · replace h16 := eq_of_beq h16
    refine wp_seq (wp_region_lit ?_)
    refine go hs (pA rfl <| ?_); clear hs a; intro a hs
    refine wpList_nil (then_normal (wp_ret (then_ret ?_)))
    have hX : refE n x left = -1 := by
      unfold refE
      rw [if_pos]
      cases n with
      | zero => rfl
      | succ q => rw [xexpr, if_pos (by omega)]
    refine fin_ret hs (.tmp (hs.slots _ _ rfl) .nil) ⟨?_, hs.mem.base⟩
    rw [hX]; rfl
  replace h16 := ne_of_beq_false h16
  obtain ⟨q, rfl⟩ : ∃ q, n = q + 1 := ⟨n - 1, by omega⟩
  refine wp_skip (then_normal (wp_seq ?_))
  refine wp_region_lit (go hs (pA rfl <| ?_)); clear hs a; intro a hs
  refine wpList_nil (then_normal ?_)
  refine wp_seq_cut (fun a w1 => ∃ (p : Nat), (p = 0 ∧ exprParts x = some 0 ∨ p = 1 ∧ x.f0 = 3 ∨ p = 2 ∧ 4 ≤ x.f0 ∧ x.f0 ≤ 8) ∧ St 93 v0 [(1, .int .i64 (left - 1)), (2, .int .i64 ((q + 1 : Nat) : Int)), (3, .pointer (some ⟨gx, 0, none⟩)), (7, .int .i64 ((p : Nat) : Int))] [pt gx #[.int .u8 x.f0, .int .i64 x.f1, .string x.f2, .slice A x.f3.length C, .int .i64 x.f4, .int .i64 x.f5] 25] a w1) ?_ (fun a w1 hJ => ?_)
  · refine wp_seq (wp_region_lit ?_)
    refine go hs (pV rfl (fun a hs => y_faddr (k' := 0) 0 hs (by kernel_rfl) rfl rfl) <| pV rfl (fun a hs => y_load hs Tryd.underlying22 rfl rfl (fun w hw => (hw.to 0 rfl).cellV rfl)) <| ?_); clear hs a; intro a hs
    refine wpList_nil (then_normal (wp_block ?_))
    refine wp_seq (wp_region_lit ?_)
    refine go hs (pV rfl (fun a hs => y_cmp hs rfl rfl rfl) <| pA rfl <| ?_); clear hs a; intro a hs
    refine wpList_nil (then_normal ?_)
    refine wp_cond_split (hs.ev rfl) (fun h19 => ?_) (fun h19 => ?_)
    · replace h19 := eq_of_beq h19
      refine wp_seq (wp_region_lit ?_)
      refine go hs (pV rfl (fun a hs => y_faddr (k' := 1) 1 hs (by kernel_rfl) rfl rfl) <| pV rfl (fun a hs => y_load hs Tryd.underlying3 rfl rfl (fun w hw => (hw.to 0 rfl).cellV rfl)) <| pV rfl (fun a hs => y_cmp hs rfl rfl rfl) <| pM rfl <| ?_); clear hs a; intro a hs
      rcases hs.know (d := 24) rfl with ⟨h24, hs1⟩ | ⟨h24, hs1⟩ <;> replace hs := hs1 <;> clear hs1
      · replace h24 := of_decide_eq_true h24
        refine go hs (pS rfl <| pS rfl <| pS rfl <| pT rfl rfl <| pM rfl <| pS rfl <| pS rfl <| pS rfl <| pT rfl rfl <| ?_); clear hs a; intro a hs
        refine wpList_nil (then_normal ?_)
        refine wp_cond_true (hs.ev rfl) ?_
        refine wp_seq (wp_region_lit ?_)
        refine go hs (pA rfl <| ?_); clear hs a; intro a hs
        refine wpList_nil (then_normal (wp_ret (in_ret (then_ret ?_))))
        have hE : exprParts x = none := by
          clear hs
          unfold exprParts
          repeat' split
          all_goals first | rfl | (exfalso; omega) | (rename_i hc; exfalso; omega) | (rename_i hc; exact absurd hc.2 (by assumption)) | (rename_i hc; rw [hc.2] at h44; cases h44)
        have hX : refE (q + 1) x left = -1 := refE_bad (by rw [hE]; exact fun h => by cases h) (by omega)
        refine fin_ret hs (.tmp (hs.slots _ _ rfl) .nil) ⟨?_, hs.mem.base⟩
        rw [hX]; rfl
      replace h24 := of_decide_eq_false h24
      refine go hs (pG rfl (fun a hs => y_faddr (k' := 1) 1 hs (by kernel_rfl) rfl rfl) <| pG rfl (fun a hs => y_load hs Tryd.underlying3 rfl rfl (fun w hw => (hw.to 0 rfl).cellV rfl)) <| pG rfl (fun a hs => y_cmp hs rfl rfl rfl) <| pF rfl rfl <| pM rfl <| ?_); clear hs a; intro a hs
      rcases hs.know (d := 29) rfl with ⟨h29, hs1⟩ | ⟨h29, hs1⟩ <;> replace hs := hs1 <;> clear hs1
      · replace h29 := of_decide_eq_true h29
        refine go hs (pS rfl <| pS rfl <| pS rfl <| pT rfl rfl <| ?_); clear hs a; intro a hs
        refine wpList_nil (then_normal ?_)
        refine wp_cond_true (hs.ev rfl) ?_
        refine wp_seq (wp_region_lit ?_)
        refine go hs (pA rfl <| ?_); clear hs a; intro a hs
        refine wpList_nil (then_normal (wp_ret (in_ret (then_ret ?_))))
        have hE : exprParts x = none := by
          clear hs
          unfold exprParts
          repeat' split
          all_goals first | rfl | (exfalso; omega) | (rename_i hc; exfalso; omega) | (rename_i hc; exact absurd hc.2 (by assumption)) | (rename_i hc; rw [hc.2] at h44; cases h44)
        have hX : refE (q + 1) x left = -1 := refE_bad (by rw [hE]; exact fun h => by cases h) (by omega)
        refine fin_ret hs (.tmp (hs.slots _ _ rfl) .nil) ⟨?_, hs.mem.base⟩
        rw [hX]; rfl
      replace h29 := of_decide_eq_false h29
      refine go hs (pG rfl (fun a hs => y_faddr (k' := 2) 2 hs (by kernel_rfl) rfl rfl) <| pG rfl (fun a hs => y_load hs Tryd.underlying9 rfl rfl (fun w hw => (hw.to 0 rfl).cellV rfl)) <| pG rfl (fun a hs => y_sneE hs rfl rfl) <| pF rfl rfl <| ?_); clear hs a; intro a hs
      refine wpList_nil (then_normal ?_)
      refine wp_cond_split (hs.ev rfl) (fun h33 => ?_) (fun h33 => ?_)
      · replace h33 := of_decide_eq_true h33
        refine wp_seq (wp_region_lit ?_)
        refine go hs (pA rfl <| ?_); clear hs a; intro a hs
        refine wpList_nil (then_normal (wp_ret (in_ret (then_ret ?_))))
        have hE : exprParts x = none := by
          clear hs
          unfold exprParts
          repeat' split
          all_goals first | rfl | (exfalso; omega) | (rename_i hc; exfalso; omega) | (rename_i hc; exact absurd hc.2 (by assumption)) | (rename_i hc; rw [hc.2] at h44; cases h44)
        have hX : refE (q + 1) x left = -1 := refE_bad (by rw [hE]; exact fun h => by cases h) (by omega)
        refine fin_ret hs (.tmp (hs.slots _ _ rfl) .nil) ⟨?_, hs.mem.base⟩
        rw [hX]; rfl
      replace h33 := of_decide_eq_false h33
      refine wp_skip (in_normal (then_normal ?_))
      refine ⟨0, .inl ⟨rfl, (by clear hs; unfold exprParts; (repeat' split) <;> first | rfl | (exfalso; omega) | (rename_i hc; exfalso; omega) | (rename_i hc; exact absurd ⟨by omega, by assumption⟩ hc))⟩, ?_⟩
      exact (hs.mem_to hs.mem).cut _ ⟨rfl, rfl, rfl, rfl, trivial⟩
    replace h19 := ne_of_beq_false h19
    refine wp_seq (wp_region_lit ?_)
    refine go hs (pV rfl (fun a hs => y_cmp hs rfl rfl rfl) <| pA rfl <| ?_); clear hs a; intro a hs
    refine wpList_nil (then_normal ?_)
    refine wp_cond_split (hs.ev rfl) (fun h34 => ?_) (fun h34 => ?_)
    · replace h34 := eq_of_beq h34
      refine wp_seq (wp_region_lit ?_)
      refine go hs (pV rfl (fun a hs => y_faddr (k' := 1) 1 hs (by kernel_rfl) rfl rfl) <| pV rfl (fun a hs => y_load hs Tryd.underlying3 rfl rfl (fun w hw => (hw.to 0 rfl).cellV rfl)) <| pV rfl (fun a hs => y_cmp hs rfl rfl rfl) <| pM rfl <| ?_); clear hs a; intro a hs
      rcases hs.know (d := 39) rfl with ⟨h39, hs1⟩ | ⟨h39, hs1⟩ <;> replace hs := hs1 <;> clear hs1
      · replace h39 := bne_iff_ne.1 h39
        refine go hs (pS rfl <| pS rfl <| pS rfl <| pS rfl <| pT rfl rfl <| ?_); clear hs a; intro a hs
        refine wpList_nil (then_normal ?_)
        refine wp_cond_true (hs.ev rfl) ?_
        refine wp_seq (wp_region_lit ?_)
        refine go hs (pA rfl <| ?_); clear hs a; intro a hs
        refine wpList_nil (then_normal (wp_ret (in_ret (then_ret ?_))))
        have hE : exprParts x = none := by
          clear hs
          unfold exprParts
          repeat' split
          all_goals first | rfl | (exfalso; omega) | (rename_i hc; exfalso; omega) | (rename_i hc; exact absurd hc.2 (by assumption)) | (rename_i hc; rw [hc.2] at h44; cases h44)
        have hX : refE (q + 1) x left = -1 := refE_bad (by rw [hE]; exact fun h => by cases h) (by omega)
        refine fin_ret hs (.tmp (hs.slots _ _ rfl) .nil) ⟨?_, hs.mem.base⟩
        rw [hX]; rfl
      replace h39 := bne_eq_false_iff_eq.1 h39
      refine go hs (pG rfl (fun a hs => y_faddr (k' := 2) 2 hs (by kernel_rfl) rfl rfl) <| pG rfl (fun a hs => y_load hs Tryd.underlying9 rfl rfl (fun w hw => (hw.to 0 rfl).cellV rfl)) <| ?_); clear hs a; intro a hs
      refine a_effG hs rfl (e_callB Tryd.func70 rfl rfl hs rfl rfl (recoupref09_Name.calls _ x.f2 (nameOk x.f2) _ (refName x.f2 hsm.1)) ?_); clear hs a; intro a w hs
      refine go hs (pG rfl (fun a hs => y_not hs rfl) <| pF rfl rfl <| ?_); clear hs a; intro a hs
      refine wpList_nil (then_normal ?_)
      refine wp_cond_split (hs.ev rfl) (fun h44 => ?_) (fun h44 => ?_)
      · replace h44 := (not_t h44)
        refine wp_seq (wp_region_lit ?_)
        refine go hs (pA rfl <| ?_); clear hs a; intro a hs
        refine wpList_nil (then_normal (wp_ret (in_ret (then_ret ?_))))
        have hE : exprParts x = none := by
          clear hs
          unfold exprParts
          repeat' split
          all_goals first | rfl | (exfalso; omega) | (rename_i hc; exfalso; omega) | (rename_i hc; exact absurd hc.2 (by assumption)) | (rename_i hc; rw [hc.2] at h44; cases h44)
        have hX : refE (q + 1) x left = -1 := refE_bad (by rw [hE]; exact fun h => by cases h) (by omega)
        refine fin_ret hs (.tmp (hs.slots _ _ rfl) .nil) ⟨?_, hs.mem.base⟩
        rw [hX]; rfl
      replace h44 := (not_f h44)
      refine wp_skip (in_normal (then_normal ?_))
      refine ⟨0, .inl ⟨rfl, (by clear hs; unfold exprParts; (repeat' split) <;> first | rfl | (exfalso; omega) | (rename_i hc; exfalso; omega) | (rename_i hc; exact absurd ⟨by omega, by assumption⟩ hc))⟩, ?_⟩
      exact (hs.mem_to hs.mem).cut _ ⟨rfl, rfl, rfl, rfl, trivial⟩
    replace h34 := ne_of_beq_false h34
    refine wp_seq (wp_region_lit ?_)
    refine go hs (pV rfl (fun a hs => y_cmp hs rfl rfl rfl) <| pA rfl <| ?_); clear hs a; intro a hs
    refine wpList_nil (then_normal ?_)
    refine wp_cond_split (hs.ev rfl) (fun h45 => ?_) (fun h45 => ?_)
    · replace h45 := eq_of_beq h45
      refine wp_region_lit (go hs (pA rfl <| ?_)); clear hs a; intro a hs
      refine wpList_nil (in_normal (then_normal ?_))
      refine ⟨1, .inr (.inl ⟨rfl, by omega⟩), ?_⟩
      exact (hs.mem_to hs.mem).cut _ ⟨rfl, rfl, rfl, rfl, trivial⟩
    replace h45 := ne_of_beq_false h45
    refine wp_seq (wp_seq ?_)
    refine wp_region_lit (go hs (pV rfl (fun a hs => y_cmp hs rfl rfl rfl) <| pA rfl <| ?_)); clear hs a; intro a hs
    refine wpList_nil (then_normal ?_)
    refine wp_cond_split (hs.ev rfl) (fun h47 => ?_) (fun h47 => ?_)
    · replace h47 := eq_of_beq h47
      replace hs := hs.say 47 rfl (congrArg Value.bool (beq_iff_eq.2 h47))
      refine wp_skip (then_normal ?_)
      refine wp_cond_true (hs.ev rfl) ?_
      refine wp_region_lit (go hs (pA rfl <| ?_)); clear hs a; intro a hs
      refine wpList_nil (in_normal (then_normal ?_))
      refine ⟨2, .inr (.inr ⟨rfl, by omega, by omega⟩), ?_⟩
      exact (hs.mem_to hs.mem).cut _ ⟨rfl, rfl, rfl, rfl, trivial⟩
    replace h47 := ne_of_beq_false h47
    replace hs := hs.say 47 rfl (congrArg Value.bool (beq_eq_false_iff_ne.2 h47))
    refine wp_seq (wp_region_lit ?_)
    refine go hs (pV rfl (fun a hs => y_cmp hs rfl rfl rfl) <| pA rfl <| ?_); clear hs a; intro a hs
    refine wpList_nil (then_normal ?_)
    refine wp_cond_split (hs.ev rfl) (fun h47 => ?_) (fun h47 => ?_)
    · replace h47 := eq_of_beq h47
      replace hs := hs.say 47 rfl (congrArg Value.bool (beq_iff_eq.2 h47))
      refine wp_skip (then_normal ?_)
      refine wp_cond_true (hs.ev rfl) ?_
      refine wp_region_lit (go hs (pA rfl <| ?_)); clear hs a; intro a hs
      refine wpList_nil (in_normal (then_normal ?_))
      refine ⟨2, .inr (.inr ⟨rfl, by omega, by omega⟩), ?_⟩
      exact (hs.mem_to hs.mem).cut _ ⟨rfl, rfl, rfl, rfl, trivial⟩
    replace h47 := ne_of_beq_false h47
    replace hs := hs.say 47 rfl (congrArg Value.bool (beq_eq_false_iff_ne.2 h47))
    refine wp_seq (wp_region_lit ?_)
    refine go hs (pV rfl (fun a hs => y_cmp hs rfl rfl rfl) <| pA rfl <| ?_); clear hs a; intro a hs
    refine wpList_nil (then_normal ?_)
    refine wp_cond_split (hs.ev rfl) (fun h47 => ?_) (fun h47 => ?_)
    · replace h47 := eq_of_beq h47
      replace hs := hs.say 47 rfl (congrArg Value.bool (beq_iff_eq.2 h47))
      refine wp_skip (then_normal ?_)
      refine wp_cond_true (hs.ev rfl) ?_
      refine wp_region_lit (go hs (pA rfl <| ?_)); clear hs a; intro a hs
      refine wpList_nil (in_normal (then_normal ?_))
      refine ⟨2, .inr (.inr ⟨rfl, by omega, by omega⟩), ?_⟩
      exact (hs.mem_to hs.mem).cut _ ⟨rfl, rfl, rfl, rfl, trivial⟩
    replace h47 := ne_of_beq_false h47
    replace hs := hs.say 47 rfl (congrArg Value.bool (beq_eq_false_iff_ne.2 h47))
    refine wp_seq (wp_region_lit ?_)
    refine go hs (pV rfl (fun a hs => y_cmp hs rfl rfl rfl) <| pA rfl <| ?_); clear hs a; intro a hs
    refine wpList_nil (then_normal ?_)
    refine wp_cond_split (hs.ev rfl) (fun h47 => ?_) (fun h47 => ?_)
    · replace h47 := eq_of_beq h47
      replace hs := hs.say 47 rfl (congrArg Value.bool (beq_iff_eq.2 h47))
      refine wp_skip (then_normal ?_)
      refine wp_cond_true (hs.ev rfl) ?_
      refine wp_region_lit (go hs (pA rfl <| ?_)); clear hs a; intro a hs
      refine wpList_nil (in_normal (then_normal ?_))
      refine ⟨2, .inr (.inr ⟨rfl, by omega, by omega⟩), ?_⟩
      exact (hs.mem_to hs.mem).cut _ ⟨rfl, rfl, rfl, rfl, trivial⟩
    replace h47 := ne_of_beq_false h47
    replace hs := hs.say 47 rfl (congrArg Value.bool (beq_eq_false_iff_ne.2 h47))
    refine wp_region_lit (go hs (pV rfl (fun a hs => y_cmp hs rfl rfl rfl) <| pA rfl <| ?_)); clear hs a; intro a hs
    refine wpList_nil (then_normal ?_)
    refine wp_cond_split (hs.ev rfl) (fun h47 => ?_) (fun h47 => ?_)
    · replace h47 := eq_of_beq h47
      replace hs := hs.say 47 rfl (congrArg Value.bool (beq_iff_eq.2 h47))
      refine wp_region_lit (go hs (pA rfl <| ?_)); clear hs a; intro a hs
      refine wpList_nil (in_normal (then_normal ?_))
      refine ⟨2, .inr (.inr ⟨rfl, by omega, by omega⟩), ?_⟩
      exact (hs.mem_to hs.mem).cut _ ⟨rfl, rfl, rfl, rfl, trivial⟩
    replace h47 := ne_of_beq_false h47
    replace hs := hs.say 47 rfl (congrArg Value.bool (beq_eq_false_iff_ne.2 h47))
    refine wp_seq (wp_region_lit ?_)
    refine go hs (pA rfl <| ?_); clear hs a; intro a hs
    refine wpList_nil (then_normal (wp_ret (in_ret (then_ret ?_))))
    have hE : exprParts x = none := by
      clear hs
      unfold exprParts
      repeat' split
      all_goals first | rfl | (exfalso; omega) | (rename_i hc; exfalso; omega) | (rename_i hc; exact absurd hc.2 (by assumption)) | (rename_i hc; rw [hc.2] at h44; cases h44)
    have hX : refE (q + 1) x left = -1 := refE_bad (by rw [hE]; exact fun h => by cases h) (by omega)
    refine fin_ret hs (.tmp (hs.slots _ _ rfl) .nil) ⟨?_, hs.mem.base⟩
    rw [hX]; rfl
  clear hs
  obtain ⟨p, hp, hs⟩ := hJ
  refine wp_seq (wp_seq ?_)
  refine wp_region_lit (go hs (pV rfl (fun a hs => y_faddr (k' := 3) 3 hs (by kernel_rfl) rfl rfl) <| pV rfl (fun a hs => y_load hs Tryd.underlying23 rfl rfl (fun w hw => (hw.to 0 rfl).cellV rfl)) <| pV rfl (fun a hs => y_lenL hs Tryd.underlying23 rfl) <| pM rfl <| pV rfl (fun a hs => y_cmp hs rfl rfl rfl) <| pM rfl <| ?_)); clear hs a; intro a hs
  rcases hs.know (d := 58) rfl with ⟨h58, hs1⟩ | ⟨h58, hs1⟩ <;> replace hs := hs1 <;> clear hs1
  · replace h58 := bne_iff_ne.1 h58
    refine go hs (pS rfl <| pS rfl <| pS rfl <| pS rfl <| pS rfl <| pS rfl <| pS rfl <| pS rfl <| pS rfl <| pS rfl <| pS rfl <| pS rfl <| pT rfl rfl <| ?_); clear hs a; intro a hs
    refine wpList_nil (then_normal ?_)
    refine wp_cond_true (hs.ev rfl) ?_
    refine wp_seq (wp_region_lit ?_)
    refine go hs (pA rfl <| ?_); clear hs a; intro a hs
    refine wpList_nil (then_normal (wp_ret (then_ret ?_)))
    have hN : ¬ exprParts x = some x.f3.length := by
      clear hs
      intro h
      rcases hp with ⟨rfl, hp⟩ | ⟨rfl, hp⟩ | ⟨rfl, hp, hp'⟩
      · rw [hp] at h; have h' := Option.some.inj h; omega
      · unfold exprParts at h; rw [if_neg (by omega), if_neg (by omega), if_pos hp] at h; split at h
        · have h' := Option.some.inj h; omega
        cases h
      unfold exprParts at h; rw [if_neg (by omega), if_neg (by omega), if_neg (by omega), if_pos ⟨hp, hp'⟩] at h; split at h
      · have h' := Option.some.inj h; omega
      cases h
    have hX : refE (q + 1) x left = -1 := refE_bad hN (by omega)
    refine fin_ret hs (.tmp (hs.slots _ _ rfl) .nil) ⟨?_, hs.mem.base⟩
    rw [hX]; rfl
  replace h58 := bne_eq_false_iff_eq.1 h58
  refine go hs (pG rfl (fun a hs => y_move hs rfl) <| pG rfl (fun a hs => y_cmp hs rfl rfl rfl) <| pG rfl (fun a hs => y_move hs rfl) <| ?_); clear hs a; intro a hs
  rcases hs.know (d := 61) rfl with ⟨h61, hs1⟩ | ⟨h61, hs1⟩ <;> replace hs := hs1 <;> clear hs1
  · replace h61 := of_decide_eq_true h61
    refine go hs (pG rfl (fun a hs => y_faddr (k' := 1) 1 hs (by kernel_rfl) rfl rfl) <| pG rfl (fun a hs => y_load hs Tryd.underlying3 rfl rfl (fun w hw => (hw.to 0 rfl).cellV rfl)) <| pG rfl (fun a hs => y_cmp hs rfl rfl rfl) <| pG rfl (fun a hs => y_move hs rfl) <| ?_); clear hs a; intro a hs
    rcases hs.know (d := 65) rfl with ⟨h65, hs1⟩ | ⟨h65, hs1⟩ <;> replace hs := hs1 <;> clear hs1
    · replace h65 := bne_iff_ne.1 h65
      refine go hs (pS rfl <| pS rfl <| pS rfl <| pG rfl (fun a hs => y_pickT hs rfl rfl rfl) <| pG rfl (fun a hs => y_pickT hs rfl rfl rfl) <| pF rfl rfl <| ?_); clear hs a; intro a hs
      refine wpList_nil (then_normal ?_)
      refine wp_cond_true (hs.ev rfl) ?_
      refine wp_seq (wp_region_lit ?_)
      refine go hs (pA rfl <| ?_); clear hs a; intro a hs
      refine wpList_nil (then_normal (wp_ret (then_ret ?_)))
      have hN : ¬ exprParts x = some x.f3.length := by
        clear hs
        intro h
        rcases hp with ⟨rfl, hp⟩ | ⟨rfl, hp⟩ | ⟨rfl, hp, hp'⟩
        · rw [hp] at h; have h' := Option.some.inj h; omega
        · unfold exprParts at h; rw [if_neg (by omega), if_neg (by omega), if_pos hp] at h; split at h
          · have h' := Option.some.inj h; omega
          cases h
        unfold exprParts at h; rw [if_neg (by omega), if_neg (by omega), if_neg (by omega), if_pos ⟨hp, hp'⟩] at h; split at h
        · have h' := Option.some.inj h; omega
        cases h
      have hX : refE (q + 1) x left = -1 := refE_bad hN (by omega)
      refine fin_ret hs (.tmp (hs.slots _ _ rfl) .nil) ⟨?_, hs.mem.base⟩
      rw [hX]; rfl
    replace h65 := bne_eq_false_iff_eq.1 h65
    refine go hs (pG rfl (fun a hs => y_faddr (k' := 2) 2 hs (by kernel_rfl) rfl rfl) <| pG rfl (fun a hs => y_load hs Tryd.underlying9 rfl rfl (fun w hw => (hw.to 0 rfl).cellV rfl)) <| pG rfl (fun a hs => y_sneE hs rfl rfl) <| pG rfl (fun a hs => y_pickF hs rfl rfl rfl) <| pG rfl (fun a hs => y_pickT hs rfl rfl rfl) <| pF rfl rfl <| ?_); clear hs a; intro a hs
    refine wpList_nil (then_normal ?_)
    refine wp_cond_split (hs.ev rfl) (fun h71 => ?_) (fun h71 => ?_)
    · replace h71 := of_decide_eq_true h71
      refine wp_seq (wp_region_lit ?_)
      refine go hs (pA rfl <| ?_); clear hs a; intro a hs
      refine wpList_nil (then_normal (wp_ret (then_ret ?_)))
      have hN : ¬ exprParts x = some x.f3.length := by
        clear hs
        intro h
        rcases hp with ⟨rfl, hp⟩ | ⟨rfl, hp⟩ | ⟨rfl, hp, hp'⟩
        · rw [hp] at h; have h' := Option.some.inj h; omega
        · unfold exprParts at h; rw [if_neg (by omega), if_neg (by omega), if_pos hp] at h; split at h
          · have h' := Option.some.inj h; omega
          cases h
        unfold exprParts at h; rw [if_neg (by omega), if_neg (by omega), if_neg (by omega), if_pos ⟨hp, hp'⟩] at h; split at h
        · have h' := Option.some.inj h; omega
        cases h
      have hX : refE (q + 1) x left = -1 := refE_bad hN (by omega)
      refine fin_ret hs (.tmp (hs.slots _ _ rfl) .nil) ⟨?_, hs.mem.base⟩
      rw [hX]; rfl
    replace h71 := of_decide_eq_false h71
    refine wp_skip (then_normal (wp_seq ?_))
    refine wp_seq (wp_region_lit ?_)
    refine go hs (pA rfl <| ?_); clear hs a; intro a hs
    refine wpList_nil (then_normal (wp_block ?_))
    have hL : x.f3.length = p ∧ (0 < p → x.f1 = 0 ∧ x.f2.size = 0) := by constructor <;> omega
    refine wp_loopN (fun m a w1 => ∃ (i : Nat) (lf : Int), (i + m = x.f3.length) ∧ (-1 ≤ lf ∧ lf ≤ 8192) ∧ (0 ≤ lf → ∃ d, xexprs (xexpr q) (x.f3.drop i) d lf = xexprs (xexpr q) x.f3 0 (left - 1)) ∧ (lf < 0 → (xexprs (xexpr q) x.f3 0 (left - 1)).1 = 0 ∧ lf = -1) ∧ St 93 v0 [(1, .int .i64 lf), (2, .int .i64 ((q + 1 : Nat) : Int)), (3, .pointer (some ⟨gx, 0, none⟩)), (8, .int .i64 ((i : Nat) : Int))] [pt gx #[.int .u8 x.f0, .int .i64 x.f1, .string x.f2, .slice A x.f3.length C, .int .i64 x.f4, .int .i64 x.f5] 25] a w1) (x.f3.length) ⟨0, left - 1, by omega, by omega, fun _ => ⟨0, rfl⟩, fun h => by omega, ?_⟩ (fun m a w1 hJ => ?_)
    · exact (hs.mem_to hs.mem).cut _ ⟨rfl, rfl, rfl, rfl, trivial⟩
    clear hs
    obtain ⟨i, lf, hi, hlf, hinv, hneg, hs⟩ := hJ
    refine wp_seq (wp_seq ?_)
    refine wp_region_lit (go hs (pM rfl <| pV rfl (fun a hs => y_faddr (k' := 3) 3 hs (by kernel_rfl) rfl rfl) <| pV rfl (fun a hs => y_load hs Tryd.underlying23 rfl rfl (fun w hw => (hw.to 0 rfl).cellV rfl)) <| pV rfl (fun a hs => y_lenL hs Tryd.underlying23 rfl) <| pV rfl (fun a hs => y_cmp hs rfl rfl rfl) <| pM rfl <| ?_)); clear hs a; intro a hs
    rcases hs.know (d := 77) rfl with ⟨h77, hs1⟩ | ⟨h77, hs1⟩ <;> replace hs := hs1 <;> clear hs1
    · replace h77 := of_decide_eq_true h77
      refine go hs (pG rfl (fun a hs => y_move hs rfl) <| pG rfl (fun a hs => y_cmp hs rfl rfl rfl) <| pT rfl rfl <| ?_); clear hs a; intro a hs
      refine wpList_nil (then_normal ?_)
      refine wp_cond_split (hs.ev rfl) (fun h80 => ?_) (fun h80 => ?_)
      · replace h80 := of_decide_eq_true h80
        obtain ⟨y, hy⟩ : ∃ y, x.f3[i]? = some y := ⟨_, List.getElem?_eq_getElem (by omega)⟩
        obtain ⟨g0, o, rfl, hcell⟩ := C_atG (show 0 < 6 by decide) hA (by omega)
        obtain ⟨cs, hK, hc⟩ := hcell i y hy
        obtain ⟨A0, c0, rfl, hlc, hC⟩ := k25_open hK
        have hdrop : x.f3.drop i = y :: x.f3.drop (i + 1) := by
          rw [List.drop_eq_getElem_cons (by omega)]
          rw [List.getElem?_eq_getElem (by omega)] at hy
          injection hy with hy
          rw [hy]
        rw [hdrop] at hinv
        refine wp_skip (then_normal (wp_seq ?_))
        refine wp_block (wp_region_lit ?_)
        refine go hs (pV rfl (fun a hs => y_faddr (k' := 3) 3 hs (by kernel_rfl) rfl rfl) <| pV rfl (fun a hs => y_load hs Tryd.underlying23 rfl rfl (fun w hw => (hw.to 0 rfl).cellV rfl)) <| pM rfl <| pV rfl (fun a hs => y_idxB (size := 6) (off := o + i * 6) hs Tryd.underlying23 (by kernel_rfl) rfl rfl (by omega) (by omega) (by simp)) <| pV rfl (fun a hs => y_loadAgg (vs := [.int .u8 y.f0, .int .i64 y.f1, .string y.f2, .slice A0 y.f3.length c0, .int .i64 y.f4, .int .i64 y.f5]) hs Tryd.underlying25 rfl (by kernel_rfl) rfl (fun w hw k v hk => hc w hw.base k v hk)) <| pM rfl <| pM rfl <| pV rfl (fun a hs => y_sub hs rfl rfl (by omega)) <| ?_); clear hs a; intro a hs
        replace hs := hs.say 90 rfl (congrArg (Value.int IntKind.i64) (show (((q + 1 : Nat) : Int) - 1) = ((q : Nat) : Int) by omega))
        have hrb := refE_bounds q y lf (by omega)
        refine a_eff rfl (e_callB Tryd.func42 rfl rfl hs rfl rfl (ih q rfl y A0 c0 lf _ (Kd.C_below hC hs.mem.base) (hsm.2 y (List.mem_of_getElem? hy)) (by omega)) ?_); clear hs a; intro a w hs
        refine go hs (pA rfl <| ?_); clear hs a; intro a hs
        refine wpList_nil (in_normal (then_normal (wp_region_lit ?_)))
        refine go hs (pM rfl <| pV rfl (fun a hs => y_add hs rfl rfl (by omega)) <| pA rfl <| ?_); clear hs a; intro a hs
        refine wpList_nil (then_normal ?_)
        refine ⟨m - 1, by omega, i + 1, refE q y lf, by omega, by omega, refE_next (hinv (by omega)), refE_stop (hinv (by omega)) (by omega), ?_⟩
        exact (hs.mem_to hs.mem).cut _ ⟨rfl, rfl, rfl, rfl, trivial⟩
      replace h80 := of_decide_eq_false h80
      refine wp_exit (then_exit (then_exit (in_here (then_normal (wp_seq ?_)))))
      refine wp_region_lit (go hs (pM rfl <| pA rfl <| ?_)); clear hs a; intro a hs
      refine wpList_nil (then_normal (wp_ret ?_))
      have hE : exprParts x = some x.f3.length := by
        clear hs hinv hneg
        rcases hp with ⟨rfl, hp⟩ | ⟨rfl, hp⟩ | ⟨rfl, hp, hp'⟩
        · rw [hp, hL.1]
        · unfold exprParts; rw [if_neg (by omega), if_neg (by omega), if_pos hp, if_pos (hL.2 (by decide)), hL.1]
        unfold exprParts; rw [if_neg (by omega), if_neg (by omega), if_neg (by omega), if_pos ⟨hp, hp'⟩, if_pos (hL.2 (by decide)), hL.1]
      have hX : refE (q + 1) x left = lf := by
        have h1 : xexpr (q + 1) x left = xexprs (xexpr q) x.f3 0 (left - 1) := by rw [xexpr, if_neg (by omega), hE]; show (if _ then _ else _) = _; rw [if_pos rfl]
        unfold refE
        rw [h1]
        by_cases h0 : 0 ≤ lf
        · obtain ⟨d, hd⟩ := hinv h0
          rw [List.drop_eq_nil_of_le (by omega), xexprs] at hd
          rw [← hd, if_neg (by show ¬ d + 1 = 0; omega)]
        rw [if_pos (hneg (by omega)).1, (hneg (by omega)).2]
      refine fin_ret hs (.tmp (hs.slots _ _ rfl) .nil) ⟨?_, hs.mem.base⟩
      rw [hX]; rfl
    replace h77 := of_decide_eq_false h77
    refine go hs (pS rfl <| pS rfl <| pF rfl rfl <| ?_); clear hs a; intro a hs
    refine wpList_nil (then_normal ?_)
    refine wp_cond_false (hs.ev rfl) ?_
    refine wp_exit (then_exit (then_exit (in_here (then_normal (wp_seq ?_)))))
    refine wp_region_lit (go hs (pM rfl <| pA rfl <| ?_)); clear hs a; intro a hs
    refine wpList_nil (then_normal (wp_ret ?_))
    have hE : exprParts x = some x.f3.length := by
      clear hs hinv hneg
      rcases hp with ⟨rfl, hp⟩ | ⟨rfl, hp⟩ | ⟨rfl, hp, hp'⟩
      · rw [hp, hL.1]
      · unfold exprParts; rw [if_neg (by omega), if_neg (by omega), if_pos hp, if_pos (hL.2 (by decide)), hL.1]
      unfold exprParts; rw [if_neg (by omega), if_neg (by omega), if_neg (by omega), if_pos ⟨hp, hp'⟩, if_pos (hL.2 (by decide)), hL.1]
    have hX : refE (q + 1) x left = lf := by
      have h1 : xexpr (q + 1) x left = xexprs (xexpr q) x.f3 0 (left - 1) := by rw [xexpr, if_neg (by omega), hE]; show (if _ then _ else _) = _; rw [if_pos rfl]
      unfold refE
      rw [h1]
      by_cases h0 : 0 ≤ lf
      · obtain ⟨d, hd⟩ := hinv h0
        rw [List.drop_eq_nil_of_le (by omega), xexprs] at hd
        rw [← hd, if_neg (by show ¬ d + 1 = 0; omega)]
      rw [if_pos (hneg (by omega)).1, (hneg (by omega)).2]
    refine fin_ret hs (.tmp (hs.slots _ _ rfl) .nil) ⟨?_, hs.mem.base⟩
    rw [hX]; rfl
  replace h61 := of_decide_eq_false h61
  refine go hs (pS rfl <| pS rfl <| pS rfl <| pS rfl <| pS rfl <| pS rfl <| pS rfl <| pS rfl <| pG rfl (fun a hs => y_pickF hs rfl rfl rfl) <| pF rfl rfl <| ?_); clear hs a; intro a hs
  refine wpList_nil (then_normal ?_)
  refine wp_cond_false (hs.ev rfl) ?_
  refine wp_skip (then_normal (wp_seq ?_))
  refine wp_seq (wp_region_lit ?_)
  refine go hs (pA rfl <| ?_); clear hs a; intro a hs
  refine wpList_nil (then_normal (wp_block ?_))
  have hL : x.f3.length = p ∧ (0 < p → x.f1 = 0 ∧ x.f2.size = 0) := by constructor <;> omega
  refine wp_loopN (fun m a w1 => ∃ (i : Nat) (lf : Int), (i + m = x.f3.length) ∧ (-1 ≤ lf ∧ lf ≤ 8192) ∧ (0 ≤ lf → ∃ d, xexprs (xexpr q) (x.f3.drop i) d lf = xexprs (xexpr q) x.f3 0 (left - 1)) ∧ (lf < 0 → (xexprs (xexpr q) x.f3 0 (left - 1)).1 = 0 ∧ lf = -1) ∧ St 93 v0 [(1, .int .i64 lf), (2, .int .i64 ((q + 1 : Nat) : Int)), (3, .pointer (some ⟨gx, 0, none⟩)), (8, .int .i64 ((i : Nat) : Int))] [pt gx #[.int .u8 x.f0, .int .i64 x.f1, .string x.f2, .slice A x.f3.length C, .int .i64 x.f4, .int .i64 x.f5] 25] a w1) (x.f3.length) ⟨0, left - 1, by omega, by omega, fun _ => ⟨0, rfl⟩, fun h => by omega, ?_⟩ (fun m a w1 hJ => ?_)
  · exact (hs.mem_to hs.mem).cut _ ⟨rfl, rfl, rfl, rfl, trivial⟩
  clear hs
  obtain ⟨i, lf, hi, hlf, hinv, hneg, hs⟩ := hJ
  refine wp_seq (wp_seq ?_)
  refine wp_region_lit (go hs (pM rfl <| pV rfl (fun a hs => y_faddr (k' := 3) 3 hs (by kernel_rfl) rfl rfl) <| pV rfl (fun a hs => y_load hs Tryd.underlying23 rfl rfl (fun w hw => (hw.to 0 rfl).cellV rfl)) <| pV rfl (fun a hs => y_lenL hs Tryd.underlying23 rfl) <| pV rfl (fun a hs => y_cmp hs rfl rfl rfl) <| pM rfl <| ?_)); clear hs a; intro a hs
  rcases hs.know (d := 77) rfl with ⟨h77, hs1⟩ | ⟨h77, hs1⟩ <;> replace hs := hs1 <;> clear hs1
  · replace h77 := of_decide_eq_true h77
    refine go hs (pG rfl (fun a hs => y_move hs rfl) <| pG rfl (fun a hs => y_cmp hs rfl rfl rfl) <| pT rfl rfl <| ?_); clear hs a; intro a hs
    refine wpList_nil (then_normal ?_)
    refine wp_cond_split (hs.ev rfl) (fun h80 => ?_) (fun h80 => ?_)
    · replace h80 := of_decide_eq_true h80
      obtain ⟨y, hy⟩ : ∃ y, x.f3[i]? = some y := ⟨_, List.getElem?_eq_getElem (by omega)⟩
      obtain ⟨g0, o, rfl, hcell⟩ := C_atG (show 0 < 6 by decide) hA (by omega)
      obtain ⟨cs, hK, hc⟩ := hcell i y hy
      obtain ⟨A0, c0, rfl, hlc, hC⟩ := k25_open hK
      have hdrop : x.f3.drop i = y :: x.f3.drop (i + 1) := by
        rw [List.drop_eq_getElem_cons (by omega)]
        rw [List.getElem?_eq_getElem (by omega)] at hy
        injection hy with hy
        rw [hy]
      rw [hdrop] at hinv
      refine wp_skip (then_normal (wp_seq ?_))
      refine wp_block (wp_region_lit ?_)
      refine go hs (pV rfl (fun a hs => y_faddr (k' := 3) 3 hs (by kernel_rfl) rfl rfl) <| pV rfl (fun a hs => y_load hs Tryd.underlying23 rfl rfl (fun w hw => (hw.to 0 rfl).cellV rfl)) <| pM rfl <| pV rfl (fun a hs => y_idxB (size := 6) (off := o + i * 6) hs Tryd.underlying23 (by kernel_rfl) rfl rfl (by omega) (by omega) (by simp)) <| pV rfl (fun a hs => y_loadAgg (vs := [.int .u8 y.f0, .int .i64 y.f1, .string y.f2, .slice A0 y.f3.length c0, .int .i64 y.f4, .int .i64 y.f5]) hs Tryd.underlying25 rfl (by kernel_rfl) rfl (fun w hw k v hk => hc w hw.base k v hk)) <| pM rfl <| pM rfl <| pV rfl (fun a hs => y_sub hs rfl rfl (by omega)) <| ?_); clear hs a; intro a hs
      replace hs := hs.say 90 rfl (congrArg (Value.int IntKind.i64) (show (((q + 1 : Nat) : Int) - 1) = ((q : Nat) : Int) by omega))
      have hrb := refE_bounds q y lf (by omega)
      refine a_eff rfl (e_callB Tryd.func42 rfl rfl hs rfl rfl (ih q rfl y A0 c0 lf _ (Kd.C_below hC hs.mem.base) (hsm.2 y (List.mem_of_getElem? hy)) (by omega)) ?_); clear hs a; intro a w hs
      refine go hs (pA rfl <| ?_); clear hs a; intro a hs
      refine wpList_nil (in_normal (then_normal (wp_region_lit ?_)))
      refine go hs (pM rfl <| pV rfl (fun a hs => y_add hs rfl rfl (by omega)) <| pA rfl <| ?_); clear hs a; intro a hs
      refine wpList_nil (then_normal ?_)
      refine ⟨m - 1, by omega, i + 1, refE q y lf, by omega, by omega, refE_next (hinv (by omega)), refE_stop (hinv (by omega)) (by omega), ?_⟩
      exact (hs.mem_to hs.mem).cut _ ⟨rfl, rfl, rfl, rfl, trivial⟩
    replace h80 := of_decide_eq_false h80
    refine wp_exit (then_exit (then_exit (in_here (then_normal (wp_seq ?_)))))
    refine wp_region_lit (go hs (pM rfl <| pA rfl <| ?_)); clear hs a; intro a hs
    refine wpList_nil (then_normal (wp_ret ?_))
    have hE : exprParts x = some x.f3.length := by
      clear hs hinv hneg
      rcases hp with ⟨rfl, hp⟩ | ⟨rfl, hp⟩ | ⟨rfl, hp, hp'⟩
      · rw [hp, hL.1]
      · unfold exprParts; rw [if_neg (by omega), if_neg (by omega), if_pos hp, if_pos (hL.2 (by decide)), hL.1]
      unfold exprParts; rw [if_neg (by omega), if_neg (by omega), if_neg (by omega), if_pos ⟨hp, hp'⟩, if_pos (hL.2 (by decide)), hL.1]
    have hX : refE (q + 1) x left = lf := by
      have h1 : xexpr (q + 1) x left = xexprs (xexpr q) x.f3 0 (left - 1) := by rw [xexpr, if_neg (by omega), hE]; show (if _ then _ else _) = _; rw [if_pos rfl]
      unfold refE
      rw [h1]
      by_cases h0 : 0 ≤ lf
      · obtain ⟨d, hd⟩ := hinv h0
        rw [List.drop_eq_nil_of_le (by omega), xexprs] at hd
        rw [← hd, if_neg (by show ¬ d + 1 = 0; omega)]
      rw [if_pos (hneg (by omega)).1, (hneg (by omega)).2]
    refine fin_ret hs (.tmp (hs.slots _ _ rfl) .nil) ⟨?_, hs.mem.base⟩
    rw [hX]; rfl
  replace h77 := of_decide_eq_false h77
  refine go hs (pS rfl <| pS rfl <| pF rfl rfl <| ?_); clear hs a; intro a hs
  refine wpList_nil (then_normal ?_)
  refine wp_cond_false (hs.ev rfl) ?_
  refine wp_exit (then_exit (then_exit (in_here (then_normal (wp_seq ?_)))))
  refine wp_region_lit (go hs (pM rfl <| pA rfl <| ?_)); clear hs a; intro a hs
  refine wpList_nil (then_normal (wp_ret ?_))
  have hE : exprParts x = some x.f3.length := by
    clear hs hinv hneg
    rcases hp with ⟨rfl, hp⟩ | ⟨rfl, hp⟩ | ⟨rfl, hp, hp'⟩
    · rw [hp, hL.1]
    · unfold exprParts; rw [if_neg (by omega), if_neg (by omega), if_pos hp, if_pos (hL.2 (by decide)), hL.1]
    unfold exprParts; rw [if_neg (by omega), if_neg (by omega), if_neg (by omega), if_pos ⟨hp, hp'⟩, if_pos (hL.2 (by decide)), hL.1]
  have hX : refE (q + 1) x left = lf := by
    have h1 : xexpr (q + 1) x left = xexprs (xexpr q) x.f3 0 (left - 1) := by rw [xexpr, if_neg (by omega), hE]; show (if _ then _ else _) = _; rw [if_pos rfl]
    unfold refE
    rw [h1]
    by_cases h0 : 0 ≤ lf
    · obtain ⟨d, hd⟩ := hinv h0
      rw [List.drop_eq_nil_of_le (by omega), xexprs] at hd
      rw [← hd, if_neg (by show ¬ d + 1 = 0; omega)]
    rw [if_pos (hneg (by omega)).1, (hneg (by omega)).2]
  refine fin_ret hs (.tmp (hs.slots _ _ rfl) .nil) ⟨?_, hs.mem.base⟩
  rw [hX]; rfl
theorem ref_expr : ∀ n : Nat, n ≤ 1000 → RefOk n := fun n => by
  induction n using Nat.strongRecOn with
  | _ n ih => exact fun hn x A C left v0 hA hsm hl => ref_expr_step n hn (fun q hq => ih q (by omega) (by omega)) x A C left v0 hA hsm hl
/-- What the reference's exprs answers. -/
def refL (l : List XE) (left : Int) : Int := if (xlist stE l left).1 = true then (xlist stE l left).2 else -1
theorem refL_next {l r : List XE} {y : XE} {left lf : Int} (hst : 0 ≤ lf → xlist stE l left = (if (stE y lf).1 = true then xlist stE r (stE y lf).2 else (false, (stE y lf).2))) (h0 : 0 ≤ lf) : 0 ≤ refE 16 y lf → xlist stE r (refE 16 y lf) = xlist stE l left := by
  intro h
  unfold refE at h ⊢
  split at h
  · omega
  · rename_i h1
    rw [if_neg h1, hst h0, if_pos (show (stE y lf).1 = true from decide_eq_true (by omega))]; rfl
theorem refL_stop {l r : List XE} {y : XE} {left lf : Int} (hst : 0 ≤ lf → xlist stE l left = (if (stE y lf).1 = true then xlist stE r (stE y lf).2 else (false, (stE y lf).2))) (h0 : 0 ≤ lf) : refE 16 y lf < 0 → refL l left = -1 := by
  intro h
  unfold refE at h
  split at h
  · rename_i h1
    unfold refL
    rw [hst h0, if_neg (show ¬ (stE y lf).1 = true from fun h2 => by have := of_decide_eq_true h2; omega)]; rfl
  · rename_i h1
    have := (xexpr_left 16 y lf h0).2.2 h1
    omega
set_option maxRecDepth 100000 in
theorem ref_exprs (A : Option Addr) (c : Nat) (l : List XE) (left : Int) (v0 : World) (hex : RefOk 16) (hA : Kd.C k25 v0 A l.length l) (hsm : ∀ p ∈ l, smallX 16 p) (hl : 0 ≤ left ∧ left ≤ 8192) :
    Calls Tryd.prog 73 #[.slice A l.length c, .int .i64 left] v0 fun e w' => e = .returned (.int .i64 (refL l left)) ∧ Below v0.heap.size v0 w' := by
  refine calls_enter (N := 23) (n := 21) (args := [.slice A l.length c, .int .i64 left]) Tryd.func73 rfl rfl rfl (H.init v0) (fun a hs => ?_)
  have hcl := C_len hA
  refine wp_seq (wp_region_lit ?_)
  refine go hs (pA rfl <| ?_); clear hs a; intro a hs
  refine wpList_nil (then_normal (wp_seq ?_))
  refine wp_seq (wp_region_lit ?_)
  refine go hs (pA rfl <| ?_); clear hs a; intro a hs
  refine wpList_nil (then_normal (wp_block ?_))
  refine wp_loopN (fun m a w1 => ∃ (i : Nat) (lf : Int), (i + m = l.length) ∧ (-1 ≤ lf ∧ lf ≤ 8192) ∧ (0 ≤ lf → xlist stE (l.drop i) lf = xlist stE l left) ∧ (lf < 0 → refL l left = -1) ∧ St 23 v0 [(0, .slice A l.length c), (1, .int .i64 lf), (5, .int .i64 ((i : Nat) : Int))] [] a w1) (l.length) ⟨0, left, by omega, by omega, fun _ => rfl, fun h => by omega, ?_⟩ (fun m a w1 hJ => ?_)
  · exact (hs.mem_to hs.mem).cut _ ⟨rfl, rfl, rfl, trivial⟩
  clear hs
  obtain ⟨i, lf, hi, hlf, hinv, hneg, hs⟩ := hJ
  refine wp_seq (wp_seq ?_)
  refine wp_region_lit (go hs (pM rfl <| pM rfl <| pV rfl (fun a hs => y_lenL hs Tryd.underlying23 rfl) <| pV rfl (fun a hs => y_cmp hs rfl rfl rfl) <| pM rfl <| ?_)); clear hs a; intro a hs
  rcases hs.know (d := 10) rfl with ⟨h10, hs1⟩ | ⟨h10, hs1⟩ <;> replace hs := hs1 <;> clear hs1
  · replace h10 := of_decide_eq_true h10
    refine go hs (pG rfl (fun a hs => y_move hs rfl) <| pG rfl (fun a hs => y_cmp hs rfl rfl rfl) <| pT rfl rfl <| ?_); clear hs a; intro a hs
    refine wpList_nil (then_normal ?_)
    refine wp_cond_split (hs.ev rfl) (fun h13 => ?_) (fun h13 => ?_)
    · replace h13 := of_decide_eq_true h13
      obtain ⟨y, hy⟩ : ∃ y, l[i]? = some y := ⟨_, List.getElem?_eq_getElem (by omega)⟩
      obtain ⟨g0, o, rfl, hcell⟩ := C_atG (show 0 < 6 by decide) hA (by omega)
      obtain ⟨cs, hK, hc⟩ := hcell i y hy
      obtain ⟨A0, c0, rfl, hlc, hC⟩ := k25_open hK
      have hdrop : l.drop i = y :: l.drop (i + 1) := by
        rw [List.drop_eq_getElem_cons (by omega)]
        rw [List.getElem?_eq_getElem (by omega)] at hy
        injection hy with hy
        rw [hy]
      refine wp_skip (then_normal (wp_seq ?_))
      refine wp_block (wp_region_lit ?_)
      refine go hs (pM rfl <| pM rfl <| pV rfl (fun a hs => y_idxB (size := 6) (off := o + i * 6) hs Tryd.underlying23 (by kernel_rfl) rfl rfl (by omega) (by omega) (by simp)) <| pV rfl (fun a hs => y_loadAgg (vs := [.int .u8 y.f0, .int .i64 y.f1, .string y.f2, .slice A0 y.f3.length c0, .int .i64 y.f4, .int .i64 y.f5]) hs Tryd.underlying25 rfl (by kernel_rfl) rfl (fun w hw k v hk => hc w hw.base k v hk)) <| pM rfl <| ?_); clear hs a; intro a hs
      have hrb := refE_bounds 16 y lf (by omega)
      have hfl := xexpr_left 16 y lf (by omega)
      refine a_eff rfl (e_callB Tryd.func42 rfl rfl hs rfl rfl (hex y A0 c0 lf _ (Kd.C_below hC hs.mem.base) (hsm y (List.mem_of_getElem? hy)) (by omega)) ?_); clear hs a; intro a w hs
      refine go hs (pA rfl <| ?_); clear hs a; intro a hs
      refine wpList_nil (in_normal (then_normal (wp_region_lit ?_)))
      refine go hs (pM rfl <| pV rfl (fun a hs => y_add hs rfl rfl (by omega)) <| pA rfl <| ?_); clear hs a; intro a hs
      refine wpList_nil (then_normal ?_)
      have hst : 0 ≤ lf → xlist stE l left = (if (stE y lf).1 = true then xlist stE (l.drop (i + 1)) (stE y lf).2 else (false, (stE y lf).2)) := fun h0 => by rw [← hinv h0, hdrop, xlist]
      refine ⟨m - 1, by omega, i + 1, refE 16 y lf, by omega, by omega, refL_next hst (by omega), refL_stop hst (by omega), ?_⟩
      exact (hs.mem_to hs.mem).cut _ ⟨rfl, rfl, rfl, trivial⟩
    replace h13 := of_decide_eq_false h13
    have hX : refL l left = lf := by
      by_cases h0 : 0 ≤ lf
      · have h1 := (hinv h0).symm
        rw [List.drop_eq_nil_of_le (by omega), xlist] at h1
        unfold refL; rw [h1]; rfl
      rw [hneg (by omega)]; omega
    refine wp_exit (then_exit (then_exit (in_here (then_normal (wp_seq ?_)))))
    refine wp_region_lit (go hs (pM rfl <| pA rfl <| ?_)); clear hs a; intro a hs
    refine wpList_nil (then_normal (wp_ret ?_))
    refine fin_ret hs (.tmp (hs.slots _ _ rfl) .nil) ⟨?_, hs.mem.base⟩
    rw [hX]; rfl
  replace h10 := of_decide_eq_false h10
  have hX : refL l left = lf := by
    by_cases h0 : 0 ≤ lf
    · have h1 := (hinv h0).symm
      rw [List.drop_eq_nil_of_le (by omega), xlist] at h1
      unfold refL; rw [h1]; rfl
    rw [hneg (by omega)]; omega
  refine go hs (pS rfl <| pS rfl <| pF rfl rfl <| ?_); clear hs a; intro a hs
  refine wpList_nil (then_normal ?_)
  refine wp_cond_false (hs.ev rfl) ?_
  refine wp_exit (then_exit (then_exit (in_here (then_normal (wp_seq ?_)))))
  refine wp_region_lit (go hs (pM rfl <| pA rfl <| ?_)); clear hs a; intro a hs
  refine wpList_nil (then_normal (wp_ret ?_))
  refine fin_ret hs (.tmp (hs.slots _ _ rfl) .nil) ⟨?_, hs.mem.base⟩
  rw [hX]; rfl
end Go.Proofs.YtibaidddhmdafaaDoor.E
end
section
namespace Go.Proofs.YtibaidddhmdafaaDoor.E
open Go Go.RowKit Go.Proofs.YtibaidddhmdafaaDoorW.PrintWords Go.Proofs.YtibaidddhmdafaaDoorW.PrintLast Go.Proofs.YtibaidddhmdafaaDoorW.PrintMore Go.Proofs.YtibaidddhmdafaaDoor.PA
set_option linter.unusedVariables false
set_option linter.unusedSimpArgs false
set_option maxRecDepth 100000 in
theorem ref_NoExpr (x : XE) (A : Option Addr) (C : Nat) (v0 : World) :
    Calls Tryd.prog 71 #[.agg #[.int .u8 x.f0, .int .i64 x.f1, .string x.f2, .slice A x.f3.length C, .int .i64 x.f4, .int .i64 x.f5]] v0 fun e w' => e = .returned (.bool (noExprB x)) ∧ Below v0.heap.size v0 w' := by
  refine calls_enter (N := 32) (n := 31) (args := [.agg #[.int .u8 x.f0, .int .i64 x.f1, .string x.f2, .slice A x.f3.length C, .int .i64 x.f4, .int .i64 x.f5]]) Tryd.func71 rfl rfl rfl (H.init v0) (fun a hs => ?_)
  refine wp_seq (wp_region_lit ?_)
  refine a_eff rfl (e_box (cs := #[_, _, _, _, _, _]) hs rfl rfl rfl ?_); clear hs a; intro gx a w hs
  refine go hs (pA rfl <| ?_); clear hs a; intro a hs
  refine wpList_nil (then_normal (wp_seq ?_))
  refine wp_region_lit (go hs (pV rfl (fun a hs => y_faddr (k' := 0) 0 hs (by kernel_rfl) rfl rfl) <| pV rfl (fun a hs => y_load hs Tryd.underlying22 rfl rfl (fun w hw => (hw.to 0 rfl).cellV rfl)) <| pV rfl (fun a hs => y_cmp hs rfl rfl rfl) <| pM rfl <| ?_)); clear hs a; intro a hs
  rcases hs.know (d := 6) rfl with ⟨h6, hs1⟩ | ⟨h6, hs1⟩ <;> replace hs := hs1 <;> clear hs1
  · replace h6 := eq_of_beq h6
    refine go hs (pG rfl (fun a hs => y_faddr (k' := 1) 1 hs (by kernel_rfl) rfl rfl) <| pG rfl (fun a hs => y_load hs Tryd.underlying3 rfl rfl (fun w hw => (hw.to 0 rfl).cellV rfl)) <| pG rfl (fun a hs => y_cmp hs rfl rfl rfl) <| pT rfl rfl <| pM rfl <| ?_); clear hs a; intro a hs
    rcases hs.know (d := 11) rfl with ⟨h11, hs1⟩ | ⟨h11, hs1⟩ <;> replace hs := hs1 <;> clear hs1
    · replace h11 := eq_of_beq h11
      refine go hs (pG rfl (fun a hs => y_faddr (k' := 2) 2 hs (by kernel_rfl) rfl rfl) <| pG rfl (fun a hs => y_load hs Tryd.underlying9 rfl rfl (fun w hw => (hw.to 0 rfl).cellV rfl)) <| pG rfl (fun a hs => y_seqE hs rfl rfl) <| pT rfl rfl <| pM rfl <| ?_); clear hs a; intro a hs
      rcases hs.know (d := 16) rfl with ⟨h16, hs1⟩ | ⟨h16, hs1⟩ <;> replace hs := hs1 <;> clear hs1
      · replace h16 := of_decide_eq_true h16
        refine go hs (pG rfl (fun a hs => y_faddr (k' := 3) 3 hs (by kernel_rfl) rfl rfl) <| pG rfl (fun a hs => y_load hs Tryd.underlying23 rfl rfl (fun w hw => (hw.to 0 rfl).cellV rfl)) <| pG rfl (fun a hs => y_lenL hs Tryd.underlying23 rfl) <| pG rfl (fun a hs => y_cmp hs rfl rfl rfl) <| pT rfl rfl <| pM rfl <| ?_); clear hs a; intro a hs
        rcases hs.know (d := 22) rfl with ⟨h22, hs1⟩ | ⟨h22, hs1⟩ <;> replace hs := hs1 <;> clear hs1
        · replace h22 := eq_of_beq h22
          refine go hs (pG rfl (fun a hs => y_faddr (k' := 4) 4 hs (by kernel_rfl) rfl rfl) <| pG rfl (fun a hs => y_load hs Tryd.underlying3 rfl rfl (fun w hw => (hw.to 0 rfl).cellV rfl)) <| pG rfl (fun a hs => y_cmp hs rfl rfl rfl) <| pT rfl rfl <| pM rfl <| ?_); clear hs a; intro a hs
          rcases hs.know (d := 27) rfl with ⟨h27, hs1⟩ | ⟨h27, hs1⟩ <;> replace hs := hs1 <;> clear hs1
          · replace h27 := eq_of_beq h27
            refine go hs (pG rfl (fun a hs => y_faddr (k' := 5) 5 hs (by kernel_rfl) rfl rfl) <| pG rfl (fun a hs => y_load hs Tryd.underlying3 rfl rfl (fun w hw => (hw.to 0 rfl).cellV rfl)) <| pG rfl (fun a hs => y_cmp hs rfl rfl rfl) <| pT rfl rfl <| pA rfl <| ?_); clear hs a; intro a hs
            refine wpList_nil (then_normal (wp_ret ?_))
            refine fin_ret hs (.tmp (hs.slots _ _ rfl) .nil) ⟨?_, hs.mem.base⟩
            first | (rw [show noExprB x = false from decide_eq_false (by omega)]; rfl) | (rw [show noExprB x = (x.f5 == 0) from by unfold noExprB; rw [Bool.eq_iff_iff]; simp only [decide_eq_true_eq, beq_iff_eq]; omega]; rfl)
          replace h27 := ne_of_beq_false h27
          refine go hs (pS rfl <| pS rfl <| pS rfl <| pF rfl rfl <| pA rfl <| ?_); clear hs a; intro a hs
          refine wpList_nil (then_normal (wp_ret ?_))
          refine fin_ret hs (.tmp (hs.slots _ _ rfl) .nil) ⟨?_, hs.mem.base⟩
          first | (rw [show noExprB x = false from decide_eq_false (by omega)]; rfl) | (rw [show noExprB x = (x.f5 == 0) from by unfold noExprB; rw [Bool.eq_iff_iff]; simp only [decide_eq_true_eq, beq_iff_eq]; omega]; rfl)
        replace h22 := ne_of_beq_false h22
        refine go hs (pS rfl <| pS rfl <| pS rfl <| pF rfl rfl <| pM rfl <| pS rfl <| pS rfl <| pS rfl <| pF rfl rfl <| pA rfl <| ?_); clear hs a; intro a hs
        refine wpList_nil (then_normal (wp_ret ?_))
        refine fin_ret hs (.tmp (hs.slots _ _ rfl) .nil) ⟨?_, hs.mem.base⟩
        first | (rw [show noExprB x = false from decide_eq_false (by omega)]; rfl) | (rw [show noExprB x = (x.f5 == 0) from by unfold noExprB; rw [Bool.eq_iff_iff]; simp only [decide_eq_true_eq, beq_iff_eq]; omega]; rfl)
      replace h16 := of_decide_eq_false h16
      refine go hs (pS rfl <| pS rfl <| pS rfl <| pS rfl <| pF rfl rfl <| pM rfl <| pS rfl <| pS rfl <| pS rfl <| pF rfl rfl <| pM rfl <| pS rfl <| pS rfl <| pS rfl <| pF rfl rfl <| pA rfl <| ?_); clear hs a; intro a hs
      refine wpList_nil (then_normal (wp_ret ?_))
      refine fin_ret hs (.tmp (hs.slots _ _ rfl) .nil) ⟨?_, hs.mem.base⟩
      first | (rw [show noExprB x = false from decide_eq_false (by omega)]; rfl) | (rw [show noExprB x = (x.f5 == 0) from by unfold noExprB; rw [Bool.eq_iff_iff]; simp only [decide_eq_true_eq, beq_iff_eq]; omega]; rfl)
    replace h11 := ne_of_beq_false h11
    refine go hs (pS rfl <| pS rfl <| pS rfl <| pF rfl rfl <| pM rfl <| pS rfl <| pS rfl <| pS rfl <| pS rfl <| pF rfl rfl <| pM rfl <| pS rfl <| pS rfl <| pS rfl <| pF rfl rfl <| pM rfl <| pS rfl <| pS rfl <| pS rfl <| pF rfl rfl <| pA rfl <| ?_); clear hs a; intro a hs
    refine wpList_nil (then_normal (wp_ret ?_))
    refine fin_ret hs (.tmp (hs.slots _ _ rfl) .nil) ⟨?_, hs.mem.base⟩
    first | (rw [show noExprB x = false from decide_eq_false (by omega)]; rfl) | (rw [show noExprB x = (x.f5 == 0) from by unfold noExprB; rw [Bool.eq_iff_iff]; simp only [decide_eq_true_eq, beq_iff_eq]; omega]; rfl)
  replace h6 := ne_of_beq_false h6
  refine go hs (pS rfl <| pS rfl <| pS rfl <| pF rfl rfl <| pM rfl <| pS rfl <| pS rfl <| pS rfl <| pF rfl rfl <| pM rfl <| pS rfl <| pS rfl <| pS rfl <| pS rfl <| pF rfl rfl <| pM rfl <| pS rfl <| pS rfl <| pS rfl <| pF rfl rfl <| pM rfl <| pS rfl <| pS rfl <| pS rfl <| pF rfl rfl <| pA rfl <| ?_); clear hs a; intro a hs
  refine wpList_nil (then_normal (wp_ret ?_))
  refine fin_ret hs (.tmp (hs.slots _ _ rfl) .nil) ⟨?_, hs.mem.base⟩
  first | (rw [show noExprB x = false from decide_eq_false (by omega)]; rfl) | (rw [show noExprB x = (x.f5 == 0) from by unfold noExprB; rw [Bool.eq_iff_iff]; simp only [decide_eq_true_eq, beq_iff_eq]; omega]; rfl)
set_option maxRecDepth 100000 in
theorem ref_noShape (s : XS) (A2 A3 A4 : Option Addr) (c2 c3 c4 : Nat) (v0 : World) :
    Calls Tryd.prog 72 #[.agg #[.int .u8 s.f0, .string s.f1, .slice A2 s.f2.length c2, .slice A3 s.f3.length c3, .slice A4 s.f4.length c4, .int .i64 s.f5, .int .i64 s.f6]] v0 fun e w' => e = .returned (.bool (noShapeB s)) ∧ Below v0.heap.size v0 w' := by
  refine calls_enter (N := 39) (n := 38) (args := [.agg #[.int .u8 s.f0, .string s.f1, .slice A2 s.f2.length c2, .slice A3 s.f3.length c3, .slice A4 s.f4.length c4, .int .i64 s.f5, .int .i64 s.f6]]) Tryd.func72 rfl rfl rfl (H.init v0) (fun a hs => ?_)
  refine wp_seq (wp_region_lit ?_)
  refine a_eff rfl (e_box (cs := #[_, _, _, _, _, _, _]) hs rfl rfl rfl ?_); clear hs a; intro gx a w hs
  refine go hs (pA rfl <| ?_); clear hs a; intro a hs
  refine wpList_nil (then_normal (wp_seq ?_))
  refine wp_region_lit (go hs (pV rfl (fun a hs => y_faddr (k' := 5) 5 hs (by kernel_rfl) rfl rfl) <| pV rfl (fun a hs => y_load hs Tryd.underlying3 rfl rfl (fun w hw => (hw.to 0 rfl).cellV rfl)) <| pV rfl (fun a hs => y_cmp hs rfl rfl rfl) <| pM rfl <| ?_)); clear hs a; intro a hs
  rcases hs.know (d := 6) rfl with ⟨h6, hs1⟩ | ⟨h6, hs1⟩ <;> replace hs := hs1 <;> clear hs1
  · replace h6 := eq_of_beq h6
    refine go hs (pG rfl (fun a hs => y_faddr (k' := 6) 6 hs (by kernel_rfl) rfl rfl) <| pG rfl (fun a hs => y_load hs Tryd.underlying3 rfl rfl (fun w hw => (hw.to 0 rfl).cellV rfl)) <| pG rfl (fun a hs => y_cmp hs rfl rfl rfl) <| pT rfl rfl <| pM rfl <| ?_); clear hs a; intro a hs
    rcases hs.know (d := 11) rfl with ⟨h11, hs1⟩ | ⟨h11, hs1⟩ <;> replace hs := hs1 <;> clear hs1
    · replace h11 := eq_of_beq h11
      refine go hs (pG rfl (fun a hs => y_faddr (k' := 0) 0 hs (by kernel_rfl) rfl rfl) <| pG rfl (fun a hs => y_load hs Tryd.underlying38 rfl rfl (fun w hw => (hw.to 0 rfl).cellV rfl)) <| pG rfl (fun a hs => y_cmp hs rfl rfl rfl) <| pT rfl rfl <| pM rfl <| ?_); clear hs a; intro a hs
      rcases hs.know (d := 16) rfl with ⟨h16, hs1⟩ | ⟨h16, hs1⟩ <;> replace hs := hs1 <;> clear hs1
      · replace h16 := eq_of_beq h16
        refine go hs (pG rfl (fun a hs => y_faddr (k' := 1) 1 hs (by kernel_rfl) rfl rfl) <| pG rfl (fun a hs => y_load hs Tryd.underlying9 rfl rfl (fun w hw => (hw.to 0 rfl).cellV rfl)) <| pG rfl (fun a hs => y_seqE hs rfl rfl) <| pT rfl rfl <| pM rfl <| ?_); clear hs a; intro a hs
        rcases hs.know (d := 21) rfl with ⟨h21, hs1⟩ | ⟨h21, hs1⟩ <;> replace hs := hs1 <;> clear hs1
        · replace h21 := of_decide_eq_true h21
          refine go hs (pG rfl (fun a hs => y_faddr (k' := 2) 2 hs (by kernel_rfl) rfl rfl) <| pG rfl (fun a hs => y_load hs Tryd.underlying23 rfl rfl (fun w hw => (hw.to 0 rfl).cellV rfl)) <| pG rfl (fun a hs => y_lenL hs Tryd.underlying23 rfl) <| pG rfl (fun a hs => y_cmp hs rfl rfl rfl) <| pT rfl rfl <| pM rfl <| ?_); clear hs a; intro a hs
          rcases hs.know (d := 27) rfl with ⟨h27, hs1⟩ | ⟨h27, hs1⟩ <;> replace hs := hs1 <;> clear hs1
          · replace h27 := eq_of_beq h27
            refine go hs (pG rfl (fun a hs => y_faddr (k' := 3) 3 hs (by kernel_rfl) rfl rfl) <| pG rfl (fun a hs => y_load hs Tryd.underlying39 rfl rfl (fun w hw => (hw.to 0 rfl).cellV rfl)) <| pG rfl (fun a hs => y_lenL hs Tryd.underlying39 rfl) <| pG rfl (fun a hs => y_cmp hs rfl rfl rfl) <| pT rfl rfl <| pM rfl <| ?_); clear hs a; intro a hs
            rcases hs.know (d := 33) rfl with ⟨h33, hs1⟩ | ⟨h33, hs1⟩ <;> replace hs := hs1 <;> clear hs1
            · replace h33 := eq_of_beq h33
              refine go hs (pG rfl (fun a hs => y_faddr (k' := 4) 4 hs (by kernel_rfl) rfl rfl) <| pG rfl (fun a hs => y_load hs Tryd.underlying40 rfl rfl (fun w hw => (hw.to 0 rfl).cellV rfl)) <| pG rfl (fun a hs => y_lenL hs Tryd.underlying40 rfl) <| pG rfl (fun a hs => y_cmp hs rfl rfl rfl) <| pT rfl rfl <| pA rfl <| ?_); clear hs a; intro a hs
              refine wpList_nil (then_normal (wp_ret ?_))
              refine fin_ret hs (.tmp (hs.slots _ _ rfl) .nil) ⟨?_, hs.mem.base⟩
              first | (rw [show noShapeB s = false from decide_eq_false (by omega)]; rfl) | (rw [show noShapeB s = ((s.f4.length : Int) == 0) from by unfold noShapeB; rw [Bool.eq_iff_iff]; simp only [decide_eq_true_eq, beq_iff_eq]; omega]; rfl)
            replace h33 := ne_of_beq_false h33
            refine go hs (pS rfl <| pS rfl <| pS rfl <| pS rfl <| pF rfl rfl <| pA rfl <| ?_); clear hs a; intro a hs
            refine wpList_nil (then_normal (wp_ret ?_))
            refine fin_ret hs (.tmp (hs.slots _ _ rfl) .nil) ⟨?_, hs.mem.base⟩
            first | (rw [show noShapeB s = false from decide_eq_false (by omega)]; rfl) | (rw [show noShapeB s = ((s.f4.length : Int) == 0) from by unfold noShapeB; rw [Bool.eq_iff_iff]; simp only [decide_eq_true_eq, beq_iff_eq]; omega]; rfl)
          replace h27 := ne_of_beq_false h27
          refine go hs (pS rfl <| pS rfl <| pS rfl <| pS rfl <| pF rfl rfl <| pM rfl <| pS rfl <| pS rfl <| pS rfl <| pS rfl <| pF rfl rfl <| pA rfl <| ?_); clear hs a; intro a hs
          refine wpList_nil (then_normal (wp_ret ?_))
          refine fin_ret hs (.tmp (hs.slots _ _ rfl) .nil) ⟨?_, hs.mem.base⟩
          first | (rw [show noShapeB s = false from decide_eq_false (by omega)]; rfl) | (rw [show noShapeB s = ((s.f4.length : Int) == 0) from by unfold noShapeB; rw [Bool.eq_iff_iff]; simp only [decide_eq_true_eq, beq_iff_eq]; omega]; rfl)
        replace h21 := of_decide_eq_false h21
        refine go hs (pS rfl <| pS rfl <| pS rfl <| pS rfl <| pF rfl rfl <| pM rfl <| pS rfl <| pS rfl <| pS rfl <| pS rfl <| pF rfl rfl <| pM rfl <| pS rfl <| pS rfl <| pS rfl <| pS rfl <| pF rfl rfl <| pA rfl <| ?_); clear hs a; intro a hs
        refine wpList_nil (then_normal (wp_ret ?_))
        refine fin_ret hs (.tmp (hs.slots _ _ rfl) .nil) ⟨?_, hs.mem.base⟩
        first | (rw [show noShapeB s = false from decide_eq_false (by omega)]; rfl) | (rw [show noShapeB s = ((s.f4.length : Int) == 0) from by unfold noShapeB; rw [Bool.eq_iff_iff]; simp only [decide_eq_true_eq, beq_iff_eq]; omega]; rfl)
      replace h16 := ne_of_beq_false h16
      refine go hs (pS rfl <| pS rfl <| pS rfl <| pF rfl rfl <| pM rfl <| pS rfl <| pS rfl <| pS rfl <| pS rfl <| pF rfl rfl <| pM rfl <| pS rfl <| pS rfl <| pS rfl <| pS rfl <| pF rfl rfl <| pM rfl <| pS rfl <| pS rfl <| pS rfl <| pS rfl <| pF rfl rfl <| pA rfl <| ?_); clear hs a; intro a hs
      refine wpList_nil (then_normal (wp_ret ?_))
      refine fin_ret hs (.tmp (hs.slots _ _ rfl) .nil) ⟨?_, hs.mem.base⟩
      first | (rw [show noShapeB s = false from decide_eq_false (by omega)]; rfl) | (rw [show noShapeB s = ((s.f4.length : Int) == 0) from by unfold noShapeB; rw [Bool.eq_iff_iff]; simp only [decide_eq_true_eq, beq_iff_eq]; omega]; rfl)
    replace h11 := ne_of_beq_false h11
    refine go hs (pS rfl <| pS rfl <| pS rfl <| pF rfl rfl <| pM rfl <| pS rfl <| pS rfl <| pS rfl <| pF rfl rfl <| pM rfl <| pS rfl <| pS rfl <| pS rfl <| pS rfl <| pF rfl rfl <| pM rfl <| pS rfl <| pS rfl <| pS rfl <| pS rfl <| pF rfl rfl <| pM rfl <| pS rfl <| pS rfl <| pS rfl <| pS rfl <| pF rfl rfl <| pA rfl <| ?_); clear hs a; intro a hs
    refine wpList_nil (then_normal (wp_ret ?_))
    refine fin_ret hs (.tmp (hs.slots _ _ rfl) .nil) ⟨?_, hs.mem.base⟩
    first | (rw [show noShapeB s = false from decide_eq_false (by omega)]; rfl) | (rw [show noShapeB s = ((s.f4.length : Int) == 0) from by unfold noShapeB; rw [Bool.eq_iff_iff]; simp only [decide_eq_true_eq, beq_iff_eq]; omega]; rfl)
  replace h6 := ne_of_beq_false h6
  refine go hs (pS rfl <| pS rfl <| pS rfl <| pF rfl rfl <| pM rfl <| pS rfl <| pS rfl <| pS rfl <| pF rfl rfl <| pM rfl <| pS rfl <| pS rfl <| pS rfl <| pF rfl rfl <| pM rfl <| pS rfl <| pS rfl <| pS rfl <| pS rfl <| pF rfl rfl <| pM rfl <| pS rfl <| pS rfl <| pS rfl <| pS rfl <| pF rfl rfl <| pM rfl <| pS rfl <| pS rfl <| pS rfl <| pS rfl <| pF rfl rfl <| pA rfl <| ?_); clear hs a; intro a hs
  refine wpList_nil (then_normal (wp_ret ?_))
  refine fin_ret hs (.tmp (hs.slots _ _ rfl) .nil) ⟨?_, hs.mem.base⟩
  first | (rw [show noShapeB s = false from decide_eq_false (by omega)]; rfl) | (rw [show noShapeB s = ((s.f4.length : Int) == 0) from by unfold noShapeB; rw [Bool.eq_iff_iff]; simp only [decide_eq_true_eq, beq_iff_eq]; omega]; rfl)
end Go.Proofs.YtibaidddhmdafaaDoor.E
end
