/- What YtibaidddhmdafaaDoorRTreeOneText's proof reaches of its texts, part 18. Conditions: as each says. -/
import Derived.ArgAppend
import Derived.Below
import Derived.BigCall
import Derived.BigQuiet
import Derived.Deep.AppendLies
import Derived.Deep.CutBlock
import Derived.Deep.DeepCutAuto
import Derived.Deep.Draws
import Derived.Deep.LoopGhost
import Derived.Deep.OwnRows
import Derived.Deep.QuietTactic
import Derived.Deep.RegionHeld3
import Derived.Deep.WholeRow
import Derived.KernelRfl
import Derived.Laws.AppendOwn
import Derived.Laws.BitsLemmas
import Derived.Laws.BytesArg
import Derived.Laws.CopyRow
import Derived.Laws.Externs
import Derived.Laws.IdiomCopy
import Derived.Laws.MakeOwn
import Derived.Laws.OwnMore
import Derived.Laws.Rows
import Derived.Laws.Slices
import Derived.Laws.StructEq
import Derived.Laws.Tables
import Derived.Lib.AppendStr
import Derived.Lib.Builder
import Derived.Lib.Bytealg
import Derived.Lib.ConvBytes
import Derived.Lib.ItoaLen
import Derived.Lib.ItoaMem
import Derived.Lib.LaidTab
import Derived.Lib.Strings
import Derived.Lib.Walk
import Derived.Maps.AppendAt
import Derived.OrdersHeld
import Derived.OwnWalk
import Derived.RowKit
import Derived.RowKit3
import Derived.ScopeJumps
import Derived.Shelf.LaysM
import Derived.Shelf.Strconv.Itoa3
import Derived.Shelf.Strings.Builder1
import Derived.Sort.Grow
import Derived.Tactics
import Derived.Test.YtibaidddhmdafaaDoorProg
import Derived.WalkKit
import Derived.WideLaws
import Derived.Test.YtibaidddhmdafaaDoorZTreeOneText16
import Derived.Test.YtibaidddhmdafaaDoorZTreeOneText17
section
namespace Go.Proofs.YtibaidddhmdafaaDoor.E
open Go Go.RowKit Go.Proofs.YtibaidddhmdafaaDoorW.PrintWords Go.Proofs.YtibaidddhmdafaaDoorW.PrintLast Go.Proofs.YtibaidddhmdafaaDoorW.PrintMore Go.Proofs.YtibaidddhmdafaaDoor.PA
set_option linter.unusedVariables false
set_option linter.unusedSimpArgs false
set_option maxRecDepth 100000 in
theorem equal_E (fid : Nat) (fn : Func) (caps : List Value) (eq : XE → XE → Bool) (A B : Option Addr) (c d : Nat) (l m : List (XE)) (v0 : World) (hfn : Tryd.prog.funcs[fid]? = some fn) (hnm : (fn.name == "runtime.NumGoroutine") = false) (hbd : fn.body.isNone = false) (hA : Kd.C k25 v0 A l.length l) (hB : Kd.C k25 v0 B m.length m) (hf : ∀ p ∈ l, ∀ q ∈ m, ∀ (cs ds : List Value) (w1 : World), Below v0.heap.size v0 w1 → k25.K v0 p cs → cs.length = 6 → k25.K v0 q ds → ds.length = 6 → Calls Tryd.prog fid (.agg cs.toArray :: .agg ds.toArray :: caps).toArray w1 fun e w' => e = .returned (.bool (eq p q)) ∧ Below w1.heap.size w1 w') :
    Calls Tryd.prog 86 #[.slice A l.length c, .slice B m.length d, .func (.func fid) #[] caps.toArray] v0 fun e w' => e = .returned (.bool (eqL eq l m)) ∧ Below v0.heap.size v0 w' := by
  refine calls_enter (N := 32) (n := 29) (args := [.slice A l.length c, .slice B m.length d, .func (.func fid) #[] caps.toArray]) Tryd.func86 rfl rfl rfl (H.init v0) (fun a hs => ?_)
  have hcl := C_len hA
  have hcl2 := C_len hB
  refine wp_seq (wp_region_lit ?_)
  refine go hs (pA rfl <| ?_); clear hs a; intro a hs
  refine wpList_nil (then_normal (wp_seq ?_))
  refine wp_seq (wp_region_lit ?_)
  refine go hs (pM rfl <| pV rfl (fun a hs => y_lenL hs Tryd.underlying23 rfl) <| pM rfl <| pV rfl (fun a hs => y_lenL hs Tryd.underlying23 rfl) <| pV rfl (fun a hs => y_cmp hs rfl rfl rfl) <| ?_); clear hs a; intro a hs
  refine wpList_nil (then_normal ?_)
  refine wp_cond_split (hs.ev rfl) (fun h14 => ?_) (fun h14 => ?_)
  · replace h14 := bne_iff_ne.1 h14
    have hX : eqL eq l m = false := eqL_len (by omega)
    refine wp_seq (wp_region_lit ?_)
    refine go hs (pA rfl <| ?_); clear hs a; intro a hs
    refine wpList_nil (then_normal (wp_ret (then_ret ?_)))
    refine fin_ret hs (.tmp (hs.slots _ _ rfl) .nil) ⟨?_, hs.mem.base⟩
    rw [hX]; rfl
  replace h14 := bne_eq_false_iff_eq.1 h14
  refine wp_skip (then_normal (wp_seq ?_))
  refine wp_seq (wp_region_lit ?_)
  refine go hs (pM rfl <| pV rfl (fun a hs => y_lenL hs Tryd.underlying23 rfl) <| pM rfl <| ?_); clear hs a; intro a hs
  refine wpList_nil (then_normal (wp_block ?_))
  refine wp_loopN (fun mm a w1 => ∃ (i : Nat), (i + mm = l.length) ∧ (eqL eq (l.drop i) (m.drop i) = eqL eq l m) ∧ St 32 v0 [(1, .slice B m.length d), (2, .func (.func fid) #[] caps.toArray), (15, .slice A l.length c), (16, .int .i64 (l.length : Int)), (17, .int .i64 ((i : Nat) : Int))] [] a w1) (l.length) ⟨0, by omega, rfl, ?_⟩ (fun mm a w1 hJ => ?_)
  · exact (hs.mem_to hs.mem).cut _ ⟨rfl, rfl, rfl, rfl, rfl, trivial⟩
  clear hs
  obtain ⟨i, hi, hinv, hs⟩ := hJ
  refine wp_seq (wp_region_lit ?_)
  refine go hs (pV rfl (fun a hs => y_cmp hs rfl rfl rfl) <| ?_); clear hs a; intro a hs
  refine wpList_nil (then_normal (wp_seq ?_))
  refine wp_cond_split (hs.ev rfl) (fun h18 => ?_) (fun h18 => ?_)
  · replace h18 := of_decide_eq_true h18
    obtain ⟨p, hp⟩ : ∃ p, l[i]? = some p := ⟨_, List.getElem?_eq_getElem (by omega)⟩
    obtain ⟨q, hq⟩ : ∃ q, m[i]? = some q := ⟨_, List.getElem?_eq_getElem (by omega)⟩
    obtain ⟨g1, o1, rfl, hcell1⟩ := C_atH (show 0 < 6 by decide) hA (by omega)
    obtain ⟨cs, hK1, hlen1, hc1⟩ := hcell1 i p hp
    obtain ⟨g2, o2, rfl, hcell2⟩ := C_atH (show 0 < 6 by decide) hB (by omega)
    obtain ⟨ds, hK2, hlen2, hc2⟩ := hcell2 i q hq
    replace hlen1 : cs.length = 6 := hlen1
    replace hlen2 : ds.length = 6 := hlen2
    have hO1 := hK1
    have hO2 := hK2
    obtain ⟨A1, c1, rfl, _⟩ := k25_open hO1
    obtain ⟨B1, d1, rfl, _⟩ := k25_open hO2
    have hd := eqL_at eq hp hq
    refine wp_skip (then_normal (wp_seq ?_))
    refine wp_block (wp_seq ?_)
    refine wp_region_lit (go hs (pM rfl <| pV rfl (fun a hs => y_idxB (size := 6) (off := o1 + i * 6) hs Tryd.underlying23 (by kernel_rfl) rfl rfl (by omega) (by omega) (by simp)) <| pV rfl (fun a hs => y_loadAgg (vs := [.int .u8 p.f0, .int .i64 p.f1, .string p.f2, .slice A1 p.f3.length c1, .int .i64 p.f4, .int .i64 p.f5]) hs Tryd.underlying24 rfl (by kernel_rfl) rfl (fun w hw k v hk => hc1 w hw.base k v hk)) <| ?_)); clear hs a; intro a hs
    refine a_eff rfl (e_alloc (z := .agg #[.int .u8 0, .int .i64 0, .string ⟨#[]⟩, .slice none 0 0, .int .i64 0, .int .i64 0]) (cs := #[.int .u8 0, .int .i64 0, .string ⟨#[]⟩, .slice none 0 0, .int .i64 0, .int .i64 0]) hs rfl (by kernel_rfl) rfl ?_); clear hs a; intro g1 a w hs
    refine go hs (pA rfl <| ?_); clear hs a; intro a hs
    refine a_eff rfl (e_store (cl := [_, _, _, _, _, _]) 0 rfl hs rfl rfl (by kernel_rfl) rfl rfl rfl ?_); clear hs a; intro a w hs
    refine wpList_nil (then_normal (wp_seq ?_))
    refine wp_region_lit (go hs (pM rfl <| pM rfl <| pV rfl (fun a hs => y_idxB (size := 6) (off := o2 + i * 6) hs Tryd.underlying23 (by kernel_rfl) rfl rfl (by omega) (by omega) (by simp)) <| pV rfl (fun a hs => y_loadAgg (vs := [.int .u8 q.f0, .int .i64 q.f1, .string q.f2, .slice B1 q.f3.length d1, .int .i64 q.f4, .int .i64 q.f5]) hs Tryd.underlying24 rfl (by kernel_rfl) rfl (fun w hw k v hk => hc2 w hw.base k v hk)) <| ?_)); clear hs a; intro a hs
    refine a_eff rfl (e_alloc (z := .agg #[.int .u8 0, .int .i64 0, .string ⟨#[]⟩, .slice none 0 0, .int .i64 0, .int .i64 0]) (cs := #[.int .u8 0, .int .i64 0, .string ⟨#[]⟩, .slice none 0 0, .int .i64 0, .int .i64 0]) hs rfl (by kernel_rfl) rfl ?_); clear hs a; intro g2 a w hs
    refine a_eff rfl (e_store (cl := [_, _, _, _, _, _]) 0 rfl hs rfl rfl (by kernel_rfl) rfl rfl rfl ?_); clear hs a; intro a w hs
    refine wpList_nil (then_normal (wp_seq ?_))
    refine wp_region_lit (go hs (pM rfl <| pV rfl (fun a hs => y_loadPt 1 rfl hs Tryd.underlying25 rfl (by kernel_rfl) rfl) <| pV rfl (fun a hs => y_loadPt 0 rfl hs Tryd.underlying25 rfl (by kernel_rfl) rfl) <| ?_)); clear hs a; intro a hs
    refine a_eff rfl (e_callF hfn hnm hbd hs rfl rfl rfl (hf p (List.mem_of_getElem? hp) q (List.mem_of_getElem? hq) _ _ _ hs.mem.base hK1 hlen1 hK2 hlen2) (fun e w1 ⟨he, hb1⟩ => ⟨_, he, _, hs.mem.grow hb1, ?_⟩)); clear hs a; intro a hs
    refine go hs (pV rfl (fun a hs => y_not hs rfl) <| ?_); clear hs a; intro a hs
    refine wpList_nil (then_normal ?_)
    refine wp_cond_split (hs.ev rfl) (fun h30 => ?_) (fun h30 => ?_)
    · replace h30 := (not_t h30)
      have hX : eqL eq l m = false := by rw [← hinv, hd, h30, Bool.false_and]
      refine wp_seq (wp_region_lit ?_)
      refine go hs (pA rfl <| ?_); clear hs a; intro a hs
      refine wpList_nil (then_normal (wp_ret (in_ret (then_ret (then_ret (in_ret (then_ret ?_)))))))
      refine fin_ret hs (.tmp (hs.slots _ _ rfl) .nil) ⟨?_, hs.mem.base⟩
      rw [hX]; rfl
    replace h30 := (not_f h30)
    have hn := hinv
    rw [hd, h30, Bool.true_and] at hn
    refine wp_skip (in_normal (then_normal (wp_region_lit ?_)))
    refine go hs (pV rfl (fun a hs => y_add hs rfl rfl (by omega)) <| pM rfl <| ?_); clear hs a; intro a hs
    refine wpList_nil (then_normal ?_)
    refine ⟨mm - 1, by omega, i + 1, by omega, hn, ?_⟩
    exact (hs.mem_to ((hs.mem.to 0 rfl).drop.to 0 rfl).drop).cut _ ⟨rfl, rfl, rfl, rfl, rfl, trivial⟩
  replace h18 := of_decide_eq_false h18
  have hX : eqL eq l m = true := by rw [← hinv, List.drop_eq_nil_of_le (by omega), List.drop_eq_nil_of_le (by omega)]; rfl
  refine wp_exit (then_exit (then_exit (in_here (then_normal (wp_seq ?_)))))
  refine wp_region_lit (go hs (pA rfl <| ?_)); clear hs a; intro a hs
  refine wpList_nil (then_normal (wp_ret ?_))
  refine fin_ret hs (.tmp (hs.slots _ _ rfl) .nil) ⟨?_, hs.mem.base⟩
  rw [hX]; rfl
set_option maxRecDepth 100000 in
theorem equal_S (fid : Nat) (fn : Func) (caps : List Value) (eq : XS → XS → Bool) (A B : Option Addr) (c d : Nat) (l m : List (XS)) (v0 : World) (hfn : Tryd.prog.funcs[fid]? = some fn) (hnm : (fn.name == "runtime.NumGoroutine") = false) (hbd : fn.body.isNone = false) (hA : Kd.C k42 v0 A l.length l) (hB : Kd.C k42 v0 B m.length m) (hf : ∀ p ∈ l, ∀ q ∈ m, ∀ (cs ds : List Value) (w1 : World), Below v0.heap.size v0 w1 → k42.K v0 p cs → cs.length = 7 → k42.K v0 q ds → ds.length = 7 → Calls Tryd.prog fid (.agg cs.toArray :: .agg ds.toArray :: caps).toArray w1 fun e w' => e = .returned (.bool (eq p q)) ∧ Below w1.heap.size w1 w') :
    Calls Tryd.prog 84 #[.slice A l.length c, .slice B m.length d, .func (.func fid) #[] caps.toArray] v0 fun e w' => e = .returned (.bool (eqL eq l m)) ∧ Below v0.heap.size v0 w' := by
  refine calls_enter (N := 32) (n := 29) (args := [.slice A l.length c, .slice B m.length d, .func (.func fid) #[] caps.toArray]) Tryd.func84 rfl rfl rfl (H.init v0) (fun a hs => ?_)
  have hcl := C_len hA
  have hcl2 := C_len hB
  refine wp_seq (wp_region_lit ?_)
  refine go hs (pA rfl <| ?_); clear hs a; intro a hs
  refine wpList_nil (then_normal (wp_seq ?_))
  refine wp_seq (wp_region_lit ?_)
  refine go hs (pM rfl <| pV rfl (fun a hs => y_lenL hs Tryd.underlying39 rfl) <| pM rfl <| pV rfl (fun a hs => y_lenL hs Tryd.underlying39 rfl) <| pV rfl (fun a hs => y_cmp hs rfl rfl rfl) <| ?_); clear hs a; intro a hs
  refine wpList_nil (then_normal ?_)
  refine wp_cond_split (hs.ev rfl) (fun h14 => ?_) (fun h14 => ?_)
  · replace h14 := bne_iff_ne.1 h14
    have hX : eqL eq l m = false := eqL_len (by omega)
    refine wp_seq (wp_region_lit ?_)
    refine go hs (pA rfl <| ?_); clear hs a; intro a hs
    refine wpList_nil (then_normal (wp_ret (then_ret ?_)))
    refine fin_ret hs (.tmp (hs.slots _ _ rfl) .nil) ⟨?_, hs.mem.base⟩
    rw [hX]; rfl
  replace h14 := bne_eq_false_iff_eq.1 h14
  refine wp_skip (then_normal (wp_seq ?_))
  refine wp_seq (wp_region_lit ?_)
  refine go hs (pM rfl <| pV rfl (fun a hs => y_lenL hs Tryd.underlying39 rfl) <| pM rfl <| ?_); clear hs a; intro a hs
  refine wpList_nil (then_normal (wp_block ?_))
  refine wp_loopN (fun mm a w1 => ∃ (i : Nat), (i + mm = l.length) ∧ (eqL eq (l.drop i) (m.drop i) = eqL eq l m) ∧ St 32 v0 [(1, .slice B m.length d), (2, .func (.func fid) #[] caps.toArray), (15, .slice A l.length c), (16, .int .i64 (l.length : Int)), (17, .int .i64 ((i : Nat) : Int))] [] a w1) (l.length) ⟨0, by omega, rfl, ?_⟩ (fun mm a w1 hJ => ?_)
  · exact (hs.mem_to hs.mem).cut _ ⟨rfl, rfl, rfl, rfl, rfl, trivial⟩
  clear hs
  obtain ⟨i, hi, hinv, hs⟩ := hJ
  refine wp_seq (wp_region_lit ?_)
  refine go hs (pV rfl (fun a hs => y_cmp hs rfl rfl rfl) <| ?_); clear hs a; intro a hs
  refine wpList_nil (then_normal (wp_seq ?_))
  refine wp_cond_split (hs.ev rfl) (fun h18 => ?_) (fun h18 => ?_)
  · replace h18 := of_decide_eq_true h18
    obtain ⟨p, hp⟩ : ∃ p, l[i]? = some p := ⟨_, List.getElem?_eq_getElem (by omega)⟩
    obtain ⟨q, hq⟩ : ∃ q, m[i]? = some q := ⟨_, List.getElem?_eq_getElem (by omega)⟩
    obtain ⟨g1, o1, rfl, hcell1⟩ := C_atH (show 0 < 7 by decide) hA (by omega)
    obtain ⟨cs, hK1, hlen1, hc1⟩ := hcell1 i p hp
    obtain ⟨g2, o2, rfl, hcell2⟩ := C_atH (show 0 < 7 by decide) hB (by omega)
    obtain ⟨ds, hK2, hlen2, hc2⟩ := hcell2 i q hq
    replace hlen1 : cs.length = 7 := hlen1
    replace hlen2 : ds.length = 7 := hlen2
    have hO1 := hK1
    have hO2 := hK2
    obtain ⟨A2, c2, A3, c3, A4, c4, rfl, _⟩ := k42_open hO1
    obtain ⟨B2, d2, B3, d3, B4, d4, rfl, _⟩ := k42_open hO2
    have hd := eqL_at eq hp hq
    refine wp_skip (then_normal (wp_seq ?_))
    refine wp_block (wp_seq ?_)
    refine wp_region_lit (go hs (pM rfl <| pV rfl (fun a hs => y_idxB (size := 7) (off := o1 + i * 7) hs Tryd.underlying39 (by kernel_rfl) rfl rfl (by omega) (by omega) (by simp)) <| pV rfl (fun a hs => y_loadAgg (vs := [.int .u8 p.f0, .string p.f1, .slice A2 p.f2.length c2, .slice A3 p.f3.length c3, .slice A4 p.f4.length c4, .int .i64 p.f5, .int .i64 p.f6]) hs Tryd.underlying41 rfl (by kernel_rfl) rfl (fun w hw k v hk => hc1 w hw.base k v hk)) <| ?_)); clear hs a; intro a hs
    refine a_eff rfl (e_alloc (z := .agg #[.int .u8 0, .string ⟨#[]⟩, .slice none 0 0, .slice none 0 0, .slice none 0 0, .int .i64 0, .int .i64 0]) (cs := #[.int .u8 0, .string ⟨#[]⟩, .slice none 0 0, .slice none 0 0, .slice none 0 0, .int .i64 0, .int .i64 0]) hs rfl (by kernel_rfl) rfl ?_); clear hs a; intro g1 a w hs
    refine go hs (pA rfl <| ?_); clear hs a; intro a hs
    refine a_eff rfl (e_store (cl := [_, _, _, _, _, _, _]) 0 rfl hs rfl rfl (by kernel_rfl) rfl rfl rfl ?_); clear hs a; intro a w hs
    refine wpList_nil (then_normal (wp_seq ?_))
    refine wp_region_lit (go hs (pM rfl <| pM rfl <| pV rfl (fun a hs => y_idxB (size := 7) (off := o2 + i * 7) hs Tryd.underlying39 (by kernel_rfl) rfl rfl (by omega) (by omega) (by simp)) <| pV rfl (fun a hs => y_loadAgg (vs := [.int .u8 q.f0, .string q.f1, .slice B2 q.f2.length d2, .slice B3 q.f3.length d3, .slice B4 q.f4.length d4, .int .i64 q.f5, .int .i64 q.f6]) hs Tryd.underlying41 rfl (by kernel_rfl) rfl (fun w hw k v hk => hc2 w hw.base k v hk)) <| ?_)); clear hs a; intro a hs
    refine a_eff rfl (e_alloc (z := .agg #[.int .u8 0, .string ⟨#[]⟩, .slice none 0 0, .slice none 0 0, .slice none 0 0, .int .i64 0, .int .i64 0]) (cs := #[.int .u8 0, .string ⟨#[]⟩, .slice none 0 0, .slice none 0 0, .slice none 0 0, .int .i64 0, .int .i64 0]) hs rfl (by kernel_rfl) rfl ?_); clear hs a; intro g2 a w hs
    refine a_eff rfl (e_store (cl := [_, _, _, _, _, _, _]) 0 rfl hs rfl rfl (by kernel_rfl) rfl rfl rfl ?_); clear hs a; intro a w hs
    refine wpList_nil (then_normal (wp_seq ?_))
    refine wp_region_lit (go hs (pM rfl <| pV rfl (fun a hs => y_loadPt 1 rfl hs Tryd.underlying42 rfl (by kernel_rfl) rfl) <| pV rfl (fun a hs => y_loadPt 0 rfl hs Tryd.underlying42 rfl (by kernel_rfl) rfl) <| ?_)); clear hs a; intro a hs
    refine a_eff rfl (e_callF hfn hnm hbd hs rfl rfl rfl (hf p (List.mem_of_getElem? hp) q (List.mem_of_getElem? hq) _ _ _ hs.mem.base hK1 hlen1 hK2 hlen2) (fun e w1 ⟨he, hb1⟩ => ⟨_, he, _, hs.mem.grow hb1, ?_⟩)); clear hs a; intro a hs
    refine go hs (pV rfl (fun a hs => y_not hs rfl) <| ?_); clear hs a; intro a hs
    refine wpList_nil (then_normal ?_)
    refine wp_cond_split (hs.ev rfl) (fun h30 => ?_) (fun h30 => ?_)
    · replace h30 := (not_t h30)
      have hX : eqL eq l m = false := by rw [← hinv, hd, h30, Bool.false_and]
      refine wp_seq (wp_region_lit ?_)
      refine go hs (pA rfl <| ?_); clear hs a; intro a hs
      refine wpList_nil (then_normal (wp_ret (in_ret (then_ret (then_ret (in_ret (then_ret ?_)))))))
      refine fin_ret hs (.tmp (hs.slots _ _ rfl) .nil) ⟨?_, hs.mem.base⟩
      rw [hX]; rfl
    replace h30 := (not_f h30)
    have hn := hinv
    rw [hd, h30, Bool.true_and] at hn
    refine wp_skip (in_normal (then_normal (wp_region_lit ?_)))
    refine go hs (pV rfl (fun a hs => y_add hs rfl rfl (by omega)) <| pM rfl <| ?_); clear hs a; intro a hs
    refine wpList_nil (then_normal ?_)
    refine ⟨mm - 1, by omega, i + 1, by omega, hn, ?_⟩
    exact (hs.mem_to ((hs.mem.to 0 rfl).drop.to 0 rfl).drop).cut _ ⟨rfl, rfl, rfl, rfl, rfl, trivial⟩
  replace h18 := of_decide_eq_false h18
  have hX : eqL eq l m = true := by rw [← hinv, List.drop_eq_nil_of_le (by omega), List.drop_eq_nil_of_le (by omega)]; rfl
  refine wp_exit (then_exit (then_exit (in_here (then_normal (wp_seq ?_)))))
  refine wp_region_lit (go hs (pA rfl <| ?_)); clear hs a; intro a hs
  refine wpList_nil (then_normal (wp_ret ?_))
  refine fin_ret hs (.tmp (hs.slots _ _ rfl) .nil) ⟨?_, hs.mem.base⟩
  rw [hX]; rfl
set_option maxRecDepth 100000 in
theorem equal_R (fid : Nat) (fn : Func) (caps : List Value) (eq : List XE → List XE → Bool) (A B : Option Addr) (c d : Nat) (l m : List (List XE)) (v0 : World) (hfn : Tryd.prog.funcs[fid]? = some fn) (hnm : (fn.name == "runtime.NumGoroutine") = false) (hbd : fn.body.isNone = false) (hA : Kd.C (Kd.slice 25 k25) v0 A l.length l) (hB : Kd.C (Kd.slice 25 k25) v0 B m.length m) (hf : ∀ p ∈ l, ∀ q ∈ m, ∀ (A0 B0 : Option Addr) (c0 d0 : Nat) (w1 : World), Below v0.heap.size v0 w1 → Kd.C k25 v0 A0 p.length p → Kd.C k25 v0 B0 q.length q → Calls Tryd.prog fid (.slice A0 p.length c0 :: .slice B0 q.length d0 :: caps).toArray w1 fun e w' => e = .returned (.bool (eq p q)) ∧ Below w1.heap.size w1 w') :
    Calls Tryd.prog 85 #[.slice A l.length c, .slice B m.length d, .func (.func fid) #[] caps.toArray] v0 fun e w' => e = .returned (.bool (eqL eq l m)) ∧ Below v0.heap.size v0 w' := by
  refine calls_enter (N := 32) (n := 29) (args := [.slice A l.length c, .slice B m.length d, .func (.func fid) #[] caps.toArray]) Tryd.func85 rfl rfl rfl (H.init v0) (fun a hs => ?_)
  have hcl := C_len hA
  have hcl2 := C_len hB
  refine wp_seq (wp_region_lit ?_)
  refine go hs (pA rfl <| ?_); clear hs a; intro a hs
  refine wpList_nil (then_normal (wp_seq ?_))
  refine wp_seq (wp_region_lit ?_)
  refine go hs (pM rfl <| pV rfl (fun a hs => y_lenL hs Tryd.underlying40 rfl) <| pM rfl <| pV rfl (fun a hs => y_lenL hs Tryd.underlying40 rfl) <| pV rfl (fun a hs => y_cmp hs rfl rfl rfl) <| ?_); clear hs a; intro a hs
  refine wpList_nil (then_normal ?_)
  refine wp_cond_split (hs.ev rfl) (fun h14 => ?_) (fun h14 => ?_)
  · replace h14 := bne_iff_ne.1 h14
    have hX : eqL eq l m = false := eqL_len (by omega)
    refine wp_seq (wp_region_lit ?_)
    refine go hs (pA rfl <| ?_); clear hs a; intro a hs
    refine wpList_nil (then_normal (wp_ret (then_ret ?_)))
    refine fin_ret hs (.tmp (hs.slots _ _ rfl) .nil) ⟨?_, hs.mem.base⟩
    rw [hX]; rfl
  replace h14 := bne_eq_false_iff_eq.1 h14
  refine wp_skip (then_normal (wp_seq ?_))
  refine wp_seq (wp_region_lit ?_)
  refine go hs (pM rfl <| pV rfl (fun a hs => y_lenL hs Tryd.underlying40 rfl) <| pM rfl <| ?_); clear hs a; intro a hs
  refine wpList_nil (then_normal (wp_block ?_))
  refine wp_loopN (fun mm a w1 => ∃ (i : Nat), (i + mm = l.length) ∧ (eqL eq (l.drop i) (m.drop i) = eqL eq l m) ∧ St 32 v0 [(1, .slice B m.length d), (2, .func (.func fid) #[] caps.toArray), (15, .slice A l.length c), (16, .int .i64 (l.length : Int)), (17, .int .i64 ((i : Nat) : Int))] [] a w1) (l.length) ⟨0, by omega, rfl, ?_⟩ (fun mm a w1 hJ => ?_)
  · exact (hs.mem_to hs.mem).cut _ ⟨rfl, rfl, rfl, rfl, rfl, trivial⟩
  clear hs
  obtain ⟨i, hi, hinv, hs⟩ := hJ
  refine wp_seq (wp_region_lit ?_)
  refine go hs (pV rfl (fun a hs => y_cmp hs rfl rfl rfl) <| ?_); clear hs a; intro a hs
  refine wpList_nil (then_normal (wp_seq ?_))
  refine wp_cond_split (hs.ev rfl) (fun h18 => ?_) (fun h18 => ?_)
  · replace h18 := of_decide_eq_true h18
    obtain ⟨p, hp⟩ : ∃ p, l[i]? = some p := ⟨_, List.getElem?_eq_getElem (by omega)⟩
    obtain ⟨q, hq⟩ : ∃ q, m[i]? = some q := ⟨_, List.getElem?_eq_getElem (by omega)⟩
    obtain ⟨g1, o1, rfl, hcell1⟩ := C_atH (show 0 < 1 by decide) hA (by omega)
    obtain ⟨cs, hK1, hlen1, hc1⟩ := hcell1 i p hp
    obtain ⟨g2, o2, rfl, hcell2⟩ := C_atH (show 0 < 1 by decide) hB (by omega)
    obtain ⟨ds, hK2, hlen2, hc2⟩ := hcell2 i q hq
    obtain ⟨A0, c0, rfl, hlc1, hK1⟩ := hK1
    obtain ⟨B0, d0, rfl, hlc2, hK2⟩ := hK2
    have hd := eqL_at eq hp hq
    refine wp_skip (then_normal (wp_seq ?_))
    refine wp_block (wp_seq ?_)
    refine wp_region_lit (go hs (pM rfl <| pV rfl (fun a hs => y_idxB (size := 1) (off := o1 + i * 1) hs Tryd.underlying40 (by kernel_rfl) rfl rfl (by omega) (by omega) (by simp)) <| pV rfl (fun a hs => y_load (v := .slice A0 p.length c0) hs Tryd.underlying23 rfl rfl (fun w hw => hc1 w hw.base 0 _ rfl)) <| pA rfl <| pA rfl <| ?_)); clear hs a; intro a hs
    refine wpList_nil (then_normal (wp_seq ?_))
    refine wp_region_lit (go hs (pM rfl <| pM rfl <| pV rfl (fun a hs => y_idxB (size := 1) (off := o2 + i * 1) hs Tryd.underlying40 (by kernel_rfl) rfl rfl (by omega) (by omega) (by simp)) <| pV rfl (fun a hs => y_load (v := .slice B0 q.length d0) hs Tryd.underlying23 rfl rfl (fun w hw => hc2 w hw.base 0 _ rfl)) <| pA rfl <| ?_)); clear hs a; intro a hs
    refine wpList_nil (then_normal (wp_seq ?_))
    refine wp_region_lit (go hs (pM rfl <| pM rfl <| pM rfl <| ?_)); clear hs a; intro a hs
    refine a_eff rfl (e_callF hfn hnm hbd hs rfl rfl rfl (hf p (List.mem_of_getElem? hp) q (List.mem_of_getElem? hq) A0 B0 c0 d0 _ hs.mem.base hK1 hK2) (fun e w1 ⟨he, hb1⟩ => ⟨_, he, _, hs.mem.grow hb1, ?_⟩)); clear hs a; intro a hs
    refine go hs (pV rfl (fun a hs => y_not hs rfl) <| ?_); clear hs a; intro a hs
    refine wpList_nil (then_normal ?_)
    refine wp_cond_split (hs.ev rfl) (fun h30 => ?_) (fun h30 => ?_)
    · replace h30 := (not_t h30)
      have hX : eqL eq l m = false := by rw [← hinv, hd, h30, Bool.false_and]
      refine wp_seq (wp_region_lit ?_)
      refine go hs (pA rfl <| ?_); clear hs a; intro a hs
      refine wpList_nil (then_normal (wp_ret (in_ret (then_ret (then_ret (in_ret (then_ret ?_)))))))
      refine fin_ret hs (.tmp (hs.slots _ _ rfl) .nil) ⟨?_, hs.mem.base⟩
      rw [hX]; rfl
    replace h30 := (not_f h30)
    have hn := hinv
    rw [hd, h30, Bool.true_and] at hn
    refine wp_skip (in_normal (then_normal (wp_region_lit ?_)))
    refine go hs (pV rfl (fun a hs => y_add hs rfl rfl (by omega)) <| pM rfl <| ?_); clear hs a; intro a hs
    refine wpList_nil (then_normal ?_)
    refine ⟨mm - 1, by omega, i + 1, by omega, hn, ?_⟩
    exact (hs.mem_to hs.mem).cut _ ⟨rfl, rfl, rfl, rfl, rfl, trivial⟩
  replace h18 := of_decide_eq_false h18
  have hX : eqL eq l m = true := by rw [← hinv, List.drop_eq_nil_of_le (by omega), List.drop_eq_nil_of_le (by omega)]; rfl
  refine wp_exit (then_exit (then_exit (in_here (then_normal (wp_seq ?_)))))
  refine wp_region_lit (go hs (pA rfl <| ?_)); clear hs a; intro a hs
  refine wpList_nil (then_normal (wp_ret ?_))
  refine fin_ret hs (.tmp (hs.slots _ _ rfl) .nil) ⟨?_, hs.mem.base⟩
  rw [hX]; rfl
set_option maxRecDepth 100000 in
theorem equal_I (fid : Nat) (fn : Func) (caps : List Value) (eq : XI → XI → Bool) (A B : Option Addr) (c d : Nat) (l m : List (XI)) (v0 : World) (hfn : Tryd.prog.funcs[fid]? = some fn) (hnm : (fn.name == "runtime.NumGoroutine") = false) (hbd : fn.body.isNone = false) (hA : Kd.C k45 v0 A l.length l) (hB : Kd.C k45 v0 B m.length m) (hf : ∀ p ∈ l, ∀ q ∈ m, ∀ (cs ds : List Value) (w1 : World), Below v0.heap.size v0 w1 → k45.K v0 p cs → cs.length = 19 → k45.K v0 q ds → ds.length = 19 → Calls Tryd.prog fid (.agg cs.toArray :: .agg ds.toArray :: caps).toArray w1 fun e w' => e = .returned (.bool (eq p q)) ∧ Below w1.heap.size w1 w') :
    Calls Tryd.prog 50 #[.slice A l.length c, .slice B m.length d, .func (.func fid) #[] caps.toArray] v0 fun e w' => e = .returned (.bool (eqL eq l m)) ∧ Below v0.heap.size v0 w' := by
  refine calls_enter (N := 32) (n := 29) (args := [.slice A l.length c, .slice B m.length d, .func (.func fid) #[] caps.toArray]) Tryd.func50 rfl rfl rfl (H.init v0) (fun a hs => ?_)
  have hcl := C_len hA
  have hcl2 := C_len hB
  refine wp_seq (wp_region_lit ?_)
  refine go hs (pA rfl <| ?_); clear hs a; intro a hs
  refine wpList_nil (then_normal (wp_seq ?_))
  refine wp_seq (wp_region_lit ?_)
  refine go hs (pM rfl <| pV rfl (fun a hs => y_lenL hs Tryd.underlying32 rfl) <| pM rfl <| pV rfl (fun a hs => y_lenL hs Tryd.underlying32 rfl) <| pV rfl (fun a hs => y_cmp hs rfl rfl rfl) <| ?_); clear hs a; intro a hs
  refine wpList_nil (then_normal ?_)
  refine wp_cond_split (hs.ev rfl) (fun h14 => ?_) (fun h14 => ?_)
  · replace h14 := bne_iff_ne.1 h14
    have hX : eqL eq l m = false := eqL_len (by omega)
    refine wp_seq (wp_region_lit ?_)
    refine go hs (pA rfl <| ?_); clear hs a; intro a hs
    refine wpList_nil (then_normal (wp_ret (then_ret ?_)))
    refine fin_ret hs (.tmp (hs.slots _ _ rfl) .nil) ⟨?_, hs.mem.base⟩
    rw [hX]; rfl
  replace h14 := bne_eq_false_iff_eq.1 h14
  refine wp_skip (then_normal (wp_seq ?_))
  refine wp_seq (wp_region_lit ?_)
  refine go hs (pM rfl <| pV rfl (fun a hs => y_lenL hs Tryd.underlying32 rfl) <| pM rfl <| ?_); clear hs a; intro a hs
  refine wpList_nil (then_normal (wp_block ?_))
  refine wp_loopN (fun mm a w1 => ∃ (i : Nat), (i + mm = l.length) ∧ (eqL eq (l.drop i) (m.drop i) = eqL eq l m) ∧ St 32 v0 [(1, .slice B m.length d), (2, .func (.func fid) #[] caps.toArray), (15, .slice A l.length c), (16, .int .i64 (l.length : Int)), (17, .int .i64 ((i : Nat) : Int))] [] a w1) (l.length) ⟨0, by omega, rfl, ?_⟩ (fun mm a w1 hJ => ?_)
  · exact (hs.mem_to hs.mem).cut _ ⟨rfl, rfl, rfl, rfl, rfl, trivial⟩
  clear hs
  obtain ⟨i, hi, hinv, hs⟩ := hJ
  refine wp_seq (wp_region_lit ?_)
  refine go hs (pV rfl (fun a hs => y_cmp hs rfl rfl rfl) <| ?_); clear hs a; intro a hs
  refine wpList_nil (then_normal (wp_seq ?_))
  refine wp_cond_split (hs.ev rfl) (fun h18 => ?_) (fun h18 => ?_)
  · replace h18 := of_decide_eq_true h18
    obtain ⟨p, hp⟩ : ∃ p, l[i]? = some p := ⟨_, List.getElem?_eq_getElem (by omega)⟩
    obtain ⟨q, hq⟩ : ∃ q, m[i]? = some q := ⟨_, List.getElem?_eq_getElem (by omega)⟩
    obtain ⟨g1, o1, rfl, hcell1⟩ := C_atH (show 0 < 19 by decide) hA (by omega)
    obtain ⟨cs, hK1, hlen1, hc1⟩ := hcell1 i p hp
    obtain ⟨g2, o2, rfl, hcell2⟩ := C_atH (show 0 < 19 by decide) hB (by omega)
    obtain ⟨ds, hK2, hlen2, hc2⟩ := hcell2 i q hq
    replace hlen1 : cs.length = 19 := hlen1
    replace hlen2 : ds.length = 19 := hlen2
    have hO1 := hK1
    have hO2 := hK2
    obtain ⟨A5, c5, A10, c10, A11, c11, A12, c12, A16, c16, rfl, _⟩ := k45_open hO1
    obtain ⟨B5, d5, B10, d10, B11, d11, B12, d12, B16, d16, rfl, _⟩ := k45_open hO2
    have hd := eqL_at eq hp hq
    refine wp_skip (then_normal (wp_seq ?_))
    refine wp_block (wp_seq ?_)
    refine wp_region_lit (go hs (pM rfl <| pV rfl (fun a hs => y_idxB (size := 19) (off := o1 + i * 19) hs Tryd.underlying32 (by kernel_rfl) rfl rfl (by omega) (by omega) (by simp)) <| pV rfl (fun a hs => y_loadAgg (vs := [.int .u8 p.f0, .string p.f1, .int .u8 p.f2.f0, .int .i64 p.f2.f1, .string p.f2.f2, .slice A5 p.f2.f3.length c5, .int .i64 p.f2.f4, .int .i64 p.f2.f5, .int .u8 p.f3.f0, .string p.f3.f1, .slice A10 p.f3.f2.length c10, .slice A11 p.f3.f3.length c11, .slice A12 p.f3.f4.length c12, .int .i64 p.f3.f5, .int .i64 p.f3.f6, .int .u8 p.f4, .slice A16 p.f5.length c16, .int .i64 p.f6, .int .i64 p.f7]) hs Tryd.underlying44 rfl (by kernel_rfl) rfl (fun w hw k v hk => hc1 w hw.base k v hk)) <| ?_)); clear hs a; intro a hs
    refine a_eff rfl (e_alloc (z := .agg #[.int .u8 0, .string ⟨#[]⟩, .int .u8 0, .int .i64 0, .string ⟨#[]⟩, .slice none 0 0, .int .i64 0, .int .i64 0, .int .u8 0, .string ⟨#[]⟩, .slice none 0 0, .slice none 0 0, .slice none 0 0, .int .i64 0, .int .i64 0, .int .u8 0, .slice none 0 0, .int .i64 0, .int .i64 0]) (cs := #[.int .u8 0, .string ⟨#[]⟩, .int .u8 0, .int .i64 0, .string ⟨#[]⟩, .slice none 0 0, .int .i64 0, .int .i64 0, .int .u8 0, .string ⟨#[]⟩, .slice none 0 0, .slice none 0 0, .slice none 0 0, .int .i64 0, .int .i64 0, .int .u8 0, .slice none 0 0, .int .i64 0, .int .i64 0]) hs rfl (by kernel_rfl) rfl ?_); clear hs a; intro g1 a w hs
    refine go hs (pA rfl <| ?_); clear hs a; intro a hs
    refine a_eff rfl (e_store (cl := [_, _, _, _, _, _, _, _, _, _, _, _, _, _, _, _, _, _, _]) 0 rfl hs rfl rfl (by kernel_rfl) rfl rfl rfl ?_); clear hs a; intro a w hs
    refine wpList_nil (then_normal (wp_seq ?_))
    refine wp_region_lit (go hs (pM rfl <| pM rfl <| pV rfl (fun a hs => y_idxB (size := 19) (off := o2 + i * 19) hs Tryd.underlying32 (by kernel_rfl) rfl rfl (by omega) (by omega) (by simp)) <| pV rfl (fun a hs => y_loadAgg (vs := [.int .u8 q.f0, .string q.f1, .int .u8 q.f2.f0, .int .i64 q.f2.f1, .string q.f2.f2, .slice B5 q.f2.f3.length d5, .int .i64 q.f2.f4, .int .i64 q.f2.f5, .int .u8 q.f3.f0, .string q.f3.f1, .slice B10 q.f3.f2.length d10, .slice B11 q.f3.f3.length d11, .slice B12 q.f3.f4.length d12, .int .i64 q.f3.f5, .int .i64 q.f3.f6, .int .u8 q.f4, .slice B16 q.f5.length d16, .int .i64 q.f6, .int .i64 q.f7]) hs Tryd.underlying44 rfl (by kernel_rfl) rfl (fun w hw k v hk => hc2 w hw.base k v hk)) <| ?_)); clear hs a; intro a hs
    refine a_eff rfl (e_alloc (z := .agg #[.int .u8 0, .string ⟨#[]⟩, .int .u8 0, .int .i64 0, .string ⟨#[]⟩, .slice none 0 0, .int .i64 0, .int .i64 0, .int .u8 0, .string ⟨#[]⟩, .slice none 0 0, .slice none 0 0, .slice none 0 0, .int .i64 0, .int .i64 0, .int .u8 0, .slice none 0 0, .int .i64 0, .int .i64 0]) (cs := #[.int .u8 0, .string ⟨#[]⟩, .int .u8 0, .int .i64 0, .string ⟨#[]⟩, .slice none 0 0, .int .i64 0, .int .i64 0, .int .u8 0, .string ⟨#[]⟩, .slice none 0 0, .slice none 0 0, .slice none 0 0, .int .i64 0, .int .i64 0, .int .u8 0, .slice none 0 0, .int .i64 0, .int .i64 0]) hs rfl (by kernel_rfl) rfl ?_); clear hs a; intro g2 a w hs
    refine a_eff rfl (e_store (cl := [_, _, _, _, _, _, _, _, _, _, _, _, _, _, _, _, _, _, _]) 0 rfl hs rfl rfl (by kernel_rfl) rfl rfl rfl ?_); clear hs a; intro a w hs
    refine wpList_nil (then_normal (wp_seq ?_))
    refine wp_region_lit (go hs (pM rfl <| pV rfl (fun a hs => y_loadPt 1 rfl hs Tryd.underlying45 rfl (by kernel_rfl) rfl) <| pV rfl (fun a hs => y_loadPt 0 rfl hs Tryd.underlying45 rfl (by kernel_rfl) rfl) <| ?_)); clear hs a; intro a hs
    refine a_eff rfl (e_callF hfn hnm hbd hs rfl rfl rfl (hf p (List.mem_of_getElem? hp) q (List.mem_of_getElem? hq) _ _ _ hs.mem.base hK1 hlen1 hK2 hlen2) (fun e w1 ⟨he, hb1⟩ => ⟨_, he, _, hs.mem.grow hb1, ?_⟩)); clear hs a; intro a hs
    refine go hs (pV rfl (fun a hs => y_not hs rfl) <| ?_); clear hs a; intro a hs
    refine wpList_nil (then_normal ?_)
    refine wp_cond_split (hs.ev rfl) (fun h30 => ?_) (fun h30 => ?_)
    · replace h30 := (not_t h30)
      have hX : eqL eq l m = false := by rw [← hinv, hd, h30, Bool.false_and]
      refine wp_seq (wp_region_lit ?_)
      refine go hs (pA rfl <| ?_); clear hs a; intro a hs
      refine wpList_nil (then_normal (wp_ret (in_ret (then_ret (then_ret (in_ret (then_ret ?_)))))))
      refine fin_ret hs (.tmp (hs.slots _ _ rfl) .nil) ⟨?_, hs.mem.base⟩
      rw [hX]; rfl
    replace h30 := (not_f h30)
    have hn := hinv
    rw [hd, h30, Bool.true_and] at hn
    refine wp_skip (in_normal (then_normal (wp_region_lit ?_)))
    refine go hs (pV rfl (fun a hs => y_add hs rfl rfl (by omega)) <| pM rfl <| ?_); clear hs a; intro a hs
    refine wpList_nil (then_normal ?_)
    refine ⟨mm - 1, by omega, i + 1, by omega, hn, ?_⟩
    exact (hs.mem_to ((hs.mem.to 0 rfl).drop.to 0 rfl).drop).cut _ ⟨rfl, rfl, rfl, rfl, rfl, trivial⟩
  replace h18 := of_decide_eq_false h18
  have hX : eqL eq l m = true := by rw [← hinv, List.drop_eq_nil_of_le (by omega), List.drop_eq_nil_of_le (by omega)]; rfl
  refine wp_exit (then_exit (then_exit (in_here (then_normal (wp_seq ?_)))))
  refine wp_region_lit (go hs (pA rfl <| ?_)); clear hs a; intro a hs
  refine wpList_nil (then_normal (wp_ret ?_))
  refine fin_ret hs (.tmp (hs.slots _ _ rfl) .nil) ⟨?_, hs.mem.base⟩
  rw [hX]; rfl
/-- The same, but for places. -/
def likeX : Nat → XE → XE → Bool
  | 0, _, _ => false
  | n + 1, x, y => (x.f0 == y.f0) && ((x.f1 == y.f1) && ((x.f2.toList == y.f2.toList) && eqL (likeX n) x.f3 y.f3))
def likeS : Nat → XS → XS → Bool
  | 0, _, _ => false
  | n + 1, x, y => (x.f0 == y.f0) && ((x.f1.toList == y.f1.toList) && (eqL (likeX 16) x.f2 y.f2 && (eqL (likeS n) x.f3 y.f3 && eqL (eqL (likeX 16)) x.f4 y.f4)))
def likeI (x y : XI) : Bool := (x.f0 == y.f0) && ((x.f1.toList == y.f1.toList) && (likeX 16 x.f2 y.f2 && (likeS 16 x.f3 y.f3 && ((x.f4 == y.f4) && eqL (likeX 16) x.f5 y.f5))))
def SameOk (n : Nat) : Prop := ∀ (x y : XE) (A B : Option Addr) (c d : Nat) (v0 : World), Kd.C k25 v0 A x.f3.length x.f3 → Kd.C k25 v0 B y.f3.length y.f3 → inX n x → inX n y → Calls Tryd.prog 52 #[.agg #[.int .u8 x.f0, .int .i64 x.f1, .string x.f2, .slice A x.f3.length c, .int .i64 x.f4, .int .i64 x.f5], .agg #[.int .u8 y.f0, .int .i64 y.f1, .string y.f2, .slice B y.f3.length d, .int .i64 y.f4, .int .i64 y.f5]] v0 fun e w' => e = .returned (.bool (likeX n x y)) ∧ Below v0.heap.size v0 w'
def SamesOk (n : Nat) : Prop := ∀ (l m : List XE) (A B : Option Addr) (c d : Nat) (v0 : World), Kd.C k25 v0 A l.length l → Kd.C k25 v0 B m.length m → (∀ p ∈ l, inX n p) → (∀ p ∈ m, inX n p) → Calls Tryd.prog 54 #[.slice A l.length c, .slice B m.length d] v0 fun e w' => e = .returned (.bool (eqL (likeX n) l m)) ∧ Below v0.heap.size v0 w'
set_option maxRecDepth 100000 in
theorem sames_of (n : Nat) (hE : SameOk n) (l m : List XE) (A B : Option Addr) (c d : Nat) (v0 : World) (hA : Kd.C k25 v0 A l.length l) (hB : Kd.C k25 v0 B m.length m) (hl : ∀ p ∈ l, inX n p) (hm : ∀ p ∈ m, inX n p) :
    Calls Tryd.prog 54 #[.slice A l.length c, .slice B m.length d] v0 fun e w' => e = .returned (.bool (eqL (likeX n) l m)) ∧ Below v0.heap.size v0 w' := by
  refine calls_enter (N := 8) (n := 6) (args := [.slice A l.length c, .slice B m.length d]) Tryd.func54 rfl rfl rfl (H.init v0) (fun a hs => ?_)
  refine wp_seq (wp_region_lit ?_)
  refine go hs (pA rfl <| ?_); clear hs a; intro a hs
  refine wpList_nil (then_normal (wp_seq ?_))
  refine wp_region_lit (go hs (pM rfl <| pM rfl <| ?_)); clear hs a; intro a hs
  refine a_eff rfl (e_callB Tryd.func86 rfl rfl hs rfl rfl (equal_E 52 _ [] (likeX n) A B c d l m _ Tryd.func52 rfl rfl (Kd.C_below hA hs.mem.base) (Kd.C_below hB hs.mem.base) (fun p hp q2 hq cs ds w1 hb hK1 hl1 hK2 hl2 => by obtain ⟨A1, c1, rfl, e1, C1⟩ := k25_open hK1; obtain ⟨B1, d1, rfl, e2, C2⟩ := k25_open hK2; exact hE p q2 A1 B1 c1 d1 w1 (Kd.C_below C1 hb) (Kd.C_below C2 hb) (hl p hp) (hm q2 hq))) ?_); clear hs a; intro a w hs
  refine go hs (pA rfl <| ?_); clear hs a; intro a hs
  refine wpList_nil (then_normal (wp_ret ?_))
  refine fin_ret hs (.tmp (hs.slots _ _ rfl) .nil) ⟨rfl, hs.mem.base⟩
set_option maxRecDepth 100000 in
theorem tree_same_step (n : Nat) (hn : n ≤ 1000) (ih : ∀ q, q + 1 = n → SameOk q) (x y : XE) (A B : Option Addr) (c d : Nat) (v0 : World) (hA : Kd.C k25 v0 A x.f3.length x.f3) (hB : Kd.C k25 v0 B y.f3.length y.f3) (hx : inX n x) (hy : inX n y) :
    Calls Tryd.prog 52 #[.agg #[.int .u8 x.f0, .int .i64 x.f1, .string x.f2, .slice A x.f3.length c, .int .i64 x.f4, .int .i64 x.f5], .agg #[.int .u8 y.f0, .int .i64 y.f1, .string y.f2, .slice B y.f3.length d, .int .i64 y.f4, .int .i64 y.f5]] v0 fun e w' => e = .returned (.bool (likeX n x y)) ∧ Below v0.heap.size v0 w' := by
  refine calls_enter (N := 31) (n := 29) (args := [.agg #[.int .u8 x.f0, .int .i64 x.f1, .string x.f2, .slice A x.f3.length c, .int .i64 x.f4, .int .i64 x.f5], .agg #[.int .u8 y.f0, .int .i64 y.f1, .string y.f2, .slice B y.f3.length d, .int .i64 y.f4, .int .i64 y.f5]]) Tryd.func52 rfl rfl rfl (H.init v0) (fun a hs => ?_)
  obtain ⟨q, rfl⟩ : ∃ q, n = q + 1 := by cases n with | zero => exact hx.elim | succ q => exact ⟨q, rfl⟩
  refine wp_seq (wp_region_lit ?_)
  refine a_eff rfl (e_box (cs := #[_, _, _, _, _, _]) hs rfl rfl rfl ?_); clear hs a; intro gx a w hs
  refine a_eff rfl (e_box (cs := #[_, _, _, _, _, _]) hs rfl rfl rfl ?_); clear hs a; intro gy a w hs
  refine go hs (pA rfl <| ?_); clear hs a; intro a hs
  refine wpList_nil (then_normal (wp_seq ?_))
  refine wp_region_lit (go hs (pV rfl (fun a hs => y_faddr (k' := 0) 0 hs (by kernel_rfl) rfl rfl) <| pV rfl (fun a hs => y_load hs Tryd.underlying22 rfl rfl (fun w hw => (hw.to 1 rfl).cellV rfl)) <| pV rfl (fun a hs => y_faddr (k' := 0) 0 hs (by kernel_rfl) rfl rfl) <| pV rfl (fun a hs => y_load hs Tryd.underlying22 rfl rfl (fun w hw => (hw.to 0 rfl).cellV rfl)) <| pV rfl (fun a hs => y_cmp hs rfl rfl rfl) <| pM rfl <| ?_)); clear hs a; intro a hs
  rcases hs.know (d := 10) rfl with ⟨h10, hs1⟩ | ⟨h10, hs1⟩ <;> replace hs := hs1 <;> clear hs1
  · replace h10 := eq_of_beq h10
    refine go hs (pG rfl (fun a hs => y_faddr (k' := 1) 1 hs (by kernel_rfl) rfl rfl) <| pG rfl (fun a hs => y_load hs Tryd.underlying3 rfl rfl (fun w hw => (hw.to 1 rfl).cellV rfl)) <| pG rfl (fun a hs => y_faddr (k' := 1) 1 hs (by kernel_rfl) rfl rfl) <| pG rfl (fun a hs => y_load hs Tryd.underlying3 rfl rfl (fun w hw => (hw.to 0 rfl).cellV rfl)) <| pG rfl (fun a hs => y_cmp hs rfl rfl rfl) <| pT rfl rfl <| pM rfl <| ?_); clear hs a; intro a hs
    rcases hs.know (d := 17) rfl with ⟨h17, hs1⟩ | ⟨h17, hs1⟩ <;> replace hs := hs1 <;> clear hs1
    · replace h17 := eq_of_beq h17
      refine go hs (pG rfl (fun a hs => y_faddr (k' := 2) 2 hs (by kernel_rfl) rfl rfl) <| pG rfl (fun a hs => y_load hs Tryd.underlying9 rfl rfl (fun w hw => (hw.to 1 rfl).cellV rfl)) <| pG rfl (fun a hs => y_faddr (k' := 2) 2 hs (by kernel_rfl) rfl rfl) <| pG rfl (fun a hs => y_load hs Tryd.underlying9 rfl rfl (fun w hw => (hw.to 0 rfl).cellV rfl)) <| pG rfl (fun a hs => y_seq hs rfl rfl) <| pT rfl rfl <| pM rfl <| ?_); clear hs a; intro a hs
      rcases hs.know (d := 24) rfl with ⟨h24, hs1⟩ | ⟨h24, hs1⟩ <;> replace hs := hs1 <;> clear hs1
      · replace h24 := eq_of_beq h24
        refine go hs (pG rfl (fun a hs => y_faddr (k' := 3) 3 hs (by kernel_rfl) rfl rfl) <| pG rfl (fun a hs => y_load hs Tryd.underlying23 rfl rfl (fun w hw => (hw.to 1 rfl).cellV rfl)) <| pG rfl (fun a hs => y_faddr (k' := 3) 3 hs (by kernel_rfl) rfl rfl) <| pG rfl (fun a hs => y_load hs Tryd.underlying23 rfl rfl (fun w hw => (hw.to 0 rfl).cellV rfl)) <| ?_); clear hs a; intro a hs
        refine a_effG hs rfl (e_callB Tryd.func54 rfl rfl hs rfl rfl (sames_of q (ih q rfl) x.f3 y.f3 A B c d _ (Kd.C_below hA hs.mem.base) (Kd.C_below hB hs.mem.base) hx.2 hy.2) ?_); clear hs a; intro a w hs
        refine go hs (pT rfl rfl <| pA rfl <| ?_); clear hs a; intro a hs
        refine wpList_nil (then_normal (wp_ret ?_))
        have hX : likeX (q + 1) x y = eqL (likeX q) x.f3 y.f3 := by rw [likeX]; rw [(beq_iff_eq.2 h10), Bool.true_and, (beq_iff_eq.2 h17), Bool.true_and, (beq_iff_eq.2 h24), Bool.true_and]
        refine fin_ret hs (.tmp (hs.slots _ _ rfl) .nil) ⟨?_, hs.mem.base⟩
        rw [hX]; rfl
      replace h24 := ne_of_beq_false h24
      refine go hs (pS rfl <| pS rfl <| pS rfl <| pS rfl <| pS rfl <| pF rfl rfl <| pA rfl <| ?_); clear hs a; intro a hs
      refine wpList_nil (then_normal (wp_ret ?_))
      have hX : likeX (q + 1) x y = false := by rw [likeX]; rw [(beq_eq_false_iff_ne.2 h24)]; simp only [Bool.false_and, Bool.and_false]
      refine fin_ret hs (.tmp (hs.slots _ _ rfl) .nil) ⟨?_, hs.mem.base⟩
      rw [hX]; rfl
    replace h17 := ne_of_beq_false h17
    refine go hs (pS rfl <| pS rfl <| pS rfl <| pS rfl <| pS rfl <| pF rfl rfl <| pM rfl <| pS rfl <| pS rfl <| pS rfl <| pS rfl <| pS rfl <| pF rfl rfl <| pA rfl <| ?_); clear hs a; intro a hs
    refine wpList_nil (then_normal (wp_ret ?_))
    have hX : likeX (q + 1) x y = false := by rw [likeX]; rw [(beq_eq_false_iff_ne.2 h17)]; simp only [Bool.false_and, Bool.and_false]
    refine fin_ret hs (.tmp (hs.slots _ _ rfl) .nil) ⟨?_, hs.mem.base⟩
    rw [hX]; rfl
  replace h10 := ne_of_beq_false h10
  refine go hs (pS rfl <| pS rfl <| pS rfl <| pS rfl <| pS rfl <| pF rfl rfl <| pM rfl <| pS rfl <| pS rfl <| pS rfl <| pS rfl <| pS rfl <| pF rfl rfl <| pM rfl <| pS rfl <| pS rfl <| pS rfl <| pS rfl <| pS rfl <| pF rfl rfl <| pA rfl <| ?_); clear hs a; intro a hs
  refine wpList_nil (then_normal (wp_ret ?_))
  have hX : likeX (q + 1) x y = false := by rw [likeX]; rw [(beq_eq_false_iff_ne.2 h10)]; simp only [Bool.false_and, Bool.and_false]
  refine fin_ret hs (.tmp (hs.slots _ _ rfl) .nil) ⟨?_, hs.mem.base⟩
  rw [hX]; rfl
theorem tree_same : ∀ n : Nat, n ≤ 1000 → SameOk n := fun n => by
  induction n using Nat.strongRecOn with
  | _ n ih => exact fun hn x y A B c d v0 hA hB hx hy => tree_same_step n hn (fun q hq => ih q (by omega) (by omega)) x y A B c d v0 hA hB hx hy
theorem tree_sames (n : Nat) (hn : n ≤ 1000) : SamesOk n := fun l m A B c d v0 hA hB hl hm => sames_of n (tree_same n hn) l m A B c d v0 hA hB hl hm
def SameSOk (n : Nat) : Prop := ∀ (x y : XS) (A2 A3 A4 B2 B3 B4 : Option Addr) (c2 c3 c4 d2 d3 d4 : Nat) (v0 : World), Kd.C k25 v0 A2 x.f2.length x.f2 → Kd.C k42 v0 A3 x.f3.length x.f3 → Kd.C (Kd.slice 25 k25) v0 A4 x.f4.length x.f4 → Kd.C k25 v0 B2 y.f2.length y.f2 → Kd.C k42 v0 B3 y.f3.length y.f3 → Kd.C (Kd.slice 25 k25) v0 B4 y.f4.length y.f4 → inS n x → inS n y → Calls Tryd.prog 53 #[.agg #[.int .u8 x.f0, .string x.f1, .slice A2 x.f2.length c2, .slice A3 x.f3.length c3, .slice A4 x.f4.length c4, .int .i64 x.f5, .int .i64 x.f6], .agg #[.int .u8 y.f0, .string y.f1, .slice B2 y.f2.length d2, .slice B3 y.f3.length d3, .slice B4 y.f4.length d4, .int .i64 y.f5, .int .i64 y.f6]] v0 fun e w' => e = .returned (.bool (likeS n x y)) ∧ Below v0.heap.size v0 w'
set_option maxRecDepth 100000 in
theorem tree_sameS_step (n : Nat) (hn : n ≤ 1000) (ih : ∀ q, q + 1 = n → SameSOk q) (x y : XS) (A2 A3 A4 B2 B3 B4 : Option Addr) (c2 c3 c4 d2 d3 d4 : Nat) (v0 : World) (hA2 : Kd.C k25 v0 A2 x.f2.length x.f2) (hA3 : Kd.C k42 v0 A3 x.f3.length x.f3) (hA4 : Kd.C (Kd.slice 25 k25) v0 A4 x.f4.length x.f4) (hB2 : Kd.C k25 v0 B2 y.f2.length y.f2) (hB3 : Kd.C k42 v0 B3 y.f3.length y.f3) (hB4 : Kd.C (Kd.slice 25 k25) v0 B4 y.f4.length y.f4) (hx : inS n x) (hy : inS n y) :
    Calls Tryd.prog 53 #[.agg #[.int .u8 x.f0, .string x.f1, .slice A2 x.f2.length c2, .slice A3 x.f3.length c3, .slice A4 x.f4.length c4, .int .i64 x.f5, .int .i64 x.f6], .agg #[.int .u8 y.f0, .string y.f1, .slice B2 y.f2.length d2, .slice B3 y.f3.length d3, .slice B4 y.f4.length d4, .int .i64 y.f5, .int .i64 y.f6]] v0 fun e w' => e = .returned (.bool (likeS n x y)) ∧ Below v0.heap.size v0 w' := by
  refine calls_enter (N := 38) (n := 36) (args := [.agg #[.int .u8 x.f0, .string x.f1, .slice A2 x.f2.length c2, .slice A3 x.f3.length c3, .slice A4 x.f4.length c4, .int .i64 x.f5, .int .i64 x.f6], .agg #[.int .u8 y.f0, .string y.f1, .slice B2 y.f2.length d2, .slice B3 y.f3.length d3, .slice B4 y.f4.length d4, .int .i64 y.f5, .int .i64 y.f6]]) Tryd.func53 rfl rfl rfl (H.init v0) (fun a hs => ?_)
  obtain ⟨q, rfl⟩ : ∃ q, n = q + 1 := by cases n with | zero => exact hx.elim | succ q => exact ⟨q, rfl⟩
  refine wp_seq (wp_region_lit ?_)
  refine a_eff rfl (e_box (cs := #[_, _, _, _, _, _, _]) hs rfl rfl rfl ?_); clear hs a; intro gx a w hs
  refine a_eff rfl (e_box (cs := #[_, _, _, _, _, _, _]) hs rfl rfl rfl ?_); clear hs a; intro gy a w hs
  refine go hs (pA rfl <| ?_); clear hs a; intro a hs
  refine wpList_nil (then_normal (wp_seq ?_))
  refine wp_region_lit (go hs (pV rfl (fun a hs => y_faddr (k' := 0) 0 hs (by kernel_rfl) rfl rfl) <| pV rfl (fun a hs => y_load hs Tryd.underlying38 rfl rfl (fun w hw => (hw.to 1 rfl).cellV rfl)) <| pV rfl (fun a hs => y_faddr (k' := 0) 0 hs (by kernel_rfl) rfl rfl) <| pV rfl (fun a hs => y_load hs Tryd.underlying38 rfl rfl (fun w hw => (hw.to 0 rfl).cellV rfl)) <| pV rfl (fun a hs => y_cmp hs rfl rfl rfl) <| pM rfl <| ?_)); clear hs a; intro a hs
  rcases hs.know (d := 10) rfl with ⟨h10, hs1⟩ | ⟨h10, hs1⟩ <;> replace hs := hs1 <;> clear hs1
  · replace h10 := eq_of_beq h10
    refine go hs (pG rfl (fun a hs => y_faddr (k' := 1) 1 hs (by kernel_rfl) rfl rfl) <| pG rfl (fun a hs => y_load hs Tryd.underlying9 rfl rfl (fun w hw => (hw.to 1 rfl).cellV rfl)) <| pG rfl (fun a hs => y_faddr (k' := 1) 1 hs (by kernel_rfl) rfl rfl) <| pG rfl (fun a hs => y_load hs Tryd.underlying9 rfl rfl (fun w hw => (hw.to 0 rfl).cellV rfl)) <| pG rfl (fun a hs => y_seq hs rfl rfl) <| pT rfl rfl <| pM rfl <| ?_); clear hs a; intro a hs
    rcases hs.know (d := 17) rfl with ⟨h17, hs1⟩ | ⟨h17, hs1⟩ <;> replace hs := hs1 <;> clear hs1
    · replace h17 := eq_of_beq h17
      refine go hs (pG rfl (fun a hs => y_faddr (k' := 2) 2 hs (by kernel_rfl) rfl rfl) <| pG rfl (fun a hs => y_load hs Tryd.underlying23 rfl rfl (fun w hw => (hw.to 1 rfl).cellV rfl)) <| pG rfl (fun a hs => y_faddr (k' := 2) 2 hs (by kernel_rfl) rfl rfl) <| pG rfl (fun a hs => y_load hs Tryd.underlying23 rfl rfl (fun w hw => (hw.to 0 rfl).cellV rfl)) <| ?_); clear hs a; intro a hs
      refine a_effG hs rfl (e_callB Tryd.func54 rfl rfl hs rfl rfl (tree_sames 16 (by decide) x.f2 y.f2 A2 B2 c2 d2 _ (Kd.C_below hA2 hs.mem.base) (Kd.C_below hB2 hs.mem.base) hx.2.1 hy.2.1) ?_); clear hs a; intro a w hs
      refine go hs (pT rfl rfl <| pM rfl <| ?_); clear hs a; intro a hs
      rcases hs.know (d := 24) rfl with ⟨h24, hs1⟩ | ⟨h24, hs1⟩ <;> replace hs := hs1 <;> clear hs1
      · refine go hs (pG rfl (fun a hs => y_faddr (k' := 3) 3 hs (by kernel_rfl) rfl rfl) <| pG rfl (fun a hs => y_load hs Tryd.underlying39 rfl rfl (fun w hw => (hw.to 1 rfl).cellV rfl)) <| pG rfl (fun a hs => y_faddr (k' := 3) 3 hs (by kernel_rfl) rfl rfl) <| pG rfl (fun a hs => y_load hs Tryd.underlying39 rfl rfl (fun w hw => (hw.to 0 rfl).cellV rfl)) <| ?_); clear hs a; intro a hs
        refine a_effG hs rfl (e_callB Tryd.func84 rfl rfl hs rfl rfl (equal_S 53 _ [] (likeS q) A3 B3 c3 d3 x.f3 y.f3 _ Tryd.func53 rfl rfl (Kd.C_below hA3 hs.mem.base) (Kd.C_below hB3 hs.mem.base) (fun p hp q2 hq cs ds w1 hb hK1 hl1 hK2 hl2 => by obtain ⟨P2, e2, P3, e3, P4, e4, rfl, i2, G2, i3, G3, i4, G4⟩ := k42_open hK1; obtain ⟨Q2, f2, Q3, f3, Q4, f4, rfl, j2, J2, j3, J3, j4, J4⟩ := k42_open hK2; exact ih q rfl p q2 P2 P3 P4 Q2 Q3 Q4 e2 e3 e4 f2 f3 f4 w1 (Kd.C_below G2 hb) (Kd.C_below G3 hb) (Kd.C_below G4 hb) (Kd.C_below J2 hb) (Kd.C_below J3 hb) (Kd.C_below J4 hb) (hx.2.2.2.1 p hp) (hy.2.2.2.1 q2 hq))) ?_); clear hs a; intro a w hs
        refine go hs (pT rfl rfl <| pM rfl <| ?_); clear hs a; intro a hs
        rcases hs.know (d := 31) rfl with ⟨h31, hs1⟩ | ⟨h31, hs1⟩ <;> replace hs := hs1 <;> clear hs1
        · refine go hs (pG rfl (fun a hs => y_faddr (k' := 4) 4 hs (by kernel_rfl) rfl rfl) <| pG rfl (fun a hs => y_load hs Tryd.underlying40 rfl rfl (fun w hw => (hw.to 1 rfl).cellV rfl)) <| pG rfl (fun a hs => y_faddr (k' := 4) 4 hs (by kernel_rfl) rfl rfl) <| pG rfl (fun a hs => y_load hs Tryd.underlying40 rfl rfl (fun w hw => (hw.to 0 rfl).cellV rfl)) <| ?_); clear hs a; intro a hs
          refine a_effG hs rfl (e_callB Tryd.func85 rfl rfl hs rfl rfl (equal_R 54 _ [] (eqL (likeX 16)) A4 B4 c4 d4 x.f4 y.f4 _ Tryd.func54 rfl rfl (Kd.C_below hA4 hs.mem.base) (Kd.C_below hB4 hs.mem.base) (fun p hp q2 hq A1 B1 c1 d1 w1 hb C1 C2 => tree_sames 16 (by decide) p q2 A1 B1 c1 d1 w1 (Kd.C_below C1 hb) (Kd.C_below C2 hb) (hx.2.2.2.2.2 p hp).2 (hy.2.2.2.2.2 q2 hq).2)) ?_); clear hs a; intro a w hs
          refine go hs (pT rfl rfl <| pA rfl <| ?_); clear hs a; intro a hs
          refine wpList_nil (then_normal (wp_ret ?_))
          have hX : likeS (q + 1) x y = eqL (eqL (likeX 16)) x.f4 y.f4 := by rw [likeS]; rw [(beq_iff_eq.2 h10), Bool.true_and, (beq_iff_eq.2 h17), Bool.true_and, h24, Bool.true_and, h31, Bool.true_and]
          refine fin_ret hs (.tmp (hs.slots _ _ rfl) .nil) ⟨?_, hs.mem.base⟩
          rw [hX]; rfl
        refine go hs (pS rfl <| pS rfl <| pS rfl <| pS rfl <| pS rfl <| pF rfl rfl <| pA rfl <| ?_); clear hs a; intro a hs
        refine wpList_nil (then_normal (wp_ret ?_))
        have hX : likeS (q + 1) x y = false := by rw [likeS]; rw [h31]; simp only [Bool.false_and, Bool.and_false]
        refine fin_ret hs (.tmp (hs.slots _ _ rfl) .nil) ⟨?_, hs.mem.base⟩
        rw [hX]; rfl
      refine go hs (pS rfl <| pS rfl <| pS rfl <| pS rfl <| pS rfl <| pF rfl rfl <| pM rfl <| pS rfl <| pS rfl <| pS rfl <| pS rfl <| pS rfl <| pF rfl rfl <| pA rfl <| ?_); clear hs a; intro a hs
      refine wpList_nil (then_normal (wp_ret ?_))
      have hX : likeS (q + 1) x y = false := by rw [likeS]; rw [h24]; simp only [Bool.false_and, Bool.and_false]
      refine fin_ret hs (.tmp (hs.slots _ _ rfl) .nil) ⟨?_, hs.mem.base⟩
      rw [hX]; rfl
    replace h17 := ne_of_beq_false h17
    refine go hs (pS rfl <| pS rfl <| pS rfl <| pS rfl <| pS rfl <| pF rfl rfl <| pM rfl <| pS rfl <| pS rfl <| pS rfl <| pS rfl <| pS rfl <| pF rfl rfl <| pM rfl <| pS rfl <| pS rfl <| pS rfl <| pS rfl <| pS rfl <| pF rfl rfl <| pA rfl <| ?_); clear hs a; intro a hs
    refine wpList_nil (then_normal (wp_ret ?_))
    have hX : likeS (q + 1) x y = false := by rw [likeS]; rw [(beq_eq_false_iff_ne.2 h17)]; simp only [Bool.false_and, Bool.and_false]
    refine fin_ret hs (.tmp (hs.slots _ _ rfl) .nil) ⟨?_, hs.mem.base⟩
    rw [hX]; rfl
  replace h10 := ne_of_beq_false h10
  refine go hs (pS rfl <| pS rfl <| pS rfl <| pS rfl <| pS rfl <| pF rfl rfl <| pM rfl <| pS rfl <| pS rfl <| pS rfl <| pS rfl <| pS rfl <| pF rfl rfl <| pM rfl <| pS rfl <| pS rfl <| pS rfl <| pS rfl <| pS rfl <| pF rfl rfl <| pM rfl <| pS rfl <| pS rfl <| pS rfl <| pS rfl <| pS rfl <| pF rfl rfl <| pA rfl <| ?_); clear hs a; intro a hs
  refine wpList_nil (then_normal (wp_ret ?_))
  have hX : likeS (q + 1) x y = false := by rw [likeS]; rw [(beq_eq_false_iff_ne.2 h10)]; simp only [Bool.false_and, Bool.and_false]
  refine fin_ret hs (.tmp (hs.slots _ _ rfl) .nil) ⟨?_, hs.mem.base⟩
  rw [hX]; rfl
theorem tree_sameS : ∀ n : Nat, n ≤ 1000 → SameSOk n := fun n => by
  induction n using Nat.strongRecOn with
  | _ n ih => exact fun hn x y A2 A3 A4 B2 B3 B4 c2 c3 c4 d2 d3 d4 v0 hA2 hA3 hA4 hB2 hB3 hB4 hx hy => tree_sameS_step n hn (fun q hq => ih q (by omega) (by omega)) x y A2 A3 A4 B2 B3 B4 c2 c3 c4 d2 d3 d4 v0 hA2 hA3 hA4 hB2 hB3 hB4 hx hy
set_option maxRecDepth 100000 in
theorem tree_sameI (x : XI) (A5 A10 A11 A12 A16 : Option Addr) (c5 c10 c11 c12 c16 : Nat) (y : XI) (B5 B10 B11 B12 B16 : Option Addr) (d5 d10 d11 d12 d16 : Nat) (v0 : World) (hA5 : Kd.C k25 v0 A5 x.f2.f3.length x.f2.f3) (hA10 : Kd.C k25 v0 A10 x.f3.f2.length x.f3.f2) (hA11 : Kd.C k42 v0 A11 x.f3.f3.length x.f3.f3) (hA12 : Kd.C (Kd.slice 25 k25) v0 A12 x.f3.f4.length x.f3.f4) (hA16 : Kd.C k25 v0 A16 x.f5.length x.f5) (hB5 : Kd.C k25 v0 B5 y.f2.f3.length y.f2.f3) (hB10 : Kd.C k25 v0 B10 y.f3.f2.length y.f3.f2) (hB11 : Kd.C k42 v0 B11 y.f3.f3.length y.f3.f3) (hB12 : Kd.C (Kd.slice 25 k25) v0 B12 y.f3.f4.length y.f3.f4) (hB16 : Kd.C k25 v0 B16 y.f5.length y.f5) (hx : inI x) (hy : inI y) :
    Calls Tryd.prog 51 #[.agg #[.int .u8 x.f0, .string x.f1, .int .u8 x.f2.f0, .int .i64 x.f2.f1, .string x.f2.f2, .slice A5 x.f2.f3.length c5, .int .i64 x.f2.f4, .int .i64 x.f2.f5, .int .u8 x.f3.f0, .string x.f3.f1, .slice A10 x.f3.f2.length c10, .slice A11 x.f3.f3.length c11, .slice A12 x.f3.f4.length c12, .int .i64 x.f3.f5, .int .i64 x.f3.f6, .int .u8 x.f4, .slice A16 x.f5.length c16, .int .i64 x.f6, .int .i64 x.f7], .agg #[.int .u8 y.f0, .string y.f1, .int .u8 y.f2.f0, .int .i64 y.f2.f1, .string y.f2.f2, .slice B5 y.f2.f3.length d5, .int .i64 y.f2.f4, .int .i64 y.f2.f5, .int .u8 y.f3.f0, .string y.f3.f1, .slice B10 y.f3.f2.length d10, .slice B11 y.f3.f3.length d11, .slice B12 y.f3.f4.length d12, .int .i64 y.f3.f5, .int .i64 y.f3.f6, .int .u8 y.f4, .slice B16 y.f5.length d16, .int .i64 y.f6, .int .i64 y.f7]] v0 fun e w' => e = .returned (.bool (likeI x y)) ∧ Below v0.heap.size v0 w' := by
  refine calls_enter (N := 45) (n := 43) (args := [.agg #[.int .u8 x.f0, .string x.f1, .int .u8 x.f2.f0, .int .i64 x.f2.f1, .string x.f2.f2, .slice A5 x.f2.f3.length c5, .int .i64 x.f2.f4, .int .i64 x.f2.f5, .int .u8 x.f3.f0, .string x.f3.f1, .slice A10 x.f3.f2.length c10, .slice A11 x.f3.f3.length c11, .slice A12 x.f3.f4.length c12, .int .i64 x.f3.f5, .int .i64 x.f3.f6, .int .u8 x.f4, .slice A16 x.f5.length c16, .int .i64 x.f6, .int .i64 x.f7], .agg #[.int .u8 y.f0, .string y.f1, .int .u8 y.f2.f0, .int .i64 y.f2.f1, .string y.f2.f2, .slice B5 y.f2.f3.length d5, .int .i64 y.f2.f4, .int .i64 y.f2.f5, .int .u8 y.f3.f0, .string y.f3.f1, .slice B10 y.f3.f2.length d10, .slice B11 y.f3.f3.length d11, .slice B12 y.f3.f4.length d12, .int .i64 y.f3.f5, .int .i64 y.f3.f6, .int .u8 y.f4, .slice B16 y.f5.length d16, .int .i64 y.f6, .int .i64 y.f7]]) Tryd.func51 rfl rfl rfl (H.init v0) (fun a hs => ?_)
  refine wp_seq (wp_region_lit ?_)
  refine a_eff rfl (e_box (cs := #[_, _, _, _, _, _, _, _, _, _, _, _, _, _, _, _, _, _, _]) hs rfl rfl rfl ?_); clear hs a; intro gx a w hs
  refine a_eff rfl (e_box (cs := #[_, _, _, _, _, _, _, _, _, _, _, _, _, _, _, _, _, _, _]) hs rfl rfl rfl ?_); clear hs a; intro gy a w hs
  refine go hs (pA rfl <| ?_); clear hs a; intro a hs
  refine wpList_nil (then_normal (wp_seq ?_))
  refine wp_region_lit (go hs (pV rfl (fun a hs => y_faddr (k' := 0) 0 hs (by kernel_rfl) rfl rfl) <| pV rfl (fun a hs => y_load hs Tryd.underlying37 rfl rfl (fun w hw => (hw.to 1 rfl).cellV rfl)) <| pV rfl (fun a hs => y_faddr (k' := 0) 0 hs (by kernel_rfl) rfl rfl) <| pV rfl (fun a hs => y_load hs Tryd.underlying37 rfl rfl (fun w hw => (hw.to 0 rfl).cellV rfl)) <| pV rfl (fun a hs => y_cmp hs rfl rfl rfl) <| pM rfl <| ?_)); clear hs a; intro a hs
  rcases hs.know (d := 10) rfl with ⟨h10, hs1⟩ | ⟨h10, hs1⟩ <;> replace hs := hs1 <;> clear hs1
  · replace h10 := eq_of_beq h10
    refine go hs (pG rfl (fun a hs => y_faddr (k' := 1) 1 hs (by kernel_rfl) rfl rfl) <| pG rfl (fun a hs => y_load hs Tryd.underlying9 rfl rfl (fun w hw => (hw.to 1 rfl).cellV rfl)) <| pG rfl (fun a hs => y_faddr (k' := 1) 1 hs (by kernel_rfl) rfl rfl) <| pG rfl (fun a hs => y_load hs Tryd.underlying9 rfl rfl (fun w hw => (hw.to 0 rfl).cellV rfl)) <| pG rfl (fun a hs => y_seq hs rfl rfl) <| pT rfl rfl <| pM rfl <| ?_); clear hs a; intro a hs
    rcases hs.know (d := 17) rfl with ⟨h17, hs1⟩ | ⟨h17, hs1⟩ <;> replace hs := hs1 <;> clear hs1
    · replace h17 := eq_of_beq h17
      refine go hs (pG rfl (fun a hs => y_faddr (k' := 2) 2 hs (by kernel_rfl) rfl rfl) <| pG rfl (fun a hs => y_loadAgg (vs := [.int .u8 x.f2.f0, .int .i64 x.f2.f1, .string x.f2.f2, .slice A5 x.f2.f3.length c5, .int .i64 x.f2.f4, .int .i64 x.f2.f5]) hs Tryd.underlying24 rfl (by kernel_rfl) rfl (fun w hw k v hk => ((hw.to 1 rfl).cell).trans (sub_at 6 rfl hk))) <| pG rfl (fun a hs => y_faddr (k' := 2) 2 hs (by kernel_rfl) rfl rfl) <| pG rfl (fun a hs => y_loadAgg (vs := [.int .u8 y.f2.f0, .int .i64 y.f2.f1, .string y.f2.f2, .slice B5 y.f2.f3.length d5, .int .i64 y.f2.f4, .int .i64 y.f2.f5]) hs Tryd.underlying24 rfl (by kernel_rfl) rfl (fun w hw k v hk => ((hw.to 0 rfl).cell).trans (sub_at 6 rfl hk))) <| ?_); clear hs a; intro a hs
      refine a_effG hs rfl (e_callB Tryd.func52 rfl rfl hs rfl rfl (tree_same 16 (by decide) x.f2 y.f2 A5 B5 c5 d5 _ (Kd.C_below hA5 hs.mem.base) (Kd.C_below hB5 hs.mem.base) hx.1 hy.1) ?_); clear hs a; intro a w hs
      refine go hs (pT rfl rfl <| pM rfl <| ?_); clear hs a; intro a hs
      rcases hs.know (d := 24) rfl with ⟨h24, hs1⟩ | ⟨h24, hs1⟩ <;> replace hs := hs1 <;> clear hs1
      · refine go hs (pG rfl (fun a hs => y_faddr (k' := 8) 8 hs (by kernel_rfl) rfl rfl) <| pG rfl (fun a hs => y_loadAgg (vs := [.int .u8 x.f3.f0, .string x.f3.f1, .slice A10 x.f3.f2.length c10, .slice A11 x.f3.f3.length c11, .slice A12 x.f3.f4.length c12, .int .i64 x.f3.f5, .int .i64 x.f3.f6]) hs Tryd.underlying41 rfl (by kernel_rfl) rfl (fun w hw k v hk => ((hw.to 1 rfl).cell).trans (sub_at 7 rfl hk))) <| pG rfl (fun a hs => y_faddr (k' := 8) 8 hs (by kernel_rfl) rfl rfl) <| pG rfl (fun a hs => y_loadAgg (vs := [.int .u8 y.f3.f0, .string y.f3.f1, .slice B10 y.f3.f2.length d10, .slice B11 y.f3.f3.length d11, .slice B12 y.f3.f4.length d12, .int .i64 y.f3.f5, .int .i64 y.f3.f6]) hs Tryd.underlying41 rfl (by kernel_rfl) rfl (fun w hw k v hk => ((hw.to 0 rfl).cell).trans (sub_at 7 rfl hk))) <| ?_); clear hs a; intro a hs
        refine a_effG hs rfl (e_callB Tryd.func53 rfl rfl hs rfl rfl (tree_sameS 16 (by decide) x.f3 y.f3 A10 A11 A12 B10 B11 B12 c10 c11 c12 d10 d11 d12 _ (Kd.C_below hA10 hs.mem.base) (Kd.C_below hA11 hs.mem.base) (Kd.C_below hA12 hs.mem.base) (Kd.C_below hB10 hs.mem.base) (Kd.C_below hB11 hs.mem.base) (Kd.C_below hB12 hs.mem.base) hx.2.1 hy.2.1) ?_); clear hs a; intro a w hs
        refine go hs (pT rfl rfl <| pM rfl <| ?_); clear hs a; intro a hs
        rcases hs.know (d := 31) rfl with ⟨h31, hs1⟩ | ⟨h31, hs1⟩ <;> replace hs := hs1 <;> clear hs1
        · refine go hs (pG rfl (fun a hs => y_faddr (k' := 15) 15 hs (by kernel_rfl) rfl rfl) <| pG rfl (fun a hs => y_load hs Tryd.underlying43 rfl rfl (fun w hw => (hw.to 1 rfl).cellV rfl)) <| pG rfl (fun a hs => y_faddr (k' := 15) 15 hs (by kernel_rfl) rfl rfl) <| pG rfl (fun a hs => y_load hs Tryd.underlying43 rfl rfl (fun w hw => (hw.to 0 rfl).cellV rfl)) <| pG rfl (fun a hs => y_cmp hs rfl rfl rfl) <| pT rfl rfl <| pM rfl <| ?_); clear hs a; intro a hs
          rcases hs.know (d := 38) rfl with ⟨h38, hs1⟩ | ⟨h38, hs1⟩ <;> replace hs := hs1 <;> clear hs1
          · replace h38 := eq_of_beq h38
            refine go hs (pG rfl (fun a hs => y_faddr (k' := 16) 16 hs (by kernel_rfl) rfl rfl) <| pG rfl (fun a hs => y_load hs Tryd.underlying23 rfl rfl (fun w hw => (hw.to 1 rfl).cellV rfl)) <| pG rfl (fun a hs => y_faddr (k' := 16) 16 hs (by kernel_rfl) rfl rfl) <| pG rfl (fun a hs => y_load hs Tryd.underlying23 rfl rfl (fun w hw => (hw.to 0 rfl).cellV rfl)) <| ?_); clear hs a; intro a hs
            refine a_effG hs rfl (e_callB Tryd.func54 rfl rfl hs rfl rfl (tree_sames 16 (by decide) x.f5 y.f5 A16 B16 c16 d16 _ (Kd.C_below hA16 hs.mem.base) (Kd.C_below hB16 hs.mem.base) hx.2.2.2 hy.2.2.2) ?_); clear hs a; intro a w hs
            refine go hs (pT rfl rfl <| pA rfl <| ?_); clear hs a; intro a hs
            refine wpList_nil (then_normal (wp_ret ?_))
            have hX : likeI x y = eqL (likeX 16) x.f5 y.f5 := by unfold likeI; rw [(beq_iff_eq.2 h10), Bool.true_and, (beq_iff_eq.2 h17), Bool.true_and, h24, Bool.true_and, h31, Bool.true_and, (beq_iff_eq.2 h38), Bool.true_and]
            refine fin_ret hs (.tmp (hs.slots _ _ rfl) .nil) ⟨?_, hs.mem.base⟩
            rw [hX]; rfl
          replace h38 := ne_of_beq_false h38
          refine go hs (pS rfl <| pS rfl <| pS rfl <| pS rfl <| pS rfl <| pF rfl rfl <| pA rfl <| ?_); clear hs a; intro a hs
          refine wpList_nil (then_normal (wp_ret ?_))
          have hX : likeI x y = false := by unfold likeI; rw [(beq_eq_false_iff_ne.2 h38)]; simp only [Bool.false_and, Bool.and_false]
          refine fin_ret hs (.tmp (hs.slots _ _ rfl) .nil) ⟨?_, hs.mem.base⟩
          rw [hX]; rfl
        refine go hs (pS rfl <| pS rfl <| pS rfl <| pS rfl <| pS rfl <| pF rfl rfl <| pM rfl <| pS rfl <| pS rfl <| pS rfl <| pS rfl <| pS rfl <| pF rfl rfl <| pA rfl <| ?_); clear hs a; intro a hs
        refine wpList_nil (then_normal (wp_ret ?_))
        have hX : likeI x y = false := by unfold likeI; rw [h31]; simp only [Bool.false_and, Bool.and_false]
        refine fin_ret hs (.tmp (hs.slots _ _ rfl) .nil) ⟨?_, hs.mem.base⟩
        rw [hX]; rfl
      refine go hs (pS rfl <| pS rfl <| pS rfl <| pS rfl <| pS rfl <| pF rfl rfl <| pM rfl <| pS rfl <| pS rfl <| pS rfl <| pS rfl <| pS rfl <| pF rfl rfl <| pM rfl <| pS rfl <| pS rfl <| pS rfl <| pS rfl <| pS rfl <| pF rfl rfl <| pA rfl <| ?_); clear hs a; intro a hs
      refine wpList_nil (then_normal (wp_ret ?_))
      have hX : likeI x y = false := by unfold likeI; rw [h24]; simp only [Bool.false_and, Bool.and_false]
      refine fin_ret hs (.tmp (hs.slots _ _ rfl) .nil) ⟨?_, hs.mem.base⟩
      rw [hX]; rfl
    replace h17 := ne_of_beq_false h17
    refine go hs (pS rfl <| pS rfl <| pS rfl <| pS rfl <| pS rfl <| pF rfl rfl <| pM rfl <| pS rfl <| pS rfl <| pS rfl <| pS rfl <| pS rfl <| pF rfl rfl <| pM rfl <| pS rfl <| pS rfl <| pS rfl <| pS rfl <| pS rfl <| pF rfl rfl <| pM rfl <| pS rfl <| pS rfl <| pS rfl <| pS rfl <| pS rfl <| pF rfl rfl <| pA rfl <| ?_); clear hs a; intro a hs
    refine wpList_nil (then_normal (wp_ret ?_))
    have hX : likeI x y = false := by unfold likeI; rw [(beq_eq_false_iff_ne.2 h17)]; simp only [Bool.false_and, Bool.and_false]
    refine fin_ret hs (.tmp (hs.slots _ _ rfl) .nil) ⟨?_, hs.mem.base⟩
    rw [hX]; rfl
  replace h10 := ne_of_beq_false h10
  refine go hs (pS rfl <| pS rfl <| pS rfl <| pS rfl <| pS rfl <| pF rfl rfl <| pM rfl <| pS rfl <| pS rfl <| pS rfl <| pS rfl <| pS rfl <| pF rfl rfl <| pM rfl <| pS rfl <| pS rfl <| pS rfl <| pS rfl <| pS rfl <| pF rfl rfl <| pM rfl <| pS rfl <| pS rfl <| pS rfl <| pS rfl <| pS rfl <| pF rfl rfl <| pM rfl <| pS rfl <| pS rfl <| pS rfl <| pS rfl <| pS rfl <| pF rfl rfl <| pA rfl <| ?_); clear hs a; intro a hs
  refine wpList_nil (then_normal (wp_ret ?_))
  have hX : likeI x y = false := by unfold likeI; rw [(beq_eq_false_iff_ne.2 h10)]; simp only [Bool.false_and, Bool.and_false]
  refine fin_ret hs (.tmp (hs.slots _ _ rfl) .nil) ⟨?_, hs.mem.base⟩
  rw [hX]; rfl
noncomputable def sameI (l m : List XI) : Bool := mayI l && (mayI m && eqL likeI l m)
set_option maxRecDepth 100000 in
theorem tree_Same (A B : Option Addr) (c d : Nat) (l m : List XI) (v0 : World) (hA : Kd.C k45 v0 A l.length l) (hB : Kd.C k45 v0 B m.length m) (hsl : ∀ p ∈ l, smallI p) (hsm : ∀ p ∈ m, smallI p) :
    Calls Tryd.prog 24 #[.slice A l.length c, .slice B m.length d] v0 fun e w' => e = .returned (.bool (sameI l m)) ∧ Below v0.heap.size v0 w' := by
  refine calls_enter (N := 16) (n := 14) (args := [.slice A l.length c, .slice B m.length d]) Tryd.func24 rfl rfl rfl (H.init v0) (fun a hs => ?_)
  refine wp_seq (wp_region_lit ?_)
  refine go hs (pA rfl <| ?_); clear hs a; intro a hs
  refine wpList_nil (then_normal (wp_seq ?_))
  refine wp_region_lit (go hs (pM rfl <| ?_)); clear hs a; intro a hs
  refine a_eff rfl (e_callB Tryd.func23 rfl rfl hs rfl rfl (tree_May A c l _ (Kd.C_below hA hs.mem.base) hsl) ?_); clear hs a; intro a w hs
  refine go hs (pM rfl <| ?_); clear hs a; intro a hs
  rcases hs.know (d := 7) rfl with ⟨h7, hs1⟩ | ⟨h7, hs1⟩ <;> replace hs := hs1 <;> clear hs1
  · have hl := may_in h7
    refine go hs (pG rfl (fun a hs => y_move hs rfl) <| ?_); clear hs a; intro a hs
    refine a_effG hs rfl (e_callB Tryd.func23 rfl rfl hs rfl rfl (tree_May B d m _ (Kd.C_below hB hs.mem.base) hsm) ?_); clear hs a; intro a w hs
    refine go hs (pT rfl rfl <| pM rfl <| ?_); clear hs a; intro a hs
    rcases hs.know (d := 11) rfl with ⟨h11, hs1⟩ | ⟨h11, hs1⟩ <;> replace hs := hs1 <;> clear hs1
    · have hm := may_in h11
      have hX : sameI l m = eqL likeI l m := by unfold sameI; rw [h7, h11]; rfl
      refine go hs (pG rfl (fun a hs => y_move hs rfl) <| pG rfl (fun a hs => y_move hs rfl) <| ?_); clear hs a; intro a hs
      refine a_effG hs rfl (e_callB Tryd.func50 rfl rfl hs rfl rfl (equal_I 51 _ [] likeI A B c d l m _ Tryd.func51 rfl rfl (Kd.C_below hA hs.mem.base) (Kd.C_below hB hs.mem.base) (fun p hp q2 hq cs ds w1 hb hK1 hl1 hK2 hl2 => by obtain ⟨A5, c5, A10, c10, A11, c11, A12, c12, A16, c16, rfl, al5, ag5, al10, ag10, al11, ag11, al12, ag12, al16, ag16⟩ := k45_open hK1; obtain ⟨B5, d5, B10, d10, B11, d11, B12, d12, B16, d16, rfl, bl5, bg5, bl10, bg10, bl11, bg11, bl12, bg12, bl16, bg16⟩ := k45_open hK2; exact tree_sameI p A5 A10 A11 A12 A16 c5 c10 c11 c12 c16 q2 B5 B10 B11 B12 B16 d5 d10 d11 d12 d16 w1 (Kd.C_below ag5 hb) (Kd.C_below ag10 hb) (Kd.C_below ag11 hb) (Kd.C_below ag12 hb) (Kd.C_below ag16 hb) (Kd.C_below bg5 hb) (Kd.C_below bg10 hb) (Kd.C_below bg11 hb) (Kd.C_below bg12 hb) (Kd.C_below bg16 hb) (hl p hp) (hm q2 hq))) ?_); clear hs a; intro a w hs
      refine go hs (pT rfl rfl <| pA rfl <| ?_); clear hs a; intro a hs
      refine wpList_nil (then_normal (wp_ret ?_))
      refine fin_ret hs (.tmp (hs.slots _ _ rfl) .nil) ⟨?_, hs.mem.base⟩
      rw [hX]; rfl
    have hX : sameI l m = false := by unfold sameI; rw [h7, h11]; rfl
    refine go hs (pS rfl <| pS rfl <| pS rfl <| pF rfl rfl <| pA rfl <| ?_); clear hs a; intro a hs
    refine wpList_nil (then_normal (wp_ret ?_))
    refine fin_ret hs (.tmp (hs.slots _ _ rfl) .nil) ⟨?_, hs.mem.base⟩
    rw [hX]; rfl
  have hX : sameI l m = false := by unfold sameI; rw [h7]; rfl
  refine go hs (pS rfl <| pS rfl <| pF rfl rfl <| pM rfl <| pS rfl <| pS rfl <| pS rfl <| pF rfl rfl <| pA rfl <| ?_); clear hs a; intro a hs
  refine wpList_nil (then_normal (wp_ret ?_))
  refine fin_ret hs (.tmp (hs.slots _ _ rfl) .nil) ⟨?_, hs.mem.base⟩
  rw [hX]; rfl
end Go.Proofs.YtibaidddhmdafaaDoor.E
end
section
namespace Go.Proofs.YtibaidddhmdafaaDoor.E
open Go Go.RowKit Go.Proofs.YtibaidddhmdafaaDoorW.PrintWords Go.Proofs.YtibaidddhmdafaaDoorW.PrintLast Go.Proofs.YtibaidddhmdafaaDoorW.PrintMore Go.Proofs.YtibaidddhmdafaaDoor.PA
set_option linter.unusedVariables false
set_option linter.unusedSimpArgs false
def cln (s : ByteArray) : Prop := s.size ≠ 0 ∧ ∀ c ∈ bl s, c ≠ 32 ∧ c ≠ 10
theorem nameFrom_rng (s : ByteArray) : ∀ (m i j : Nat), nameFrom s m i = true → i ≤ j → j < i + m → 48 ≤ bt s (j : Int)
  | 0, i, j, _, h1, h2 => by omega
  | m + 1, i, j, h, h1, h2 => by
    rw [nameFrom, Bool.and_eq_true, Bool.or_eq_true] at h
    by_cases e : j = i
    · subst e
      rcases h.1 with h3 | h3
      · unfold isLetter at h3; have := of_decide_eq_true h3; omega
      · rw [Bool.and_eq_true] at h3
        have h4 := h3.1
        unfold isDigit at h4; have := of_decide_eq_true h4; omega
    · exact nameFrom_rng s m (i + 1) j h.2 (by omega) (by omega)
theorem bt_get (s : ByteArray) {j : Nat} (hj : j < s.size) : bt s (j : Int) = ((s.data.toList[j]'hj).toNat : Int) := by
  have h3 := bt_at s (j : Int) (by rw [Int.toNat_natCast]; exact hj)
  rw [← h3]
  have e : (s[((j : Nat) : Int).toNat]'(by rw [Int.toNat_natCast]; exact hj)) = s.data.toList[j]'hj := by
    simp only [Int.toNat_natCast]; rfl
  rw [e]
theorem name_cln {s : ByteArray} (h : nameText s = true) : cln s := by
  unfold nameText at h
  simp only [Bool.and_eq_true, decide_eq_true_eq] at h
  refine ⟨by omega, fun c hc => ?_⟩
  obtain ⟨j, hj, rfl⟩ := List.getElem_of_mem hc
  have hj' : j < s.size := hj
  have h2 := nameFrom_rng s s.size 0 j h.1 (Nat.zero_le _) (by omega)
  rw [bt_get s hj'] at h2
  constructor
  · intro h4; rw [show (s.data.toList[j]'hj') = 32 from h4] at h2; exact absurd h2 (by decide)
  · intro h4; rw [show (s.data.toList[j]'hj') = 10 from h4] at h2; exact absurd h2 (by decide)
theorem dec_ne (u : Nat) : Lib.decDigits u ≠ [] := by
  by_cases h : u < 10
  · rw [dec_small h]; simp
  · rw [dec_big h]; simp
theorem form_cln {t : XT} (h : mayB t = true) : cln (formT t) := by
  have hm := h
  unfold mayB at h
  unfold formT
  split at h
  · rename_i h1
    rw [if_neg (by omega)]
    simp only [Bool.and_eq_true] at h
    have h2 := h.2
    unfold nameOk at h2
    rw [Bool.and_eq_true] at h2
    exact name_cln h2.1
  · split at h
    · rename_i h1
      rw [if_neg (by omega)]
      simp only [Bool.and_eq_true] at h
      exact name_cln (word_name h.2)
    · split at h
      · rename_i h1
        rw [if_pos h1]
        have h2 := may_num hm h1
        rw [itoa_nat h2.1]
        refine ⟨?_, fun c hc => ?_⟩
        · intro h3
          have h4 : (Lib.decDigits t.f2.toNat).length = 0 := h3
          exact dec_ne _ (List.eq_nil_of_length_eq_zero h4)
        · have h5 := dec_digits _ c hc
          constructor
          · rintro rfl; exact absurd h5.1 (by decide)
          · rintro rfl; exact absurd h5.1 (by decide)
      · split at h
        · rename_i h1
          rw [if_neg (by omega)]
          simp only [Bool.and_eq_true, decide_eq_true_eq, beq_iff_eq] at h
          obtain ⟨_, h2, h3⟩ := h
          refine ⟨by omega, fun c hc => ?_⟩
          obtain ⟨j, hj, rfl⟩ := List.getElem_of_mem hc
          have hj' : j < t.f1.size := hj
          obtain rfl : j = 0 := by omega
          have h4 := bt_get t.f1 hj'
          constructor
          · intro h5
            rw [show (t.f1.data.toList[0]'hj') = 32 from h5] at h4
            rw [show bt t.f1 0 = 32 from h4] at h3
            exact absurd h3 (by decide)
          · intro h5
            rw [show (t.f1.data.toList[0]'hj') = 10 from h5] at h4
            rw [show bt t.f1 0 = 10 from h4] at h3
            exact absurd h3 (by decide)
        · cases h
theorem split_at {k : UInt8} : ∀ (a b x y : List UInt8), (∀ c ∈ a, c ≠ k) → (∀ c ∈ b, c ≠ k) → (x = [] ∨ ∃ x', x = k :: x') → (y = [] ∨ ∃ y', y = k :: y') → a ++ x = b ++ y → a = b ∧ x = y
  | [], [], x, y, _, _, _, _, h => ⟨rfl, h⟩
  | [], c :: b, x, y, _, hb, hx, _, h => by
    rcases hx with rfl | ⟨x', rfl⟩
    · cases h
    · injection h with h1 _
      exact absurd h1.symm (hb c (.head _))
  | c :: a, [], x, y, ha, _, _, hy, h => by
    rcases hy with rfl | ⟨y', rfl⟩
    · cases h
    · injection h with h1 _
      exact absurd h1 (ha c (.head _))
  | c :: a, d :: b, x, y, ha, hb, hx, hy, h => by
    injection h with h1 h2
    obtain ⟨e1, e2⟩ := split_at a b x y (fun c hc => ha c (.tail _ hc)) (fun c hc => hb c (.tail _ hc)) hx hy h2
    exact ⟨by rw [h1, e1], e2⟩
theorem tl_head (l : List XT) : tl l = [] ∨ ∃ x', tl l = 32 :: x' := by
  cases l with
  | nil => exact .inl rfl
  | cons t r => exact .inr ⟨_, rfl⟩
theorem tl_inj : ∀ (l m : List XT), (∀ t ∈ l, mayB t = true) → (∀ t ∈ m, mayB t = true) → tl l = tl m → l.map formT = m.map formT
  | [], [], _, _, _ => rfl
  | [], t :: r, _, _, h => by cases h
  | t :: r, [], _, _, h => by cases h
  | t :: r, u :: q, hl, hm, h => by
    rw [tl, tl] at h
    injection h with _ h
    obtain ⟨e1, e2⟩ := split_at _ _ _ _ (fun c hc => ((form_cln (hl t (.head _))).2 c hc).1) (fun c hc => ((form_cln (hm u (.head _))).2 c hc).1) (tl_head r) (tl_head q) h
    rw [List.map_cons, List.map_cons, bl_inj e1, tl_inj r q (fun v hv => hl v (.tail _ hv)) (fun v hv => hm v (.tail _ hv)) e2]
theorem tl_no10 : ∀ (l : List XT), (∀ t ∈ l, mayB t = true) → ∀ c ∈ tl l, c ≠ 10
  | [], _, c, hc => absurd hc (by simp [tl])
  | t :: r, h, c, hc => by
    rw [tl] at hc
    rcases List.mem_cons.1 hc with rfl | hc
    · decide
    · rcases List.mem_append.1 hc with hc | hc
      · exact ((form_cln (h t (.head _))).2 c hc).2
      · exact tl_no10 r (fun v hv => h v (.tail _ hv)) c hc
theorem jb_no10 {l : List XT} (h : ∀ t ∈ l, mayB t = true) : ∀ c ∈ bl (jb l), c ≠ 10 := fun c hc => tl_no10 l h c (List.mem_of_mem_drop (show c ∈ (tl l).drop 1 from hc))
theorem acc_bl : ∀ (l : List XI) (acc : ByteArray), bl (accB l acc) = bl acc ++ (l.map (fun x => bl (lineB x))).flatten
  | [], acc => by simp [accB]
  | x :: r, acc => by
    show bl (accB r (acc ++ lineB x)) = _
    rw [acc_bl r, bl_app, List.map_cons, List.flatten_cons, List.append_assoc]
theorem line_bl (x : XI) : bl (lineB x) = bl (jb (toksI x)) ++ [10] := by unfold lineB; rw [bl_app]; rfl
theorem toksI_ne (x : XI) : toksI x ≠ [] := fun h => by have h1 := (List.append_eq_nil_iff.1 h).2; cases h1
theorem lines_inj : ∀ (l m : List XI), (∀ x ∈ l, goodI x) → (∀ x ∈ m, goodI x) → (l.map (fun x => bl (lineB x))).flatten = (m.map (fun x => bl (lineB x))).flatten → l.map (fun x => (toksI x).map formT) = m.map (fun x => (toksI x).map formT)
  | [], [], _, _, _ => rfl
  | [], y :: q, _, _, h => by
    rw [List.map_cons, List.flatten_cons, line_bl] at h
    have h1 := congrArg List.length h
    simp at h1
  | x :: r, [], _, _, h => by
    rw [List.map_cons, List.flatten_cons, line_bl] at h
    have h1 := congrArg List.length h
    simp at h1
  | x :: r, y :: q, hl, hm, h => by
    rw [List.map_cons, List.map_cons, List.flatten_cons, List.flatten_cons, line_bl, line_bl, List.append_assoc, List.append_assoc] at h
    have hx := toksI_may (hl x (.head _))
    have hy := toksI_may (hm y (.head _))
    obtain ⟨e1, e2⟩ := split_at _ _ _ _ (jb_no10 hx) (jb_no10 hy) (.inr ⟨_, rfl⟩) (.inr ⟨_, rfl⟩) h
    injection e2 with _ e2
    rw [List.map_cons, List.map_cons, lines_inj r q (fun v hv => hl v (.tail _ hv)) (fun v hv => hm v (.tail _ hv)) e2]
    rw [tl_inj _ _ hx hy (by rw [tl_jb (toksI_ne x), tl_jb (toksI_ne y), e1])]
theorem eqL_getD {α β : Type} {f : α → α → Bool} {g : α → β} (hf : ∀ p q, f p q = true → g p = g q) (d : α) : ∀ (l m : List α) (i : Nat), eqL f l m = true → g (l.getD i d) = g (m.getD i d)
  | [], [], _, _ => rfl
  | [], _ :: _, _, h => by cases h
  | _ :: _, [], _, h => by cases h
  | p :: r, q :: s, 0, h => by rw [eqL, Bool.and_eq_true] at h; exact hf p q h.1
  | p :: r, q :: s, i + 1, h => by rw [eqL, Bool.and_eq_true] at h; exact eqL_getD hf d r s i h.2
theorem eqL_btw {α : Type} {lk : α → α → Bool} {f : α → List XT} {s : ByteArray} (hf : ∀ p q, lk p q = true → f p = f q) : ∀ (l m : List α) (b : Bool), eqL lk l m = true → btw s f b l = btw s f b m
  | [], [], _, _ => rfl
  | [], _ :: _, _, h => by cases h
  | _ :: _, [], _, h => by cases h
  | p :: r, q :: t, b, h => by rw [eqL, Bool.and_eq_true] at h; rw [btw, btw, hf p q h.1, eqL_btw hf r t true h.2]
theorem like_toksX : ∀ (n : Nat) (x y : XE), likeX n x y = true → toksX n x = toksX n y
  | 0, _, _, h => by cases h
  | n + 1, x, y, h => by
    rw [likeX] at h
    simp only [Bool.and_eq_true, beq_iff_eq] at h
    obtain ⟨h0, h1, h2, h3⟩ := h
    have e2 := bytes_eq h2
    have hp : ∀ i, toksX n (part x i) = toksX n (part y i) := fun i => eqL_getD (fun p q => like_toksX n p q) _ x.f3 y.f3 i h3
    rw [toksX, toksX, h0, h1, e2, hp 0, hp 1]
theorem like_exT {l m : List XE} (h : eqL (likeX 16) l m = true) : exT l = exT m := eqL_btw (fun p q => like_toksX 16 p q) l m false h
theorem like_toksS : ∀ (n : Nat) (x y : XS), likeS n x y = true → toksS n x = toksS n y
  | 0, _, _, h => by cases h
  | n + 1, x, y, h => by
    rw [likeS] at h
    simp only [Bool.and_eq_true, beq_iff_eq] at h
    obtain ⟨h0, h1, h2, h3, h4⟩ := h
    rw [toksS, toksS, h0, bytes_eq h1, like_exT h2, eqL_btw (fun p q => like_toksS n p q) x.f3 y.f3 false h3, eqL_btw (fun p q hpq => like_exT hpq) x.f4 y.f4 false h4]
theorem like_toksI {x y : XI} (h : likeI x y = true) : toksI x = toksI y := by
  unfold likeI at h
  simp only [Bool.and_eq_true, beq_iff_eq] at h
  obtain ⟨h0, h1, h2, h3, h4, h5⟩ := h
  unfold toksI headT placeT
  rw [h0, bytes_eq h1, like_toksX 16 _ _ h2, like_toksS 16 _ _ h3, h4, like_exT h5]
theorem like_acc : ∀ (l m : List XI) (acc : ByteArray), eqL likeI l m = true → accB l acc = accB m acc
  | [], [], _, _ => rfl
  | [], _ :: _, _, h => by cases h
  | _ :: _, [], _, h => by cases h
  | x :: r, y :: q, acc, h => by
    rw [eqL, Bool.and_eq_true] at h
    show accB r (acc ++ lineB x) = accB q (acc ++ lineB y)
    rw [show lineB x = lineB y by unfold lineB; rw [like_toksI h.1], like_acc r q _ h.2]
end Go.Proofs.YtibaidddhmdafaaDoor.E
end
section
namespace Go.Proofs.YtibaidddhmdafaaDoor.E
open Go Go.RowKit Go.Proofs.YtibaidddhmdafaaDoorW.PrintWords Go.Proofs.YtibaidddhmdafaaDoorW.PrintLast Go.Proofs.YtibaidddhmdafaaDoorW.PrintMore Go.Proofs.YtibaidddhmdafaaDoor.PA
set_option linter.unusedVariables false
set_option linter.unusedSimpArgs false
def dval (l : List UInt8) : Nat := l.foldl (fun a c => a * 10 + (c.toNat - 48)) 0
theorem dval_dec : ∀ u : Nat, dval (Lib.decDigits u) = u := fun u => by
  induction u using Nat.strongRecOn with
  | _ u ih =>
    by_cases h : u < 10
    · rw [dec_small h]
      show 0 * 10 + ((UInt8.ofNat (48 + u)).toNat - 48) = u
      rw [dig_nat h]; omega
    · rw [dec_big h]
      unfold dval
      rw [List.foldl_append]
      show (dval (Lib.decDigits (u / 10))) * 10 + ((UInt8.ofNat (48 + u % 10)).toNat - 48) = u
      rw [ih (u / 10) (by omega), dig_nat (by omega)]; omega
theorem itoa_inj {m n : Int} (hm : 0 ≤ m) (hn : 0 ≤ n) (h : (⟨(Lib.itoa m).toArray⟩ : ByteArray) = ⟨(Lib.itoa n).toArray⟩) : m = n := by
  have h1 : bl ⟨(Lib.itoa m).toArray⟩ = bl ⟨(Lib.itoa n).toArray⟩ := by rw [h]
  have h2 : Lib.itoa m = Lib.itoa n := h1
  rw [itoa_nat hm, itoa_nat hn] at h2
  have h3 := congrArg dval h2
  rw [dval_dec, dval_dec] at h3
  omega
/-- The first byte. -/
def fb (s : ByteArray) : Nat := ((bl s).headD 0).toNat
theorem fb_name {s : ByteArray} (h : nameOk s = true) : 97 ≤ fb s ∧ fb s ≤ 122 := by
  unfold nameOk at h
  rw [Bool.and_eq_true] at h
  have h1 := h.1
  unfold nameText at h1
  simp only [Bool.and_eq_true, decide_eq_true_eq] at h1
  obtain ⟨h2, h3, _⟩ := h1
  obtain ⟨m, hm⟩ : ∃ m, s.size = m + 1 := ⟨s.size - 1, by omega⟩
  rw [hm, nameFrom, Bool.and_eq_true, Bool.or_eq_true] at h2
  have h4 : isLetter (bt s 0) = true := by
    rcases h2.1 with h5 | h5
    · exact h5
    · rw [Bool.and_eq_true] at h5; exact absurd h5.2 (by simp)
  unfold isLetter at h4
  have h5 := of_decide_eq_true h4
  have h6 := bt_get s (j := 0) (by omega)
  have h7 : fb s = (s.data.toList[0]'(show 0 < s.size by omega)).toNat := by
    unfold fb bl
    rw [List.headD_eq_head?_getD, List.head?_eq_getElem?, List.getElem?_eq_getElem (show 0 < s.data.toList.length from (show 0 < s.size by omega))]; rfl
  rw [show bt s ((0 : Nat) : Int) = bt s 0 from rfl] at h6
  omega
theorem fb_num {n : Int} (h : 0 ≤ n) : 48 ≤ fb ⟨(Lib.itoa n).toArray⟩ ∧ fb ⟨(Lib.itoa n).toArray⟩ ≤ 57 := by
  have e : bl ⟨(Lib.itoa n).toArray⟩ = Lib.decDigits n.toNat := by
    show (Lib.itoa n).toArray.toList = _
    rw [List.toList_toArray, itoa_nat h]
  unfold fb
  rw [e]
  cases hd : Lib.decDigits n.toNat with
  | nil => exact absurd hd (dec_ne _)
  | cons c r =>
    have := dec_digits n.toNat c (by rw [hd]; exact .head _)
    exact this
theorem not_word {s : ByteArray} (h : nameOk s = true) : ∀ w ∈ wordList, s ≠ w := fun w hw e => by
  subst e
  have : nameOk s = false := (show ∀ y ∈ wordList, nameOk y = false by decide +kernel) s hw
  rw [h] at this; cases this
theorem btw_dec {α : Type} {f : α → List XT} {lk : α → α → Bool} {P : α → Prop} {s c d : ByteArray} (hd : ∀ p q r1 r2, P p → P q → (f p).map formT ++ r1 = (f q).map formT ++ r2 → lk p q = true ∧ r1 = r2) (hc : c ≠ s) (hd' : d ≠ s) : ∀ (l m : List α) (r1 r2 : List ByteArray), (∀ p ∈ l, P p) → (∀ p ∈ m, P p) → (btw s f true l).map formT ++ c :: r1 = (btw s f true m).map formT ++ d :: r2 → eqL lk l m = true ∧ c :: r1 = d :: r2
  | [], [], _, _, _, _, h => ⟨rfl, h⟩
  | [], q :: t, r1, r2, _, _, h => by
    rw [btw, btw, if_pos rfl] at h
    simp only [List.map_nil, List.map_append, List.map_cons, form_say, List.nil_append, List.cons_append, List.append_assoc] at h
    injection h with h1 _
    exact absurd h1 hc
  | p :: r, [], r1, r2, _, _, h => by
    rw [btw, btw, if_pos rfl] at h
    simp only [List.map_nil, List.map_append, List.map_cons, form_say, List.nil_append, List.cons_append, List.append_assoc] at h
    injection h with h1 _
    exact absurd h1.symm hd'
  | p :: r, q :: t, r1, r2, hl, hm, h => by
    rw [btw, btw, if_pos rfl] at h
    simp only [List.map_nil, List.map_append, List.map_cons, form_say, List.nil_append, List.cons_append, List.append_assoc] at h
    injection h with _ h
    obtain ⟨e1, e2⟩ := hd p q _ _ (hl p (.head _)) (hm q (.head _)) h
    obtain ⟨e3, e4⟩ := btw_dec hd hc hd' r t r1 r2 (fun v hv => hl v (.tail _ hv)) (fun v hv => hm v (.tail _ hv)) e2
    exact ⟨by rw [eqL, e1, e3]; rfl, e4⟩
theorem btw_dec0 {α : Type} {f : α → List XT} {lk : α → α → Bool} {P : α → Prop} {s c d : ByteArray} (hd : ∀ p q r1 r2, P p → P q → (f p).map formT ++ r1 = (f q).map formT ++ r2 → lk p q = true ∧ r1 = r2) (hc : c ≠ s) (hd' : d ≠ s) (l m : List α) (r1 r2 : List ByteArray) (h0 : 0 < l.length) (h1 : 0 < m.length) (hl : ∀ p ∈ l, P p) (hm : ∀ p ∈ m, P p) (h : (btw s f false l).map formT ++ c :: r1 = (btw s f false m).map formT ++ d :: r2) : eqL lk l m = true ∧ c :: r1 = d :: r2 := by
  cases l with
  | nil => exact absurd h0 (by simp)
  | cons p r =>
    cases m with
    | nil => exact absurd h1 (by simp)
    | cons q t =>
      rw [btw, btw, if_neg Bool.false_ne_true] at h
      simp only [List.map_append, List.nil_append, List.append_assoc] at h
      obtain ⟨e1, e2⟩ := hd p q _ _ (hl p (.head _)) (hm q (.head _)) h
      obtain ⟨e3, e4⟩ := btw_dec hd hc hd' r t r1 r2 (fun v hv => hl v (.tail _ hv)) (fun v hv => hm v (.tail _ hv)) e2
      exact ⟨by rw [eqL, e1, e3]; rfl, e4⟩
theorem parts_full {x : XE} {p : Nat} (h : exprParts x = some p) : (x.f0 = 1 ∧ p = 0 ∧ 0 ≤ x.f1 ∧ x.f2.size = 0) ∨ (x.f0 = 2 ∧ p = 0 ∧ x.f1 = 0 ∧ nameOk x.f2 = true) ∨ (x.f0 = 3 ∧ p = 1 ∧ x.f1 = 0 ∧ x.f2.size = 0) ∨ (4 ≤ x.f0 ∧ x.f0 ≤ 8 ∧ p = 2 ∧ x.f1 = 0 ∧ x.f2.size = 0) := by
  unfold exprParts at h
  split at h
  · split at h
    · rename_i h1 h2; cases h; exact .inl ⟨h1, rfl, h2.1, h2.2.2⟩
    · cases h
  · split at h
    · split at h
      · rename_i h1 h2; cases h; exact .inr (.inl ⟨h1, rfl, h2.1, h2.2⟩)
      · cases h
    · split at h
      · split at h
        · rename_i h1 h2; cases h; exact .inr (.inr (.inl ⟨h1, rfl, h2.1, h2.2⟩))
        · cases h
      · split at h
        · split at h
          · rename_i h1 h2; cases h; exact .inr (.inr (.inr ⟨h1.1, h1.2, rfl, h2.1, h2.2⟩))
          · cases h
        · cases h
theorem size0 {a b : ByteArray} (ha : a.size = 0) (hb : b.size = 0) : (a.toList == b.toList) = true := by
  rw [(empty_list a).2 ha, (empty_list b).2 hb]; rfl
theorem opS_inj {j k : Int} (hj : 4 ≤ j ∧ j ≤ 8) (hk : 4 ≤ k ∧ k ≤ 8) (h : opS j = opS k) : j = k := by
  rcases (show j = 4 ∨ j = 5 ∨ j = 6 ∨ j = 7 ∨ j = 8 by omega) with rfl | rfl | rfl | rfl | rfl <;> rcases (show k = 4 ∨ k = 5 ∨ k = 6 ∨ k = 7 ∨ k = 8 by omega) with rfl | rfl | rfl | rfl | rfl <;> first | rfl | exact absurd h (by decide)
/-- An expression's forms by its kind. -/
def hdX (x : XE) : ByteArray := if x.f0 = 1 then ⟨(Lib.itoa x.f1).toArray⟩ else if x.f0 = 2 then x.f2 else if x.f0 = 3 then ⟨#[45]⟩ else ⟨#[40]⟩
theorem forms_X {n : Nat} {x : XE} (r : List ByteArray) : (toksX (n + 1) x).map formT ++ r = hdX x :: (if x.f0 = 1 ∨ x.f0 = 2 then r else if x.f0 = 3 then (toksX n (part x 0)).map formT ++ r else (toksX n (part x 0)).map formT ++ opS x.f0 :: ((toksX n (part x 1)).map formT ++ ⟨#[41]⟩ :: r)) := by
  unfold hdX
  rw [toksX]
  by_cases h1 : x.f0 = 1
  · rw [if_pos h1, if_pos h1, if_pos (.inl h1)]; rfl
  · rw [if_neg h1, if_neg h1]
    by_cases h2 : x.f0 = 2
    · rw [if_pos h2, if_pos h2, if_pos (.inr h2)]; simp only [List.map_cons, List.map_nil, form_say, List.cons_append, List.nil_append]
    · rw [if_neg h2, if_neg h2, if_neg (show ¬ (x.f0 = 1 ∨ x.f0 = 2) by omega)]
      by_cases h3 : x.f0 = 3
      · rw [if_pos h3, if_pos h3, if_pos h3]; simp only [List.map_cons, form_say, List.cons_append]
      · rw [if_neg h3, if_neg h3, if_neg h3]; simp only [List.map_cons, List.map_append, List.map_nil, form_say, List.cons_append, List.append_assoc, List.nil_append]
theorem decX : ∀ (n : Nat) (x y : XE) (r1 r2 : List ByteArray), shapeX n x → shapeX n y → (toksX n x).map formT ++ r1 = (toksX n y).map formT ++ r2 → likeX n x y = true ∧ r1 = r2
  | 0, _, _, _, _, h, _, _ => h.elim
  | n + 1, x, y, r1, r2, hx, hy, h => by
    obtain ⟨px, qx⟩ := hx
    obtain ⟨py, qy⟩ := hy
    have kx := parts_full px
    have ky := parts_full py
    rw [forms_X, forms_X] at h
    injection h with h1 h2
    have bx : (x.f0 = 1 ∧ 48 ≤ fb (hdX x) ∧ fb (hdX x) ≤ 57) ∨ (x.f0 = 2 ∧ 97 ≤ fb (hdX x) ∧ fb (hdX x) ≤ 122) ∨ (x.f0 = 3 ∧ fb (hdX x) = 45) ∨ (4 ≤ x.f0 ∧ x.f0 ≤ 8 ∧ fb (hdX x) = 40) := by
      unfold hdX
      rcases kx with k | k | k | k
      · rw [if_pos k.1]; exact .inl ⟨k.1, fb_num k.2.2.1⟩
      · rw [if_neg (by omega), if_pos k.1]; exact .inr (.inl ⟨k.1, fb_name k.2.2.2⟩)
      · rw [if_neg (by omega), if_neg (by omega), if_pos k.1]; exact .inr (.inr (.inl ⟨k.1, rfl⟩))
      · rw [if_neg (by omega), if_neg (by omega), if_neg (by omega)]; exact .inr (.inr (.inr ⟨k.1, k.2.1, rfl⟩))
    have by_ : (y.f0 = 1 ∧ 48 ≤ fb (hdX y) ∧ fb (hdX y) ≤ 57) ∨ (y.f0 = 2 ∧ 97 ≤ fb (hdX y) ∧ fb (hdX y) ≤ 122) ∨ (y.f0 = 3 ∧ fb (hdX y) = 45) ∨ (4 ≤ y.f0 ∧ y.f0 ≤ 8 ∧ fb (hdX y) = 40) := by
      unfold hdX
      rcases ky with k | k | k | k
      · rw [if_pos k.1]; exact .inl ⟨k.1, fb_num k.2.2.1⟩
      · rw [if_neg (by omega), if_pos k.1]; exact .inr (.inl ⟨k.1, fb_name k.2.2.2⟩)
      · rw [if_neg (by omega), if_neg (by omega), if_pos k.1]; exact .inr (.inr (.inl ⟨k.1, rfl⟩))
      · rw [if_neg (by omega), if_neg (by omega), if_neg (by omega)]; exact .inr (.inr (.inr ⟨k.1, k.2.1, rfl⟩))
    rw [← h1] at by_
    rw [likeX]
    rcases kx with k | k | k | k
    · have e0 : y.f0 = 1 := by omega
      have k2 : 0 ≤ y.f1 ∧ y.f2.size = 0 ∧ y.f3.length = 0 := by omega
      rw [if_pos (.inl k.1), if_pos (.inl e0)] at h2
      unfold hdX at h1
      rw [if_pos k.1, if_pos e0] at h1
      refine ⟨?_, h2⟩
      rw [k.1, e0, itoa_inj k.2.2.1 k2.1 h1, size0 k.2.2.2 k2.2.1, List.eq_nil_of_length_eq_zero k.2.1, List.eq_nil_of_length_eq_zero k2.2.2, beq_self_eq_true, beq_self_eq_true]; rfl
    · have e0 : y.f0 = 2 := by omega
      have k2 : y.f1 = 0 ∧ y.f3.length = 0 := by omega
      rw [if_pos (.inr k.1), if_pos (.inr e0)] at h2
      unfold hdX at h1
      rw [if_neg (by omega), if_pos k.1, if_neg (by omega), if_pos e0] at h1
      refine ⟨?_, h2⟩
      rw [k.1, e0, k.2.2.1, k2.1, h1, List.eq_nil_of_length_eq_zero k.2.1, List.eq_nil_of_length_eq_zero k2.2, beq_self_eq_true, beq_self_eq_true, beq_self_eq_true]; rfl
    · have e0 : y.f0 = 3 := by omega
      have k2 : y.f1 = 0 ∧ y.f2.size = 0 ∧ y.f3.length = 1 := by omega
      rw [if_neg (by omega), if_pos k.1, if_neg (by omega), if_pos e0] at h2
      obtain ⟨e1, e2⟩ := decX n _ _ _ _ (qx _ (part_mem (by omega)).2) (qy _ (part_mem (by omega)).2) h2
      refine ⟨?_, e2⟩
      have ex : x.f3 = [part x 0] := by
        match hx : x.f3, k.2.1 with
        | [a], _ => rw [show part x 0 = a by unfold part; rw [hx]; rfl]
      have ey : y.f3 = [part y 0] := by
        match hx : y.f3, k2.2.2 with
        | [a], _ => rw [show part y 0 = a by unfold part; rw [hx]; rfl]
      rw [k.1, e0, k.2.2.1, k2.1, size0 k.2.2.2 k2.2.1, ex, ey, beq_self_eq_true, beq_self_eq_true, eqL, e1]; rfl
    · have e0 : 4 ≤ y.f0 ∧ y.f0 ≤ 8 := by omega
      have k2 : y.f1 = 0 ∧ y.f2.size = 0 ∧ y.f3.length = 2 := by omega
      rw [if_neg (by omega), if_neg (by omega), if_neg (by omega), if_neg (by omega)] at h2
      obtain ⟨e1, e2⟩ := decX n _ _ _ _ (qx _ (part_mem (by omega)).2) (qy _ (part_mem (by omega)).2) h2
      injection e2 with e3 e4
      obtain ⟨e5, e6⟩ := decX n _ _ _ _ (qx _ (part_mem (by omega)).2) (qy _ (part_mem (by omega)).2) e4
      injection e6 with _ e6
      refine ⟨?_, e6⟩
      have ex : x.f3 = [part x 0, part x 1] := by
        match hx : x.f3, k.2.2.1 with
        | [a, b], _ => rw [show part x 0 = a by unfold part; rw [hx]; rfl, show part x 1 = b by unfold part; rw [hx]; rfl]
      have ey : y.f3 = [part y 0, part y 1] := by
        match hx : y.f3, k2.2.2 with
        | [a, b], _ => rw [show part y 0 = a by unfold part; rw [hx]; rfl, show part y 1 = b by unfold part; rw [hx]; rfl]
      rw [opS_inj ⟨k.1, k.2.1⟩ e0 e3, k.2.2.2.1, k2.1, size0 k.2.2.2.2 k2.2.1, ex, ey, beq_self_eq_true, beq_self_eq_true, eqL, eqL, e1, e5]; rfl
theorem dec_exT {l m : List XE} {c d : ByteArray} {r1 r2 : List ByteArray} (hc : c ≠ ⟨#[44]⟩) (hd : d ≠ ⟨#[44]⟩) (h0 : 0 < l.length) (h1 : 0 < m.length) (hl : ∀ p ∈ l, shapeX 16 p) (hm : ∀ p ∈ m, shapeX 16 p) (h : (exT l).map formT ++ c :: r1 = (exT m).map formT ++ d :: r2) : eqL (likeX 16) l m = true ∧ c :: r1 = d :: r2 :=
  btw_dec0 (P := shapeX 16) (fun p q r1 r2 hp hq h => decX 16 p q r1 r2 hp hq h) hc hd l m r1 r2 h0 h1 hl hm h
end Go.Proofs.YtibaidddhmdafaaDoor.E
end
section
namespace Go.Proofs.YtibaidddhmdafaaDoor.E
open Go Go.RowKit Go.Proofs.YtibaidddhmdafaaDoorW.PrintWords Go.Proofs.YtibaidddhmdafaaDoorW.PrintLast Go.Proofs.YtibaidddhmdafaaDoorW.PrintMore Go.Proofs.YtibaidddhmdafaaDoor.PA
set_option linter.unusedVariables false
set_option linter.unusedSimpArgs false
theorem btw_decG {α : Type} {f : α → List XT} {lk : α → α → Bool} {P : α → Prop} {ok : List ByteArray → Prop} {s c d : ByteArray} (hd : ∀ p q r1 r2, P p → P q → ok r1 → ok r2 → (f p).map formT ++ r1 = (f q).map formT ++ r2 → lk p q = true ∧ r1 = r2) (hs : ∀ r, ok (s :: r)) (hc : c ≠ s) (hd' : d ≠ s) : ∀ (l m : List α) (r1 r2 : List ByteArray), ok (c :: r1) → ok (d :: r2) → (∀ p ∈ l, P p) → (∀ p ∈ m, P p) → (btw s f true l).map formT ++ c :: r1 = (btw s f true m).map formT ++ d :: r2 → eqL lk l m = true ∧ c :: r1 = d :: r2
  | [], [], _, _, _, _, _, _, h => ⟨rfl, h⟩
  | [], q :: t, r1, r2, _, _, _, _, h => by
    rw [btw, btw, if_pos rfl] at h
    simp only [List.map_nil, List.map_append, List.map_cons, form_say, List.nil_append, List.cons_append, List.append_assoc] at h
    injection h with h1 _
    exact absurd h1 hc
  | p :: r, [], r1, r2, _, _, _, _, h => by
    rw [btw, btw, if_pos rfl] at h
    simp only [List.map_nil, List.map_append, List.map_cons, form_say, List.nil_append, List.cons_append, List.append_assoc] at h
    injection h with h1 _
    exact absurd h1.symm hd'
  | p :: r, q :: t, r1, r2, k1, k2, hl, hm, h => by
    rw [btw, btw, if_pos rfl] at h
    simp only [List.map_nil, List.map_append, List.map_cons, form_say, List.nil_append, List.cons_append, List.append_assoc] at h
    injection h with _ h
    have okb : ∀ (l : List α) (c : ByteArray) (r1 : List ByteArray), ok (c :: r1) → ok ((btw s f true l).map formT ++ c :: r1) := fun l c r1 hk => by
      cases l with
      | nil => exact hk
      | cons a b =>
        rw [btw, if_pos rfl]
        simp only [List.map_nil, List.map_append, List.map_cons, form_say, List.nil_append, List.cons_append, List.append_assoc]
        exact hs _
    obtain ⟨e1, e2⟩ := hd p q _ _ (hl p (.head _)) (hm q (.head _)) (okb _ _ _ k1) (okb _ _ _ k2) h
    obtain ⟨e3, e4⟩ := btw_decG hd hs hc hd' r t r1 r2 k1 k2 (fun v hv => hl v (.tail _ hv)) (fun v hv => hm v (.tail _ hv)) e2
    exact ⟨by rw [eqL, e1, e3]; rfl, e4⟩
def notComma (r : List ByteArray) : Prop := ∃ h t, r = h :: t ∧ h ≠ ⟨#[44]⟩
theorem rows_dec {l m : List (List XE)} {r1 r2 : List ByteArray} (h0 : 0 < l.length) (h1 : 0 < m.length) (hl : ∀ p ∈ l, 0 < p.length ∧ ∀ q ∈ p, shapeX 16 q) (hm : ∀ p ∈ m, 0 < p.length ∧ ∀ q ∈ p, shapeX 16 q) (h : (btw ⟨#[59]⟩ exT false l).map formT ++ ⟨#[93]⟩ :: r1 = (btw ⟨#[59]⟩ exT false m).map formT ++ ⟨#[93]⟩ :: r2) : eqL (eqL (likeX 16)) l m = true ∧ r1 = r2 := by
  have hd : ∀ (p q : List XE) (r1 r2 : List ByteArray), (0 < p.length ∧ ∀ x ∈ p, shapeX 16 x) → (0 < q.length ∧ ∀ x ∈ q, shapeX 16 x) → notComma r1 → notComma r2 → (exT p).map formT ++ r1 = (exT q).map formT ++ r2 → eqL (likeX 16) p q = true ∧ r1 = r2 := by
    rintro p q _ _ hp hq ⟨c, t, rfl, hc⟩ ⟨d, u, rfl, hd⟩ h
    exact dec_exT hc hd hp.1 hq.1 hp.2 hq.2 h
  cases l with
  | nil => exact absurd h0 (by simp)
  | cons p r =>
    cases m with
    | nil => exact absurd h1 (by simp)
    | cons q t =>
      rw [btw, btw, if_neg Bool.false_ne_true] at h
      simp only [List.map_append, List.nil_append, List.append_assoc] at h
      have hs : ∀ r, notComma ((⟨#[59]⟩ : ByteArray) :: r) := fun r => ⟨_, _, rfl, by decide⟩
      have hk : ∀ r, notComma ((⟨#[93]⟩ : ByteArray) :: r) := fun r => ⟨_, _, rfl, by decide⟩
      have okb : ∀ (l : List (List XE)) (r1 : List ByteArray), notComma ((btw ⟨#[59]⟩ exT true l).map formT ++ ⟨#[93]⟩ :: r1) := fun l r1 => by
        cases l with
        | nil => exact hk _
        | cons a b =>
          rw [btw, if_pos rfl]
          simp only [List.map_nil, List.map_append, List.map_cons, form_say, List.nil_append, List.cons_append, List.append_assoc]
          exact hs _
      obtain ⟨e1, e2⟩ := hd p q _ _ (hl p (.head _)) (hm q (.head _)) (okb _ _) (okb _ _) h
      obtain ⟨e3, e4⟩ := btw_decG (ok := notComma) hd hs (by decide) (by decide) r t r1 r2 (hk _) (hk _) (fun v hv => hl v (.tail _ hv)) (fun v hv => hm v (.tail _ hv)) e2
      injection e4 with _ e4
      exact ⟨by rw [eqL, e1, e3]; rfl, e4⟩
def memS : Nat → XS → Prop
  | 0, _ => False
  | n + 1, s => (s.f0 = 1 → s.f2.length = 0 ∧ s.f3.length = 0) ∧ (s.f0 ≠ 1 → s.f1.size = 0) ∧ (s.f0 ≠ 8 → s.f4.length = 0) ∧ (s.f0 = 8 → s.f2.length = 0 ∧ s.f3.length = 0) ∧ ∀ p ∈ s.f3, memS n p
theorem shape_mem : ∀ (n : Nat) (s : XS) (l : Int), (xshape n s l).1 = true → memS n s
  | 0, _, _, h => by cases h
  | n + 1, s, l, h => by
    rw [xshape] at h
    split at h
    · cases h
    · split at h
      · rename_i hH
        split at h
        · split at h
          · obtain ⟨nm, a, p, r, e1, e2, e3, e4, e5, e6⟩ := hH
            have hk := parts_cases e1
            refine ⟨fun h1 => by omega, fun h1 => e3 ?_, fun h1 => e6 ?_, fun h8 => by omega, fun p hp => by obtain ⟨l', h3⟩ := xlist_all _ _ h p hp; exact shape_mem n p l' h3⟩
            · rcases hk with hk | hk | hk | hk | hk <;> first | exact hk.1 | exact absurd hk.2.2.2.2 h1
            · rcases hk with hk | hk | hk | hk | hk <;> first | exact hk.2.2.2.1 | exact absurd hk.2.2.2.2 h1
          · rename_i h2; exact absurd h h2
        · rename_i h1; exact absurd h h1
      · cases h
def wellS (n : Nat) (s : XS) : Prop := goodS n s ∧ lenS n s ∧ memS n s
theorem word_in {k : Int} (h : 2 ≤ k ∧ k ≤ 8) : wordS k ∈ wordList := by
  rcases (show k = 2 ∨ k = 3 ∨ k = 4 ∨ k = 5 ∨ k = 6 ∨ k = 7 ∨ k = 8 by omega) with rfl | rfl | rfl | rfl | rfl | rfl | rfl <;> simp [wordS, wordList]
theorem wordS_inj {j k : Int} (hj : 2 ≤ j ∧ j ≤ 8) (hk : 2 ≤ k ∧ k ≤ 8) (h : wordS j = wordS k) : j = k := by
  rcases (show j = 2 ∨ j = 3 ∨ j = 4 ∨ j = 5 ∨ j = 6 ∨ j = 7 ∨ j = 8 by omega) with rfl | rfl | rfl | rfl | rfl | rfl | rfl <;> rcases (show k = 2 ∨ k = 3 ∨ k = 4 ∨ k = 5 ∨ k = 6 ∨ k = 7 ∨ k = 8 by omega) with rfl | rfl | rfl | rfl | rfl | rfl | rfl <;> first | rfl | exact absurd h (by decide)
theorem forms_S {n : Nat} {s : XS} (r : List ByteArray) : (toksS (n + 1) s).map formT ++ r = (if s.f0 = 1 then s.f1 else wordS s.f0) :: (if s.f0 = 1 then r else if s.f0 = 8 then ⟨#[91]⟩ :: ((btw ⟨#[59]⟩ exT false s.f4).map formT ++ ⟨#[93]⟩ :: r) else ⟨#[40]⟩ :: ((exT s.f2).map formT ++ ((btw ⟨#[44]⟩ (toksS n) false s.f3).map formT ++ ⟨#[41]⟩ :: r))) := by
  rw [toksS]
  by_cases h1 : s.f0 = 1
  · rw [if_pos h1, if_pos h1, if_pos h1]; simp only [List.map_cons, List.map_nil, form_say, List.cons_append, List.nil_append]
  · rw [if_neg h1, if_neg h1, if_neg h1]
    by_cases h8 : s.f0 = 8
    · rw [if_pos h8, if_pos h8, h8]; simp only [List.map_cons, List.map_append, List.map_nil, form_say, List.cons_append, List.append_assoc, List.nil_append]
    · rw [if_neg h8, if_neg h8]; simp only [List.map_cons, List.map_append, List.map_nil, form_say, List.cons_append, List.append_assoc, List.nil_append]
theorem decS : ∀ (n : Nat) (s u : XS) (r1 r2 : List ByteArray), wellS n s → wellS n u → (toksS n s).map formT ++ r1 = (toksS n u).map formT ++ r2 → likeS n s u = true ∧ r1 = r2
  | 0, _, _, _, _, h, _, _ => h.1.elim
  | n + 1, s, u, r1, r2, hs, hu, h => by
    obtain ⟨⟨a1, a2, a3, a4, a5, a6, _⟩, ⟨b1, b2, b3, b4⟩, ⟨c1, c2, c3, c4, c5⟩⟩ := hs
    obtain ⟨⟨d1, d2, d3, d4, d5, d6, _⟩, ⟨e1, e2, e3, e4⟩, ⟨f1, f2, f3, f4, f5⟩⟩ := hu
    rw [forms_S, forms_S] at h
    injection h with h1 h2
    have hk : s.f0 = u.f0 := by
      by_cases k1 : s.f0 = 1
      · by_cases k2 : u.f0 = 1
        · omega
        · rw [if_pos k1, if_neg k2] at h1
          exact absurd h1 (not_word (a3 k1) _ (word_in (by omega)))
      · by_cases k2 : u.f0 = 1
        · rw [if_neg k1, if_pos k2] at h1
          exact absurd h1.symm (not_word (d3 k2) _ (word_in (by omega)))
        · rw [if_neg k1, if_neg k2] at h1
          exact wordS_inj (by omega) (by omega) h1
    rw [likeS]
    by_cases k1 : s.f0 = 1
    · have k2 : u.f0 = 1 := by omega
      rw [if_pos k1, if_pos k2] at h1 h2
      obtain ⟨g1, g2⟩ := c1 k1
      obtain ⟨g3, g4⟩ := f1 k2
      refine ⟨?_, h2⟩
      rw [k1, k2, h1, List.eq_nil_of_length_eq_zero g1, List.eq_nil_of_length_eq_zero g2, List.eq_nil_of_length_eq_zero g3, List.eq_nil_of_length_eq_zero g4, List.eq_nil_of_length_eq_zero (c3 (by omega)), List.eq_nil_of_length_eq_zero (f3 (by omega)), beq_self_eq_true, beq_self_eq_true]; rfl
    · have k2 : u.f0 ≠ 1 := by omega
      rw [if_neg k1, if_neg k2] at h2
      have z1 := size0 (c2 k1) (f2 k2)
      by_cases k8 : s.f0 = 8
      · have k9 : u.f0 = 8 := by omega
        rw [if_pos k8, if_pos k9] at h2
        injection h2 with _ h2
        obtain ⟨g1, g2⟩ := c4 k8
        obtain ⟨g3, g4⟩ := f4 k9
        obtain ⟨i1, i2⟩ := rows_dec (b3 k8).1 (e3 k9).1 (fun p hp => ⟨(b3 k8).2 p hp, a6 p hp⟩) (fun p hp => ⟨(e3 k9).2 p hp, d6 p hp⟩) h2
        refine ⟨?_, i2⟩
        rw [k8, k9, z1, List.eq_nil_of_length_eq_zero g1, List.eq_nil_of_length_eq_zero g2, List.eq_nil_of_length_eq_zero g3, List.eq_nil_of_length_eq_zero g4, i1, beq_self_eq_true]; rfl
      · rw [if_neg k8, if_neg (by omega)] at h2
        injection h2 with _ h2
        have n4 := List.eq_nil_of_length_eq_zero (c3 k8)
        have m4 := List.eq_nil_of_length_eq_zero (f3 (by omega))
        by_cases k5 : s.f0 ≤ 5
        · obtain ⟨g1, g2⟩ := b1 (by omega)
          obtain ⟨g3, g4⟩ := e1 (by omega)
          have n3 := List.eq_nil_of_length_eq_zero g2
          have m3 := List.eq_nil_of_length_eq_zero g4
          rw [n3, m3] at h2
          obtain ⟨i1, i2⟩ := dec_exT (c := ⟨#[41]⟩) (d := ⟨#[41]⟩) (by decide) (by decide) g1 g3 a4 d4 h2
          injection i2 with _ i2
          refine ⟨?_, i2⟩
          rw [hk, z1, n3, m3, n4, m4, i1, beq_self_eq_true]; rfl
        · obtain ⟨g1, g2⟩ := b2 (by omega)
          obtain ⟨g3, g4⟩ := e2 (by omega)
          have n2 := List.eq_nil_of_length_eq_zero g1
          have m2 := List.eq_nil_of_length_eq_zero g3
          rw [n2, m2] at h2
          obtain ⟨i1, i2⟩ := btw_dec0 (P := wellS n) (s := ⟨#[44]⟩) (c := ⟨#[41]⟩) (d := ⟨#[41]⟩) (fun p q r1 r2 hp hq h => decS n p q r1 r2 hp hq h) (by decide) (by decide) s.f3 u.f3 r1 r2 (by omega) (by omega) (fun p hp => ⟨a5 p hp, b4 p hp, c5 p hp⟩) (fun p hp => ⟨d5 p hp, e4 p hp, f5 p hp⟩) h2
          injection i2 with _ i2
          refine ⟨?_, i2⟩
          rw [hk, z1, n2, m2, n4, m4, i1, beq_self_eq_true]; rfl
def memI (x : XI) : Prop := (¬ (x.f0 = 1 ∨ x.f0 = 2 ∨ x.f0 = 3) → x.f1.size = 0) ∧ (¬ hasV x → noExprB x.f2 = true) ∧ (x.f0 ≠ 2 → noShapeB x.f3 = true) ∧ (x.f0 ≠ 5 → x.f4 = 0) ∧ (¬ (x.f0 = 5 ∧ x.f4 = 4) → x.f5.length = 0) ∧ (x.f0 = 2 → memS 16 x.f3)
theorem item_mem {x : XI} {l : Int} (h : (itemF x l).1 = true) : memI x := by
  unfold itemF at h
  split at h
  · cases h
  · split at h
    · rename_i hH
      split at h
      · split at h
        · rename_i h2
          obtain ⟨nm, v, sh, li, e1, e2, e3, e4, e5, e6, e7, e8⟩ := hH
          have hc := items_cases e1
          refine ⟨fun h1 => e3 ?_, fun h1 => e7 ?_, fun h1 => e8 ?_, e4, fun h1 => e6 ?_, fun hs => ?_⟩
          · rcases hc with hk | hk | hk | hk | hk | hk <;> first | exact hk.1 | (exfalso; omega)
          · unfold hasV at h1
            rcases hc with hk | hk | hk | hk | hk | hk <;> first | exact hk.2.1 | (exfalso; omega)
          · rcases hc with hk | hk | hk | hk | hk | hk <;> first | exact hk.2.2.1 | (exfalso; omega)
          · rcases hc with hk | hk | hk | hk | hk | hk <;> first | exact hk.2.2.2.1 | (exfalso; omega)
          · unfold shI at h2; rw [if_pos hs] at h2; exact shape_mem _ _ _ h2
        · rename_i h2; exact absurd h h2
      · rename_i h1; exact absurd h h1
    · cases h
theorem zeroX_like {x y : XE} (hx : noExprB x = true) (hy : noExprB y = true) : likeX 16 x y = true := by
  have h0 := of_decide_eq_true hx
  have h1 := of_decide_eq_true hy
  rw [likeX, h0.1, h0.2.1, h1.1, h1.2.1, size0 h0.2.2.1 h1.2.2.1, List.eq_nil_of_length_eq_zero h0.2.2.2.1, List.eq_nil_of_length_eq_zero h1.2.2.2.1]; rfl
theorem zeroS_like {x y : XS} (hx : noShapeB x = true) (hy : noShapeB y = true) : likeS 16 x y = true := by
  have h0 := of_decide_eq_true hx
  have h1 := of_decide_eq_true hy
  rw [likeS, h0.1, h1.1, size0 h0.2.1 h1.2.1, List.eq_nil_of_length_eq_zero h0.2.2.1, List.eq_nil_of_length_eq_zero h1.2.2.1, List.eq_nil_of_length_eq_zero h0.2.2.2.1, List.eq_nil_of_length_eq_zero h1.2.2.2.1, List.eq_nil_of_length_eq_zero h0.2.2.2.2.1, List.eq_nil_of_length_eq_zero h1.2.2.2.2.1]; rfl
def wellI (x : XI) : Prop := goodI x ∧ lenI x ∧ memI x
def headW (k : Int) : ByteArray := if k = 1 then ⟨#[99, 111, 110, 115, 116]⟩ else if k = 2 then ⟨#[99, 111, 100, 101]⟩ else if k = 3 then ⟨#[117, 115, 101]⟩ else if k = 4 then ⟨#[100, 111, 109, 97, 105, 110, 115]⟩ else if k = 6 then ⟨#[116, 111, 108, 101, 114, 97, 116, 101]⟩ else ⟨#[112, 108, 97, 99, 101]⟩
theorem headW_inj {j k : Int} (hj : 1 ≤ j ∧ j ≤ 6) (hk : 1 ≤ k ∧ k ≤ 6) (h : headW j = headW k) : j = k := by
  rcases (show j = 1 ∨ j = 2 ∨ j = 3 ∨ j = 4 ∨ j = 5 ∨ j = 6 by omega) with rfl | rfl | rfl | rfl | rfl | rfl <;> rcases (show k = 1 ∨ k = 2 ∨ k = 3 ∨ k = 4 ∨ k = 5 ∨ k = 6 by omega) with rfl | rfl | rfl | rfl | rfl | rfl <;> first | rfl | exact absurd h (by decide)
/-- What stands behind an item's head word. -/
def restI (x : XI) : List ByteArray := if x.f0 = 1 then x.f1 :: ⟨#[61]⟩ :: ((toksX 16 x.f2).map formT ++ [⟨#[59]⟩]) else if x.f0 = 2 then x.f1 :: ⟨#[61]⟩ :: ((toksS 16 x.f3).map formT ++ [⟨#[59]⟩]) else if x.f0 = 3 then [x.f1, ⟨#[59]⟩] else if x.f0 = 4 then (toksX 16 x.f2).map formT ++ [⟨#[59]⟩] else if x.f0 = 6 then (toksX 16 x.f2).map formT ++ [⟨#[59]⟩] else
  (if x.f4 = 1 then [⟨#[114, 111, 119]⟩, ⟨#[59]⟩] else if x.f4 = 2 then [⟨#[115, 112, 114, 101, 97, 100]⟩, ⟨#[59]⟩] else if x.f4 = 3 then ⟨#[115, 112, 105, 114, 97, 108]⟩ :: ((toksX 16 x.f2).map formT ++ [⟨#[59]⟩]) else if x.f4 = 4 then ⟨#[108, 105, 115, 116]⟩ :: ⟨#[91]⟩ :: ((exT x.f5).map formT ++ [⟨#[93]⟩, ⟨#[59]⟩]) else [⟨#[59]⟩])
theorem forms_I (x : XI) : (toksI x).map formT = headW x.f0 :: restI x := by
  unfold toksI headT placeT headW restI
  repeat' split
  all_goals simp only [List.map_cons, List.map_append, List.map_nil, form_say, List.cons_append, List.append_assoc, List.nil_append]
theorem decI {x y : XI} (hx : wellI x) (hy : wellI y) (h : (toksI x).map formT = (toksI y).map formT) : likeI x y = true := by
  obtain ⟨⟨a1, a2, a3, a4, a5, a6, a7, a8⟩, ⟨b1, b2⟩, ⟨c1, c2, c3, c4, c5, c6⟩⟩ := hx
  obtain ⟨⟨d1, d2, d3, d4, d5, d6, d7, d8⟩, ⟨e1, e2⟩, ⟨f1, f2, f3, f4, f5, f6⟩⟩ := hy
  rw [forms_I, forms_I] at h
  injection h with h1 h2
  have hk := headW_inj ⟨a1, a2⟩ ⟨d1, d2⟩ h1
  unfold hasV at a4 d4 c2 f2
  unfold restI at h2
  unfold likeI
  have nil5 : ∀ {l m : List XE}, l.length = 0 → m.length = 0 → eqL (likeX 16) l m = true := fun h h' => by rw [List.eq_nil_of_length_eq_zero h, List.eq_nil_of_length_eq_zero h']; rfl
  rcases (show x.f0 = 1 ∨ x.f0 = 2 ∨ x.f0 = 3 ∨ x.f0 = 4 ∨ x.f0 = 5 ∨ x.f0 = 6 by omega) with k | k | k | k | k | k
  · rw [if_pos k, if_pos (show y.f0 = 1 by omega)] at h2
    injection h2 with h3 h2
    injection h2 with _ h2
    obtain ⟨i1, _⟩ := decX 16 _ _ _ _ (a4 (by omega)) (d4 (by omega)) h2
    rw [hk, h3, i1, zeroS_like (c3 (by omega)) (f3 (by omega)), c4 (by omega), f4 (by omega), nil5 (c5 (by omega)) (f5 (by omega)), beq_self_eq_true, beq_self_eq_true]; rfl
  · rw [if_neg (by omega), if_pos k, if_neg (by omega), if_pos (show y.f0 = 2 by omega)] at h2
    injection h2 with h3 h2
    injection h2 with _ h2
    obtain ⟨i1, _⟩ := decS 16 _ _ _ _ ⟨a5 k, b1 k, c6 k⟩ ⟨d5 (by omega), e1 (by omega), f6 (by omega)⟩ h2
    rw [hk, h3, zeroX_like (c2 (by omega)) (f2 (by omega)), i1, c4 (by omega), f4 (by omega), nil5 (c5 (by omega)) (f5 (by omega)), beq_self_eq_true, beq_self_eq_true]; rfl
  · rw [if_neg (by omega), if_neg (by omega), if_pos k, if_neg (by omega), if_neg (by omega), if_pos (show y.f0 = 3 by omega)] at h2
    injection h2 with h3 _
    rw [hk, h3, zeroX_like (c2 (by omega)) (f2 (by omega)), zeroS_like (c3 (by omega)) (f3 (by omega)), c4 (by omega), f4 (by omega), nil5 (c5 (by omega)) (f5 (by omega)), beq_self_eq_true, beq_self_eq_true]; rfl
  · rw [if_neg (by omega), if_neg (by omega), if_neg (by omega), if_pos k, if_neg (by omega), if_neg (by omega), if_neg (by omega), if_pos (show y.f0 = 4 by omega)] at h2
    obtain ⟨i1, _⟩ := decX 16 _ _ _ _ (a4 (by omega)) (d4 (by omega)) h2
    rw [hk, size0 (c1 (by omega)) (f1 (by omega)), i1, zeroS_like (c3 (by omega)) (f3 (by omega)), c4 (by omega), f4 (by omega), nil5 (c5 (by omega)) (f5 (by omega)), beq_self_eq_true]; rfl
  · rw [if_neg (show ¬ x.f0 = 1 by omega), if_neg (show ¬ x.f0 = 2 by omega), if_neg (show ¬ x.f0 = 3 by omega), if_neg (show ¬ x.f0 = 4 by omega), if_neg (show ¬ x.f0 = 6 by omega), if_neg (show ¬ y.f0 = 1 by omega), if_neg (show ¬ y.f0 = 2 by omega), if_neg (show ¬ y.f0 = 3 by omega), if_neg (show ¬ y.f0 = 4 by omega), if_neg (show ¬ y.f0 = 6 by omega)] at h2
    have ka := a6 k
    have kd := d6 (by omega)
    have z1 := size0 (c1 (by omega)) (f1 (by omega))
    have zs := zeroS_like (c3 (by omega)) (f3 (by omega))
    rcases (show x.f4 = 1 ∨ x.f4 = 2 ∨ x.f4 = 3 ∨ x.f4 = 4 by omega) with p | p | p | p <;> rcases (show y.f4 = 1 ∨ y.f4 = 2 ∨ y.f4 = 3 ∨ y.f4 = 4 by omega) with q | q | q | q 
    all_goals rw [p, q] at h2
    all_goals first
      | (injection h2 with h3 _; exact absurd h3 (by decide))
      | (rw [hk, z1, zs, p, q, zeroX_like (c2 (by omega)) (f2 (by omega)), nil5 (c5 (by omega)) (f5 (by omega)), beq_self_eq_true]; rfl)
      | (injection h2 with _ h2; obtain ⟨i1, _⟩ := decX 16 _ _ _ _ (a4 (by omega)) (d4 (by omega)) h2; rw [hk, z1, zs, p, q, i1, nil5 (c5 (by omega)) (f5 (by omega)), beq_self_eq_true]; rfl)
      | (injection h2 with _ h2; injection h2 with _ h2; obtain ⟨i1, _⟩ := dec_exT (c := ⟨#[93]⟩) (d := ⟨#[93]⟩) (by decide) (by decide) (b2 ⟨k, p⟩) (e2 ⟨by omega, q⟩) a8 d8 h2; rw [hk, z1, zs, p, q, zeroX_like (c2 (by omega)) (f2 (by omega)), i1, beq_self_eq_true]; rfl)
  · rw [if_neg (by omega), if_neg (by omega), if_neg (by omega), if_neg (by omega), if_pos k, if_neg (by omega), if_neg (by omega), if_neg (by omega), if_neg (by omega), if_pos (show y.f0 = 6 by omega)] at h2
    obtain ⟨i1, _⟩ := decX 16 _ _ _ _ (a4 (by omega)) (d4 (by omega)) h2
    rw [hk, size0 (c1 (by omega)) (f1 (by omega)), i1, zeroS_like (c3 (by omega)) (f3 (by omega)), c4 (by omega), f4 (by omega), nil5 (c5 (by omega)) (f5 (by omega)), beq_self_eq_true]; rfl
theorem may_well {l : List XI} (h : mayI l = true) : ∀ x ∈ l, wellI x := fun x hx => by
  unfold mayI at h
  rw [Bool.and_eq_true] at h
  obtain ⟨l', h1⟩ := xlist_all _ _ h.2 x hx
  exact ⟨item_good h1, item_len h1, item_mem h1⟩
theorem forms_eqL : ∀ (l m : List XI), (∀ x ∈ l, wellI x) → (∀ x ∈ m, wellI x) → l.map (fun x => (toksI x).map formT) = m.map (fun x => (toksI x).map formT) → eqL likeI l m = true
  | [], [], _, _, _ => rfl
  | [], _ :: _, _, _, h => by cases h
  | _ :: _, [], _, _, h => by cases h
  | x :: r, y :: q, hl, hm, h => by
    rw [List.map_cons, List.map_cons] at h
    injection h with h1 h2
    rw [eqL, decI (hl x (.head _)) (hm y (.head _)) h1, forms_eqL r q (fun v hv => hl v (.tail _ hv)) (fun v hv => hm v (.tail _ hv)) h2]; rfl
theorem one_text {a b : List XI} (ha : mayI a = true) (hb : mayI b = true) : ((accB a ⟨#[]⟩).toList == (accB b ⟨#[]⟩).toList) = eqL likeI a b := by
  rw [Bool.eq_iff_iff, beq_iff_eq]
  constructor
  · intro h
    have h1 := congrArg bl (bytes_eq h)
    rw [acc_bl, acc_bl] at h1
    have h2 : (a.map (fun x => bl (lineB x))).flatten = (b.map (fun x => bl (lineB x))).flatten := List.append_cancel_left h1
    exact forms_eqL a b (may_well ha) (may_well hb) (lines_inj a b (may_good ha) (may_good hb) h2)
  · intro h
    rw [like_acc a b _ h]
end Go.Proofs.YtibaidddhmdafaaDoor.E
end
section
namespace Go.Proofs.YtibaidddhmdafaaDoor.E
open Go Go.RowKit Go.Proofs.YtibaidddhmdafaaDoorW.PrintWords Go.Proofs.YtibaidddhmdafaaDoorW.PrintLast Go.Proofs.YtibaidddhmdafaaDoorW.PrintMore Go.Proofs.YtibaidddhmdafaaDoor.PA
set_option linter.unusedVariables false
set_option linter.unusedSimpArgs false
theorem text2I (l : List XI) : (∃ k : Int, textsI l = (⟨#[]⟩, k) ∧ k ≠ 0) ∨ (textsI l = (accB l ⟨#[]⟩, 0) ∧ mayI l = true) := by
  unfold textsI
  cases h : mayI l with
  | false => exact .inl ⟨2, rfl, by decide⟩
  | true =>
    show (∃ k : Int, (if (accB l ⟨#[]⟩).size > 65536 then _ else _) = _ ∧ _) ∨ ((if (accB l ⟨#[]⟩).size > 65536 then _ else _) = _ ∧ _)
    by_cases h1 : (accB l ⟨#[]⟩).size > 65536
    · rw [if_pos h1]; exact .inl ⟨4, rfl, by decide⟩
    · rw [if_neg h1]; exact .inr ⟨rfl, rfl⟩
set_option maxHeartbeats 400000 in
set_option maxRecDepth 100000 in
theorem law_TreeOneText (A B : Option Addr) (c d : Nat) (l m : List XI) (v0 : World) (hA : Kd.C k45 v0 A l.length l) (hB : Kd.C k45 v0 B m.length m) (hsl : ∀ p ∈ l, smallI p) (hsm : ∀ p ∈ m, smallI p) (hP : Pow10 v0) :
    Calls Tryd.prog 7 #[.slice A l.length c, .slice B m.length d] v0 fun e w' => e = .returned (.bool true) ∧ Below v0.heap.size v0 w' := by
  refine calls_enter (N := 54) (n := 52) (args := [.slice A l.length c, .slice B m.length d]) Tryd.func7 rfl rfl rfl (H.init v0) (fun a hs => ?_)
  refine wp_seq (wp_region_lit ?_)
  refine go hs (pA rfl <| ?_); clear hs a; intro a hs
  refine wpList_nil (then_normal (wp_seq ?_))
  rcases text2I l with ⟨ka, hTa, hka⟩ | ⟨hTa, hma⟩ <;> rcases text2I m with ⟨kb, hTb, hkb⟩ | ⟨hTb, hmb⟩
  · refine wp_region_lit (go hs (pM rfl <| ?_)); clear hs a; intro a hs
    refine a_eff rfl (e_callB Tryd.func15 rfl rfl hs rfl rfl (by have h := tree_Text A c l _ (Kd.C_below hA hs.mem.base) hsl (varKeep hs.mem.base hP); rw [hTa] at h; exact h) ?_); clear hs a; intro a w hs
    refine go hs (pM rfl <| pV rfl (fun a hs => y_extract hs rfl rfl) <| pV rfl (fun a hs => y_extract hs rfl rfl) <| pA rfl <| pA rfl <| ?_); clear hs a; intro a hs
    refine wpList_nil (then_normal (wp_seq ?_))
    refine wp_region_lit (go hs (pM rfl <| ?_)); clear hs a; intro a hs
    refine a_eff rfl (e_callB Tryd.func15 rfl rfl hs rfl rfl (by have h := tree_Text B d m _ (Kd.C_below hB hs.mem.base) hsm (varKeep hs.mem.base hP); rw [hTb] at h; exact h) ?_); clear hs a; intro a w hs
    refine go hs (pM rfl <| pV rfl (fun a hs => y_extract hs rfl rfl) <| pV rfl (fun a hs => y_extract hs rfl rfl) <| pA rfl <| pA rfl <| ?_); clear hs a; intro a hs
    refine wpList_nil (then_normal (wp_seq ?_))
    refine wp_seq (wp_region_lit ?_)
    refine go hs (pM rfl <| pV rfl (fun a hs => y_cmp (b := true) hs rfl rfl (congrArg some (bne_iff_ne.2 hka))) <| pM rfl <| pS rfl <| pS rfl <| pT rfl rfl <| ?_); clear hs a; intro a hs
    refine wpList_nil (then_normal ?_)
    refine wp_cond_true (hs.ev rfl) ?_
    refine wp_seq (wp_region_lit ?_)
    refine a_eff rfl (e_callB Tryd.func12 rfl rfl hs rfl rfl (law_anchored _ (varKeep hs.mem.base hP)) ?_); clear hs a; intro a w hs
    refine go hs (pM rfl <| pG rfl (fun a hs => y_move hs rfl) <| pG rfl (fun a hs => y_lenS hs Tryd.underlying9 rfl) <| pG rfl (fun a hs => y_cmp (b := true) hs rfl rfl (congrArg some (beq_iff_eq.2 rfl))) <| pG rfl (fun a hs => y_move hs rfl) <| pS rfl <| pS rfl <| pS rfl <| pG rfl (fun a hs => y_pickT hs rfl rfl rfl) <| pT rfl rfl <| pA rfl <| ?_); clear hs a; intro a hs
    refine wpList_nil (then_normal (wp_ret (then_ret ?_)))
    refine fin_ret hs (.tmp (hs.slots _ _ rfl) .nil) ⟨rfl, hs.mem.base⟩
  · refine wp_region_lit (go hs (pM rfl <| ?_)); clear hs a; intro a hs
    refine a_eff rfl (e_callB Tryd.func15 rfl rfl hs rfl rfl (by have h := tree_Text A c l _ (Kd.C_below hA hs.mem.base) hsl (varKeep hs.mem.base hP); rw [hTa] at h; exact h) ?_); clear hs a; intro a w hs
    refine go hs (pM rfl <| pV rfl (fun a hs => y_extract hs rfl rfl) <| pV rfl (fun a hs => y_extract hs rfl rfl) <| pA rfl <| pA rfl <| ?_); clear hs a; intro a hs
    refine wpList_nil (then_normal (wp_seq ?_))
    refine wp_region_lit (go hs (pM rfl <| ?_)); clear hs a; intro a hs
    refine a_eff rfl (e_callB Tryd.func15 rfl rfl hs rfl rfl (by have h := tree_Text B d m _ (Kd.C_below hB hs.mem.base) hsm (varKeep hs.mem.base hP); rw [hTb] at h; exact h) ?_); clear hs a; intro a w hs
    refine go hs (pM rfl <| pV rfl (fun a hs => y_extract hs rfl rfl) <| pV rfl (fun a hs => y_extract hs rfl rfl) <| pA rfl <| pA rfl <| ?_); clear hs a; intro a hs
    refine wpList_nil (then_normal (wp_seq ?_))
    refine wp_seq (wp_region_lit ?_)
    refine go hs (pM rfl <| pV rfl (fun a hs => y_cmp (b := true) hs rfl rfl (congrArg some (bne_iff_ne.2 hka))) <| pM rfl <| pS rfl <| pS rfl <| pT rfl rfl <| ?_); clear hs a; intro a hs
    refine wpList_nil (then_normal ?_)
    refine wp_cond_true (hs.ev rfl) ?_
    refine wp_seq (wp_region_lit ?_)
    refine a_eff rfl (e_callB Tryd.func12 rfl rfl hs rfl rfl (law_anchored _ (varKeep hs.mem.base hP)) ?_); clear hs a; intro a w hs
    refine go hs (pM rfl <| pG rfl (fun a hs => y_move hs rfl) <| pG rfl (fun a hs => y_lenS hs Tryd.underlying9 rfl) <| pG rfl (fun a hs => y_cmp (b := true) hs rfl rfl (congrArg some (beq_iff_eq.2 rfl))) <| pG rfl (fun a hs => y_move hs rfl) <| pS rfl <| pS rfl <| pS rfl <| pG rfl (fun a hs => y_pickT hs rfl rfl rfl) <| pT rfl rfl <| pA rfl <| ?_); clear hs a; intro a hs
    refine wpList_nil (then_normal (wp_ret (then_ret ?_)))
    refine fin_ret hs (.tmp (hs.slots _ _ rfl) .nil) ⟨rfl, hs.mem.base⟩
  · refine wp_region_lit (go hs (pM rfl <| ?_)); clear hs a; intro a hs
    refine a_eff rfl (e_callB Tryd.func15 rfl rfl hs rfl rfl (by have h := tree_Text A c l _ (Kd.C_below hA hs.mem.base) hsl (varKeep hs.mem.base hP); rw [hTa] at h; exact h) ?_); clear hs a; intro a w hs
    refine go hs (pM rfl <| pV rfl (fun a hs => y_extract hs rfl rfl) <| pV rfl (fun a hs => y_extract hs rfl rfl) <| pA rfl <| pA rfl <| ?_); clear hs a; intro a hs
    refine wpList_nil (then_normal (wp_seq ?_))
    refine wp_region_lit (go hs (pM rfl <| ?_)); clear hs a; intro a hs
    refine a_eff rfl (e_callB Tryd.func15 rfl rfl hs rfl rfl (by have h := tree_Text B d m _ (Kd.C_below hB hs.mem.base) hsm (varKeep hs.mem.base hP); rw [hTb] at h; exact h) ?_); clear hs a; intro a w hs
    refine go hs (pM rfl <| pV rfl (fun a hs => y_extract hs rfl rfl) <| pV rfl (fun a hs => y_extract hs rfl rfl) <| pA rfl <| pA rfl <| ?_); clear hs a; intro a hs
    refine wpList_nil (then_normal (wp_seq ?_))
    refine wp_seq (wp_region_lit ?_)
    refine go hs (pM rfl <| pV rfl (fun a hs => y_cmp (b := false) hs rfl rfl (congrArg some (bne_eq_false_iff_eq.2 rfl))) <| pM rfl <| pG rfl (fun a hs => y_move hs rfl) <| pG rfl (fun a hs => y_cmp (b := true) hs rfl rfl (congrArg some (bne_iff_ne.2 hkb))) <| pF rfl rfl <| ?_); clear hs a; intro a hs
    refine wpList_nil (then_normal ?_)
    refine wp_cond_true (hs.ev rfl) ?_
    refine wp_seq (wp_region_lit ?_)
    refine a_eff rfl (e_callB Tryd.func12 rfl rfl hs rfl rfl (law_anchored _ (varKeep hs.mem.base hP)) ?_); clear hs a; intro a w hs
    refine go hs (pM rfl <| pG rfl (fun a hs => y_move hs rfl) <| pG rfl (fun a hs => y_lenS hs Tryd.underlying9 rfl) <| pG rfl (fun a hs => y_cmp hs rfl rfl rfl) <| pG rfl (fun a hs => y_move hs rfl) <| ?_); clear hs a; intro a hs
    rcases hs.know (d := 30) rfl with ⟨h30, hs1⟩ | ⟨h30, hs1⟩ <;> replace hs := hs1 <;> clear hs1
    · replace h30 := eq_of_beq h30
      refine go hs (pS rfl <| pS rfl <| pS rfl <| pG rfl (fun a hs => y_pickT hs rfl rfl rfl) <| pT rfl rfl <| pA rfl <| ?_); clear hs a; intro a hs
      refine wpList_nil (then_normal (wp_ret (then_ret ?_)))
      refine fin_ret hs (.tmp (hs.slots _ _ rfl) .nil) ⟨rfl, hs.mem.base⟩
    replace h30 := ne_of_beq_false h30
    refine go hs (pG rfl (fun a hs => y_move hs rfl) <| pG rfl (fun a hs => y_lenS hs Tryd.underlying9 rfl) <| pG rfl (fun a hs => y_cmp (b := true) hs rfl rfl (congrArg some (beq_iff_eq.2 rfl))) <| pG rfl (fun a hs => y_pickF hs rfl rfl rfl) <| pT rfl rfl <| pA rfl <| ?_); clear hs a; intro a hs
    refine wpList_nil (then_normal (wp_ret (then_ret ?_)))
    refine fin_ret hs (.tmp (hs.slots _ _ rfl) .nil) ⟨rfl, hs.mem.base⟩
  refine wp_region_lit (go hs (pM rfl <| ?_)); clear hs a; intro a hs
  refine a_eff rfl (e_callB Tryd.func15 rfl rfl hs rfl rfl (by have h := tree_Text A c l _ (Kd.C_below hA hs.mem.base) hsl (varKeep hs.mem.base hP); rw [hTa] at h; exact h) ?_); clear hs a; intro a w hs
  refine go hs (pM rfl <| pV rfl (fun a hs => y_extract hs rfl rfl) <| pV rfl (fun a hs => y_extract hs rfl rfl) <| pA rfl <| pA rfl <| ?_); clear hs a; intro a hs
  refine wpList_nil (then_normal (wp_seq ?_))
  refine wp_region_lit (go hs (pM rfl <| ?_)); clear hs a; intro a hs
  refine a_eff rfl (e_callB Tryd.func15 rfl rfl hs rfl rfl (by have h := tree_Text B d m _ (Kd.C_below hB hs.mem.base) hsm (varKeep hs.mem.base hP); rw [hTb] at h; exact h) ?_); clear hs a; intro a w hs
  refine go hs (pM rfl <| pV rfl (fun a hs => y_extract hs rfl rfl) <| pV rfl (fun a hs => y_extract hs rfl rfl) <| pA rfl <| pA rfl <| ?_); clear hs a; intro a hs
  refine wpList_nil (then_normal (wp_seq ?_))
  refine wp_seq (wp_region_lit ?_)
  refine go hs (pM rfl <| pV rfl (fun a hs => y_cmp (b := false) hs rfl rfl (congrArg some (bne_eq_false_iff_eq.2 rfl))) <| pM rfl <| pG rfl (fun a hs => y_move hs rfl) <| pG rfl (fun a hs => y_cmp (b := false) hs rfl rfl (congrArg some (bne_eq_false_iff_eq.2 rfl))) <| pF rfl rfl <| ?_); clear hs a; intro a hs
  refine wpList_nil (then_normal ?_)
  refine wp_cond_false (hs.ev rfl) ?_
  refine wp_skip (then_normal (wp_seq ?_))
  refine wp_region_lit ?_
  refine a_eff rfl (e_callB Tryd.func12 rfl rfl hs rfl rfl (law_anchored _ (varKeep hs.mem.base hP)) ?_); clear hs a; intro a w hs
  refine go hs (pM rfl <| pG rfl (fun a hs => y_move hs rfl) <| pG rfl (fun a hs => y_move hs rfl) <| pG rfl (fun a hs => y_seq hs rfl rfl) <| pG rfl (fun a hs => y_move hs rfl) <| pG rfl (fun a hs => y_move hs rfl) <| ?_); clear hs a; intro a hs
  refine a_effG hs rfl (e_callB Tryd.func24 rfl rfl hs rfl rfl (by have h := tree_Same A B c d l m _ (Kd.C_below hA hs.mem.base) (Kd.C_below hB hs.mem.base) hsl hsm; rw [show sameI l m = eqL likeI l m by unfold sameI; rw [hma, hmb]; rfl] at h; exact h) ?_); clear hs a; intro a w hs
  refine go hs (pG rfl (fun a hs => y_beqB (c := true) hs Tryd.underlying4 rfl rfl (by show (((accB l ⟨#[]⟩).toList == (accB m ⟨#[]⟩).toList) == eqL likeI l m) = true; rw [one_text hma hmb]; exact beq_self_eq_true _)) <| pT rfl rfl <| pM rfl <| pG rfl (fun a hs => y_move hs rfl) <| ?_); clear hs a; intro a hs
  refine a_effG hs rfl (e_callB Tryd.func23 rfl rfl hs rfl rfl (by have h := tree_May A c l _ (Kd.C_below hA hs.mem.base) hsl; rw [hma] at h; exact h) ?_); clear hs a; intro a w hs
  refine go hs (pT rfl rfl <| pM rfl <| pG rfl (fun a hs => y_move hs rfl) <| ?_); clear hs a; intro a hs
  refine a_effG hs rfl (e_callB Tryd.func23 rfl rfl hs rfl rfl (by have h := tree_May B d m _ (Kd.C_below hB hs.mem.base) hsm; rw [hmb] at h; exact h) ?_); clear hs a; intro a w hs
  refine go hs (pT rfl rfl <| pA rfl <| ?_); clear hs a; intro a hs
  refine wpList_nil (then_normal (wp_ret ?_))
  refine fin_ret hs (.tmp (hs.slots _ _ rfl) .nil) ⟨rfl, hs.mem.base⟩
end Go.Proofs.YtibaidddhmdafaaDoor.E
end
