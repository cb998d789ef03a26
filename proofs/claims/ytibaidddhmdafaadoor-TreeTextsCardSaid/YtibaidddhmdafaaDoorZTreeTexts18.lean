/- What YtibaidddhmdafaaDoorRTreeTexts's proof reaches of its texts, part 18. Conditions: as each says. -/
import Derived.ArgAppend
import Derived.Below
import Derived.BigCall
import Derived.BigQuiet
import Derived.Deep.AppendLies
import Derived.Deep.CutBlock
import Derived.Deep.DeepCutAuto
import Derived.Deep.Draws
import Derived.Deep.LoopGhost
import Derived.Deep.OwnRows
import Derived.Deep.QuietTactic
import Derived.Deep.RegionHeld3
import Derived.Deep.WholeRow
import Derived.KernelRfl
import Derived.Laws.AppendOwn
import Derived.Laws.BitsLemmas
import Derived.Laws.BytesArg
import Derived.Laws.CopyRow
import Derived.Laws.Externs
import Derived.Laws.IdiomCopy
import Derived.Laws.MakeOwn
import Derived.Laws.OwnMore
import Derived.Laws.Rows
import Derived.Laws.Slices
import Derived.Laws.StructEq
import Derived.Laws.Tables
import Derived.Lib.AppendStr
import Derived.Lib.Builder
import Derived.Lib.Bytealg
import Derived.Lib.ConvBytes
import Derived.Lib.ItoaLen
import Derived.Lib.ItoaMem
import Derived.Lib.LaidTab
import Derived.Lib.Strings
import Derived.Lib.Walk
import Derived.Maps.AppendAt
import Derived.OrdersHeld
import Derived.OwnWalk
import Derived.RowKit
import Derived.RowKit3
import Derived.ScopeJumps
import Derived.Shelf.LaysM
import Derived.Shelf.Strconv.Itoa3
import Derived.Shelf.Strings.Builder1
import Derived.Sort.Grow
import Derived.Tactics
import Derived.Test.YtibaidddhmdafaaDoorProg
import Derived.WalkKit
import Derived.WideLaws
import Derived.Test.YtibaidddhmdafaaDoorZTreeTexts17
section
namespace Go.Proofs.YtibaidddhmdafaaDoor.E
open Go Go.RowKit Go.Proofs.YtibaidddhmdafaaDoorW.PrintWords Go.Proofs.YtibaidddhmdafaaDoorW.PrintLast Go.Proofs.YtibaidddhmdafaaDoorW.PrintMore Go.Proofs.YtibaidddhmdafaaDoor.PA
set_option linter.unusedVariables false
set_option linter.unusedSimpArgs false
set_option maxRecDepth 100000 in
theorem text_gen (fid : Nat) (fn : Func) (caps : List Value) (toks : List XT) (bs : List Res) (w0 w : World) (hfn : Tryd.prog.funcs[fid]? = some fn) (hnm : (fn.name == "runtime.NumGoroutine") = false) (hbd : fn.body.isNone = false) (hf : ∀ (gw : Nat) (w1 : World), H w0 (pt gw #[.slice none 0 0] 90 :: row 94 5 (.slice none 0 0) 0 [] :: bs) w1 → Calls Tryd.prog fid (.pointer (some ⟨gw, 0, none⟩) :: caps).toArray w1 fun e w' => ∃ A2 c2, e = .returned (.tuple #[]) ∧ H w0 (pt gw #[.slice A2 (toks).length c2] 90 :: row 94 5 (.slice A2 (toks).length c2) (toks).length ((toks).flatMap tokC) :: bs) w') (hmy : ∀ t ∈ toks, mayB t = true) (hln : toks.length ≤ 800000) (hP : Pow10 w0) (r : ByteArray × Int) (hr : joinF toks = r) (h : H w0 bs w) :
    Calls Tryd.prog 30 #[.func (.func fid) #[] caps.toArray] w fun e w' => e = .returned (.tuple #[.string r.1, .int .i64 r.2]) ∧ H w0 bs w' := by
  refine calls_enter (N := 12) (n := 11) (args := [.func (.func fid) #[] caps.toArray]) Tryd.func30 rfl rfl rfl (h) (fun a hs => ?_)
  refine wp_seq (wp_region_lit ?_)
  refine go hs (pA rfl <| pA rfl <| ?_); clear hs a; intro a hs
  refine wpList_nil (then_normal (wp_seq ?_))
  refine wp_region_lit ?_
  refine a_eff rfl (e_alloc (z := .agg #[.slice none 0 0]) (cs := #[.slice none 0 0]) hs rfl (by kernel_rfl) rfl ?_); clear hs a; intro gw a w hs
  refine wpList_nil (then_normal (wp_seq ?_))
  refine wp_region_lit (go hs (pM rfl <| ?_)); clear hs a; intro a hs
  refine a_eff rfl (e_callF hfn hnm hbd hs rfl rfl rfl (hf gw _ ((hs.mem.nilRow 94 5).to 1 rfl)) (fun e w1 ⟨A2, c2, he, hm⟩ => ⟨_, he, _, hm, ?_⟩)); clear hs a; intro a hs
  refine wpList_nil (then_normal (wp_seq ?_))
  refine wp_region_lit (go hs (pV rfl (fun a hs => y_faddr (k' := 0) 0 hs (by kernel_rfl) rfl rfl) <| pV rfl (fun a hs => y_load hs Tryd.underlying88 rfl rfl (fun w hw => (hw.to 0 rfl).cellV rfl)) <| ?_)); clear hs a; intro a hs
  refine a_eff rfl (e_callB Tryd.func64 rfl rfl hs rfl rfl (token_Join A2 c2 toks _ ((hs.mem.to 1 rfl).rowC tokC_K tokC_len rfl rfl (by omega)).1 (by omega) (fun t ht => may_sz (hmy t ht)) (varKeep hs.mem.base hP)) ?_); clear hs a; intro a w hs
  refine go hs (pV rfl (fun a hs => y_extract hs rfl rfl) <| pV rfl (fun a hs => y_extract hs rfl rfl) <| pA rfl <| pA rfl <| ?_); clear hs a; intro a hs
  refine wpList_nil (then_normal (wp_ret ?_))
  refine fin_ret hs (.tmp (hs.slots _ _ rfl) (.tmp (hs.slots _ _ rfl) .nil)) ⟨?_, ((hs.mem.to 0 rfl).drop.to 0 rfl).drop⟩
  rw [← hr]; rfl
set_option maxRecDepth 100000 in
theorem shape_put (g gx : Nat) (s : XS) (A2 A3 A4 : Option Addr) (c2 c3 c4 : Nat) (bs : List Res) (w0 w : World) (hA2 : Kd.C k25 w0 A2 s.f2.length s.f2) (hA3 : Kd.C k42 w0 A3 s.f3.length s.f3) (hA4 : Kd.C (Kd.slice 25 k25) w0 A4 s.f4.length s.f4) (hS : goodS 16 s) (hln : (toksS 16 s).length ≤ 800000) (h : H w0 (pt g #[.slice none 0 0] 90 :: row 94 5 (.slice none 0 0) 0 [] :: pt gx #[.int .u8 s.f0, .string s.f1, .slice A2 s.f2.length c2, .slice A3 s.f3.length c3, .slice A4 s.f4.length c4, .int .i64 s.f5, .int .i64 s.f6] 42 :: bs) w) :
    Calls Tryd.prog 89 #[.pointer (some ⟨g, 0, none⟩), .pointer (some ⟨gx, 0, none⟩)] w fun e w' => ∃ A7 c7, e = .returned (.tuple #[]) ∧ H w0 (pt g #[.slice A7 (toksS 16 s).length c7] 90 :: row 94 5 (.slice A7 (toksS 16 s).length c7) (toksS 16 s).length ((toksS 16 s).flatMap tokC) :: pt gx #[.int .u8 s.f0, .string s.f1, .slice A2 s.f2.length c2, .slice A3 s.f3.length c3, .slice A4 s.f4.length c4, .int .i64 s.f5, .int .i64 s.f6] 42 :: bs) w' := by
  refine calls_enter (N := 6) (n := 4) (args := [.pointer (some ⟨g, 0, none⟩), .pointer (some ⟨gx, 0, none⟩)]) Tryd.func89 rfl rfl rfl (h) (fun a hs => ?_)
  refine wp_region_lit (go hs (pM rfl <| pV rfl (fun a hs => y_loadPt 2 rfl hs Tryd.underlying42 rfl (by kernel_rfl) rfl) <| ?_)); clear hs a; intro a hs
  refine a_eff rfl (e_callX Tryd.func67 rfl rfl hs rfl rfl (w_shape 16 (by decide) s A2 A3 A4 c2 c3 c4 g [] none 0 _ w0 _ hA2 hA3 hA4 hS (by simpa using hln) ((hs.mem.to 1 rfl).to 1 rfl)) (fun e w1 ⟨A8, c8, he, hm⟩ => ⟨_, he, _, hm, ?_⟩)); clear hs a; intro a hs
  refine wpList_nil ?_
  refine fin_end hs .nil ⟨A8, c8, rfl, (((hs.mem.to 2 rfl).to 2 rfl).to 2 rfl)⟩
set_option maxRecDepth 100000 in
theorem item_put (g gx : Nat) (x : XI) (A5 A10 A11 A12 A16 : Option Addr) (c5 c10 c11 c12 c16 : Nat) (bs : List Res) (w0 w : World) (hA5 : Kd.C k25 w0 A5 x.f2.f3.length x.f2.f3) (hA10 : Kd.C k25 w0 A10 x.f3.f2.length x.f3.f2) (hA11 : Kd.C k42 w0 A11 x.f3.f3.length x.f3.f3) (hA12 : Kd.C (Kd.slice 25 k25) w0 A12 x.f3.f4.length x.f3.f4) (hA16 : Kd.C k25 w0 A16 x.f5.length x.f5) (hG : goodI x) (hln : (toksI x).length ≤ 800000) (h : H w0 (pt g #[.slice none 0 0] 90 :: row 94 5 (.slice none 0 0) 0 [] :: pt gx #[.int .u8 x.f0, .string x.f1, .int .u8 x.f2.f0, .int .i64 x.f2.f1, .string x.f2.f2, .slice A5 x.f2.f3.length c5, .int .i64 x.f2.f4, .int .i64 x.f2.f5, .int .u8 x.f3.f0, .string x.f3.f1, .slice A10 x.f3.f2.length c10, .slice A11 x.f3.f3.length c11, .slice A12 x.f3.f4.length c12, .int .i64 x.f3.f5, .int .i64 x.f3.f6, .int .u8 x.f4, .slice A16 x.f5.length c16, .int .i64 x.f6, .int .i64 x.f7] 45 :: bs) w) :
    Calls Tryd.prog 36 #[.pointer (some ⟨g, 0, none⟩), .pointer (some ⟨gx, 0, none⟩)] w fun e w' => ∃ A7 c7, e = .returned (.tuple #[]) ∧ H w0 (pt g #[.slice A7 (toksI x).length c7] 90 :: row 94 5 (.slice A7 (toksI x).length c7) (toksI x).length ((toksI x).flatMap tokC) :: pt gx #[.int .u8 x.f0, .string x.f1, .int .u8 x.f2.f0, .int .i64 x.f2.f1, .string x.f2.f2, .slice A5 x.f2.f3.length c5, .int .i64 x.f2.f4, .int .i64 x.f2.f5, .int .u8 x.f3.f0, .string x.f3.f1, .slice A10 x.f3.f2.length c10, .slice A11 x.f3.f3.length c11, .slice A12 x.f3.f4.length c12, .int .i64 x.f3.f5, .int .i64 x.f3.f6, .int .u8 x.f4, .slice A16 x.f5.length c16, .int .i64 x.f6, .int .i64 x.f7] 45 :: bs) w' := by
  refine calls_enter (N := 6) (n := 4) (args := [.pointer (some ⟨g, 0, none⟩), .pointer (some ⟨gx, 0, none⟩)]) Tryd.func36 rfl rfl rfl (h) (fun a hs => ?_)
  refine wp_region_lit (go hs (pM rfl <| pV rfl (fun a hs => y_loadAgg (vs := [.int .u8 x.f0, .string x.f1, .int .u8 x.f2.f0, .int .i64 x.f2.f1, .string x.f2.f2, .slice A5 x.f2.f3.length c5, .int .i64 x.f2.f4, .int .i64 x.f2.f5, .int .u8 x.f3.f0, .string x.f3.f1, .slice A10 x.f3.f2.length c10, .slice A11 x.f3.f3.length c11, .slice A12 x.f3.f4.length c12, .int .i64 x.f3.f5, .int .i64 x.f3.f6, .int .u8 x.f4, .slice A16 x.f5.length c16, .int .i64 x.f6, .int .i64 x.f7]) hs Tryd.underlying44 rfl (by kernel_rfl) rfl (fun w hw k v hk => ((hw.to 2 rfl).cell).trans (by rw [Nat.zero_add, ← Array.getElem?_toList]; exact hk))) <| ?_)); clear hs a; intro a hs
  refine a_eff rfl (e_callX Tryd.func37 rfl rfl hs rfl rfl (w_item x A5 A10 A11 A12 A16 c5 c10 c11 c12 c16 g [] none 0 _ w0 _ hA5 hA10 hA11 hA12 hA16 hG (by simpa using hln) ((hs.mem.to 1 rfl).to 1 rfl)) (fun e w1 ⟨A2, c2, he, hm⟩ => ⟨_, he, _, hm, ?_⟩)); clear hs a; intro a hs
  refine wpList_nil ?_
  refine fin_end hs .nil ⟨A2, c2, rfl, (((hs.mem.to 2 rfl).to 2 rfl).to 2 rfl)⟩
/-- A shape's text, or the error. -/
noncomputable def textS (s : XS) : ByteArray × Int := bif (xshape 16 s 8192).1 then joinF (toksS 16 s) else (⟨#[]⟩, 2)
set_option maxRecDepth 100000 in
theorem tree_ShapeText (s : XS) (A2 A3 A4 : Option Addr) (c2 c3 c4 : Nat) (v0 : World) (hA2 : Kd.C k25 v0 A2 s.f2.length s.f2) (hA3 : Kd.C k42 v0 A3 s.f3.length s.f3) (hA4 : Kd.C (Kd.slice 25 k25) v0 A4 s.f4.length s.f4) (hsm : smallS 16 s) (hP : Pow10 v0) :
    Calls Tryd.prog 62 #[.agg #[.int .u8 s.f0, .string s.f1, .slice A2 s.f2.length c2, .slice A3 s.f3.length c3, .slice A4 s.f4.length c4, .int .i64 s.f5, .int .i64 s.f6]] v0 fun e w' => e = .returned (.tuple #[.string (textS s).1, .int .i64 (textS s).2]) ∧ Below v0.heap.size v0 w' := by
  refine calls_enter (N := 11) (n := 10) (args := [.agg #[.int .u8 s.f0, .string s.f1, .slice A2 s.f2.length c2, .slice A3 s.f3.length c3, .slice A4 s.f4.length c4, .int .i64 s.f5, .int .i64 s.f6]]) Tryd.func62 rfl rfl rfl (H.init v0) (fun a hs => ?_)
  refine wp_seq (wp_region_lit ?_)
  refine a_eff rfl (e_box (cs := #[_, _, _, _, _, _, _]) hs rfl rfl rfl ?_); clear hs a; intro gx a w hs
  refine go hs (pA rfl <| pA rfl <| ?_); clear hs a; intro a hs
  refine wpList_nil (then_normal (wp_seq ?_))
  refine wp_seq (wp_region_lit ?_)
  refine go hs (pV rfl (fun a hs => y_loadPt 0 rfl hs Tryd.underlying42 rfl (by kernel_rfl) rfl) <| ?_); clear hs a; intro a hs
  refine a_eff rfl (e_callB Tryd.func21 rfl rfl hs rfl rfl (tree_MayShape s A2 A3 A4 c2 c3 c4 _ (Kd.C_below hA2 hs.mem.base) (Kd.C_below hA3 hs.mem.base) (Kd.C_below hA4 hs.mem.base) hsm) ?_); clear hs a; intro a w hs
  refine go hs (pV rfl (fun a hs => y_not hs rfl) <| ?_); clear hs a; intro a hs
  refine wpList_nil (then_normal ?_)
  refine wp_cond_split (hs.ev rfl) (fun h6 => ?_) (fun h6 => ?_)
  · replace h6 := (not_t h6)
    refine wp_seq (wp_region_lit ?_)
    refine go hs (pA rfl <| pA rfl <| ?_); clear hs a; intro a hs
    refine wpList_nil (then_normal (wp_ret (then_ret ?_)))
    refine fin_ret hs (.tmp (hs.slots _ _ rfl) (.tmp (hs.slots _ _ rfl) .nil)) ⟨?_, hs.mem.base⟩
    unfold textS; rw [h6]; rfl
  replace h6 := (not_f h6)
  have hG := shape_good 16 s 8192 h6
  have hTL : (toksS 16 s).length ≤ 800000 := by have h1 := toksS_len 16 s 8192 h6 (by decide); omega
  refine wp_skip (then_normal (wp_seq ?_))
  refine wp_region_lit (go hs (pV rfl (fun a hs => y_func hs rfl rfl) <| ?_)); clear hs a; intro a hs
  refine a_eff rfl (e_callX Tryd.func30 rfl rfl hs rfl rfl (text_gen 89 _ [.pointer (some ⟨gx, 0, none⟩)] (toksS 16 s) _ v0 _ Tryd.func89 rfl rfl (fun gw w1 h => shape_put gw gx s A2 A3 A4 c2 c3 c4 [] v0 w1 hA2 hA3 hA4 hG hTL h) (toksS_may 16 s hG) hTL hP _ rfl hs.mem) (fun e w1 ⟨he, hm⟩ => ⟨_, he, _, hm, ?_⟩)); clear hs a; intro a hs
  refine go hs (pV rfl (fun a hs => y_extract hs rfl rfl) <| pV rfl (fun a hs => y_extract hs rfl rfl) <| pA rfl <| pA rfl <| ?_); clear hs a; intro a hs
  refine wpList_nil (then_normal (wp_ret ?_))
  refine fin_ret hs (.tmp (hs.slots _ _ rfl) (.tmp (hs.slots _ _ rfl) .nil)) ⟨?_, hs.mem.base⟩
  unfold textS; rw [h6]; rfl
def lineB (x : XI) : ByteArray := jb (toksI x) ++ ⟨#[10]⟩
def accB (l : List XI) (acc : ByteArray) : ByteArray := l.foldl (fun a x => a ++ lineB x) acc
theorem accB_ge : ∀ (l : List XI) (acc : ByteArray), acc.size ≤ (accB l acc).size
  | [], _ => Nat.le_refl _
  | x :: r, acc => by
    have h := accB_ge r (acc ++ lineB x)
    rw [ByteArray.size_append] at h
    show acc.size ≤ (accB r (acc ++ lineB x)).size
    omega
theorem lineB_size (x : XI) : (lineB x).size = (jb (toksI x)).size + 1 := by unfold lineB; rw [ByteArray.size_append]; rfl
/-- A description's text, or the error. -/
noncomputable def textsI (l : List XI) : ByteArray × Int := bif mayI l then (if (accB l ⟨#[]⟩).size > 65536 then (⟨#[]⟩, 4) else (accB l ⟨#[]⟩, 0)) else (⟨#[]⟩, 2)
set_option maxHeartbeats 400000 in
set_option maxRecDepth 100000 in
theorem tree_Text (A : Option Addr) (c : Nat) (l : List XI) (v0 : World) (hA : Kd.C k45 v0 A l.length l) (hsl : ∀ p ∈ l, smallI p) (hP : Pow10 v0) :
    Calls Tryd.prog 15 #[.slice A l.length c] v0 fun e w' => e = .returned (.tuple #[.string (textsI l).1, .int .i64 (textsI l).2]) ∧ Below v0.heap.size v0 w' := by
  refine calls_enter (N := 33) (n := 32) (args := [.slice A l.length c]) Tryd.func15 rfl rfl rfl (H.init v0) (fun a hs => ?_)
  have hcl := C_len hA
  refine wp_seq (wp_region_lit ?_)
  refine go hs (pA rfl <| pA rfl <| ?_); clear hs a; intro a hs
  refine wpList_nil (then_normal (wp_seq ?_))
  refine wp_seq (wp_region_lit ?_)
  refine go hs (pM rfl <| ?_); clear hs a; intro a hs
  refine a_eff rfl (e_callB Tryd.func23 rfl rfl hs rfl rfl (tree_May A c l _ (Kd.C_below hA hs.mem.base) hsl) ?_); clear hs a; intro a w hs
  refine go hs (pV rfl (fun a hs => y_not hs rfl) <| ?_); clear hs a; intro a hs
  refine wpList_nil (then_normal ?_)
  refine wp_cond_split (hs.ev rfl) (fun h11 => ?_) (fun h11 => ?_)
  · replace h11 := (not_t h11)
    refine wp_seq (wp_region_lit ?_)
    refine go hs (pA rfl <| pA rfl <| ?_); clear hs a; intro a hs
    refine wpList_nil (then_normal (wp_ret (then_ret ?_)))
    have hX : textsI l = (⟨#[]⟩, 2) := by unfold textsI; rw [h11]; rfl
    refine fin_ret hs (.tmp (hs.slots _ _ rfl) (.tmp (hs.slots _ _ rfl) .nil)) ⟨?_, hs.mem.base⟩
    rw [hX]; rfl
  replace h11 := (not_f h11)
  have hG := may_good h11
  have hT := may_toks h11
  have h64 := may_len h11
  refine wp_skip (then_normal (wp_seq ?_))
  refine wp_region_lit ?_
  refine a_eff rfl (e_alloc (z := .agg #[.pointer none, .slice none 0 0]) (cs := #[.pointer none, .slice none 0 0]) hs rfl (by kernel_rfl) rfl ?_); clear hs a; intro gb a w hs
  refine wpList_nil (then_normal (wp_seq ?_))
  refine wp_seq (wp_region_lit ?_)
  refine go hs (pM rfl <| pV rfl (fun a hs => y_lenL hs Tryd.underlying32 rfl) <| pM rfl <| ?_); clear hs a; intro a hs
  refine wpList_nil (then_normal (wp_block ?_))
  have hm0 : H v0 [pt gb #[.pointer none, .slice none (⟨#[]⟩ : ByteArray).size 0] 62, row 5 1 (.slice none (⟨#[]⟩ : ByteArray).size 0) (⟨#[]⟩ : ByteArray).size (Lib.strCells (⟨#[]⟩ : ByteArray))] _ := (hs.mem.nilRow 5 1).to 1 rfl
  refine wp_loopN (fun m a w1 => ∃ (i : Nat) (acc : ByteArray) (p A2 : Option Addr) (c2 : Nat), (i + m = l.length) ∧ (p = none ∨ p = some ⟨gb, 0, none⟩) ∧ (acc.size ≤ i * 65537) ∧ (accB (l.drop i) acc = accB l ⟨#[]⟩) ∧ St 33 v0 [(4, .pointer (some ⟨gb, 0, none⟩)), (12, .slice A l.length c), (13, .int .i64 (l.length : Int)), (14, .int .i64 ((i : Nat) : Int))] [pt gb #[.pointer p, .slice A2 (acc).size c2] 62, row 5 1 (.slice A2 (acc).size c2) (acc).size (Lib.strCells (acc))] a w1) (l.length) ⟨0, ⟨#[]⟩, none, none, 0, by omega, .inl rfl, by decide, rfl, ?_⟩ (fun m a w1 hJ => ?_)
  · exact (hs.mem_to hm0).cut _ ⟨rfl, rfl, rfl, rfl, trivial⟩
  clear hs hm0
  obtain ⟨i, acc, p, A2, c2, hi, hp, hacc, hinv, hs⟩ := hJ
  refine wp_seq (wp_region_lit ?_)
  refine go hs (pV rfl (fun a hs => y_cmp hs rfl rfl rfl) <| ?_); clear hs a; intro a hs
  refine wpList_nil (then_normal (wp_seq ?_))
  refine wp_cond_split (hs.ev rfl) (fun h15 => ?_) (fun h15 => ?_)
  · replace h15 := of_decide_eq_true h15
    obtain ⟨y, hy⟩ : ∃ p, l[i]? = some p := ⟨_, List.getElem?_eq_getElem (by omega)⟩
    have hyG := hG y (List.mem_of_getElem? hy)
    have hyT : (toksI y).length ≤ 800000 := by have := hT y (List.mem_of_getElem? hy); omega
    obtain ⟨g1, o1, rfl, hcell1⟩ := C_atG (show 0 < 19 by decide) hA (by omega)
    obtain ⟨cs1, hK1, hc1⟩ := hcell1 i y hy
    obtain ⟨A5, c5, A10, c10, A11, c11, A12, c12, A16, c16, rfl, al5, ag5, al10, ag10, al11, ag11, al12, ag12, al16, ag16⟩ := k45_open hK1
    have hdrop : l.drop i = y :: l.drop (i + 1) := by
      rw [List.drop_eq_getElem_cons (by omega)]
      rw [List.getElem?_eq_getElem (by omega)] at hy
      injection hy with hy
      rw [hy]
    refine wp_skip (then_normal (wp_seq ?_))
    refine wp_block (wp_seq ?_)
    refine wp_region_lit (go hs (pV rfl (fun a hs => y_idxB (size := 19) (off := o1 + i * 19) hs Tryd.underlying32 (by kernel_rfl) rfl rfl (by omega) (by omega) (by simp)) <| pV rfl (fun a hs => y_loadAgg (vs := [.int .u8 y.f0, .string y.f1, .int .u8 y.f2.f0, .int .i64 y.f2.f1, .string y.f2.f2, .slice A5 y.f2.f3.length c5, .int .i64 y.f2.f4, .int .i64 y.f2.f5, .int .u8 y.f3.f0, .string y.f3.f1, .slice A10 y.f3.f2.length c10, .slice A11 y.f3.f3.length c11, .slice A12 y.f3.f4.length c12, .int .i64 y.f3.f5, .int .i64 y.f3.f6, .int .u8 y.f4, .slice A16 y.f5.length c16, .int .i64 y.f6, .int .i64 y.f7]) hs Tryd.underlying44 rfl (by kernel_rfl) rfl (fun w hw k v hk => hc1 w hw.base k v hk)) <| ?_)); clear hs a; intro a hs
    refine a_eff rfl (e_alloc (z := .agg #[.int .u8 0, .string ⟨#[]⟩, .int .u8 0, .int .i64 0, .string ⟨#[]⟩, .slice none 0 0, .int .i64 0, .int .i64 0, .int .u8 0, .string ⟨#[]⟩, .slice none 0 0, .slice none 0 0, .slice none 0 0, .int .i64 0, .int .i64 0, .int .u8 0, .slice none 0 0, .int .i64 0, .int .i64 0]) (cs := #[.int .u8 0, .string ⟨#[]⟩, .int .u8 0, .int .i64 0, .string ⟨#[]⟩, .slice none 0 0, .int .i64 0, .int .i64 0, .int .u8 0, .string ⟨#[]⟩, .slice none 0 0, .slice none 0 0, .slice none 0 0, .int .i64 0, .int .i64 0, .int .u8 0, .slice none 0 0, .int .i64 0, .int .i64 0]) hs rfl (by kernel_rfl) rfl ?_); clear hs a; intro gx a w hs
    refine a_eff rfl (e_store (cl := [_, _, _, _, _, _, _, _, _, _, _, _, _, _, _, _, _, _, _]) 0 rfl hs rfl rfl (by kernel_rfl) rfl rfl rfl ?_); clear hs a; intro a w hs
    refine wpList_nil (then_normal (wp_seq ?_))
    rcases Nat.lt_or_ge 65536 (jb (toksI y)).size with hbig | hbig
    · have hj : joinF (toksI y) = (⟨#[]⟩, 4) := by rw [join_jb (toksI_may hyG), if_pos hbig]
      refine wp_region_lit (go hs (pV rfl (fun a hs => y_func hs rfl rfl) <| ?_)); clear hs a; intro a hs
      refine a_eff rfl (e_callX Tryd.func30 rfl rfl hs rfl rfl (text_gen 36 _ [.pointer (some ⟨gx, 0, none⟩)] (toksI y) _ v0 _ Tryd.func36 rfl rfl (fun gw w1 h => item_put gw gx y A5 A10 A11 A12 A16 c5 c10 c11 c12 c16 _ v0 w1 ag5 ag10 ag11 ag12 ag16 hyG hyT h) (toksI_may hyG) hyT hP _ hj (((hs.mem.to 2 rfl).to 2 rfl).to 2 rfl)) (fun e w1 ⟨he, hm⟩ => ⟨_, he, _, hm, ?_⟩)); clear hs a; intro a hs
      refine go hs (pM rfl <| pV rfl (fun a hs => y_extract hs rfl rfl) <| pV rfl (fun a hs => y_extract hs rfl rfl) <| pA rfl <| pA rfl <| ?_); clear hs a; intro a hs
      refine wpList_nil (then_normal (wp_seq ?_))
      refine wp_seq (wp_region_lit ?_)
      refine go hs (pM rfl <| pV rfl (fun a hs => y_cmp (b := true) hs rfl rfl (congrArg some (bne_iff_ne.2 (by decide)))) <| ?_); clear hs a; intro a hs
      refine wpList_nil (then_normal ?_)
      refine wp_cond_true (hs.ev rfl) ?_
      refine wp_seq (wp_region_lit ?_)
      refine go hs (pM rfl <| pA rfl <| pA rfl <| ?_); clear hs a; intro a hs
      refine wpList_nil (then_normal (wp_ret (then_ret (in_ret (then_ret (then_ret (in_ret (then_ret ?_))))))))
      have hX : textsI l = (⟨#[]⟩, 4) := by
        have hge := accB_ge (l.drop (i + 1)) (acc ++ lineB y)
        rw [ByteArray.size_append, lineB_size] at hge
        unfold textsI
        rw [h11, ← hinv, hdrop]
        show (if (accB (l.drop (i + 1)) (acc ++ lineB y)).size > 65536 then _ else _) = _
        rw [if_pos (by omega)]
      refine fin_ret hs (.tmp (hs.slots _ _ rfl) (.tmp (hs.slots _ _ rfl) .nil)) ⟨?_, hs.mem.base⟩
      rw [hX]; rfl
    have hj : joinF (toksI y) = (jb (toksI y), 0) := by rw [join_jb (toksI_may hyG), if_neg (by omega)]
    refine wp_region_lit (go hs (pV rfl (fun a hs => y_func hs rfl rfl) <| ?_)); clear hs a; intro a hs
    refine a_eff rfl (e_callX Tryd.func30 rfl rfl hs rfl rfl (text_gen 36 _ [.pointer (some ⟨gx, 0, none⟩)] (toksI y) _ v0 _ Tryd.func36 rfl rfl (fun gw w1 h => item_put gw gx y A5 A10 A11 A12 A16 c5 c10 c11 c12 c16 _ v0 w1 ag5 ag10 ag11 ag12 ag16 hyG hyT h) (toksI_may hyG) hyT hP _ hj (((hs.mem.to 2 rfl).to 2 rfl).to 2 rfl)) (fun e w1 ⟨he, hm⟩ => ⟨_, he, _, hm, ?_⟩)); clear hs a; intro a hs
    refine go hs (pM rfl <| pV rfl (fun a hs => y_extract hs rfl rfl) <| pV rfl (fun a hs => y_extract hs rfl rfl) <| pA rfl <| pA rfl <| ?_); clear hs a; intro a hs
    refine wpList_nil (then_normal (wp_seq ?_))
    refine wp_seq (wp_region_lit ?_)
    refine go hs (pM rfl <| pV rfl (fun a hs => y_cmp (b := false) hs rfl rfl (congrArg some (bne_eq_false_iff_eq.2 (rfl)))) <| ?_); clear hs a; intro a hs
    refine wpList_nil (then_normal ?_)
    refine wp_cond_false (hs.ev rfl) ?_
    refine wp_skip (then_normal (wp_region_lit ?_))
    refine go hs (pM rfl <| ?_); clear hs a; intro a hs
    replace hs := hs.say 26 rfl (show _ = Value.string (jb (toksI y)) from rfl)
    refine go hs (pV rfl (fun a hs => y_sadd hs rfl rfl (by rw [show (⟨#[10]⟩ : ByteArray).size = 1 from rfl]; omega)) <| ?_); clear hs a; intro a hs
    obtain ⟨sl, hsl⟩ : ∃ s, s = lineB y := ⟨_, rfl⟩
    have hsz : sl.size = (jb (toksI y)).size + 1 := by rw [hsl, lineB_size]
    replace hs := hs.say 27 rfl (show _ = Value.string sl from congrArg Value.string hsl.symm)
    refine a_eff rfl (e_callX Tryd.func38 rfl rfl hs rfl rfl (builder_put gb p hp A2 c2 acc sl (by omega) _ v0 _ ((hs.mem.to 2 rfl).to 2 rfl)) (fun e w1 ⟨A3, c3, he, hm⟩ => ⟨_, he, _, hm, ?_⟩)); clear hs a; intro a hs
    refine wpList_nil (in_normal (then_normal (wp_region_lit ?_)))
    refine go hs (pV rfl (fun a hs => y_add hs rfl rfl (by omega)) <| pM rfl <| ?_); clear hs a; intro a hs
    refine wpList_nil (then_normal ?_)
    refine ⟨m - 1, by omega, i + 1, acc ++ sl, some ⟨gb, 0, none⟩, A3, c3, by omega, .inr rfl, by rw [ByteArray.size_append, hsz, Nat.add_mul]; omega, by rw [← hinv, hdrop, hsl]; rfl, ?_⟩
    exact (hs.mem_to (((hs.mem.to 2 rfl).drop.to 1 rfl).to 1 rfl)).cut _ ⟨rfl, rfl, rfl, rfl, trivial⟩
  replace h15 := of_decide_eq_false h15
  refine wp_exit (then_exit (then_exit (in_here (then_normal (wp_seq ?_)))))
  refine wp_seq (wp_region_lit ?_)
  refine a_eff rfl (e_callX Tryd.func39 rfl rfl hs rfl rfl (builder_Len gb _ A2 _ c2 _ v0 _ ((hs.mem.to 1 rfl).to 1 rfl)) (fun e w1 ⟨he, hm⟩ => ⟨_, he, _, hm, ?_⟩)); clear hs a; intro a hs
  refine go hs (pV rfl (fun a hs => y_cmp hs rfl rfl rfl) <| ?_); clear hs a; intro a hs
  refine wpList_nil (then_normal ?_)
  refine wp_cond_split (hs.ev rfl) (fun h31 => ?_) (fun h31 => ?_)
  · replace h31 := of_decide_eq_true h31
    refine wp_seq (wp_region_lit ?_)
    refine go hs (pA rfl <| pA rfl <| ?_); clear hs a; intro a hs
    refine wpList_nil (then_normal (wp_ret (then_ret ?_)))
    have hX : textsI l = (⟨#[]⟩, 4) := by unfold textsI; rw [h11, ← hinv, List.drop_eq_nil_of_le (by omega)]; show (if acc.size > 65536 then _ else _) = _; rw [if_pos (by omega)]
    refine fin_ret hs (.tmp (hs.slots _ _ rfl) (.tmp (hs.slots _ _ rfl) .nil)) ⟨?_, hs.mem.base⟩
    rw [hX]; rfl
  replace h31 := of_decide_eq_false h31
  refine wp_skip (then_normal (wp_seq ?_))
  refine wp_region_lit ?_
  refine a_eff rfl (e_callX Tryd.func40 rfl rfl hs rfl rfl (builder_String gb p hp A2 _ c2 acc rfl _ v0 _ ((hs.mem.to 1 rfl).to 1 rfl)) (fun e w1 ⟨he, hb⟩ => ⟨_, he, [], hs.mem.bare.onBelow hb, ?_⟩)); clear hs a; intro a hs
  refine go hs (pA rfl <| pA rfl <| ?_); clear hs a; intro a hs
  refine wpList_nil (then_normal (wp_ret ?_))
  have hX : textsI l = (acc, 0) := by unfold textsI; rw [h11, ← hinv, List.drop_eq_nil_of_le (by omega)]; show (if acc.size > 65536 then _ else _) = _; rw [if_neg (by omega)]; rfl
  refine fin_ret hs (.tmp (hs.slots _ _ rfl) (.tmp (hs.slots _ _ rfl) .nil)) ⟨?_, hs.mem.base⟩
  rw [hX]; rfl
end Go.Proofs.YtibaidddhmdafaaDoor.E
end
section
namespace Go.Proofs.YtibaidddhmdafaaDoor.E
open Go Go.RowKit Go.Proofs.YtibaidddhmdafaaDoorW.PrintWords Go.Proofs.YtibaidddhmdafaaDoorW.PrintLast Go.Proofs.YtibaidddhmdafaaDoorW.PrintMore Go.Proofs.YtibaidddhmdafaaDoor.PA
set_option linter.unusedVariables false
set_option linter.unusedSimpArgs false
theorem refE_bad {q : Nat} {x : XE} {left : Int} (hN : ¬ exprParts x = some x.f3.length) (h : 0 ≤ left - 1) : refE (q + 1) x left = -1 := by
  unfold refE
  rw [if_pos]
  rw [xexpr, if_neg (by omega)]
  cases hE : exprParts x with
  | none => rfl
  | some p' =>
    show (if _ then _ else _ : Nat × Int).1 = 0
    rw [if_neg (fun h => hN (by rw [hE, h]))]
theorem refE_next {q : Nat} {y : XE} {r : List XE} {lf : Int} {X : Nat × Int} (h : ∃ d, xexprs (xexpr q) (y :: r) d lf = X) : 0 ≤ refE q y lf → ∃ d, xexprs (xexpr q) r d (refE q y lf) = X := by
  intro h0
  obtain ⟨d, hd⟩ := h
  rw [xexprs] at hd
  unfold refE at h0 ⊢
  split at h0
  · omega
  · rename_i h1
    rw [if_neg h1] at hd
    rw [if_neg h1]
    exact ⟨_, hd⟩
theorem refE_stop {q : Nat} {y : XE} {r : List XE} {lf : Int} {X : Nat × Int} (h : ∃ d, xexprs (xexpr q) (y :: r) d lf = X) (hl : 0 ≤ lf) : refE q y lf < 0 → X.1 = 0 ∧ refE q y lf = -1 := by
  intro h0
  obtain ⟨d, hd⟩ := h
  rw [xexprs] at hd
  unfold refE at h0 ⊢
  split at h0
  · rename_i h1
    rw [if_pos h1] at hd
    rw [if_pos h1, ← hd]
    exact ⟨rfl, rfl⟩
  · rename_i h1
    have := (xexpr_left q y lf hl).2.2 h1
    omega
def RefOk (n : Nat) : Prop := ∀ (x : XE) (A : Option Addr) (C : Nat) (left : Int) (v0 : World), Kd.C k25 v0 A x.f3.length x.f3 → smallX n x → 0 ≤ left ∧ left ≤ 8192 →
    Calls Tryd.prog 42 #[.agg #[.int .u8 x.f0, .int .i64 x.f1, .string x.f2, .slice A x.f3.length C, .int .i64 x.f4, .int .i64 x.f5], .int .i64 left, .int .i64 ((n : Nat) : Int)] v0 fun e w' => e = .returned (.int .i64 (refE n x left)) ∧ Below v0.heap.size v0 w'
set_option maxRecDepth 100000 in
theorem ref_expr_step (n : Nat) (hn : n ≤ 1000) (ih : ∀ q, q + 1 = n → RefOk q) (x : XE) (A : Option Addr) (C : Nat) (left : Int) (v0 : World) (hA : Kd.C k25 v0 A x.f3.length x.f3) (hsm : smallX n x) (hl : 0 ≤ left ∧ left ≤ 8192) :
    Calls Tryd.prog 42 #[.agg #[.int .u8 x.f0, .int .i64 x.f1, .string x.f2, .slice A x.f3.length C, .int .i64 x.f4, .int .i64 x.f5], .int .i64 left, .int .i64 ((n : Nat) : Int)] v0 fun e w' => e = .returned (.int .i64 (refE n x left)) ∧ Below v0.heap.size v0 w' := by
  refine calls_enter (N := 93) (n := 90) (args := [.agg #[.int .u8 x.f0, .int .i64 x.f1, .string x.f2, .slice A x.f3.length C, .int .i64 x.f4, .int .i64 x.f5], .int .i64 left, .int .i64 ((n : Nat) : Int)]) Tryd.func42 rfl rfl rfl (H.init v0) (fun a hs => ?_)
  have hcl := C_len hA
  refine wp_seq (wp_region_lit ?_)
  refine a_eff rfl (e_box (cs := #[_, _, _, _, _, _]) hs rfl rfl rfl ?_); clear hs a; intro gx a w hs
  refine go hs (pA rfl <| ?_); clear hs a; intro a hs
  refine wpList_nil (then_normal (wp_seq ?_))
  refine wp_region_lit (go hs (pM rfl <| pV rfl (fun a hs => y_sub hs rfl rfl (by omega)) <| pA rfl <| ?_)); clear hs a; intro a hs
  refine wpList_nil (then_normal (wp_seq ?_))
  refine wp_seq (wp_region_lit ?_)
  refine go hs (pM rfl <| pV rfl (fun a hs => y_cmp hs rfl rfl rfl) <| pM rfl <| ?_); clear hs a; intro a hs
  rcases hs.know (d := 13) rfl with ⟨h13, hs1⟩ | ⟨h13, hs1⟩ <;> replace hs := hs1 <;> clear hs1
  · replace h13 := of_decide_eq_true h13
    refine go hs (pS rfl <| pS rfl <| pT rfl rfl <| ?_); clear hs a; intro a hs
    refine wpList_nil (then_normal ?_)
    refine wp_cond_true (hs.ev rfl) ?_
    refine wp_seq (wp_region_lit ?_)
    refine go hs (pA rfl <| ?_); clear hs a; intro a hs
    refine wpList_nil (then_normal (wp_ret (then_ret ?_)))
    have hX : refE n x left = -1 := by
      unfold refE
      rw [if_pos]
      cases n with
      | zero => rfl
      | succ q => rw [xexpr, if_pos (by omega)]
    refine fin_ret hs (.tmp (hs.slots _ _ rfl) .nil) ⟨?_, hs.mem.base⟩
    rw [hX]; rfl
  replace h13 := of_decide_eq_false h13
  refine go hs (pG rfl (fun a hs => y_move hs rfl) <| pG rfl (fun a hs => y_cmp hs rfl rfl rfl) <| pF rfl rfl <| ?_); clear hs a; intro a hs
  refine wpList_nil (then_normal ?_)
  refine wp_cond_split (hs.ev rfl) (fun h16 => ?_) (fun h16 => ?_)
  · replace h16 := eq_of_beq h16
    refine wp_seq (wp_region_lit ?_)
    refine go hs (pA rfl <| ?_); clear hs a; intro a hs
    refine wpList_nil (then_normal (wp_ret (then_ret ?_)))
    have hX : refE n x left = -1 := by
      unfold refE
      rw [if_pos]
      cases n with
      | zero => rfl
      | succ q => rw [xexpr, if_pos (by omega)]
    refine fin_ret hs (.tmp (hs.slots _ _ rfl) .nil) ⟨?_, hs.mem.base⟩
    rw [hX]; rfl
  replace h16 := ne_of_beq_false h16
  obtain ⟨q, rfl⟩ : ∃ q, n = q + 1 := ⟨n - 1, by omega⟩
  refine wp_skip (then_normal (wp_seq ?_))
  refine wp_region_lit (go hs (pA rfl <| ?_)); clear hs a; intro a hs
  refine wpList_nil (then_normal ?_)
  refine wp_seq_cut (fun a w1 => ∃ (p : Nat), (p = 0 ∧ exprParts x = some 0 ∨ p = 1 ∧ x.f0 = 3 ∨ p = 2 ∧ 4 ≤ x.f0 ∧ x.f0 ≤ 8) ∧ St 93 v0 [(1, .int .i64 (left - 1)), (2, .int .i64 ((q + 1 : Nat) : Int)), (3, .pointer (some ⟨gx, 0, none⟩)), (7, .int .i64 ((p : Nat) : Int))] [pt gx #[.int .u8 x.f0, .int .i64 x.f1, .string x.f2, .slice A x.f3.length C, .int .i64 x.f4, .int .i64 x.f5] 25] a w1) ?_ (fun a w1 hJ => ?_)
  · refine wp_seq (wp_region_lit ?_)
    refine go hs (pV rfl (fun a hs => y_faddr (k' := 0) 0 hs (by kernel_rfl) rfl rfl) <| pV rfl (fun a hs => y_load hs Tryd.underlying22 rfl rfl (fun w hw => (hw.to 0 rfl).cellV rfl)) <| ?_); clear hs a; intro a hs
    refine wpList_nil (then_normal (wp_block ?_))
    refine wp_seq (wp_region_lit ?_)
    refine go hs (pV rfl (fun a hs => y_cmp hs rfl rfl rfl) <| pA rfl <| ?_); clear hs a; intro a hs
    refine wpList_nil (then_normal ?_)
    refine wp_cond_split (hs.ev rfl) (fun h19 => ?_) (fun h19 => ?_)
    · replace h19 := eq_of_beq h19
      refine wp_seq (wp_region_lit ?_)
      refine go hs (pV rfl (fun a hs => y_faddr (k' := 1) 1 hs (by kernel_rfl) rfl rfl) <| pV rfl (fun a hs => y_load hs Tryd.underlying3 rfl rfl (fun w hw => (hw.to 0 rfl).cellV rfl)) <| pV rfl (fun a hs => y_cmp hs rfl rfl rfl) <| pM rfl <| ?_); clear hs a; intro a hs
      rcases hs.know (d := 24) rfl with ⟨h24, hs1⟩ | ⟨h24, hs1⟩ <;> replace hs := hs1 <;> clear hs1
      · replace h24 := of_decide_eq_true h24
        refine go hs (pS rfl <| pS rfl <| pS rfl <| pT rfl rfl <| pM rfl <| pS rfl <| pS rfl <| pS rfl <| pT rfl rfl <| ?_); clear hs a; intro a hs
        refine wpList_nil (then_normal ?_)
        refine wp_cond_true (hs.ev rfl) ?_
        refine wp_seq (wp_region_lit ?_)
        refine go hs (pA rfl <| ?_); clear hs a; intro a hs
        refine wpList_nil (then_normal (wp_ret (in_ret (then_ret ?_))))
        have hE : exprParts x = none := by
          clear hs
          unfold exprParts
          repeat' split
          all_goals first | rfl | (exfalso; omega) | (rename_i hc; exfalso; omega) | (rename_i hc; exact absurd hc.2 (by assumption)) | (rename_i hc; rw [hc.2] at h44; cases h44)
        have hX : refE (q + 1) x left = -1 := refE_bad (by rw [hE]; exact fun h => by cases h) (by omega)
        refine fin_ret hs (.tmp (hs.slots _ _ rfl) .nil) ⟨?_, hs.mem.base⟩
        rw [hX]; rfl
      replace h24 := of_decide_eq_false h24
      refine go hs (pG rfl (fun a hs => y_faddr (k' := 1) 1 hs (by kernel_rfl) rfl rfl) <| pG rfl (fun a hs => y_load hs Tryd.underlying3 rfl rfl (fun w hw => (hw.to 0 rfl).cellV rfl)) <| pG rfl (fun a hs => y_cmp hs rfl rfl rfl) <| pF rfl rfl <| pM rfl <| ?_); clear hs a; intro a hs
      rcases hs.know (d := 29) rfl with ⟨h29, hs1⟩ | ⟨h29, hs1⟩ <;> replace hs := hs1 <;> clear hs1
      · replace h29 := of_decide_eq_true h29
        refine go hs (pS rfl <| pS rfl <| pS rfl <| pT rfl rfl <| ?_); clear hs a; intro a hs
        refine wpList_nil (then_normal ?_)
        refine wp_cond_true (hs.ev rfl) ?_
        refine wp_seq (wp_region_lit ?_)
        refine go hs (pA rfl <| ?_); clear hs a; intro a hs
        refine wpList_nil (then_normal (wp_ret (in_ret (then_ret ?_))))
        have hE : exprParts x = none := by
          clear hs
          unfold exprParts
          repeat' split
          all_goals first | rfl | (exfalso; omega) | (rename_i hc; exfalso; omega) | (rename_i hc; exact absurd hc.2 (by assumption)) | (rename_i hc; rw [hc.2] at h44; cases h44)
        have hX : refE (q + 1) x left = -1 := refE_bad (by rw [hE]; exact fun h => by cases h) (by omega)
        refine fin_ret hs (.tmp (hs.slots _ _ rfl) .nil) ⟨?_, hs.mem.base⟩
        rw [hX]; rfl
      replace h29 := of_decide_eq_false h29
      refine go hs (pG rfl (fun a hs => y_faddr (k' := 2) 2 hs (by kernel_rfl) rfl rfl) <| pG rfl (fun a hs => y_load hs Tryd.underlying9 rfl rfl (fun w hw => (hw.to 0 rfl).cellV rfl)) <| pG rfl (fun a hs => y_sneE hs rfl rfl) <| pF rfl rfl <| ?_); clear hs a; intro a hs
      refine wpList_nil (then_normal ?_)
      refine wp_cond_split (hs.ev rfl) (fun h33 => ?_) (fun h33 => ?_)
      · replace h33 := of_decide_eq_true h33
        refine wp_seq (wp_region_lit ?_)
        refine go hs (pA rfl <| ?_); clear hs a; intro a hs
        refine wpList_nil (then_normal (wp_ret (in_ret (then_ret ?_))))
        have hE : exprParts x = none := by
          clear hs
          unfold exprParts
          repeat' split
          all_goals first | rfl | (exfalso; omega) | (rename_i hc; exfalso; omega) | (rename_i hc; exact absurd hc.2 (by assumption)) | (rename_i hc; rw [hc.2] at h44; cases h44)
        have hX : refE (q + 1) x left = -1 := refE_bad (by rw [hE]; exact fun h => by cases h) (by omega)
        refine fin_ret hs (.tmp (hs.slots _ _ rfl) .nil) ⟨?_, hs.mem.base⟩
        rw [hX]; rfl
      replace h33 := of_decide_eq_false h33
      refine wp_skip (in_normal (then_normal ?_))
      refine ⟨0, .inl ⟨rfl, (by clear hs; unfold exprParts; (repeat' split) <;> first | rfl | (exfalso; omega) | (rename_i hc; exfalso; omega) | (rename_i hc; exact absurd ⟨by omega, by assumption⟩ hc))⟩, ?_⟩
      exact (hs.mem_to hs.mem).cut _ ⟨rfl, rfl, rfl, rfl, trivial⟩
    replace h19 := ne_of_beq_false h19
    refine wp_seq (wp_region_lit ?_)
    refine go hs (pV rfl (fun a hs => y_cmp hs rfl rfl rfl) <| pA rfl <| ?_); clear hs a; intro a hs
    refine wpList_nil (then_normal ?_)
    refine wp_cond_split (hs.ev rfl) (fun h34 => ?_) (fun h34 => ?_)
    · replace h34 := eq_of_beq h34
      refine wp_seq (wp_region_lit ?_)
      refine go hs (pV rfl (fun a hs => y_faddr (k' := 1) 1 hs (by kernel_rfl) rfl rfl) <| pV rfl (fun a hs => y_load hs Tryd.underlying3 rfl rfl (fun w hw => (hw.to 0 rfl).cellV rfl)) <| pV rfl (fun a hs => y_cmp hs rfl rfl rfl) <| pM rfl <| ?_); clear hs a; intro a hs
      rcases hs.know (d := 39) rfl with ⟨h39, hs1⟩ | ⟨h39, hs1⟩ <;> replace hs := hs1 <;> clear hs1
      · replace h39 := bne_iff_ne.1 h39
        refine go hs (pS rfl <| pS rfl <| pS rfl <| pS rfl <| pT rfl rfl <| ?_); clear hs a; intro a hs
        refine wpList_nil (then_normal ?_)
        refine wp_cond_true (hs.ev rfl) ?_
        refine wp_seq (wp_region_lit ?_)
        refine go hs (pA rfl <| ?_); clear hs a; intro a hs
        refine wpList_nil (then_normal (wp_ret (in_ret (then_ret ?_))))
        have hE : exprParts x = none := by
          clear hs
          unfold exprParts
          repeat' split
          all_goals first | rfl | (exfalso; omega) | (rename_i hc; exfalso; omega) | (rename_i hc; exact absurd hc.2 (by assumption)) | (rename_i hc; rw [hc.2] at h44; cases h44)
        have hX : refE (q + 1) x left = -1 := refE_bad (by rw [hE]; exact fun h => by cases h) (by omega)
        refine fin_ret hs (.tmp (hs.slots _ _ rfl) .nil) ⟨?_, hs.mem.base⟩
        rw [hX]; rfl
      replace h39 := bne_eq_false_iff_eq.1 h39
      refine go hs (pG rfl (fun a hs => y_faddr (k' := 2) 2 hs (by kernel_rfl) rfl rfl) <| pG rfl (fun a hs => y_load hs Tryd.underlying9 rfl rfl (fun w hw => (hw.to 0 rfl).cellV rfl)) <| ?_); clear hs a; intro a hs
      refine a_effG hs rfl (e_callB Tryd.func70 rfl rfl hs rfl rfl (recoupref09_Name.calls _ x.f2 (nameOk x.f2) _ (refName x.f2 hsm.1)) ?_); clear hs a; intro a w hs
      refine go hs (pG rfl (fun a hs => y_not hs rfl) <| pF rfl rfl <| ?_); clear hs a; intro a hs
      refine wpList_nil (then_normal ?_)
      refine wp_cond_split (hs.ev rfl) (fun h44 => ?_) (fun h44 => ?_)
      · replace h44 := (not_t h44)
        refine wp_seq (wp_region_lit ?_)
        refine go hs (pA rfl <| ?_); clear hs a; intro a hs
        refine wpList_nil (then_normal (wp_ret (in_ret (then_ret ?_))))
        have hE : exprParts x = none := by
          clear hs
          unfold exprParts
          repeat' split
          all_goals first | rfl | (exfalso; omega) | (rename_i hc; exfalso; omega) | (rename_i hc; exact absurd hc.2 (by assumption)) | (rename_i hc; rw [hc.2] at h44; cases h44)
        have hX : refE (q + 1) x left = -1 := refE_bad (by rw [hE]; exact fun h => by cases h) (by omega)
        refine fin_ret hs (.tmp (hs.slots _ _ rfl) .nil) ⟨?_, hs.mem.base⟩
        rw [hX]; rfl
      replace h44 := (not_f h44)
      refine wp_skip (in_normal (then_normal ?_))
      refine ⟨0, .inl ⟨rfl, (by clear hs; unfold exprParts; (repeat' split) <;> first | rfl | (exfalso; omega) | (rename_i hc; exfalso; omega) | (rename_i hc; exact absurd ⟨by omega, by assumption⟩ hc))⟩, ?_⟩
      exact (hs.mem_to hs.mem).cut _ ⟨rfl, rfl, rfl, rfl, trivial⟩
    replace h34 := ne_of_beq_false h34
    refine wp_seq (wp_region_lit ?_)
    refine go hs (pV rfl (fun a hs => y_cmp hs rfl rfl rfl) <| pA rfl <| ?_); clear hs a; intro a hs
    refine wpList_nil (then_normal ?_)
    refine wp_cond_split (hs.ev rfl) (fun h45 => ?_) (fun h45 => ?_)
    · replace h45 := eq_of_beq h45
      refine wp_region_lit (go hs (pA rfl <| ?_)); clear hs a; intro a hs
      refine wpList_nil (in_normal (then_normal ?_))
      refine ⟨1, .inr (.inl ⟨rfl, by omega⟩), ?_⟩
      exact (hs.mem_to hs.mem).cut _ ⟨rfl, rfl, rfl, rfl, trivial⟩
    replace h45 := ne_of_beq_false h45
    refine wp_seq (wp_seq ?_)
    refine wp_region_lit (go hs (pV rfl (fun a hs => y_cmp hs rfl rfl rfl) <| pA rfl <| ?_)); clear hs a; intro a hs
    refine wpList_nil (then_normal ?_)
    refine wp_cond_split (hs.ev rfl) (fun h47 => ?_) (fun h47 => ?_)
    · replace h47 := eq_of_beq h47
      replace hs := hs.say 47 rfl (congrArg Value.bool (beq_iff_eq.2 h47))
      refine wp_skip (then_normal ?_)
      refine wp_cond_true (hs.ev rfl) ?_
      refine wp_region_lit (go hs (pA rfl <| ?_)); clear hs a; intro a hs
      refine wpList_nil (in_normal (then_normal ?_))
      refine ⟨2, .inr (.inr ⟨rfl, by omega, by omega⟩), ?_⟩
      exact (hs.mem_to hs.mem).cut _ ⟨rfl, rfl, rfl, rfl, trivial⟩
    replace h47 := ne_of_beq_false h47
    replace hs := hs.say 47 rfl (congrArg Value.bool (beq_eq_false_iff_ne.2 h47))
    refine wp_seq (wp_region_lit ?_)
    refine go hs (pV rfl (fun a hs => y_cmp hs rfl rfl rfl) <| pA rfl <| ?_); clear hs a; intro a hs
    refine wpList_nil (then_normal ?_)
    refine wp_cond_split (hs.ev rfl) (fun h47 => ?_) (fun h47 => ?_)
    · replace h47 := eq_of_beq h47
      replace hs := hs.say 47 rfl (congrArg Value.bool (beq_iff_eq.2 h47))
      refine wp_skip (then_normal ?_)
      refine wp_cond_true (hs.ev rfl) ?_
      refine wp_region_lit (go hs (pA rfl <| ?_)); clear hs a; intro a hs
      refine wpList_nil (in_normal (then_normal ?_))
      refine ⟨2, .inr (.inr ⟨rfl, by omega, by omega⟩), ?_⟩
      exact (hs.mem_to hs.mem).cut _ ⟨rfl, rfl, rfl, rfl, trivial⟩
    replace h47 := ne_of_beq_false h47
    replace hs := hs.say 47 rfl (congrArg Value.bool (beq_eq_false_iff_ne.2 h47))
    refine wp_seq (wp_region_lit ?_)
    refine go hs (pV rfl (fun a hs => y_cmp hs rfl rfl rfl) <| pA rfl <| ?_); clear hs a; intro a hs
    refine wpList_nil (then_normal ?_)
    refine wp_cond_split (hs.ev rfl) (fun h47 => ?_) (fun h47 => ?_)
    · replace h47 := eq_of_beq h47
      replace hs := hs.say 47 rfl (congrArg Value.bool (beq_iff_eq.2 h47))
      refine wp_skip (then_normal ?_)
      refine wp_cond_true (hs.ev rfl) ?_
      refine wp_region_lit (go hs (pA rfl <| ?_)); clear hs a; intro a hs
      refine wpList_nil (in_normal (then_normal ?_))
      refine ⟨2, .inr (.inr ⟨rfl, by omega, by omega⟩), ?_⟩
      exact (hs.mem_to hs.mem).cut _ ⟨rfl, rfl, rfl, rfl, trivial⟩
    replace h47 := ne_of_beq_false h47
    replace hs := hs.say 47 rfl (congrArg Value.bool (beq_eq_false_iff_ne.2 h47))
    refine wp_seq (wp_region_lit ?_)
    refine go hs (pV rfl (fun a hs => y_cmp hs rfl rfl rfl) <| pA rfl <| ?_); clear hs a; intro a hs
    refine wpList_nil (then_normal ?_)
    refine wp_cond_split (hs.ev rfl) (fun h47 => ?_) (fun h47 => ?_)
    · replace h47 := eq_of_beq h47
      replace hs := hs.say 47 rfl (congrArg Value.bool (beq_iff_eq.2 h47))
      refine wp_skip (then_normal ?_)
      refine wp_cond_true (hs.ev rfl) ?_
      refine wp_region_lit (go hs (pA rfl <| ?_)); clear hs a; intro a hs
      refine wpList_nil (in_normal (then_normal ?_))
      refine ⟨2, .inr (.inr ⟨rfl, by omega, by omega⟩), ?_⟩
      exact (hs.mem_to hs.mem).cut _ ⟨rfl, rfl, rfl, rfl, trivial⟩
    replace h47 := ne_of_beq_false h47
    replace hs := hs.say 47 rfl (congrArg Value.bool (beq_eq_false_iff_ne.2 h47))
    refine wp_region_lit (go hs (pV rfl (fun a hs => y_cmp hs rfl rfl rfl) <| pA rfl <| ?_)); clear hs a; intro a hs
    refine wpList_nil (then_normal ?_)
    refine wp_cond_split (hs.ev rfl) (fun h47 => ?_) (fun h47 => ?_)
    · replace h47 := eq_of_beq h47
      replace hs := hs.say 47 rfl (congrArg Value.bool (beq_iff_eq.2 h47))
      refine wp_region_lit (go hs (pA rfl <| ?_)); clear hs a; intro a hs
      refine wpList_nil (in_normal (then_normal ?_))
      refine ⟨2, .inr (.inr ⟨rfl, by omega, by omega⟩), ?_⟩
      exact (hs.mem_to hs.mem).cut _ ⟨rfl, rfl, rfl, rfl, trivial⟩
    replace h47 := ne_of_beq_false h47
    replace hs := hs.say 47 rfl (congrArg Value.bool (beq_eq_false_iff_ne.2 h47))
    refine wp_seq (wp_region_lit ?_)
    refine go hs (pA rfl <| ?_); clear hs a; intro a hs
    refine wpList_nil (then_normal (wp_ret (in_ret (then_ret ?_))))
    have hE : exprParts x = none := by
      clear hs
      unfold exprParts
      repeat' split
      all_goals first | rfl | (exfalso; omega) | (rename_i hc; exfalso; omega) | (rename_i hc; exact absurd hc.2 (by assumption)) | (rename_i hc; rw [hc.2] at h44; cases h44)
    have hX : refE (q + 1) x left = -1 := refE_bad (by rw [hE]; exact fun h => by cases h) (by omega)
    refine fin_ret hs (.tmp (hs.slots _ _ rfl) .nil) ⟨?_, hs.mem.base⟩
    rw [hX]; rfl
  clear hs
  obtain ⟨p, hp, hs⟩ := hJ
  refine wp_seq (wp_seq ?_)
  refine wp_region_lit (go hs (pV rfl (fun a hs => y_faddr (k' := 3) 3 hs (by kernel_rfl) rfl rfl) <| pV rfl (fun a hs => y_load hs Tryd.underlying23 rfl rfl (fun w hw => (hw.to 0 rfl).cellV rfl)) <| pV rfl (fun a hs => y_lenL hs Tryd.underlying23 rfl) <| pM rfl <| pV rfl (fun a hs => y_cmp hs rfl rfl rfl) <| pM rfl <| ?_)); clear hs a; intro a hs
  rcases hs.know (d := 58) rfl with ⟨h58, hs1⟩ | ⟨h58, hs1⟩ <;> replace hs := hs1 <;> clear hs1
  · replace h58 := bne_iff_ne.1 h58
    refine go hs (pS rfl <| pS rfl <| pS rfl <| pS rfl <| pS rfl <| pS rfl <| pS rfl <| pS rfl <| pS rfl <| pS rfl <| pS rfl <| pS rfl <| pT rfl rfl <| ?_); clear hs a; intro a hs
    refine wpList_nil (then_normal ?_)
    refine wp_cond_true (hs.ev rfl) ?_
    refine wp_seq (wp_region_lit ?_)
    refine go hs (pA rfl <| ?_); clear hs a; intro a hs
    refine wpList_nil (then_normal (wp_ret (then_ret ?_)))
    have hN : ¬ exprParts x = some x.f3.length := by
      clear hs
      intro h
      rcases hp with ⟨rfl, hp⟩ | ⟨rfl, hp⟩ | ⟨rfl, hp, hp'⟩
      · rw [hp] at h; have h' := Option.some.inj h; omega
      · unfold exprParts at h; rw [if_neg (by omega), if_neg (by omega), if_pos hp] at h; split at h
        · have h' := Option.some.inj h; omega
        cases h
      unfold exprParts at h; rw [if_neg (by omega), if_neg (by omega), if_neg (by omega), if_pos ⟨hp, hp'⟩] at h; split at h
      · have h' := Option.some.inj h; omega
      cases h
    have hX : refE (q + 1) x left = -1 := refE_bad hN (by omega)
    refine fin_ret hs (.tmp (hs.slots _ _ rfl) .nil) ⟨?_, hs.mem.base⟩
    rw [hX]; rfl
  replace h58 := bne_eq_false_iff_eq.1 h58
  refine go hs (pG rfl (fun a hs => y_move hs rfl) <| pG rfl (fun a hs => y_cmp hs rfl rfl rfl) <| pG rfl (fun a hs => y_move hs rfl) <| ?_); clear hs a; intro a hs
  rcases hs.know (d := 61) rfl with ⟨h61, hs1⟩ | ⟨h61, hs1⟩ <;> replace hs := hs1 <;> clear hs1
  · replace h61 := of_decide_eq_true h61
    refine go hs (pG rfl (fun a hs => y_faddr (k' := 1) 1 hs (by kernel_rfl) rfl rfl) <| pG rfl (fun a hs => y_load hs Tryd.underlying3 rfl rfl (fun w hw => (hw.to 0 rfl).cellV rfl)) <| pG rfl (fun a hs => y_cmp hs rfl rfl rfl) <| pG rfl (fun a hs => y_move hs rfl) <| ?_); clear hs a; intro a hs
    rcases hs.know (d := 65) rfl with ⟨h65, hs1⟩ | ⟨h65, hs1⟩ <;> replace hs := hs1 <;> clear hs1
    · replace h65 := bne_iff_ne.1 h65
      refine go hs (pS rfl <| pS rfl <| pS rfl <| pG rfl (fun a hs => y_pickT hs rfl rfl rfl) <| pG rfl (fun a hs => y_pickT hs rfl rfl rfl) <| pF rfl rfl <| ?_); clear hs a; intro a hs
      refine wpList_nil (then_normal ?_)
      refine wp_cond_true (hs.ev rfl) ?_
      refine wp_seq (wp_region_lit ?_)
      refine go hs (pA rfl <| ?_); clear hs a; intro a hs
      refine wpList_nil (then_normal (wp_ret (then_ret ?_)))
      have hN : ¬ exprParts x = some x.f3.length := by
        clear hs
        intro h
        rcases hp with ⟨rfl, hp⟩ | ⟨rfl, hp⟩ | ⟨rfl, hp, hp'⟩
        · rw [hp] at h; have h' := Option.some.inj h; omega
        · unfold exprParts at h; rw [if_neg (by omega), if_neg (by omega), if_pos hp] at h; split at h
          · have h' := Option.some.inj h; omega
          cases h
        unfold exprParts at h; rw [if_neg (by omega), if_neg (by omega), if_neg (by omega), if_pos ⟨hp, hp'⟩] at h; split at h
        · have h' := Option.some.inj h; omega
        cases h
      have hX : refE (q + 1) x left = -1 := refE_bad hN (by omega)
      refine fin_ret hs (.tmp (hs.slots _ _ rfl) .nil) ⟨?_, hs.mem.base⟩
      rw [hX]; rfl
    replace h65 := bne_eq_false_iff_eq.1 h65
    refine go hs (pG rfl (fun a hs => y_faddr (k' := 2) 2 hs (by kernel_rfl) rfl rfl) <| pG rfl (fun a hs => y_load hs Tryd.underlying9 rfl rfl (fun w hw => (hw.to 0 rfl).cellV rfl)) <| pG rfl (fun a hs => y_sneE hs rfl rfl) <| pG rfl (fun a hs => y_pickF hs rfl rfl rfl) <| pG rfl (fun a hs => y_pickT hs rfl rfl rfl) <| pF rfl rfl <| ?_); clear hs a; intro a hs
    refine wpList_nil (then_normal ?_)
    refine wp_cond_split (hs.ev rfl) (fun h71 => ?_) (fun h71 => ?_)
    · replace h71 := of_decide_eq_true h71
      refine wp_seq (wp_region_lit ?_)
      refine go hs (pA rfl <| ?_); clear hs a; intro a hs
      refine wpList_nil (then_normal (wp_ret (then_ret ?_)))
      have hN : ¬ exprParts x = some x.f3.length := by
        clear hs
        intro h
        rcases hp with ⟨rfl, hp⟩ | ⟨rfl, hp⟩ | ⟨rfl, hp, hp'⟩
        · rw [hp] at h; have h' := Option.some.inj h; omega
        · unfold exprParts at h; rw [if_neg (by omega), if_neg (by omega), if_pos hp] at h; split at h
          · have h' := Option.some.inj h; omega
          cases h
        unfold exprParts at h; rw [if_neg (by omega), if_neg (by omega), if_neg (by omega), if_pos ⟨hp, hp'⟩] at h; split at h
        · have h' := Option.some.inj h; omega
        cases h
      have hX : refE (q + 1) x left = -1 := refE_bad hN (by omega)
      refine fin_ret hs (.tmp (hs.slots _ _ rfl) .nil) ⟨?_, hs.mem.base⟩
      rw [hX]; rfl
    replace h71 := of_decide_eq_false h71
    refine wp_skip (then_normal (wp_seq ?_))
    refine wp_seq (wp_region_lit ?_)
    refine go hs (pA rfl <| ?_); clear hs a; intro a hs
    refine wpList_nil (then_normal (wp_block ?_))
    have hL : x.f3.length = p ∧ (0 < p → x.f1 = 0 ∧ x.f2.size = 0) := by constructor <;> omega
    refine wp_loopN (fun m a w1 => ∃ (i : Nat) (lf : Int), (i + m = x.f3.length) ∧ (-1 ≤ lf ∧ lf ≤ 8192) ∧ (0 ≤ lf → ∃ d, xexprs (xexpr q) (x.f3.drop i) d lf = xexprs (xexpr q) x.f3 0 (left - 1)) ∧ (lf < 0 → (xexprs (xexpr q) x.f3 0 (left - 1)).1 = 0 ∧ lf = -1) ∧ St 93 v0 [(1, .int .i64 lf), (2, .int .i64 ((q + 1 : Nat) : Int)), (3, .pointer (some ⟨gx, 0, none⟩)), (8, .int .i64 ((i : Nat) : Int))] [pt gx #[.int .u8 x.f0, .int .i64 x.f1, .string x.f2, .slice A x.f3.length C, .int .i64 x.f4, .int .i64 x.f5] 25] a w1) (x.f3.length) ⟨0, left - 1, by omega, by omega, fun _ => ⟨0, rfl⟩, fun h => by omega, ?_⟩ (fun m a w1 hJ => ?_)
    · exact (hs.mem_to hs.mem).cut _ ⟨rfl, rfl, rfl, rfl, trivial⟩
    clear hs
    obtain ⟨i, lf, hi, hlf, hinv, hneg, hs⟩ := hJ
    refine wp_seq (wp_seq ?_)
    refine wp_region_lit (go hs (pM rfl <| pV rfl (fun a hs => y_faddr (k' := 3) 3 hs (by kernel_rfl) rfl rfl) <| pV rfl (fun a hs => y_load hs Tryd.underlying23 rfl rfl (fun w hw => (hw.to 0 rfl).cellV rfl)) <| pV rfl (fun a hs => y_lenL hs Tryd.underlying23 rfl) <| pV rfl (fun a hs => y_cmp hs rfl rfl rfl) <| pM rfl <| ?_)); clear hs a; intro a hs
    rcases hs.know (d := 77) rfl with ⟨h77, hs1⟩ | ⟨h77, hs1⟩ <;> replace hs := hs1 <;> clear hs1
    · replace h77 := of_decide_eq_true h77
      refine go hs (pG rfl (fun a hs => y_move hs rfl) <| pG rfl (fun a hs => y_cmp hs rfl rfl rfl) <| pT rfl rfl <| ?_); clear hs a; intro a hs
      refine wpList_nil (then_normal ?_)
      refine wp_cond_split (hs.ev rfl) (fun h80 => ?_) (fun h80 => ?_)
      · replace h80 := of_decide_eq_true h80
        obtain ⟨y, hy⟩ : ∃ y, x.f3[i]? = some y := ⟨_, List.getElem?_eq_getElem (by omega)⟩
        obtain ⟨g0, o, rfl, hcell⟩ := C_atG (show 0 < 6 by decide) hA (by omega)
        obtain ⟨cs, hK, hc⟩ := hcell i y hy
        obtain ⟨A0, c0, rfl, hlc, hC⟩ := k25_open hK
        have hdrop : x.f3.drop i = y :: x.f3.drop (i + 1) := by
          rw [List.drop_eq_getElem_cons (by omega)]
          rw [List.getElem?_eq_getElem (by omega)] at hy
          injection hy with hy
          rw [hy]
        rw [hdrop] at hinv
        refine wp_skip (then_normal (wp_seq ?_))
        refine wp_block (wp_region_lit ?_)
        refine go hs (pV rfl (fun a hs => y_faddr (k' := 3) 3 hs (by kernel_rfl) rfl rfl) <| pV rfl (fun a hs => y_load hs Tryd.underlying23 rfl rfl (fun w hw => (hw.to 0 rfl).cellV rfl)) <| pM rfl <| pV rfl (fun a hs => y_idxB (size := 6) (off := o + i * 6) hs Tryd.underlying23 (by kernel_rfl) rfl rfl (by omega) (by omega) (by simp)) <| pV rfl (fun a hs => y_loadAgg (vs := [.int .u8 y.f0, .int .i64 y.f1, .string y.f2, .slice A0 y.f3.length c0, .int .i64 y.f4, .int .i64 y.f5]) hs Tryd.underlying25 rfl (by kernel_rfl) rfl (fun w hw k v hk => hc w hw.base k v hk)) <| pM rfl <| pM rfl <| pV rfl (fun a hs => y_sub hs rfl rfl (by omega)) <| ?_); clear hs a; intro a hs
        replace hs := hs.say 90 rfl (congrArg (Value.int IntKind.i64) (show (((q + 1 : Nat) : Int) - 1) = ((q : Nat) : Int) by omega))
        have hrb := refE_bounds q y lf (by omega)
        refine a_eff rfl (e_callB Tryd.func42 rfl rfl hs rfl rfl (ih q rfl y A0 c0 lf _ (Kd.C_below hC hs.mem.base) (hsm.2 y (List.mem_of_getElem? hy)) (by omega)) ?_); clear hs a; intro a w hs
        refine go hs (pA rfl <| ?_); clear hs a; intro a hs
        refine wpList_nil (in_normal (then_normal (wp_region_lit ?_)))
        refine go hs (pM rfl <| pV rfl (fun a hs => y_add hs rfl rfl (by omega)) <| pA rfl <| ?_); clear hs a; intro a hs
        refine wpList_nil (then_normal ?_)
        refine ⟨m - 1, by omega, i + 1, refE q y lf, by omega, by omega, refE_next (hinv (by omega)), refE_stop (hinv (by omega)) (by omega), ?_⟩
        exact (hs.mem_to hs.mem).cut _ ⟨rfl, rfl, rfl, rfl, trivial⟩
      replace h80 := of_decide_eq_false h80
      refine wp_exit (then_exit (then_exit (in_here (then_normal (wp_seq ?_)))))
      refine wp_region_lit (go hs (pM rfl <| pA rfl <| ?_)); clear hs a; intro a hs
      refine wpList_nil (then_normal (wp_ret ?_))
      have hE : exprParts x = some x.f3.length := by
        clear hs hinv hneg
        rcases hp with ⟨rfl, hp⟩ | ⟨rfl, hp⟩ | ⟨rfl, hp, hp'⟩
        · rw [hp, hL.1]
        · unfold exprParts; rw [if_neg (by omega), if_neg (by omega), if_pos hp, if_pos (hL.2 (by decide)), hL.1]
        unfold exprParts; rw [if_neg (by omega), if_neg (by omega), if_neg (by omega), if_pos ⟨hp, hp'⟩, if_pos (hL.2 (by decide)), hL.1]
      have hX : refE (q + 1) x left = lf := by
        have h1 : xexpr (q + 1) x left = xexprs (xexpr q) x.f3 0 (left - 1) := by rw [xexpr, if_neg (by omega), hE]; show (if _ then _ else _) = _; rw [if_pos rfl]
        unfold refE
        rw [h1]
        by_cases h0 : 0 ≤ lf
        · obtain ⟨d, hd⟩ := hinv h0
          rw [List.drop_eq_nil_of_le (by omega), xexprs] at hd
          rw [← hd, if_neg (by show ¬ d + 1 = 0; omega)]
        rw [if_pos (hneg (by omega)).1, (hneg (by omega)).2]
      refine fin_ret hs (.tmp (hs.slots _ _ rfl) .nil) ⟨?_, hs.mem.base⟩
      rw [hX]; rfl
    replace h77 := of_decide_eq_false h77
    refine go hs (pS rfl <| pS rfl <| pF rfl rfl <| ?_); clear hs a; intro a hs
    refine wpList_nil (then_normal ?_)
    refine wp_cond_false (hs.ev rfl) ?_
    refine wp_exit (then_exit (then_exit (in_here (then_normal (wp_seq ?_)))))
    refine wp_region_lit (go hs (pM rfl <| pA rfl <| ?_)); clear hs a; intro a hs
    refine wpList_nil (then_normal (wp_ret ?_))
    have hE : exprParts x = some x.f3.length := by
      clear hs hinv hneg
      rcases hp with ⟨rfl, hp⟩ | ⟨rfl, hp⟩ | ⟨rfl, hp, hp'⟩
      · rw [hp, hL.1]
      · unfold exprParts; rw [if_neg (by omega), if_neg (by omega), if_pos hp, if_pos (hL.2 (by decide)), hL.1]
      unfold exprParts; rw [if_neg (by omega), if_neg (by omega), if_neg (by omega), if_pos ⟨hp, hp'⟩, if_pos (hL.2 (by decide)), hL.1]
    have hX : refE (q + 1) x left = lf := by
      have h1 : xexpr (q + 1) x left = xexprs (xexpr q) x.f3 0 (left - 1) := by rw [xexpr, if_neg (by omega), hE]; show (if _ then _ else _) = _; rw [if_pos rfl]
      unfold refE
      rw [h1]
      by_cases h0 : 0 ≤ lf
      · obtain ⟨d, hd⟩ := hinv h0
        rw [List.drop_eq_nil_of_le (by omega), xexprs] at hd
        rw [← hd, if_neg (by show ¬ d + 1 = 0; omega)]
      rw [if_pos (hneg (by omega)).1, (hneg (by omega)).2]
    refine fin_ret hs (.tmp (hs.slots _ _ rfl) .nil) ⟨?_, hs.mem.base⟩
    rw [hX]; rfl
  replace h61 := of_decide_eq_false h61
  refine go hs (pS rfl <| pS rfl <| pS rfl <| pS rfl <| pS rfl <| pS rfl <| pS rfl <| pS rfl <| pG rfl (fun a hs => y_pickF hs rfl rfl rfl) <| pF rfl rfl <| ?_); clear hs a; intro a hs
  refine wpList_nil (then_normal ?_)
  refine wp_cond_false (hs.ev rfl) ?_
  refine wp_skip (then_normal (wp_seq ?_))
  refine wp_seq (wp_region_lit ?_)
  refine go hs (pA rfl <| ?_); clear hs a; intro a hs
  refine wpList_nil (then_normal (wp_block ?_))
  have hL : x.f3.length = p ∧ (0 < p → x.f1 = 0 ∧ x.f2.size = 0) := by constructor <;> omega
  refine wp_loopN (fun m a w1 => ∃ (i : Nat) (lf : Int), (i + m = x.f3.length) ∧ (-1 ≤ lf ∧ lf ≤ 8192) ∧ (0 ≤ lf → ∃ d, xexprs (xexpr q) (x.f3.drop i) d lf = xexprs (xexpr q) x.f3 0 (left - 1)) ∧ (lf < 0 → (xexprs (xexpr q) x.f3 0 (left - 1)).1 = 0 ∧ lf = -1) ∧ St 93 v0 [(1, .int .i64 lf), (2, .int .i64 ((q + 1 : Nat) : Int)), (3, .pointer (some ⟨gx, 0, none⟩)), (8, .int .i64 ((i : Nat) : Int))] [pt gx #[.int .u8 x.f0, .int .i64 x.f1, .string x.f2, .slice A x.f3.length C, .int .i64 x.f4, .int .i64 x.f5] 25] a w1) (x.f3.length) ⟨0, left - 1, by omega, by omega, fun _ => ⟨0, rfl⟩, fun h => by omega, ?_⟩ (fun m a w1 hJ => ?_)
  · exact (hs.mem_to hs.mem).cut _ ⟨rfl, rfl, rfl, rfl, trivial⟩
  clear hs
  obtain ⟨i, lf, hi, hlf, hinv, hneg, hs⟩ := hJ
  refine wp_seq (wp_seq ?_)
  refine wp_region_lit (go hs (pM rfl <| pV rfl (fun a hs => y_faddr (k' := 3) 3 hs (by kernel_rfl) rfl rfl) <| pV rfl (fun a hs => y_load hs Tryd.underlying23 rfl rfl (fun w hw => (hw.to 0 rfl).cellV rfl)) <| pV rfl (fun a hs => y_lenL hs Tryd.underlying23 rfl) <| pV rfl (fun a hs => y_cmp hs rfl rfl rfl) <| pM rfl <| ?_)); clear hs a; intro a hs
  rcases hs.know (d := 77) rfl with ⟨h77, hs1⟩ | ⟨h77, hs1⟩ <;> replace hs := hs1 <;> clear hs1
  · replace h77 := of_decide_eq_true h77
    refine go hs (pG rfl (fun a hs => y_move hs rfl) <| pG rfl (fun a hs => y_cmp hs rfl rfl rfl) <| pT rfl rfl <| ?_); clear hs a; intro a hs
    refine wpList_nil (then_normal ?_)
    refine wp_cond_split (hs.ev rfl) (fun h80 => ?_) (fun h80 => ?_)
    · replace h80 := of_decide_eq_true h80
      obtain ⟨y, hy⟩ : ∃ y, x.f3[i]? = some y := ⟨_, List.getElem?_eq_getElem (by omega)⟩
      obtain ⟨g0, o, rfl, hcell⟩ := C_atG (show 0 < 6 by decide) hA (by omega)
      obtain ⟨cs, hK, hc⟩ := hcell i y hy
      obtain ⟨A0, c0, rfl, hlc, hC⟩ := k25_open hK
      have hdrop : x.f3.drop i = y :: x.f3.drop (i + 1) := by
        rw [List.drop_eq_getElem_cons (by omega)]
        rw [List.getElem?_eq_getElem (by omega)] at hy
        injection hy with hy
        rw [hy]
      rw [hdrop] at hinv
      refine wp_skip (then_normal (wp_seq ?_))
      refine wp_block (wp_region_lit ?_)
      refine go hs (pV rfl (fun a hs => y_faddr (k' := 3) 3 hs (by kernel_rfl) rfl rfl) <| pV rfl (fun a hs => y_load hs Tryd.underlying23 rfl rfl (fun w hw => (hw.to 0 rfl).cellV rfl)) <| pM rfl <| pV rfl (fun a hs => y_idxB (size := 6) (off := o + i * 6) hs Tryd.underlying23 (by kernel_rfl) rfl rfl (by omega) (by omega) (by simp)) <| pV rfl (fun a hs => y_loadAgg (vs := [.int .u8 y.f0, .int .i64 y.f1, .string y.f2, .slice A0 y.f3.length c0, .int .i64 y.f4, .int .i64 y.f5]) hs Tryd.underlying25 rfl (by kernel_rfl) rfl (fun w hw k v hk => hc w hw.base k v hk)) <| pM rfl <| pM rfl <| pV rfl (fun a hs => y_sub hs rfl rfl (by omega)) <| ?_); clear hs a; intro a hs
      replace hs := hs.say 90 rfl (congrArg (Value.int IntKind.i64) (show (((q + 1 : Nat) : Int) - 1) = ((q : Nat) : Int) by omega))
      have hrb := refE_bounds q y lf (by omega)
      refine a_eff rfl (e_callB Tryd.func42 rfl rfl hs rfl rfl (ih q rfl y A0 c0 lf _ (Kd.C_below hC hs.mem.base) (hsm.2 y (List.mem_of_getElem? hy)) (by omega)) ?_); clear hs a; intro a w hs
      refine go hs (pA rfl <| ?_); clear hs a; intro a hs
      refine wpList_nil (in_normal (then_normal (wp_region_lit ?_)))
      refine go hs (pM rfl <| pV rfl (fun a hs => y_add hs rfl rfl (by omega)) <| pA rfl <| ?_); clear hs a; intro a hs
      refine wpList_nil (then_normal ?_)
      refine ⟨m - 1, by omega, i + 1, refE q y lf, by omega, by omega, refE_next (hinv (by omega)), refE_stop (hinv (by omega)) (by omega), ?_⟩
      exact (hs.mem_to hs.mem).cut _ ⟨rfl, rfl, rfl, rfl, trivial⟩
    replace h80 := of_decide_eq_false h80
    refine wp_exit (then_exit (then_exit (in_here (then_normal (wp_seq ?_)))))
    refine wp_region_lit (go hs (pM rfl <| pA rfl <| ?_)); clear hs a; intro a hs
    refine wpList_nil (then_normal (wp_ret ?_))
    have hE : exprParts x = some x.f3.length := by
      clear hs hinv hneg
      rcases hp with ⟨rfl, hp⟩ | ⟨rfl, hp⟩ | ⟨rfl, hp, hp'⟩
      · rw [hp, hL.1]
      · unfold exprParts; rw [if_neg (by omega), if_neg (by omega), if_pos hp, if_pos (hL.2 (by decide)), hL.1]
      unfold exprParts; rw [if_neg (by omega), if_neg (by omega), if_neg (by omega), if_pos ⟨hp, hp'⟩, if_pos (hL.2 (by decide)), hL.1]
    have hX : refE (q + 1) x left = lf := by
      have h1 : xexpr (q + 1) x left = xexprs (xexpr q) x.f3 0 (left - 1) := by rw [xexpr, if_neg (by omega), hE]; show (if _ then _ else _) = _; rw [if_pos rfl]
      unfold refE
      rw [h1]
      by_cases h0 : 0 ≤ lf
      · obtain ⟨d, hd⟩ := hinv h0
        rw [List.drop_eq_nil_of_le (by omega), xexprs] at hd
        rw [← hd, if_neg (by show ¬ d + 1 = 0; omega)]
      rw [if_pos (hneg (by omega)).1, (hneg (by omega)).2]
    refine fin_ret hs (.tmp (hs.slots _ _ rfl) .nil) ⟨?_, hs.mem.base⟩
    rw [hX]; rfl
  replace h77 := of_decide_eq_false h77
  refine go hs (pS rfl <| pS rfl <| pF rfl rfl <| ?_); clear hs a; intro a hs
  refine wpList_nil (then_normal ?_)
  refine wp_cond_false (hs.ev rfl) ?_
  refine wp_exit (then_exit (then_exit (in_here (then_normal (wp_seq ?_)))))
  refine wp_region_lit (go hs (pM rfl <| pA rfl <| ?_)); clear hs a; intro a hs
  refine wpList_nil (then_normal (wp_ret ?_))
  have hE : exprParts x = some x.f3.length := by
    clear hs hinv hneg
    rcases hp with ⟨rfl, hp⟩ | ⟨rfl, hp⟩ | ⟨rfl, hp, hp'⟩
    · rw [hp, hL.1]
    · unfold exprParts; rw [if_neg (by omega), if_neg (by omega), if_pos hp, if_pos (hL.2 (by decide)), hL.1]
    unfold exprParts; rw [if_neg (by omega), if_neg (by omega), if_neg (by omega), if_pos ⟨hp, hp'⟩, if_pos (hL.2 (by decide)), hL.1]
  have hX : refE (q + 1) x left = lf := by
    have h1 : xexpr (q + 1) x left = xexprs (xexpr q) x.f3 0 (left - 1) := by rw [xexpr, if_neg (by omega), hE]; show (if _ then _ else _) = _; rw [if_pos rfl]
    unfold refE
    rw [h1]
    by_cases h0 : 0 ≤ lf
    · obtain ⟨d, hd⟩ := hinv h0
      rw [List.drop_eq_nil_of_le (by omega), xexprs] at hd
      rw [← hd, if_neg (by show ¬ d + 1 = 0; omega)]
    rw [if_pos (hneg (by omega)).1, (hneg (by omega)).2]
  refine fin_ret hs (.tmp (hs.slots _ _ rfl) .nil) ⟨?_, hs.mem.base⟩
  rw [hX]; rfl
theorem ref_expr : ∀ n : Nat, n ≤ 1000 → RefOk n := fun n => by
  induction n using Nat.strongRecOn with
  | _ n ih => exact fun hn x A C left v0 hA hsm hl => ref_expr_step n hn (fun q hq => ih q (by omega) (by omega)) x A C left v0 hA hsm hl
/-- What the reference's exprs answers. -/
def refL (l : List XE) (left : Int) : Int := if (xlist stE l left).1 = true then (xlist stE l left).2 else -1
theorem refL_next {l r : List XE} {y : XE} {left lf : Int} (hst : 0 ≤ lf → xlist stE l left = (if (stE y lf).1 = true then xlist stE r (stE y lf).2 else (false, (stE y lf).2))) (h0 : 0 ≤ lf) : 0 ≤ refE 16 y lf → xlist stE r (refE 16 y lf) = xlist stE l left := by
  intro h
  unfold refE at h ⊢
  split at h
  · omega
  · rename_i h1
    rw [if_neg h1, hst h0, if_pos (show (stE y lf).1 = true from decide_eq_true (by omega))]; rfl
theorem refL_stop {l r : List XE} {y : XE} {left lf : Int} (hst : 0 ≤ lf → xlist stE l left = (if (stE y lf).1 = true then xlist stE r (stE y lf).2 else (false, (stE y lf).2))) (h0 : 0 ≤ lf) : refE 16 y lf < 0 → refL l left = -1 := by
  intro h
  unfold refE at h
  split at h
  · rename_i h1
    unfold refL
    rw [hst h0, if_neg (show ¬ (stE y lf).1 = true from fun h2 => by have := of_decide_eq_true h2; omega)]; rfl
  · rename_i h1
    have := (xexpr_left 16 y lf h0).2.2 h1
    omega
set_option maxRecDepth 100000 in
theorem ref_exprs (A : Option Addr) (c : Nat) (l : List XE) (left : Int) (v0 : World) (hex : RefOk 16) (hA : Kd.C k25 v0 A l.length l) (hsm : ∀ p ∈ l, smallX 16 p) (hl : 0 ≤ left ∧ left ≤ 8192) :
    Calls Tryd.prog 73 #[.slice A l.length c, .int .i64 left] v0 fun e w' => e = .returned (.int .i64 (refL l left)) ∧ Below v0.heap.size v0 w' := by
  refine calls_enter (N := 23) (n := 21) (args := [.slice A l.length c, .int .i64 left]) Tryd.func73 rfl rfl rfl (H.init v0) (fun a hs => ?_)
  have hcl := C_len hA
  refine wp_seq (wp_region_lit ?_)
  refine go hs (pA rfl <| ?_); clear hs a; intro a hs
  refine wpList_nil (then_normal (wp_seq ?_))
  refine wp_seq (wp_region_lit ?_)
  refine go hs (pA rfl <| ?_); clear hs a; intro a hs
  refine wpList_nil (then_normal (wp_block ?_))
  refine wp_loopN (fun m a w1 => ∃ (i : Nat) (lf : Int), (i + m = l.length) ∧ (-1 ≤ lf ∧ lf ≤ 8192) ∧ (0 ≤ lf → xlist stE (l.drop i) lf = xlist stE l left) ∧ (lf < 0 → refL l left = -1) ∧ St 23 v0 [(0, .slice A l.length c), (1, .int .i64 lf), (5, .int .i64 ((i : Nat) : Int))] [] a w1) (l.length) ⟨0, left, by omega, by omega, fun _ => rfl, fun h => by omega, ?_⟩ (fun m a w1 hJ => ?_)
  · exact (hs.mem_to hs.mem).cut _ ⟨rfl, rfl, rfl, trivial⟩
  clear hs
  obtain ⟨i, lf, hi, hlf, hinv, hneg, hs⟩ := hJ
  refine wp_seq (wp_seq ?_)
  refine wp_region_lit (go hs (pM rfl <| pM rfl <| pV rfl (fun a hs => y_lenL hs Tryd.underlying23 rfl) <| pV rfl (fun a hs => y_cmp hs rfl rfl rfl) <| pM rfl <| ?_)); clear hs a; intro a hs
  rcases hs.know (d := 10) rfl with ⟨h10, hs1⟩ | ⟨h10, hs1⟩ <;> replace hs := hs1 <;> clear hs1
  · replace h10 := of_decide_eq_true h10
    refine go hs (pG rfl (fun a hs => y_move hs rfl) <| pG rfl (fun a hs => y_cmp hs rfl rfl rfl) <| pT rfl rfl <| ?_); clear hs a; intro a hs
    refine wpList_nil (then_normal ?_)
    refine wp_cond_split (hs.ev rfl) (fun h13 => ?_) (fun h13 => ?_)
    · replace h13 := of_decide_eq_true h13
      obtain ⟨y, hy⟩ : ∃ y, l[i]? = some y := ⟨_, List.getElem?_eq_getElem (by omega)⟩
      obtain ⟨g0, o, rfl, hcell⟩ := C_atG (show 0 < 6 by decide) hA (by omega)
      obtain ⟨cs, hK, hc⟩ := hcell i y hy
      obtain ⟨A0, c0, rfl, hlc, hC⟩ := k25_open hK
      have hdrop : l.drop i = y :: l.drop (i + 1) := by
        rw [List.drop_eq_getElem_cons (by omega)]
        rw [List.getElem?_eq_getElem (by omega)] at hy
        injection hy with hy
        rw [hy]
      refine wp_skip (then_normal (wp_seq ?_))
      refine wp_block (wp_region_lit ?_)
      refine go hs (pM rfl <| pM rfl <| pV rfl (fun a hs => y_idxB (size := 6) (off := o + i * 6) hs Tryd.underlying23 (by kernel_rfl) rfl rfl (by omega) (by omega) (by simp)) <| pV rfl (fun a hs => y_loadAgg (vs := [.int .u8 y.f0, .int .i64 y.f1, .string y.f2, .slice A0 y.f3.length c0, .int .i64 y.f4, .int .i64 y.f5]) hs Tryd.underlying25 rfl (by kernel_rfl) rfl (fun w hw k v hk => hc w hw.base k v hk)) <| pM rfl <| ?_); clear hs a; intro a hs
      have hrb := refE_bounds 16 y lf (by omega)
      have hfl := xexpr_left 16 y lf (by omega)
      refine a_eff rfl (e_callB Tryd.func42 rfl rfl hs rfl rfl (hex y A0 c0 lf _ (Kd.C_below hC hs.mem.base) (hsm y (List.mem_of_getElem? hy)) (by omega)) ?_); clear hs a; intro a w hs
      refine go hs (pA rfl <| ?_); clear hs a; intro a hs
      refine wpList_nil (in_normal (then_normal (wp_region_lit ?_)))
      refine go hs (pM rfl <| pV rfl (fun a hs => y_add hs rfl rfl (by omega)) <| pA rfl <| ?_); clear hs a; intro a hs
      refine wpList_nil (then_normal ?_)
      have hst : 0 ≤ lf → xlist stE l left = (if (stE y lf).1 = true then xlist stE (l.drop (i + 1)) (stE y lf).2 else (false, (stE y lf).2)) := fun h0 => by rw [← hinv h0, hdrop, xlist]
      refine ⟨m - 1, by omega, i + 1, refE 16 y lf, by omega, by omega, refL_next hst (by omega), refL_stop hst (by omega), ?_⟩
      exact (hs.mem_to hs.mem).cut _ ⟨rfl, rfl, rfl, trivial⟩
    replace h13 := of_decide_eq_false h13
    have hX : refL l left = lf := by
      by_cases h0 : 0 ≤ lf
      · have h1 := (hinv h0).symm
        rw [List.drop_eq_nil_of_le (by omega), xlist] at h1
        unfold refL; rw [h1]; rfl
      rw [hneg (by omega)]; omega
    refine wp_exit (then_exit (then_exit (in_here (then_normal (wp_seq ?_)))))
    refine wp_region_lit (go hs (pM rfl <| pA rfl <| ?_)); clear hs a; intro a hs
    refine wpList_nil (then_normal (wp_ret ?_))
    refine fin_ret hs (.tmp (hs.slots _ _ rfl) .nil) ⟨?_, hs.mem.base⟩
    rw [hX]; rfl
  replace h10 := of_decide_eq_false h10
  have hX : refL l left = lf := by
    by_cases h0 : 0 ≤ lf
    · have h1 := (hinv h0).symm
      rw [List.drop_eq_nil_of_le (by omega), xlist] at h1
      unfold refL; rw [h1]; rfl
    rw [hneg (by omega)]; omega
  refine go hs (pS rfl <| pS rfl <| pF rfl rfl <| ?_); clear hs a; intro a hs
  refine wpList_nil (then_normal ?_)
  refine wp_cond_false (hs.ev rfl) ?_
  refine wp_exit (then_exit (then_exit (in_here (then_normal (wp_seq ?_)))))
  refine wp_region_lit (go hs (pM rfl <| pA rfl <| ?_)); clear hs a; intro a hs
  refine wpList_nil (then_normal (wp_ret ?_))
  refine fin_ret hs (.tmp (hs.slots _ _ rfl) .nil) ⟨?_, hs.mem.base⟩
  rw [hX]; rfl
end Go.Proofs.YtibaidddhmdafaaDoor.E
end
section
namespace Go.Proofs.YtibaidddhmdafaaDoor.E
open Go Go.RowKit Go.Proofs.YtibaidddhmdafaaDoorW.PrintWords Go.Proofs.YtibaidddhmdafaaDoorW.PrintLast Go.Proofs.YtibaidddhmdafaaDoorW.PrintMore Go.Proofs.YtibaidddhmdafaaDoor.PA
set_option linter.unusedVariables false
set_option linter.unusedSimpArgs false
set_option maxRecDepth 100000 in
theorem ref_NoExpr (x : XE) (A : Option Addr) (C : Nat) (v0 : World) :
    Calls Tryd.prog 71 #[.agg #[.int .u8 x.f0, .int .i64 x.f1, .string x.f2, .slice A x.f3.length C, .int .i64 x.f4, .int .i64 x.f5]] v0 fun e w' => e = .returned (.bool (noExprB x)) ∧ Below v0.heap.size v0 w' := by
  refine calls_enter (N := 32) (n := 31) (args := [.agg #[.int .u8 x.f0, .int .i64 x.f1, .string x.f2, .slice A x.f3.length C, .int .i64 x.f4, .int .i64 x.f5]]) Tryd.func71 rfl rfl rfl (H.init v0) (fun a hs => ?_)
  refine wp_seq (wp_region_lit ?_)
  refine a_eff rfl (e_box (cs := #[_, _, _, _, _, _]) hs rfl rfl rfl ?_); clear hs a; intro gx a w hs
  refine go hs (pA rfl <| ?_); clear hs a; intro a hs
  refine wpList_nil (then_normal (wp_seq ?_))
  refine wp_region_lit (go hs (pV rfl (fun a hs => y_faddr (k' := 0) 0 hs (by kernel_rfl) rfl rfl) <| pV rfl (fun a hs => y_load hs Tryd.underlying22 rfl rfl (fun w hw => (hw.to 0 rfl).cellV rfl)) <| pV rfl (fun a hs => y_cmp hs rfl rfl rfl) <| pM rfl <| ?_)); clear hs a; intro a hs
  rcases hs.know (d := 6) rfl with ⟨h6, hs1⟩ | ⟨h6, hs1⟩ <;> replace hs := hs1 <;> clear hs1
  · replace h6 := eq_of_beq h6
    refine go hs (pG rfl (fun a hs => y_faddr (k' := 1) 1 hs (by kernel_rfl) rfl rfl) <| pG rfl (fun a hs => y_load hs Tryd.underlying3 rfl rfl (fun w hw => (hw.to 0 rfl).cellV rfl)) <| pG rfl (fun a hs => y_cmp hs rfl rfl rfl) <| pT rfl rfl <| pM rfl <| ?_); clear hs a; intro a hs
    rcases hs.know (d := 11) rfl with ⟨h11, hs1⟩ | ⟨h11, hs1⟩ <;> replace hs := hs1 <;> clear hs1
    · replace h11 := eq_of_beq h11
      refine go hs (pG rfl (fun a hs => y_faddr (k' := 2) 2 hs (by kernel_rfl) rfl rfl) <| pG rfl (fun a hs => y_load hs Tryd.underlying9 rfl rfl (fun w hw => (hw.to 0 rfl).cellV rfl)) <| pG rfl (fun a hs => y_seqE hs rfl rfl) <| pT rfl rfl <| pM rfl <| ?_); clear hs a; intro a hs
      rcases hs.know (d := 16) rfl with ⟨h16, hs1⟩ | ⟨h16, hs1⟩ <;> replace hs := hs1 <;> clear hs1
      · replace h16 := of_decide_eq_true h16
        refine go hs (pG rfl (fun a hs => y_faddr (k' := 3) 3 hs (by kernel_rfl) rfl rfl) <| pG rfl (fun a hs => y_load hs Tryd.underlying23 rfl rfl (fun w hw => (hw.to 0 rfl).cellV rfl)) <| pG rfl (fun a hs => y_lenL hs Tryd.underlying23 rfl) <| pG rfl (fun a hs => y_cmp hs rfl rfl rfl) <| pT rfl rfl <| pM rfl <| ?_); clear hs a; intro a hs
        rcases hs.know (d := 22) rfl with ⟨h22, hs1⟩ | ⟨h22, hs1⟩ <;> replace hs := hs1 <;> clear hs1
        · replace h22 := eq_of_beq h22
          refine go hs (pG rfl (fun a hs => y_faddr (k' := 4) 4 hs (by kernel_rfl) rfl rfl) <| pG rfl (fun a hs => y_load hs Tryd.underlying3 rfl rfl (fun w hw => (hw.to 0 rfl).cellV rfl)) <| pG rfl (fun a hs => y_cmp hs rfl rfl rfl) <| pT rfl rfl <| pM rfl <| ?_); clear hs a; intro a hs
          rcases hs.know (d := 27) rfl with ⟨h27, hs1⟩ | ⟨h27, hs1⟩ <;> replace hs := hs1 <;> clear hs1
          · replace h27 := eq_of_beq h27
            refine go hs (pG rfl (fun a hs => y_faddr (k' := 5) 5 hs (by kernel_rfl) rfl rfl) <| pG rfl (fun a hs => y_load hs Tryd.underlying3 rfl rfl (fun w hw => (hw.to 0 rfl).cellV rfl)) <| pG rfl (fun a hs => y_cmp hs rfl rfl rfl) <| pT rfl rfl <| pA rfl <| ?_); clear hs a; intro a hs
            refine wpList_nil (then_normal (wp_ret ?_))
            refine fin_ret hs (.tmp (hs.slots _ _ rfl) .nil) ⟨?_, hs.mem.base⟩
            first | (rw [show noExprB x = false from decide_eq_false (by omega)]; rfl) | (rw [show noExprB x = (x.f5 == 0) from by unfold noExprB; rw [Bool.eq_iff_iff]; simp only [decide_eq_true_eq, beq_iff_eq]; omega]; rfl)
          replace h27 := ne_of_beq_false h27
          refine go hs (pS rfl <| pS rfl <| pS rfl <| pF rfl rfl <| pA rfl <| ?_); clear hs a; intro a hs
          refine wpList_nil (then_normal (wp_ret ?_))
          refine fin_ret hs (.tmp (hs.slots _ _ rfl) .nil) ⟨?_, hs.mem.base⟩
          first | (rw [show noExprB x = false from decide_eq_false (by omega)]; rfl) | (rw [show noExprB x = (x.f5 == 0) from by unfold noExprB; rw [Bool.eq_iff_iff]; simp only [decide_eq_true_eq, beq_iff_eq]; omega]; rfl)
        replace h22 := ne_of_beq_false h22
        refine go hs (pS rfl <| pS rfl <| pS rfl <| pF rfl rfl <| pM rfl <| pS rfl <| pS rfl <| pS rfl <| pF rfl rfl <| pA rfl <| ?_); clear hs a; intro a hs
        refine wpList_nil (then_normal (wp_ret ?_))
        refine fin_ret hs (.tmp (hs.slots _ _ rfl) .nil) ⟨?_, hs.mem.base⟩
        first | (rw [show noExprB x = false from decide_eq_false (by omega)]; rfl) | (rw [show noExprB x = (x.f5 == 0) from by unfold noExprB; rw [Bool.eq_iff_iff]; simp only [decide_eq_true_eq, beq_iff_eq]; omega]; rfl)
      replace h16 := of_decide_eq_false h16
      refine go hs (pS rfl <| pS rfl <| pS rfl <| pS rfl <| pF rfl rfl <| pM rfl <| pS rfl <| pS rfl <| pS rfl <| pF rfl rfl <| pM rfl <| pS rfl <| pS rfl <| pS rfl <| pF rfl rfl <| pA rfl <| ?_); clear hs a; intro a hs
      refine wpList_nil (then_normal (wp_ret ?_))
      refine fin_ret hs (.tmp (hs.slots _ _ rfl) .nil) ⟨?_, hs.mem.base⟩
      first | (rw [show noExprB x = false from decide_eq_false (by omega)]; rfl) | (rw [show noExprB x = (x.f5 == 0) from by unfold noExprB; rw [Bool.eq_iff_iff]; simp only [decide_eq_true_eq, beq_iff_eq]; omega]; rfl)
    replace h11 := ne_of_beq_false h11
    refine go hs (pS rfl <| pS rfl <| pS rfl <| pF rfl rfl <| pM rfl <| pS rfl <| pS rfl <| pS rfl <| pS rfl <| pF rfl rfl <| pM rfl <| pS rfl <| pS rfl <| pS rfl <| pF rfl rfl <| pM rfl <| pS rfl <| pS rfl <| pS rfl <| pF rfl rfl <| pA rfl <| ?_); clear hs a; intro a hs
    refine wpList_nil (then_normal (wp_ret ?_))
    refine fin_ret hs (.tmp (hs.slots _ _ rfl) .nil) ⟨?_, hs.mem.base⟩
    first | (rw [show noExprB x = false from decide_eq_false (by omega)]; rfl) | (rw [show noExprB x = (x.f5 == 0) from by unfold noExprB; rw [Bool.eq_iff_iff]; simp only [decide_eq_true_eq, beq_iff_eq]; omega]; rfl)
  replace h6 := ne_of_beq_false h6
  refine go hs (pS rfl <| pS rfl <| pS rfl <| pF rfl rfl <| pM rfl <| pS rfl <| pS rfl <| pS rfl <| pF rfl rfl <| pM rfl <| pS rfl <| pS rfl <| pS rfl <| pS rfl <| pF rfl rfl <| pM rfl <| pS rfl <| pS rfl <| pS rfl <| pF rfl rfl <| pM rfl <| pS rfl <| pS rfl <| pS rfl <| pF rfl rfl <| pA rfl <| ?_); clear hs a; intro a hs
  refine wpList_nil (then_normal (wp_ret ?_))
  refine fin_ret hs (.tmp (hs.slots _ _ rfl) .nil) ⟨?_, hs.mem.base⟩
  first | (rw [show noExprB x = false from decide_eq_false (by omega)]; rfl) | (rw [show noExprB x = (x.f5 == 0) from by unfold noExprB; rw [Bool.eq_iff_iff]; simp only [decide_eq_true_eq, beq_iff_eq]; omega]; rfl)
set_option maxRecDepth 100000 in
theorem ref_noShape (s : XS) (A2 A3 A4 : Option Addr) (c2 c3 c4 : Nat) (v0 : World) :
    Calls Tryd.prog 72 #[.agg #[.int .u8 s.f0, .string s.f1, .slice A2 s.f2.length c2, .slice A3 s.f3.length c3, .slice A4 s.f4.length c4, .int .i64 s.f5, .int .i64 s.f6]] v0 fun e w' => e = .returned (.bool (noShapeB s)) ∧ Below v0.heap.size v0 w' := by
  refine calls_enter (N := 39) (n := 38) (args := [.agg #[.int .u8 s.f0, .string s.f1, .slice A2 s.f2.length c2, .slice A3 s.f3.length c3, .slice A4 s.f4.length c4, .int .i64 s.f5, .int .i64 s.f6]]) Tryd.func72 rfl rfl rfl (H.init v0) (fun a hs => ?_)
  refine wp_seq (wp_region_lit ?_)
  refine a_eff rfl (e_box (cs := #[_, _, _, _, _, _, _]) hs rfl rfl rfl ?_); clear hs a; intro gx a w hs
  refine go hs (pA rfl <| ?_); clear hs a; intro a hs
  refine wpList_nil (then_normal (wp_seq ?_))
  refine wp_region_lit (go hs (pV rfl (fun a hs => y_faddr (k' := 5) 5 hs (by kernel_rfl) rfl rfl) <| pV rfl (fun a hs => y_load hs Tryd.underlying3 rfl rfl (fun w hw => (hw.to 0 rfl).cellV rfl)) <| pV rfl (fun a hs => y_cmp hs rfl rfl rfl) <| pM rfl <| ?_)); clear hs a; intro a hs
  rcases hs.know (d := 6) rfl with ⟨h6, hs1⟩ | ⟨h6, hs1⟩ <;> replace hs := hs1 <;> clear hs1
  · replace h6 := eq_of_beq h6
    refine go hs (pG rfl (fun a hs => y_faddr (k' := 6) 6 hs (by kernel_rfl) rfl rfl) <| pG rfl (fun a hs => y_load hs Tryd.underlying3 rfl rfl (fun w hw => (hw.to 0 rfl).cellV rfl)) <| pG rfl (fun a hs => y_cmp hs rfl rfl rfl) <| pT rfl rfl <| pM rfl <| ?_); clear hs a; intro a hs
    rcases hs.know (d := 11) rfl with ⟨h11, hs1⟩ | ⟨h11, hs1⟩ <;> replace hs := hs1 <;> clear hs1
    · replace h11 := eq_of_beq h11
      refine go hs (pG rfl (fun a hs => y_faddr (k' := 0) 0 hs (by kernel_rfl) rfl rfl) <| pG rfl (fun a hs => y_load hs Tryd.underlying38 rfl rfl (fun w hw => (hw.to 0 rfl).cellV rfl)) <| pG rfl (fun a hs => y_cmp hs rfl rfl rfl) <| pT rfl rfl <| pM rfl <| ?_); clear hs a; intro a hs
      rcases hs.know (d := 16) rfl with ⟨h16, hs1⟩ | ⟨h16, hs1⟩ <;> replace hs := hs1 <;> clear hs1
      · replace h16 := eq_of_beq h16
        refine go hs (pG rfl (fun a hs => y_faddr (k' := 1) 1 hs (by kernel_rfl) rfl rfl) <| pG rfl (fun a hs => y_load hs Tryd.underlying9 rfl rfl (fun w hw => (hw.to 0 rfl).cellV rfl)) <| pG rfl (fun a hs => y_seqE hs rfl rfl) <| pT rfl rfl <| pM rfl <| ?_); clear hs a; intro a hs
        rcases hs.know (d := 21) rfl with ⟨h21, hs1⟩ | ⟨h21, hs1⟩ <;> replace hs := hs1 <;> clear hs1
        · replace h21 := of_decide_eq_true h21
          refine go hs (pG rfl (fun a hs => y_faddr (k' := 2) 2 hs (by kernel_rfl) rfl rfl) <| pG rfl (fun a hs => y_load hs Tryd.underlying23 rfl rfl (fun w hw => (hw.to 0 rfl).cellV rfl)) <| pG rfl (fun a hs => y_lenL hs Tryd.underlying23 rfl) <| pG rfl (fun a hs => y_cmp hs rfl rfl rfl) <| pT rfl rfl <| pM rfl <| ?_); clear hs a; intro a hs
          rcases hs.know (d := 27) rfl with ⟨h27, hs1⟩ | ⟨h27, hs1⟩ <;> replace hs := hs1 <;> clear hs1
          · replace h27 := eq_of_beq h27
            refine go hs (pG rfl (fun a hs => y_faddr (k' := 3) 3 hs (by kernel_rfl) rfl rfl) <| pG rfl (fun a hs => y_load hs Tryd.underlying39 rfl rfl (fun w hw => (hw.to 0 rfl).cellV rfl)) <| pG rfl (fun a hs => y_lenL hs Tryd.underlying39 rfl) <| pG rfl (fun a hs => y_cmp hs rfl rfl rfl) <| pT rfl rfl <| pM rfl <| ?_); clear hs a; intro a hs
            rcases hs.know (d := 33) rfl with ⟨h33, hs1⟩ | ⟨h33, hs1⟩ <;> replace hs := hs1 <;> clear hs1
            · replace h33 := eq_of_beq h33
              refine go hs (pG rfl (fun a hs => y_faddr (k' := 4) 4 hs (by kernel_rfl) rfl rfl) <| pG rfl (fun a hs => y_load hs Tryd.underlying40 rfl rfl (fun w hw => (hw.to 0 rfl).cellV rfl)) <| pG rfl (fun a hs => y_lenL hs Tryd.underlying40 rfl) <| pG rfl (fun a hs => y_cmp hs rfl rfl rfl) <| pT rfl rfl <| pA rfl <| ?_); clear hs a; intro a hs
              refine wpList_nil (then_normal (wp_ret ?_))
              refine fin_ret hs (.tmp (hs.slots _ _ rfl) .nil) ⟨?_, hs.mem.base⟩
              first | (rw [show noShapeB s = false from decide_eq_false (by omega)]; rfl) | (rw [show noShapeB s = ((s.f4.length : Int) == 0) from by unfold noShapeB; rw [Bool.eq_iff_iff]; simp only [decide_eq_true_eq, beq_iff_eq]; omega]; rfl)
            replace h33 := ne_of_beq_false h33
            refine go hs (pS rfl <| pS rfl <| pS rfl <| pS rfl <| pF rfl rfl <| pA rfl <| ?_); clear hs a; intro a hs
            refine wpList_nil (then_normal (wp_ret ?_))
            refine fin_ret hs (.tmp (hs.slots _ _ rfl) .nil) ⟨?_, hs.mem.base⟩
            first | (rw [show noShapeB s = false from decide_eq_false (by omega)]; rfl) | (rw [show noShapeB s = ((s.f4.length : Int) == 0) from by unfold noShapeB; rw [Bool.eq_iff_iff]; simp only [decide_eq_true_eq, beq_iff_eq]; omega]; rfl)
          replace h27 := ne_of_beq_false h27
          refine go hs (pS rfl <| pS rfl <| pS rfl <| pS rfl <| pF rfl rfl <| pM rfl <| pS rfl <| pS rfl <| pS rfl <| pS rfl <| pF rfl rfl <| pA rfl <| ?_); clear hs a; intro a hs
          refine wpList_nil (then_normal (wp_ret ?_))
          refine fin_ret hs (.tmp (hs.slots _ _ rfl) .nil) ⟨?_, hs.mem.base⟩
          first | (rw [show noShapeB s = false from decide_eq_false (by omega)]; rfl) | (rw [show noShapeB s = ((s.f4.length : Int) == 0) from by unfold noShapeB; rw [Bool.eq_iff_iff]; simp only [decide_eq_true_eq, beq_iff_eq]; omega]; rfl)
        replace h21 := of_decide_eq_false h21
        refine go hs (pS rfl <| pS rfl <| pS rfl <| pS rfl <| pF rfl rfl <| pM rfl <| pS rfl <| pS rfl <| pS rfl <| pS rfl <| pF rfl rfl <| pM rfl <| pS rfl <| pS rfl <| pS rfl <| pS rfl <| pF rfl rfl <| pA rfl <| ?_); clear hs a; intro a hs
        refine wpList_nil (then_normal (wp_ret ?_))
        refine fin_ret hs (.tmp (hs.slots _ _ rfl) .nil) ⟨?_, hs.mem.base⟩
        first | (rw [show noShapeB s = false from decide_eq_false (by omega)]; rfl) | (rw [show noShapeB s = ((s.f4.length : Int) == 0) from by unfold noShapeB; rw [Bool.eq_iff_iff]; simp only [decide_eq_true_eq, beq_iff_eq]; omega]; rfl)
      replace h16 := ne_of_beq_false h16
      refine go hs (pS rfl <| pS rfl <| pS rfl <| pF rfl rfl <| pM rfl <| pS rfl <| pS rfl <| pS rfl <| pS rfl <| pF rfl rfl <| pM rfl <| pS rfl <| pS rfl <| pS rfl <| pS rfl <| pF rfl rfl <| pM rfl <| pS rfl <| pS rfl <| pS rfl <| pS rfl <| pF rfl rfl <| pA rfl <| ?_); clear hs a; intro a hs
      refine wpList_nil (then_normal (wp_ret ?_))
      refine fin_ret hs (.tmp (hs.slots _ _ rfl) .nil) ⟨?_, hs.mem.base⟩
      first | (rw [show noShapeB s = false from decide_eq_false (by omega)]; rfl) | (rw [show noShapeB s = ((s.f4.length : Int) == 0) from by unfold noShapeB; rw [Bool.eq_iff_iff]; simp only [decide_eq_true_eq, beq_iff_eq]; omega]; rfl)
    replace h11 := ne_of_beq_false h11
    refine go hs (pS rfl <| pS rfl <| pS rfl <| pF rfl rfl <| pM rfl <| pS rfl <| pS rfl <| pS rfl <| pF rfl rfl <| pM rfl <| pS rfl <| pS rfl <| pS rfl <| pS rfl <| pF rfl rfl <| pM rfl <| pS rfl <| pS rfl <| pS rfl <| pS rfl <| pF rfl rfl <| pM rfl <| pS rfl <| pS rfl <| pS rfl <| pS rfl <| pF rfl rfl <| pA rfl <| ?_); clear hs a; intro a hs
    refine wpList_nil (then_normal (wp_ret ?_))
    refine fin_ret hs (.tmp (hs.slots _ _ rfl) .nil) ⟨?_, hs.mem.base⟩
    first | (rw [show noShapeB s = false from decide_eq_false (by omega)]; rfl) | (rw [show noShapeB s = ((s.f4.length : Int) == 0) from by unfold noShapeB; rw [Bool.eq_iff_iff]; simp only [decide_eq_true_eq, beq_iff_eq]; omega]; rfl)
  replace h6 := ne_of_beq_false h6
  refine go hs (pS rfl <| pS rfl <| pS rfl <| pF rfl rfl <| pM rfl <| pS rfl <| pS rfl <| pS rfl <| pF rfl rfl <| pM rfl <| pS rfl <| pS rfl <| pS rfl <| pF rfl rfl <| pM rfl <| pS rfl <| pS rfl <| pS rfl <| pS rfl <| pF rfl rfl <| pM rfl <| pS rfl <| pS rfl <| pS rfl <| pS rfl <| pF rfl rfl <| pM rfl <| pS rfl <| pS rfl <| pS rfl <| pS rfl <| pF rfl rfl <| pA rfl <| ?_); clear hs a; intro a hs
  refine wpList_nil (then_normal (wp_ret ?_))
  refine fin_ret hs (.tmp (hs.slots _ _ rfl) .nil) ⟨?_, hs.mem.base⟩
  first | (rw [show noShapeB s = false from decide_eq_false (by omega)]; rfl) | (rw [show noShapeB s = ((s.f4.length : Int) == 0) from by unfold noShapeB; rw [Bool.eq_iff_iff]; simp only [decide_eq_true_eq, beq_iff_eq]; omega]; rfl)
theorem refE_deep (x : XE) : 0 ≤ refE 16 x 8192 ↔ 0 < deepX x := by
  have h := xexpr_left 16 x 8192 (by decide)
  unfold refE deepX
  constructor
  · intro h0
    split at h0
    · omega
    · omega
  · intro h0
    rw [if_neg (by omega)]
    exact h.2.2 (by omega)
set_option maxRecDepth 100000 in
theorem ref_MayExpr (x : XE) (A : Option Addr) (C : Nat) (v0 : World) (hA : Kd.C k25 v0 A x.f3.length x.f3) (hsm : smallX 16 x) :
    Calls Tryd.prog 18 #[.agg #[.int .u8 x.f0, .int .i64 x.f1, .string x.f2, .slice A x.f3.length C, .int .i64 x.f4, .int .i64 x.f5]] v0 fun e w' => e = .returned (.bool (decide (0 < deepX x))) ∧ Below v0.heap.size v0 w' := by
  refine calls_enter (N := 6) (n := 5) (args := [.agg #[.int .u8 x.f0, .int .i64 x.f1, .string x.f2, .slice A x.f3.length C, .int .i64 x.f4, .int .i64 x.f5]]) Tryd.func18 rfl rfl rfl (H.init v0) (fun a hs => ?_)
  refine wp_seq (wp_region_lit ?_)
  refine a_eff rfl (e_box (cs := #[_, _, _, _, _, _]) hs rfl rfl rfl ?_); clear hs a; intro gx a w hs
  refine go hs (pA rfl <| ?_); clear hs a; intro a hs
  refine wpList_nil (then_normal (wp_seq ?_))
  refine wp_region_lit (go hs (pV rfl (fun a hs => y_loadPt 0 rfl hs Tryd.underlying25 rfl (by kernel_rfl) rfl) <| ?_)); clear hs a; intro a hs
  refine a_eff rfl (e_callB Tryd.func42 rfl rfl hs rfl rfl (ref_expr 16 (by decide) x A C 8192 _ (Kd.C_below hA hs.mem.base) hsm (by omega)) ?_); clear hs a; intro a w hs
  refine go hs (pV rfl (fun a hs => y_cmp (b := decide (0 < deepX x)) hs rfl rfl (congrArg some (decide_eq_decide.2 (by rw [ge_iff_le]; exact refE_deep x)))) <| pA rfl <| ?_); clear hs a; intro a hs
  refine wpList_nil (then_normal (wp_ret ?_))
  refine fin_ret hs (.tmp (hs.slots _ _ rfl) .nil) ⟨rfl, hs.mem.base⟩
end Go.Proofs.YtibaidddhmdafaaDoor.E
end
section
namespace Go.Proofs.YtibaidddhmdafaaDoor.E
open Go Go.RowKit Go.Proofs.YtibaidddhmdafaaDoorW.PrintWords Go.Proofs.YtibaidddhmdafaaDoorW.PrintLast Go.Proofs.YtibaidddhmdafaaDoorW.PrintMore Go.Proofs.YtibaidddhmdafaaDoor.PA
set_option linter.unusedVariables false
set_option linter.unusedSimpArgs false
/-- What the reference answers where the walk tells whether, and what is left. -/
def refB (r : Bool × Int) : Int := if r.1 = true then r.2 else -1
theorem refB_bounds {r : Bool × Int} {l : Int} (h : fallsB r l) : -1 ≤ refB r ∧ refB r ≤ l := by
  obtain ⟨a, b, c⟩ := h
  unfold refB
  split
  · exact ⟨a, b⟩
  · exact ⟨Int.le_refl _, by omega⟩
theorem refL_B (l : List XE) (lf : Int) : refL l lf = refB (xlist stE l lf) := rfl
/-- A search over a list, and what follows it. -/
def xk {α : Type} (st : α → Int → Bool × Int) (l : List α) (k : Int → Bool × Int) (lf : Int) : Bool × Int := if (xlist st l lf).1 = true then k (xlist st l lf).2 else xlist st l lf
theorem xk_nil {α : Type} {st : α → Int → Bool × Int} {k : Int → Bool × Int} {lf : Int} : xk st [] k lf = k lf := rfl
theorem xk_cons {α : Type} {st : α → Int → Bool × Int} {p : α} {r : List α} {k : Int → Bool × Int} {lf : Int} : xk st (p :: r) k lf = if (st p lf).1 = true then xk st r k (st p lf).2 else (false, (st p lf).2) := by
  unfold xk
  rw [xlist]
  by_cases h : (st p lf).1 = true
  · rw [if_pos h, if_pos h]
  · rw [if_neg h, if_neg h, if_neg (by exact Bool.false_ne_true)]
theorem xk_true {α : Type} {st : α → Int → Bool × Int} {l : List α} {lf : Int} : xk st l (fun l => (true, l)) lf = xlist st l lf := by
  unfold xk
  split
  · rename_i h; exact Prod.ext h.symm rfl
  · rfl
theorem xb_next {r X : Bool × Int} {k : Int → Bool × Int} (hX : X = if r.1 = true then k r.2 else r) : 0 ≤ refB r → X = k (refB r) := by
  intro h
  unfold refB at h ⊢
  split at h
  · rename_i h1; rw [if_pos h1, hX, if_pos h1]
  · omega
theorem xb_stop {r X : Bool × Int} {k : Int → Bool × Int} {l : Int} (hX : X = if r.1 = true then k r.2 else r) (hf : fallsB r l) : refB r < 0 → X.1 = false ∧ refB r = -1 := by
  intro h
  unfold refB at h ⊢
  split at h
  · rename_i h1; have := hf.2.2 h1; omega
  · rename_i h1; rw [if_neg h1, hX, if_neg h1]; exact ⟨by simpa using h1, rfl⟩
theorem xk_next {α : Type} {st : α → Int → Bool × Int} {p : α} {r : List α} {k : Int → Bool × Int} {lf : Int} {X : Bool × Int} (hX : X = xk st (p :: r) k lf) : 0 ≤ refB (st p lf) → X = xk st r k (refB (st p lf)) := by
  intro h
  rw [xk_cons] at hX
  unfold refB at h ⊢
  split at h
  · rename_i h1; rw [if_pos h1, hX, if_pos h1]
  · omega
theorem xk_stop {α : Type} {st : α → Int → Bool × Int} {p : α} {r : List α} {k : Int → Bool × Int} {lf : Int} {X : Bool × Int} (hX : X = xk st (p :: r) k lf) (hf : fallsB (st p lf) lf) : refB (st p lf) < 0 → X.1 = false ∧ refB (st p lf) = -1 := by
  intro h
  rw [xk_cons] at hX
  unfold refB at h ⊢
  split at h
  · rename_i h1; have := hf.2.2 h1; omega
  · rename_i h1; rw [if_neg h1, hX, if_neg h1]; exact ⟨rfl, rfl⟩
theorem nameOk_nil {s : ByteArray} (h : s.size = 0) : nameOk s = false := by
  have h1 : s = ⟨#[]⟩ := by
    rcases s with ⟨d⟩
    have h2 : d.size = 0 := h
    rw [Array.size_eq_zero_iff.1 h2]
  subst h1; rfl
/-- What the reference's shape answers: the nodes that are left, or -1. -/
noncomputable def refS (n : Nat) (s : XS) (left : Int) : Int := refB (xshape n s left)
theorem refS_low {q : Nat} {s : XS} {left : Int} (h : left - 1 < 0) : refS (q + 1) s left = -1 := by
  unfold refS refB
  rw [xshape, if_pos h]; rfl
theorem refS_bad {q : Nat} {s : XS} {left : Int} (h : ¬ headS s ∨ s.f0 = 8 ∧ ¬ (1 ≤ s.f4.length ∧ s.f4.length ≤ 64)) : refS (q + 1) s left = -1 := by
  unfold refS refB
  rw [xshape]
  by_cases h1 : left - 1 < 0
  · rw [if_pos h1]; rfl
  · rw [if_neg h1]
    by_cases h2 : headS s
    · rcases h with h | ⟨h3, h4⟩
      · exact absurd h2 h
      · have hR : rowsS s (left - 1) = (false, left - 1) := by unfold rowsS rowsF; rw [if_pos h3, if_neg h4]
        rw [if_pos h2, hR, if_neg (show ¬ (false = true) from Bool.false_ne_true)]; rfl
    · rw [if_neg h2]; rfl
theorem shape_args {q : Nat} {s : XS} {left : Int} (hl : ¬ left - 1 < 0) (hH : headS s) (h8 : s.f0 = 8 → 1 ≤ s.f4.length ∧ s.f4.length ≤ 64) :
    xshape (q + 1) s left = if (xlist stE s.f2 (left - 1)).1 = true then xk stR s.f4 (xk (xshape q) s.f3 (fun l => (true, l))) (xlist stE s.f2 (left - 1)).2 else xlist stE s.f2 (left - 1) := by
  rw [xshape, if_neg hl, if_pos hH]
  obtain ⟨nm, a, p, r, h1, h2, h3, h4, h5, h6⟩ := hH
  by_cases hk : s.f0 = 8
  · have ha : s.f2 = [] := by
      rcases parts_cases h1 with ⟨rfl, rfl, rfl, rfl, hk1⟩ | ⟨rfl, rfl, rfl, rfl, hk1⟩ | ⟨rfl, rfl, rfl, rfl, hk1⟩ | ⟨rfl, rfl, rfl, rfl, hk1⟩ | ⟨rfl, rfl, rfl, rfl, hk1⟩
      all_goals first | omega | exact List.eq_nil_of_length_eq_zero h4
    have hR : ∀ l, rowsS s l = xlist stR s.f4 l := fun l => by unfold rowsS rowsF; rw [if_pos hk, if_pos (h8 hk)]
    rw [ha, hR]
    show _ = xk stR s.f4 _ (left - 1)
    unfold xk
    split
    · rw [if_pos (show (xlist stE [] (xlist stR s.f4 (left - 1)).2).1 = true from rfl)]
      exact xk_true.symm
    · rfl
  · have hr : s.f4 = [] := by
      rcases parts_cases h1 with ⟨rfl, rfl, rfl, rfl, hk1⟩ | ⟨rfl, rfl, rfl, rfl, hk1⟩ | ⟨rfl, rfl, rfl, rfl, hk1⟩ | ⟨rfl, rfl, rfl, rfl, hk1⟩ | ⟨rfl, rfl, rfl, rfl, hk1⟩
      all_goals first | omega | exact List.eq_nil_of_length_eq_zero (h6 rfl)
    have hR : ∀ l, rowsS s l = (true, l) := fun l => by unfold rowsS; rw [if_neg hk]
    rw [hr, hR, if_pos rfl]
    split
    · rw [xk_nil]; exact xk_true.symm
    · rfl
theorem shape_kinds {k : Int} {a : Prop} {na np : Nat} {l : Nat} (h : k = 1 ∧ a ∧ na = 0 ∧ np = 0 ∨ (k = 2 ∨ k = 3) ∧ na = 2 ∧ np = 0 ∨ (k = 4 ∨ k = 5) ∧ na = 3 ∧ np = 0 ∨ (k = 6 ∨ k = 7) ∧ na = 0 ∧ np = 2 ∨ k = 8 ∧ na = 0 ∧ np = 0 ∧ 1 ≤ l ∧ l ≤ 64) :
    k = 1 ∧ na = 0 ∧ np = 0 ∨ (k = 2 ∨ k = 3) ∧ na = 2 ∧ np = 0 ∨ (k = 4 ∨ k = 5) ∧ na = 3 ∧ np = 0 ∨ (k = 6 ∨ k = 7) ∧ na = 0 ∧ np = 2 ∨ k = 8 ∧ na = 0 ∧ np = 0 ∧ 1 ≤ l ∧ l ≤ 64 := by
  rcases h with ⟨h1, _, h2⟩ | h | h | h | h
  · exact .inl ⟨h1, h2⟩
  · exact .inr (.inl h)
  · exact .inr (.inr (.inl h))
  · exact .inr (.inr (.inr (.inl h)))
  · exact .inr (.inr (.inr (.inr h)))
def RefSOk (n : Nat) : Prop := ∀ (s : XS) (A2 A3 A4 : Option Addr) (c2 c3 c4 : Nat) (left : Int) (v0 : World), Kd.C k25 v0 A2 s.f2.length s.f2 → Kd.C k42 v0 A3 s.f3.length s.f3 → Kd.C (Kd.slice 25 k25) v0 A4 s.f4.length s.f4 → smallS n s → 0 ≤ left ∧ left ≤ 8192 → Calls Tryd.prog 46 #[.agg #[.int .u8 s.f0, .string s.f1, .slice A2 s.f2.length c2, .slice A3 s.f3.length c3, .slice A4 s.f4.length c4, .int .i64 s.f5, .int .i64 s.f6], .int .i64 left, .int .i64 ((n : Nat) : Int)] v0 fun e w' => e = .returned (.int .i64 (refS n s left)) ∧ Below v0.heap.size v0 w'
set_option maxRecDepth 100000 in
theorem ref_shape_step (n : Nat) (hn : n ≤ 1000) (ih : ∀ q, q + 1 = n → RefSOk q) (s : XS) (A2 A3 A4 : Option Addr) (c2 c3 c4 : Nat) (left : Int) (v0 : World) (hA2 : Kd.C k25 v0 A2 s.f2.length s.f2) (hA3 : Kd.C k42 v0 A3 s.f3.length s.f3) (hA4 : Kd.C (Kd.slice 25 k25) v0 A4 s.f4.length s.f4) (hsm : smallS n s) (hl : 0 ≤ left ∧ left ≤ 8192) :
    Calls Tryd.prog 46 #[.agg #[.int .u8 s.f0, .string s.f1, .slice A2 s.f2.length c2, .slice A3 s.f3.length c3, .slice A4 s.f4.length c4, .int .i64 s.f5, .int .i64 s.f6], .int .i64 left, .int .i64 ((n : Nat) : Int)] v0 fun e w' => e = .returned (.int .i64 (refS n s left)) ∧ Below v0.heap.size v0 w' := by
  refine calls_enter (N := 139) (n := 136) (args := [.agg #[.int .u8 s.f0, .string s.f1, .slice A2 s.f2.length c2, .slice A3 s.f3.length c3, .slice A4 s.f4.length c4, .int .i64 s.f5, .int .i64 s.f6], .int .i64 left, .int .i64 ((n : Nat) : Int)]) Tryd.func46 rfl rfl rfl (H.init v0) (fun a hs => ?_)
  have hcl2 := C_len hA2
  have hcl3 := C_len hA3
  have hcl4 := C_len hA4
  refine wp_seq (wp_region_lit ?_)
  refine a_eff rfl (e_box (cs := #[_, _, _, _, _, _, _]) hs rfl rfl rfl ?_); clear hs a; intro gx a w hs
  refine go hs (pA rfl <| ?_); clear hs a; intro a hs
  refine wpList_nil (then_normal (wp_seq ?_))
  refine wp_region_lit (go hs (pM rfl <| pV rfl (fun a hs => y_sub hs rfl rfl (by omega)) <| pA rfl <| ?_)); clear hs a; intro a hs
  refine wpList_nil (then_normal (wp_seq ?_))
  refine wp_seq (wp_region_lit ?_)
  refine go hs (pM rfl <| pV rfl (fun a hs => y_cmp hs rfl rfl rfl) <| pM rfl <| ?_); clear hs a; intro a hs
  rcases hs.know (d := 15) rfl with ⟨h15, hs1⟩ | ⟨h15, hs1⟩ <;> replace hs := hs1 <;> clear hs1
  · replace h15 := of_decide_eq_true h15
    refine go hs (pS rfl <| pS rfl <| pT rfl rfl <| pM rfl <| pS rfl <| pS rfl <| pS rfl <| pS rfl <| pS rfl <| pS rfl <| pS rfl <| pT rfl rfl <| ?_); clear hs a; intro a hs
    refine wpList_nil (then_normal ?_)
    refine wp_cond_true (hs.ev rfl) ?_
    refine wp_seq (wp_region_lit ?_)
    refine go hs (pA rfl <| ?_); clear hs a; intro a hs
    refine wpList_nil (then_normal (wp_ret (then_ret ?_)))
    have hX : refS n s left = -1 := by
      cases n with
      | zero => rfl
      | succ q => exact refS_low (by omega)
    refine fin_ret hs (.tmp (hs.slots _ _ rfl) .nil) ⟨?_, hs.mem.base⟩
    rw [hX]; rfl
  replace h15 := of_decide_eq_false h15
  refine go hs (pG rfl (fun a hs => y_move hs rfl) <| pG rfl (fun a hs => y_cmp hs rfl rfl rfl) <| pF rfl rfl <| pM rfl <| ?_); clear hs a; intro a hs
  rcases hs.know (d := 19) rfl with ⟨h19, hs1⟩ | ⟨h19, hs1⟩ <;> replace hs := hs1 <;> clear hs1
  · replace h19 := eq_of_beq h19
    refine go hs (pS rfl <| pS rfl <| pS rfl <| pS rfl <| pS rfl <| pS rfl <| pS rfl <| pT rfl rfl <| ?_); clear hs a; intro a hs
    refine wpList_nil (then_normal ?_)
    refine wp_cond_true (hs.ev rfl) ?_
    refine wp_seq (wp_region_lit ?_)
    refine go hs (pA rfl <| ?_); clear hs a; intro a hs
    refine wpList_nil (then_normal (wp_ret (then_ret ?_)))
    have hX : refS n s left = -1 := by
      cases n with
      | zero => rfl
      | succ q => exact refS_low (by omega)
    refine fin_ret hs (.tmp (hs.slots _ _ rfl) .nil) ⟨?_, hs.mem.base⟩
    rw [hX]; rfl
  replace h19 := ne_of_beq_false h19
  refine go hs (pG rfl (fun a hs => y_faddr (k' := 0) 0 hs (by kernel_rfl) rfl rfl) <| pG rfl (fun a hs => y_load hs Tryd.underlying38 rfl rfl (fun w hw => (hw.to 0 rfl).cellV rfl)) <| pG rfl (fun a hs => y_cmp hs rfl rfl rfl) <| pG rfl (fun a hs => y_faddr (k' := 1) 1 hs (by kernel_rfl) rfl rfl) <| pG rfl (fun a hs => y_load hs Tryd.underlying9 rfl rfl (fun w hw => (hw.to 0 rfl).cellV rfl)) <| pG rfl (fun a hs => y_sneE hs rfl rfl) <| pG rfl (fun a hs => y_bne hs Tryd.underlying4 rfl rfl) <| pF rfl rfl <| ?_); clear hs a; intro a hs
  refine wpList_nil (then_normal ?_)
  refine wp_cond_split (hs.ev rfl) (fun h27 => ?_) (fun h27 => ?_)
  · have h27' : ¬ (s.f0 = 1 ↔ ¬ s.f1.size = 0) := by clear hs; have h27c := h27; simp only [Bool.not_eq_true', Bool.not_eq_false', beq_eq_false_iff_ne, beq_iff_eq, ne_eq] at h27c; rw [Bool.eq_iff_iff] at h27c; simp only [beq_iff_eq, decide_eq_true_eq] at h27c; exact h27c
    refine wp_seq (wp_region_lit ?_)
    refine go hs (pA rfl <| ?_); clear hs a; intro a hs
    refine wpList_nil (then_normal (wp_ret (then_ret ?_)))
    obtain ⟨q, rfl⟩ : ∃ q, n = q + 1 := ⟨n - 1, by omega⟩
    have hH : ¬ headS s := by
      clear hs
      rintro ⟨nm, a, p, r, h1, h2, h3, h4, h5, h6⟩
      rcases parts_cases h1 with ⟨rfl, rfl, rfl, rfl, hk1⟩ | ⟨rfl, rfl, rfl, rfl, hk1⟩ | ⟨rfl, rfl, rfl, rfl, hk1⟩ | ⟨rfl, rfl, rfl, rfl, hk1⟩ | ⟨rfl, rfl, rfl, rfl, hk1⟩
      all_goals first | omega | (have := h3 rfl; omega) | (have := h6 rfl; omega) | (have hz : ¬ s.f1.size = 0 := fun h0 => absurd h2 (by rw [nameOk_nil h0]; exact Bool.false_ne_true); omega) | (rw [h2] at h35; cases h35; done)
    have hX : refS (q + 1) s left = -1 := refS_bad (.inl hH)
    refine fin_ret hs (.tmp (hs.slots _ _ rfl) .nil) ⟨?_, hs.mem.base⟩
    rw [hX]; rfl
  have h27' : s.f0 = 1 ↔ ¬ s.f1.size = 0 := by clear hs; have h27c := h27; simp only [Bool.not_eq_true', Bool.not_eq_false', beq_eq_false_iff_ne, beq_iff_eq, ne_eq] at h27c; rw [Bool.eq_iff_iff] at h27c; simp only [beq_iff_eq, decide_eq_true_eq] at h27c; exact h27c
  obtain ⟨q, rfl⟩ : ∃ q, n = q + 1 := ⟨n - 1, by omega⟩
  refine wp_skip (then_normal (wp_seq ?_))
  refine wp_region_lit (go hs (pA rfl <| pA rfl <| ?_)); clear hs a; intro a hs
  refine wpList_nil (then_normal ?_)
  refine wp_seq_cut (fun a w1 => ∃ (na np : Nat), (s.f0 = 1 ∧ nameOk s.f1 = true ∧ na = 0 ∧ np = 0 ∨ (s.f0 = 2 ∨ s.f0 = 3) ∧ na = 2 ∧ np = 0 ∨ (s.f0 = 4 ∨ s.f0 = 5) ∧ na = 3 ∧ np = 0 ∨ (s.f0 = 6 ∨ s.f0 = 7) ∧ na = 0 ∧ np = 2 ∨ s.f0 = 8 ∧ na = 0 ∧ np = 0 ∧ 1 ≤ s.f4.length ∧ s.f4.length ≤ 64) ∧ St 139 v0 [(1, .int .i64 (left - 1)), (2, .int .i64 ((q + 1 : Nat) : Int)), (3, .pointer (some ⟨gx, 0, none⟩)), (7, .int .i64 ((na : Nat) : Int)), (8, .int .i64 ((np : Nat) : Int))] [pt gx #[.int .u8 s.f0, .string s.f1, .slice A2 s.f2.length c2, .slice A3 s.f3.length c3, .slice A4 s.f4.length c4, .int .i64 s.f5, .int .i64 s.f6] 42] a w1) ?_ (fun a w1 hJ => ?_)
  · refine wp_seq (wp_region_lit ?_)
    refine go hs (pV rfl (fun a hs => y_faddr (k' := 0) 0 hs (by kernel_rfl) rfl rfl) <| pV rfl (fun a hs => y_load hs Tryd.underlying38 rfl rfl (fun w hw => (hw.to 0 rfl).cellV rfl)) <| ?_); clear hs a; intro a hs
    refine wpList_nil (then_normal (wp_block ?_))
    refine wp_seq (wp_region_lit ?_)
    refine go hs (pV rfl (fun a hs => y_cmp hs rfl rfl rfl) <| pA rfl <| ?_); clear hs a; intro a hs
    refine wpList_nil (then_normal ?_)
    refine wp_cond_split (hs.ev rfl) (fun h30 => ?_) (fun h30 => ?_)
    · replace h30 := eq_of_beq h30
      refine wp_seq (wp_region_lit ?_)
      refine go hs (pV rfl (fun a hs => y_faddr (k' := 1) 1 hs (by kernel_rfl) rfl rfl) <| pV rfl (fun a hs => y_load hs Tryd.underlying9 rfl rfl (fun w hw => (hw.to 0 rfl).cellV rfl)) <| ?_); clear hs a; intro a hs
      refine a_eff rfl (e_callB Tryd.func70 rfl rfl hs rfl rfl (recoupref09_Name.calls _ s.f1 (nameOk s.f1) _ (refName s.f1 hsm.1)) ?_); clear hs a; intro a w hs
      refine go hs (pV rfl (fun a hs => y_not hs rfl) <| ?_); clear hs a; intro a hs
      refine wpList_nil (then_normal ?_)
      refine wp_cond_split (hs.ev rfl) (fun h35 => ?_) (fun h35 => ?_)
      · replace h35 := (not_t h35)
        refine wp_seq (wp_region_lit ?_)
        refine go hs (pA rfl <| ?_); clear hs a; intro a hs
        refine wpList_nil (then_normal (wp_ret (in_ret (then_ret ?_))))
        have hH : ¬ headS s := by
          clear hs
          rintro ⟨nm, a, p, r, h1, h2, h3, h4, h5, h6⟩
          rcases parts_cases h1 with ⟨rfl, rfl, rfl, rfl, hk1⟩ | ⟨rfl, rfl, rfl, rfl, hk1⟩ | ⟨rfl, rfl, rfl, rfl, hk1⟩ | ⟨rfl, rfl, rfl, rfl, hk1⟩ | ⟨rfl, rfl, rfl, rfl, hk1⟩
          all_goals first | omega | (have := h3 rfl; omega) | (have := h6 rfl; omega) | (have hz : ¬ s.f1.size = 0 := fun h0 => absurd h2 (by rw [nameOk_nil h0]; exact Bool.false_ne_true); omega) | (rw [h2] at h35; cases h35; done)
        have hX : refS (q + 1) s left = -1 := refS_bad (.inl hH)
        refine fin_ret hs (.tmp (hs.slots _ _ rfl) .nil) ⟨?_, hs.mem.base⟩
        rw [hX]; rfl
      replace h35 := (not_f h35)
      refine wp_skip (in_normal (then_normal ?_))
      refine ⟨0, 0, .inl ⟨by omega, by rw [h35], rfl, rfl⟩, ?_⟩
      exact (hs.mem_to hs.mem).cut _ ⟨rfl, rfl, rfl, rfl, rfl, trivial⟩
    replace h30 := ne_of_beq_false h30
    refine wp_seq (wp_seq ?_)
    refine wp_region_lit (go hs (pV rfl (fun a hs => y_cmp hs rfl rfl rfl) <| pA rfl <| ?_)); clear hs a; intro a hs
    refine wpList_nil (then_normal ?_)
    refine wp_cond_split (hs.ev rfl) (fun h36 => ?_) (fun h36 => ?_)
    · replace h36 := eq_of_beq h36
      replace hs := hs.say 36 rfl (congrArg Value.bool (beq_iff_eq.2 h36))
      refine wp_skip (then_normal ?_)
      refine wp_cond_true (hs.ev rfl) ?_
      refine wp_region_lit (go hs (pA rfl <| ?_)); clear hs a; intro a hs
      refine wpList_nil (in_normal (then_normal ?_))
      refine ⟨2, 0, .inr (.inl ⟨by omega, rfl, rfl⟩), ?_⟩
      exact (hs.mem_to hs.mem).cut _ ⟨rfl, rfl, rfl, rfl, rfl, trivial⟩
    replace h36 := ne_of_beq_false h36
    replace hs := hs.say 36 rfl (congrArg Value.bool (beq_eq_false_iff_ne.2 h36))
    refine wp_region_lit (go hs (pV rfl (fun a hs => y_cmp hs rfl rfl rfl) <| pA rfl <| ?_)); clear hs a; intro a hs
    refine wpList_nil (then_normal ?_)
    refine wp_cond_split (hs.ev rfl) (fun h36 => ?_) (fun h36 => ?_)
    · replace h36 := eq_of_beq h36
      replace hs := hs.say 36 rfl (congrArg Value.bool (beq_iff_eq.2 h36))
      refine wp_region_lit (go hs (pA rfl <| ?_)); clear hs a; intro a hs
      refine wpList_nil (in_normal (then_normal ?_))
      refine ⟨2, 0, .inr (.inl ⟨by omega, rfl, rfl⟩), ?_⟩
      exact (hs.mem_to hs.mem).cut _ ⟨rfl, rfl, rfl, rfl, rfl, trivial⟩
    replace h36 := ne_of_beq_false h36
    replace hs := hs.say 36 rfl (congrArg Value.bool (beq_eq_false_iff_ne.2 h36))
    refine wp_seq (wp_seq ?_)
    refine wp_region_lit (go hs (pV rfl (fun a hs => y_cmp hs rfl rfl rfl) <| pA rfl <| ?_)); clear hs a; intro a hs
    refine wpList_nil (then_normal ?_)
    refine wp_cond_split (hs.ev rfl) (fun h39 => ?_) (fun h39 => ?_)
    · replace h39 := eq_of_beq h39
      replace hs := hs.say 39 rfl (congrArg Value.bool (beq_iff_eq.2 h39))
      refine wp_skip (then_normal ?_)
      refine wp_cond_true (hs.ev rfl) ?_
      refine wp_region_lit (go hs (pA rfl <| ?_)); clear hs a; intro a hs
      refine wpList_nil (in_normal (then_normal ?_))
      refine ⟨3, 0, .inr (.inr (.inl ⟨by omega, rfl, rfl⟩)), ?_⟩
      exact (hs.mem_to hs.mem).cut _ ⟨rfl, rfl, rfl, rfl, rfl, trivial⟩
    replace h39 := ne_of_beq_false h39
    replace hs := hs.say 39 rfl (congrArg Value.bool (beq_eq_false_iff_ne.2 h39))
    refine wp_region_lit (go hs (pV rfl (fun a hs => y_cmp hs rfl rfl rfl) <| pA rfl <| ?_)); clear hs a; intro a hs
    refine wpList_nil (then_normal ?_)
    refine wp_cond_split (hs.ev rfl) (fun h39 => ?_) (fun h39 => ?_)
    · replace h39 := eq_of_beq h39
      replace hs := hs.say 39 rfl (congrArg Value.bool (beq_iff_eq.2 h39))
      refine wp_region_lit (go hs (pA rfl <| ?_)); clear hs a; intro a hs
      refine wpList_nil (in_normal (then_normal ?_))
      refine ⟨3, 0, .inr (.inr (.inl ⟨by omega, rfl, rfl⟩)), ?_⟩
      exact (hs.mem_to hs.mem).cut _ ⟨rfl, rfl, rfl, rfl, rfl, trivial⟩
    replace h39 := ne_of_beq_false h39
    replace hs := hs.say 39 rfl (congrArg Value.bool (beq_eq_false_iff_ne.2 h39))
    refine wp_seq (wp_seq ?_)
    refine wp_region_lit (go hs (pV rfl (fun a hs => y_cmp hs rfl rfl rfl) <| pA rfl <| ?_)); clear hs a; intro a hs
    refine wpList_nil (then_normal ?_)
    refine wp_cond_split (hs.ev rfl) (fun h42 => ?_) (fun h42 => ?_)
    · replace h42 := eq_of_beq h42
      replace hs := hs.say 42 rfl (congrArg Value.bool (beq_iff_eq.2 h42))
      refine wp_skip (then_normal ?_)
      refine wp_cond_true (hs.ev rfl) ?_
      refine wp_region_lit (go hs (pA rfl <| ?_)); clear hs a; intro a hs
      refine wpList_nil (in_normal (then_normal ?_))
      refine ⟨0, 2, .inr (.inr (.inr (.inl ⟨by omega, rfl, rfl⟩))), ?_⟩
      exact (hs.mem_to hs.mem).cut _ ⟨rfl, rfl, rfl, rfl, rfl, trivial⟩
    replace h42 := ne_of_beq_false h42
    replace hs := hs.say 42 rfl (congrArg Value.bool (beq_eq_false_iff_ne.2 h42))
    refine wp_region_lit (go hs (pV rfl (fun a hs => y_cmp hs rfl rfl rfl) <| pA rfl <| ?_)); clear hs a; intro a hs
    refine wpList_nil (then_normal ?_)
    refine wp_cond_split (hs.ev rfl) (fun h42 => ?_) (fun h42 => ?_)
    · replace h42 := eq_of_beq h42
      replace hs := hs.say 42 rfl (congrArg Value.bool (beq_iff_eq.2 h42))
      refine wp_region_lit (go hs (pA rfl <| ?_)); clear hs a; intro a hs
      refine wpList_nil (in_normal (then_normal ?_))
      refine ⟨0, 2, .inr (.inr (.inr (.inl ⟨by omega, rfl, rfl⟩))), ?_⟩
      exact (hs.mem_to hs.mem).cut _ ⟨rfl, rfl, rfl, rfl, rfl, trivial⟩
    replace h42 := ne_of_beq_false h42
    replace hs := hs.say 42 rfl (congrArg Value.bool (beq_eq_false_iff_ne.2 h42))
    refine wp_seq (wp_region_lit ?_)
    refine go hs (pV rfl (fun a hs => y_cmp hs rfl rfl rfl) <| pA rfl <| ?_); clear hs a; intro a hs
    refine wpList_nil (then_normal ?_)
    refine wp_cond_split (hs.ev rfl) (fun h45 => ?_) (fun h45 => ?_)
    · replace h45 := eq_of_beq h45
      refine wp_seq (wp_region_lit ?_)
      refine go hs (pV rfl (fun a hs => y_faddr (k' := 4) 4 hs (by kernel_rfl) rfl rfl) <| pV rfl (fun a hs => y_load hs Tryd.underlying40 rfl rfl (fun w hw => (hw.to 0 rfl).cellV rfl)) <| pV rfl (fun a hs => y_lenL hs Tryd.underlying40 rfl) <| pV rfl (fun a hs => y_cmp hs rfl rfl rfl) <| pM rfl <| ?_); clear hs a; intro a hs
      rcases hs.know (d := 51) rfl with ⟨h51, hs1⟩ | ⟨h51, hs1⟩ <;> replace hs := hs1 <;> clear hs1
      · replace h51 := of_decide_eq_true h51
        refine go hs (pS rfl <| pS rfl <| pS rfl <| pS rfl <| pT rfl rfl <| ?_); clear hs a; intro a hs
        refine wpList_nil (then_normal ?_)
        refine wp_cond_true (hs.ev rfl) ?_
        refine wp_seq (wp_region_lit ?_)
        refine go hs (pA rfl <| ?_); clear hs a; intro a hs
        refine wpList_nil (then_normal (wp_ret (in_ret (then_ret ?_))))
        have hX : refS (q + 1) s left = -1 := refS_bad (.inr (by omega))
        refine fin_ret hs (.tmp (hs.slots _ _ rfl) .nil) ⟨?_, hs.mem.base⟩
        rw [hX]; rfl
      replace h51 := of_decide_eq_false h51
      refine go hs (pG rfl (fun a hs => y_faddr (k' := 4) 4 hs (by kernel_rfl) rfl rfl) <| pG rfl (fun a hs => y_load hs Tryd.underlying40 rfl rfl (fun w hw => (hw.to 0 rfl).cellV rfl)) <| pG rfl (fun a hs => y_lenL hs Tryd.underlying40 rfl) <| pG rfl (fun a hs => y_cmp hs rfl rfl rfl) <| pF rfl rfl <| ?_); clear hs a; intro a hs
      refine wpList_nil (then_normal ?_)
      refine wp_cond_split (hs.ev rfl) (fun h56 => ?_) (fun h56 => ?_)
      · replace h56 := of_decide_eq_true h56
        refine wp_seq (wp_region_lit ?_)
        refine go hs (pA rfl <| ?_); clear hs a; intro a hs
        refine wpList_nil (then_normal (wp_ret (in_ret (then_ret ?_))))
        have hX : refS (q + 1) s left = -1 := refS_bad (.inr (by omega))
        refine fin_ret hs (.tmp (hs.slots _ _ rfl) .nil) ⟨?_, hs.mem.base⟩
        rw [hX]; rfl
      replace h56 := of_decide_eq_false h56
      refine wp_skip (in_normal (then_normal ?_))
      refine ⟨0, 0, .inr (.inr (.inr (.inr (⟨by omega, rfl, rfl, by omega, by omega⟩)))), ?_⟩
      exact (hs.mem_to hs.mem).cut _ ⟨rfl, rfl, rfl, rfl, rfl, trivial⟩
    replace h45 := ne_of_beq_false h45
    refine wp_seq (wp_region_lit ?_)
    refine go hs (pA rfl <| ?_); clear hs a; intro a hs
    refine wpList_nil (then_normal (wp_ret (in_ret (then_ret ?_))))
    have hH : ¬ headS s := by
      clear hs
      rintro ⟨nm, a, p, r, h1, h2, h3, h4, h5, h6⟩
      rcases parts_cases h1 with ⟨rfl, rfl, rfl, rfl, hk1⟩ | ⟨rfl, rfl, rfl, rfl, hk1⟩ | ⟨rfl, rfl, rfl, rfl, hk1⟩ | ⟨rfl, rfl, rfl, rfl, hk1⟩ | ⟨rfl, rfl, rfl, rfl, hk1⟩
      all_goals first | omega | (have := h3 rfl; omega) | (have := h6 rfl; omega) | (have hz : ¬ s.f1.size = 0 := fun h0 => absurd h2 (by rw [nameOk_nil h0]; exact Bool.false_ne_true); omega) | (rw [h2] at h35; cases h35; done)
    have hX : refS (q + 1) s left = -1 := refS_bad (.inl hH)
    refine fin_ret hs (.tmp (hs.slots _ _ rfl) .nil) ⟨?_, hs.mem.base⟩
    rw [hX]; rfl
  clear hs
  obtain ⟨na, np, hk, hs⟩ := hJ
  have hk' := shape_kinds hk
  refine wp_seq (wp_seq ?_)
  refine wp_region_lit (go hs (pV rfl (fun a hs => y_faddr (k' := 2) 2 hs (by kernel_rfl) rfl rfl) <| pV rfl (fun a hs => y_load hs Tryd.underlying23 rfl rfl (fun w hw => (hw.to 0 rfl).cellV rfl)) <| pV rfl (fun a hs => y_lenL hs Tryd.underlying23 rfl) <| pM rfl <| pV rfl (fun a hs => y_cmp hs rfl rfl rfl) <| pM rfl <| ?_)); clear hs a; intro a hs
  rcases hs.know (d := 62) rfl with ⟨h62, hs1⟩ | ⟨h62, hs1⟩ <;> replace hs := hs1 <;> clear hs1
  · replace h62 := bne_iff_ne.1 h62
    refine go hs (pS rfl <| pS rfl <| pS rfl <| pS rfl <| pS rfl <| pT rfl rfl <| pM rfl <| pS rfl <| pS rfl <| pS rfl <| pS rfl <| pS rfl <| pS rfl <| pS rfl <| pS rfl <| pS rfl <| pT rfl rfl <| ?_); clear hs a; intro a hs
    refine wpList_nil (then_normal ?_)
    refine wp_cond_true (hs.ev rfl) ?_
    refine wp_seq (wp_region_lit ?_)
    refine go hs (pA rfl <| ?_); clear hs a; intro a hs
    refine wpList_nil (then_normal (wp_ret (then_ret ?_)))
    have hH : ¬ headS s := by
      clear hs
      rintro ⟨nm, a, p, r, h1, h2, h3, h4, h5, h6⟩
      rcases parts_cases h1 with ⟨rfl, rfl, rfl, rfl, hk1⟩ | ⟨rfl, rfl, rfl, rfl, hk1⟩ | ⟨rfl, rfl, rfl, rfl, hk1⟩ | ⟨rfl, rfl, rfl, rfl, hk1⟩ | ⟨rfl, rfl, rfl, rfl, hk1⟩
      all_goals first | omega | (have := h3 rfl; omega) | (have := h6 rfl; omega) | (have hz : ¬ s.f1.size = 0 := fun h0 => absurd h2 (by rw [nameOk_nil h0]; exact Bool.false_ne_true); omega) | (rw [h2] at h35; cases h35; done)
    have hX : refS (q + 1) s left = -1 := refS_bad (.inl hH)
    refine fin_ret hs (.tmp (hs.slots _ _ rfl) .nil) ⟨?_, hs.mem.base⟩
    rw [hX]; rfl
  replace h62 := bne_eq_false_iff_eq.1 h62
  refine go hs (pG rfl (fun a hs => y_faddr (k' := 3) 3 hs (by kernel_rfl) rfl rfl) <| pG rfl (fun a hs => y_load hs Tryd.underlying39 rfl rfl (fun w hw => (hw.to 0 rfl).cellV rfl)) <| pG rfl (fun a hs => y_lenL hs Tryd.underlying39 rfl) <| pG rfl (fun a hs => y_move hs rfl) <| pG rfl (fun a hs => y_cmp hs rfl rfl rfl) <| pF rfl rfl <| pM rfl <| ?_); clear hs a; intro a hs
  rcases hs.know (d := 69) rfl with ⟨h69, hs1⟩ | ⟨h69, hs1⟩ <;> replace hs := hs1 <;> clear hs1
  · replace h69 := bne_iff_ne.1 h69
    refine go hs (pS rfl <| pS rfl <| pS rfl <| pS rfl <| pS rfl <| pS rfl <| pS rfl <| pS rfl <| pS rfl <| pT rfl rfl <| ?_); clear hs a; intro a hs
    refine wpList_nil (then_normal ?_)
    refine wp_cond_true (hs.ev rfl) ?_
    refine wp_seq (wp_region_lit ?_)
    refine go hs (pA rfl <| ?_); clear hs a; intro a hs
    refine wpList_nil (then_normal (wp_ret (then_ret ?_)))
    have hH : ¬ headS s := by
      clear hs
      rintro ⟨nm, a, p, r, h1, h2, h3, h4, h5, h6⟩
      rcases parts_cases h1 with ⟨rfl, rfl, rfl, rfl, hk1⟩ | ⟨rfl, rfl, rfl, rfl, hk1⟩ | ⟨rfl, rfl, rfl, rfl, hk1⟩ | ⟨rfl, rfl, rfl, rfl, hk1⟩ | ⟨rfl, rfl, rfl, rfl, hk1⟩
      all_goals first | omega | (have := h3 rfl; omega) | (have := h6 rfl; omega) | (have hz : ¬ s.f1.size = 0 := fun h0 => absurd h2 (by rw [nameOk_nil h0]; exact Bool.false_ne_true); omega) | (rw [h2] at h35; cases h35; done)
    have hX : refS (q + 1) s left = -1 := refS_bad (.inl hH)
    refine fin_ret hs (.tmp (hs.slots _ _ rfl) .nil) ⟨?_, hs.mem.base⟩
    rw [hX]; rfl
  replace h69 := bne_eq_false_iff_eq.1 h69
  refine go hs (pG rfl (fun a hs => y_faddr (k' := 0) 0 hs (by kernel_rfl) rfl rfl) <| pG rfl (fun a hs => y_load hs Tryd.underlying38 rfl rfl (fun w hw => (hw.to 0 rfl).cellV rfl)) <| pG rfl (fun a hs => y_cmp hs rfl rfl rfl) <| pG rfl (fun a hs => y_move hs rfl) <| ?_); clear hs a; intro a hs
  rcases hs.know (d := 73) rfl with ⟨h73, hs1⟩ | ⟨h73, hs1⟩ <;> replace hs := hs1 <;> clear hs1
  · replace h73 := bne_iff_ne.1 h73
    refine go hs (pG rfl (fun a hs => y_faddr (k' := 4) 4 hs (by kernel_rfl) rfl rfl) <| pG rfl (fun a hs => y_load hs Tryd.underlying40 rfl rfl (fun w hw => (hw.to 0 rfl).cellV rfl)) <| pG rfl (fun a hs => y_lenL hs Tryd.underlying40 rfl) <| pG rfl (fun a hs => y_cmp hs rfl rfl rfl) <| pG rfl (fun a hs => y_pickT hs rfl rfl rfl) <| pF rfl rfl <| ?_); clear hs a; intro a hs
    refine wpList_nil (then_normal ?_)
    refine wp_cond_split (hs.ev rfl) (fun h79 => ?_) (fun h79 => ?_)
    · replace h79 := of_decide_eq_true h79
      refine wp_seq (wp_region_lit ?_)
      refine go hs (pA rfl <| ?_); clear hs a; intro a hs
      refine wpList_nil (then_normal (wp_ret (then_ret ?_)))
      have hH : ¬ headS s := by
        clear hs
        rintro ⟨nm, a, p, r, h1, h2, h3, h4, h5, h6⟩
        rcases parts_cases h1 with ⟨rfl, rfl, rfl, rfl, hk1⟩ | ⟨rfl, rfl, rfl, rfl, hk1⟩ | ⟨rfl, rfl, rfl, rfl, hk1⟩ | ⟨rfl, rfl, rfl, rfl, hk1⟩ | ⟨rfl, rfl, rfl, rfl, hk1⟩
        all_goals first | omega | (have := h3 rfl; omega) | (have := h6 rfl; omega) | (have hz : ¬ s.f1.size = 0 := fun h0 => absurd h2 (by rw [nameOk_nil h0]; exact Bool.false_ne_true); omega) | (rw [h2] at h35; cases h35; done)
      have hX : refS (q + 1) s left = -1 := refS_bad (.inl hH)
      refine fin_ret hs (.tmp (hs.slots _ _ rfl) .nil) ⟨?_, hs.mem.base⟩
      rw [hX]; rfl
    replace h79 := of_decide_eq_false h79
    refine wp_skip (then_normal (wp_seq ?_))
    have hH : headS s := by
      clear hs
      rcases hk with ⟨k1, k2, rfl, rfl⟩ | ⟨k1, rfl, rfl⟩ | ⟨k1, rfl, rfl⟩ | ⟨k1, rfl, rfl⟩ | ⟨k1, rfl, rfl, k2⟩
      · exact ⟨true, 0, 0, false, by unfold shapeParts; rw [if_pos k1], k2, fun h => (by cases h), by omega, by omega, fun _ => by omega⟩
      · exact ⟨false, 2, 0, false, by unfold shapeParts; rw [if_neg (by omega), if_pos k1], nameOk_nil (by omega), fun _ => by omega, by omega, by omega, fun _ => by omega⟩
      · exact ⟨false, 3, 0, false, by unfold shapeParts; rw [if_neg (by omega), if_neg (by omega), if_pos k1], nameOk_nil (by omega), fun _ => by omega, by omega, by omega, fun _ => by omega⟩
      · exact ⟨false, 0, 2, false, by unfold shapeParts; rw [if_neg (by omega), if_neg (by omega), if_neg (by omega), if_pos k1], nameOk_nil (by omega), fun _ => by omega, by omega, by omega, fun _ => by omega⟩
      exact ⟨false, 0, 0, true, by unfold shapeParts; rw [if_neg (by omega), if_neg (by omega), if_neg (by omega), if_neg (by omega), if_pos k1], nameOk_nil (by omega), fun _ => by omega, by omega, by omega, fun h => by cases h⟩
    have hA := shape_args (q := q) (left := left) (by omega) hH (by omega)
    have hfa := xlist_left s.f2 (left - 1) (fun p _ l h => stE_falls p l h) (by omega)
    have hra : -1 ≤ refL s.f2 (left - 1) ∧ refL s.f2 (left - 1) ≤ left - 1 := refB_bounds hfa
    refine wp_region_lit (go hs (pV rfl (fun a hs => y_faddr (k' := 2) 2 hs (by kernel_rfl) rfl rfl) <| pV rfl (fun a hs => y_load hs Tryd.underlying23 rfl rfl (fun w hw => (hw.to 0 rfl).cellV rfl)) <| pM rfl <| ?_)); clear hs a; intro a hs
    refine a_eff rfl (e_callB Tryd.func73 rfl rfl hs rfl rfl (ref_exprs A2 c2 s.f2 (left - 1) _ (ref_expr 16 (by decide)) (Kd.C_below hA2 hs.mem.base) hsm.2.1 (by omega)) ?_); clear hs a; intro a w hs
    refine go hs (pA rfl <| ?_); clear hs a; intro a hs
    refine wpList_nil (then_normal ?_)
    refine wp_seq_cut (fun a w1 => ∃ (lf : Int), (-1 ≤ lf ∧ lf ≤ 8192) ∧ (0 ≤ lf → (xshape (q + 1) s left) = xk (xshape q) s.f3 (fun l => (true, l)) lf) ∧ (lf < 0 → (xshape (q + 1) s left).1 = false ∧ lf = -1) ∧ St 139 v0 [(1, .int .i64 lf), (2, .int .i64 ((q + 1 : Nat) : Int)), (3, .pointer (some ⟨gx, 0, none⟩))] [pt gx #[.int .u8 s.f0, .string s.f1, .slice A2 s.f2.length c2, .slice A3 s.f3.length c3, .slice A4 s.f4.length c4, .int .i64 s.f5, .int .i64 s.f6] 42] a w1) ?_ (fun a w1 hJ => ?_)
    · refine wp_seq (wp_region_lit ?_)
      refine go hs (pA rfl <| ?_); clear hs a; intro a hs
      refine wpList_nil (then_normal (wp_block ?_))
      refine wp_loopN (fun m a w1 => ∃ (i : Nat) (lf : Int), (i + m = s.f4.length) ∧ (-1 ≤ lf ∧ lf ≤ 8192) ∧ (0 ≤ lf → (xshape (q + 1) s left) = xk stR (s.f4.drop i) (xk (xshape q) s.f3 (fun l => (true, l))) lf) ∧ (lf < 0 → (xshape (q + 1) s left).1 = false ∧ lf = -1) ∧ St 139 v0 [(1, .int .i64 lf), (2, .int .i64 ((q + 1 : Nat) : Int)), (3, .pointer (some ⟨gx, 0, none⟩)), (9, .int .i64 ((i : Nat) : Int))] [pt gx #[.int .u8 s.f0, .string s.f1, .slice A2 s.f2.length c2, .slice A3 s.f3.length c3, .slice A4 s.f4.length c4, .int .i64 s.f5, .int .i64 s.f6] 42] a w1) (s.f4.length) ⟨0, refL s.f2 (left - 1), by omega, by omega, xb_next hA, xb_stop hA hfa, ?_⟩ (fun m a w1 hJ => ?_)
      · exact (hs.mem_to hs.mem).cut _ ⟨rfl, rfl, rfl, rfl, trivial⟩
      clear hs
      obtain ⟨i, lf, hi, hlf, hinv1, hneg1, hs⟩ := hJ
      refine wp_seq (wp_seq ?_)
      refine wp_region_lit (go hs (pM rfl <| pV rfl (fun a hs => y_faddr (k' := 4) 4 hs (by kernel_rfl) rfl rfl) <| pV rfl (fun a hs => y_load hs Tryd.underlying40 rfl rfl (fun w hw => (hw.to 0 rfl).cellV rfl)) <| pV rfl (fun a hs => y_lenL hs Tryd.underlying40 rfl) <| pV rfl (fun a hs => y_cmp hs rfl rfl rfl) <| pM rfl <| ?_)); clear hs a; intro a hs
      rcases hs.know (d := 89) rfl with ⟨h89, hs1⟩ | ⟨h89, hs1⟩ <;> replace hs := hs1 <;> clear hs1
      · replace h89 := of_decide_eq_true h89
        refine go hs (pG rfl (fun a hs => y_move hs rfl) <| pG rfl (fun a hs => y_cmp hs rfl rfl rfl) <| pT rfl rfl <| ?_); clear hs a; intro a hs
        refine wpList_nil (then_normal ?_)
        refine wp_cond_split (hs.ev rfl) (fun h92 => ?_) (fun h92 => ?_)
        · replace h92 := of_decide_eq_true h92
          obtain ⟨r, hr⟩ : ∃ r, s.f4[i]? = some r := ⟨_, List.getElem?_eq_getElem (by omega)⟩
          obtain ⟨g0, o, rfl, hcell⟩ := C_atH (show 0 < 1 by decide) hA4 (by omega)
          obtain ⟨cs, hK, hlen, hc⟩ := hcell i r hr
          obtain ⟨A0, c0, rfl, hlc, hC⟩ := hK
          have hdrop : s.f4.drop i = r :: s.f4.drop (i + 1) := by
            rw [List.drop_eq_getElem_cons (by omega)]
            rw [List.getElem?_eq_getElem (by omega)] at hr
            injection hr with hr
            rw [hr]
          rw [hdrop] at hinv1
          refine wp_skip (then_normal (wp_seq ?_))
          refine wp_block (wp_seq ?_)
          refine wp_seq (wp_region_lit ?_)
          refine go hs (pV rfl (fun a hs => y_faddr (k' := 4) 4 hs (by kernel_rfl) rfl rfl) <| pV rfl (fun a hs => y_load hs Tryd.underlying40 rfl rfl (fun w hw => (hw.to 0 rfl).cellV rfl)) <| pM rfl <| pV rfl (fun a hs => y_idxB (size := 1) (off := o + i * 1) hs Tryd.underlying40 (by kernel_rfl) rfl rfl (by omega) (by omega) (by simp)) <| pV rfl (fun a hs => y_load (v := .slice A0 r.length c0) hs Tryd.underlying23 rfl rfl (fun w hw => hc w hw.base 0 _ rfl)) <| pV rfl (fun a hs => y_lenL hs Tryd.underlying23 rfl) <| pV rfl (fun a hs => y_cmp hs rfl rfl rfl) <| pM rfl <| ?_); clear hs a; intro a hs
          rcases hs.know (d := 102) rfl with ⟨h102, hs1⟩ | ⟨h102, hs1⟩ <;> replace hs := hs1 <;> clear hs1
          · replace h102 := of_decide_eq_true h102
            refine go hs (pS rfl <| pS rfl <| pS rfl <| pS rfl <| pS rfl <| pS rfl <| pS rfl <| pT rfl rfl <| ?_); clear hs a; intro a hs
            refine wpList_nil (then_normal ?_)
            refine wp_cond_true (hs.ev rfl) ?_
            refine wp_seq (wp_region_lit ?_)
            refine go hs (pA rfl <| ?_); clear hs a; intro a hs
            refine wpList_nil (then_normal (wp_ret (then_ret (in_ret (then_ret (then_ret (in_ret (then_ret ?_))))))))
            have hX : refS (q + 1) s left = -1 := by
              have h1 := (xk_stop (hinv1 (by omega)) (stR_falls r lf (by omega)) (by rw [show stR r lf = (false, lf) by unfold stR; rw [if_neg (by omega)]]; show (-1 : Int) < 0; decide)).1
              unfold refS refB; rw [h1]; rfl
            refine fin_ret hs (.tmp (hs.slots _ _ rfl) .nil) ⟨?_, hs.mem.base⟩
            rw [hX]; rfl
          replace h102 := of_decide_eq_false h102
          refine go hs (pG rfl (fun a hs => y_faddr (k' := 4) 4 hs (by kernel_rfl) rfl rfl) <| pG rfl (fun a hs => y_load hs Tryd.underlying40 rfl rfl (fun w hw => (hw.to 0 rfl).cellV rfl)) <| pG rfl (fun a hs => y_move hs rfl) <| pG rfl (fun a hs => y_idxB (size := 1) (off := o + i * 1) hs Tryd.underlying40 (by kernel_rfl) rfl rfl (by omega) (by omega) (by simp)) <| pG rfl (fun a hs => y_load (v := .slice A0 r.length c0) hs Tryd.underlying23 rfl rfl (fun w hw => hc w hw.base 0 _ rfl)) <| pG rfl (fun a hs => y_lenL hs Tryd.underlying23 rfl) <| pG rfl (fun a hs => y_cmp hs rfl rfl rfl) <| pF rfl rfl <| ?_); clear hs a; intro a hs
          refine wpList_nil (then_normal ?_)
          refine wp_cond_split (hs.ev rfl) (fun h110 => ?_) (fun h110 => ?_)
          · replace h110 := of_decide_eq_true h110
            refine wp_seq (wp_region_lit ?_)
            refine go hs (pA rfl <| ?_); clear hs a; intro a hs
            refine wpList_nil (then_normal (wp_ret (then_ret (in_ret (then_ret (then_ret (in_ret (then_ret ?_))))))))
            have hX : refS (q + 1) s left = -1 := by
              have h1 := (xk_stop (hinv1 (by omega)) (stR_falls r lf (by omega)) (by rw [show stR r lf = (false, lf) by unfold stR; rw [if_neg (by omega)]]; show (-1 : Int) < 0; decide)).1
              unfold refS refB; rw [h1]; rfl
            refine fin_ret hs (.tmp (hs.slots _ _ rfl) .nil) ⟨?_, hs.mem.base⟩
            rw [hX]; rfl
          replace h110 := of_decide_eq_false h110
          refine wp_skip (then_normal (wp_region_lit ?_))
          refine go hs (pV rfl (fun a hs => y_faddr (k' := 4) 4 hs (by kernel_rfl) rfl rfl) <| pV rfl (fun a hs => y_load hs Tryd.underlying40 rfl rfl (fun w hw => (hw.to 0 rfl).cellV rfl)) <| pM rfl <| pV rfl (fun a hs => y_idxB (size := 1) (off := o + i * 1) hs Tryd.underlying40 (by kernel_rfl) rfl rfl (by omega) (by omega) (by simp)) <| pV rfl (fun a hs => y_load (v := .slice A0 r.length c0) hs Tryd.underlying23 rfl rfl (fun w hw => hc w hw.base 0 _ rfl)) <| pM rfl <| ?_); clear hs a; intro a hs
          have hR : stR r lf = xlist stE r lf := by unfold stR; rw [if_pos (by omega)]
          have hfl := stR_falls r lf (by omega)
          have hrb : -1 ≤ refL r lf ∧ refL r lf ≤ lf := by rw [refL_B, ← hR]; exact refB_bounds hfl
          refine a_eff rfl (e_callB Tryd.func73 rfl rfl hs rfl rfl (ref_exprs A0 c0 r lf _ (ref_expr 16 (by decide)) (Kd.C_below hC hs.mem.base) (hsm.2.2.2 r (List.mem_of_getElem? hr)) (by omega)) ?_); clear hs a; intro a w hs
          refine go hs (pA rfl <| ?_); clear hs a; intro a hs
          refine wpList_nil (in_normal (then_normal (wp_region_lit ?_)))
          refine go hs (pM rfl <| pV rfl (fun a hs => y_add hs rfl rfl (by omega)) <| pA rfl <| ?_); clear hs a; intro a hs
          refine wpList_nil (then_normal ?_)
          refine ⟨m - 1, by omega, i + 1, refL r lf, by omega, by omega, by rw [refL_B, ← hR]; exact xk_next (hinv1 (by omega)), by rw [refL_B, ← hR]; exact xk_stop (hinv1 (by omega)) hfl, ?_⟩
          exact (hs.mem_to hs.mem).cut _ ⟨rfl, rfl, rfl, rfl, trivial⟩
        replace h92 := of_decide_eq_false h92
        refine wp_exit (then_exit (then_exit (in_here (then_normal ?_))))
        refine ⟨lf, hlf, fun h0 => by have h1 := hinv1 h0; rw [List.drop_eq_nil_of_le (by omega), xk_nil] at h1; exact h1, hneg1, ?_⟩
        exact (hs.mem_to hs.mem).cut _ ⟨rfl, rfl, rfl, trivial⟩
      replace h89 := of_decide_eq_false h89
      refine go hs (pS rfl <| pS rfl <| pF rfl rfl <| ?_); clear hs a; intro a hs
      refine wpList_nil (then_normal ?_)
      refine wp_cond_false (hs.ev rfl) ?_
      refine wp_exit (then_exit (then_exit (in_here (then_normal ?_))))
      refine ⟨lf, hlf, fun h0 => by have h1 := hinv1 h0; rw [List.drop_eq_nil_of_le (by omega), xk_nil] at h1; exact h1, hneg1, ?_⟩
      exact (hs.mem_to hs.mem).cut _ ⟨rfl, rfl, rfl, trivial⟩
    clear hs
    obtain ⟨lf, hlf, hinv0, hneg0, hs⟩ := hJ
    refine wp_seq (wp_seq ?_)
    refine wp_region_lit (go hs (pA rfl <| ?_)); clear hs a; intro a hs
    refine wpList_nil (then_normal (wp_block ?_))
    refine wp_loopN (fun m a w1 => ∃ (i : Nat) (lf : Int), (i + m = s.f3.length) ∧ (-1 ≤ lf ∧ lf ≤ 8192) ∧ (0 ≤ lf → (xshape (q + 1) s left) = xk (xshape q) (s.f3.drop i) (fun l => (true, l)) lf) ∧ (lf < 0 → (xshape (q + 1) s left).1 = false ∧ lf = -1) ∧ St 139 v0 [(1, .int .i64 lf), (2, .int .i64 ((q + 1 : Nat) : Int)), (3, .pointer (some ⟨gx, 0, none⟩)), (10, .int .i64 ((i : Nat) : Int))] [pt gx #[.int .u8 s.f0, .string s.f1, .slice A2 s.f2.length c2, .slice A3 s.f3.length c3, .slice A4 s.f4.length c4, .int .i64 s.f5, .int .i64 s.f6] 42] a w1) (s.f3.length) ⟨0, lf, by omega, hlf, hinv0, hneg0, ?_⟩ (fun m a w1 hJ => ?_)
    · exact (hs.mem_to hs.mem).cut _ ⟨rfl, rfl, rfl, rfl, trivial⟩
    clear hs
    obtain ⟨i, lf, hi, hlf, hinv, hneg, hs⟩ := hJ
    refine wp_seq (wp_seq ?_)
    refine wp_region_lit (go hs (pM rfl <| pV rfl (fun a hs => y_faddr (k' := 3) 3 hs (by kernel_rfl) rfl rfl) <| pV rfl (fun a hs => y_load hs Tryd.underlying39 rfl rfl (fun w hw => (hw.to 0 rfl).cellV rfl)) <| pV rfl (fun a hs => y_lenL hs Tryd.underlying39 rfl) <| pV rfl (fun a hs => y_cmp hs rfl rfl rfl) <| pM rfl <| ?_)); clear hs a; intro a hs
    rcases hs.know (d := 123) rfl with ⟨h123, hs1⟩ | ⟨h123, hs1⟩ <;> replace hs := hs1 <;> clear hs1
    · replace h123 := of_decide_eq_true h123
      refine go hs (pG rfl (fun a hs => y_move hs rfl) <| pG rfl (fun a hs => y_cmp hs rfl rfl rfl) <| pT rfl rfl <| ?_); clear hs a; intro a hs
      refine wpList_nil (then_normal ?_)
      refine wp_cond_split (hs.ev rfl) (fun h126 => ?_) (fun h126 => ?_)
      · replace h126 := of_decide_eq_true h126
        obtain ⟨y, hy⟩ : ∃ y, s.f3[i]? = some y := ⟨_, List.getElem?_eq_getElem (by omega)⟩
        obtain ⟨g0, o, rfl, hcell⟩ := C_atG (show 0 < 7 by decide) hA3 (by omega)
        obtain ⟨cs, hK, hc⟩ := hcell i y hy
        obtain ⟨B2, d2, B3, d3, B4, d4, rfl, e2, g2, e3, g3, e4, g4⟩ := k42_open hK
        have hdrop : s.f3.drop i = y :: s.f3.drop (i + 1) := by
          rw [List.drop_eq_getElem_cons (by omega)]
          rw [List.getElem?_eq_getElem (by omega)] at hy
          injection hy with hy
          rw [hy]
        rw [hdrop] at hinv
        refine wp_skip (then_normal (wp_seq ?_))
        refine wp_block (wp_region_lit ?_)
        refine go hs (pV rfl (fun a hs => y_faddr (k' := 3) 3 hs (by kernel_rfl) rfl rfl) <| pV rfl (fun a hs => y_load hs Tryd.underlying39 rfl rfl (fun w hw => (hw.to 0 rfl).cellV rfl)) <| pM rfl <| pV rfl (fun a hs => y_idxB (size := 7) (off := o + i * 7) hs Tryd.underlying39 (by kernel_rfl) rfl rfl (by omega) (by omega) (by simp)) <| pV rfl (fun a hs => y_loadAgg (vs := [.int .u8 y.f0, .string y.f1, .slice B2 y.f2.length d2, .slice B3 y.f3.length d3, .slice B4 y.f4.length d4, .int .i64 y.f5, .int .i64 y.f6]) hs Tryd.underlying42 rfl (by kernel_rfl) rfl (fun w hw k v hk => hc w hw.base k v hk)) <| pM rfl <| pM rfl <| pV rfl (fun a hs => y_sub hs rfl rfl (by omega)) <| ?_); clear hs a; intro a hs
        replace hs := hs.say 136 rfl (congrArg (Value.int IntKind.i64) (show (((q + 1 : Nat) : Int) - 1) = ((q : Nat) : Int) by omega))
        have hfl := xshape_falls q y lf (by omega)
        have hrb : -1 ≤ refS q y lf ∧ refS q y lf ≤ lf := refB_bounds hfl
        refine a_eff rfl (e_callB Tryd.func46 rfl rfl hs rfl rfl (ih q rfl y B2 B3 B4 d2 d3 d4 lf _ (Kd.C_below g2 hs.mem.base) (Kd.C_below g3 hs.mem.base) (Kd.C_below g4 hs.mem.base) (hsm.2.2.1 y (List.mem_of_getElem? hy)) (by omega)) ?_); clear hs a; intro a w hs
        refine go hs (pA rfl <| ?_); clear hs a; intro a hs
        refine wpList_nil (in_normal (then_normal (wp_region_lit ?_)))
        refine go hs (pM rfl <| pV rfl (fun a hs => y_add hs rfl rfl (by omega)) <| pA rfl <| ?_); clear hs a; intro a hs
        refine wpList_nil (then_normal ?_)
        refine ⟨m - 1, by omega, i + 1, refS q y lf, by omega, by omega, xk_next (hinv (by omega)), xk_stop (hinv (by omega)) hfl, ?_⟩
        exact (hs.mem_to hs.mem).cut _ ⟨rfl, rfl, rfl, rfl, trivial⟩
      replace h126 := of_decide_eq_false h126
      refine wp_exit (then_exit (then_exit (in_here (then_normal (wp_seq ?_)))))
      refine wp_region_lit (go hs (pM rfl <| pA rfl <| ?_)); clear hs a; intro a hs
      refine wpList_nil (then_normal (wp_ret ?_))
      have hX : refS (q + 1) s left = lf := by
        by_cases h0 : 0 ≤ lf
        · have h1 := hinv h0
          rw [List.drop_eq_nil_of_le (by omega), xk_nil] at h1
          unfold refS; rw [h1]; rfl
        obtain ⟨h1, h2⟩ := hneg (by omega)
        unfold refS refB; rw [h1, h2]; rfl
      refine fin_ret hs (.tmp (hs.slots _ _ rfl) .nil) ⟨?_, hs.mem.base⟩
      rw [hX]; rfl
    replace h123 := of_decide_eq_false h123
    refine go hs (pS rfl <| pS rfl <| pF rfl rfl <| ?_); clear hs a; intro a hs
    refine wpList_nil (then_normal ?_)
    refine wp_cond_false (hs.ev rfl) ?_
    refine wp_exit (then_exit (then_exit (in_here (then_normal (wp_seq ?_)))))
    refine wp_region_lit (go hs (pM rfl <| pA rfl <| ?_)); clear hs a; intro a hs
    refine wpList_nil (then_normal (wp_ret ?_))
    have hX : refS (q + 1) s left = lf := by
      by_cases h0 : 0 ≤ lf
      · have h1 := hinv h0
        rw [List.drop_eq_nil_of_le (by omega), xk_nil] at h1
        unfold refS; rw [h1]; rfl
      obtain ⟨h1, h2⟩ := hneg (by omega)
      unfold refS refB; rw [h1, h2]; rfl
    refine fin_ret hs (.tmp (hs.slots _ _ rfl) .nil) ⟨?_, hs.mem.base⟩
    rw [hX]; rfl
  replace h73 := bne_eq_false_iff_eq.1 h73
  refine go hs (pS rfl <| pS rfl <| pS rfl <| pS rfl <| pG rfl (fun a hs => y_pickF hs rfl rfl rfl) <| pF rfl rfl <| ?_); clear hs a; intro a hs
  refine wpList_nil (then_normal ?_)
  refine wp_cond_false (hs.ev rfl) ?_
  refine wp_skip (then_normal (wp_seq ?_))
  have hH : headS s := by
    clear hs
    rcases hk with ⟨k1, k2, rfl, rfl⟩ | ⟨k1, rfl, rfl⟩ | ⟨k1, rfl, rfl⟩ | ⟨k1, rfl, rfl⟩ | ⟨k1, rfl, rfl, k2⟩
    · exact ⟨true, 0, 0, false, by unfold shapeParts; rw [if_pos k1], k2, fun h => (by cases h), by omega, by omega, fun _ => by omega⟩
    · exact ⟨false, 2, 0, false, by unfold shapeParts; rw [if_neg (by omega), if_pos k1], nameOk_nil (by omega), fun _ => by omega, by omega, by omega, fun _ => by omega⟩
    · exact ⟨false, 3, 0, false, by unfold shapeParts; rw [if_neg (by omega), if_neg (by omega), if_pos k1], nameOk_nil (by omega), fun _ => by omega, by omega, by omega, fun _ => by omega⟩
    · exact ⟨false, 0, 2, false, by unfold shapeParts; rw [if_neg (by omega), if_neg (by omega), if_neg (by omega), if_pos k1], nameOk_nil (by omega), fun _ => by omega, by omega, by omega, fun _ => by omega⟩
    exact ⟨false, 0, 0, true, by unfold shapeParts; rw [if_neg (by omega), if_neg (by omega), if_neg (by omega), if_neg (by omega), if_pos k1], nameOk_nil (by omega), fun _ => by omega, by omega, by omega, fun h => by cases h⟩
  have hA := shape_args (q := q) (left := left) (by omega) hH (by omega)
  have hfa := xlist_left s.f2 (left - 1) (fun p _ l h => stE_falls p l h) (by omega)
  have hra : -1 ≤ refL s.f2 (left - 1) ∧ refL s.f2 (left - 1) ≤ left - 1 := refB_bounds hfa
  refine wp_region_lit (go hs (pV rfl (fun a hs => y_faddr (k' := 2) 2 hs (by kernel_rfl) rfl rfl) <| pV rfl (fun a hs => y_load hs Tryd.underlying23 rfl rfl (fun w hw => (hw.to 0 rfl).cellV rfl)) <| pM rfl <| ?_)); clear hs a; intro a hs
  refine a_eff rfl (e_callB Tryd.func73 rfl rfl hs rfl rfl (ref_exprs A2 c2 s.f2 (left - 1) _ (ref_expr 16 (by decide)) (Kd.C_below hA2 hs.mem.base) hsm.2.1 (by omega)) ?_); clear hs a; intro a w hs
  refine go hs (pA rfl <| ?_); clear hs a; intro a hs
  refine wpList_nil (then_normal ?_)
  refine wp_seq_cut (fun a w1 => ∃ (lf : Int), (-1 ≤ lf ∧ lf ≤ 8192) ∧ (0 ≤ lf → (xshape (q + 1) s left) = xk (xshape q) s.f3 (fun l => (true, l)) lf) ∧ (lf < 0 → (xshape (q + 1) s left).1 = false ∧ lf = -1) ∧ St 139 v0 [(1, .int .i64 lf), (2, .int .i64 ((q + 1 : Nat) : Int)), (3, .pointer (some ⟨gx, 0, none⟩))] [pt gx #[.int .u8 s.f0, .string s.f1, .slice A2 s.f2.length c2, .slice A3 s.f3.length c3, .slice A4 s.f4.length c4, .int .i64 s.f5, .int .i64 s.f6] 42] a w1) ?_ (fun a w1 hJ => ?_)
  · refine wp_seq (wp_region_lit ?_)
    refine go hs (pA rfl <| ?_); clear hs a; intro a hs
    refine wpList_nil (then_normal (wp_block ?_))
    refine wp_loopN (fun m a w1 => ∃ (i : Nat) (lf : Int), (i + m = s.f4.length) ∧ (-1 ≤ lf ∧ lf ≤ 8192) ∧ (0 ≤ lf → (xshape (q + 1) s left) = xk stR (s.f4.drop i) (xk (xshape q) s.f3 (fun l => (true, l))) lf) ∧ (lf < 0 → (xshape (q + 1) s left).1 = false ∧ lf = -1) ∧ St 139 v0 [(1, .int .i64 lf), (2, .int .i64 ((q + 1 : Nat) : Int)), (3, .pointer (some ⟨gx, 0, none⟩)), (9, .int .i64 ((i : Nat) : Int))] [pt gx #[.int .u8 s.f0, .string s.f1, .slice A2 s.f2.length c2, .slice A3 s.f3.length c3, .slice A4 s.f4.length c4, .int .i64 s.f5, .int .i64 s.f6] 42] a w1) (s.f4.length) ⟨0, refL s.f2 (left - 1), by omega, by omega, xb_next hA, xb_stop hA hfa, ?_⟩ (fun m a w1 hJ => ?_)
    · exact (hs.mem_to hs.mem).cut _ ⟨rfl, rfl, rfl, rfl, trivial⟩
    clear hs
    obtain ⟨i, lf, hi, hlf, hinv1, hneg1, hs⟩ := hJ
    refine wp_seq (wp_seq ?_)
    refine wp_region_lit (go hs (pM rfl <| pV rfl (fun a hs => y_faddr (k' := 4) 4 hs (by kernel_rfl) rfl rfl) <| pV rfl (fun a hs => y_load hs Tryd.underlying40 rfl rfl (fun w hw => (hw.to 0 rfl).cellV rfl)) <| pV rfl (fun a hs => y_lenL hs Tryd.underlying40 rfl) <| pV rfl (fun a hs => y_cmp hs rfl rfl rfl) <| pM rfl <| ?_)); clear hs a; intro a hs
    rcases hs.know (d := 89) rfl with ⟨h89, hs1⟩ | ⟨h89, hs1⟩ <;> replace hs := hs1 <;> clear hs1
    · replace h89 := of_decide_eq_true h89
      refine go hs (pG rfl (fun a hs => y_move hs rfl) <| pG rfl (fun a hs => y_cmp hs rfl rfl rfl) <| pT rfl rfl <| ?_); clear hs a; intro a hs
      refine wpList_nil (then_normal ?_)
      refine wp_cond_split (hs.ev rfl) (fun h92 => ?_) (fun h92 => ?_)
      · replace h92 := of_decide_eq_true h92
        obtain ⟨r, hr⟩ : ∃ r, s.f4[i]? = some r := ⟨_, List.getElem?_eq_getElem (by omega)⟩
        obtain ⟨g0, o, rfl, hcell⟩ := C_atH (show 0 < 1 by decide) hA4 (by omega)
        obtain ⟨cs, hK, hlen, hc⟩ := hcell i r hr
        obtain ⟨A0, c0, rfl, hlc, hC⟩ := hK
        have hdrop : s.f4.drop i = r :: s.f4.drop (i + 1) := by
          rw [List.drop_eq_getElem_cons (by omega)]
          rw [List.getElem?_eq_getElem (by omega)] at hr
          injection hr with hr
          rw [hr]
        rw [hdrop] at hinv1
        refine wp_skip (then_normal (wp_seq ?_))
        refine wp_block (wp_seq ?_)
        refine wp_seq (wp_region_lit ?_)
        refine go hs (pV rfl (fun a hs => y_faddr (k' := 4) 4 hs (by kernel_rfl) rfl rfl) <| pV rfl (fun a hs => y_load hs Tryd.underlying40 rfl rfl (fun w hw => (hw.to 0 rfl).cellV rfl)) <| pM rfl <| pV rfl (fun a hs => y_idxB (size := 1) (off := o + i * 1) hs Tryd.underlying40 (by kernel_rfl) rfl rfl (by omega) (by omega) (by simp)) <| pV rfl (fun a hs => y_load (v := .slice A0 r.length c0) hs Tryd.underlying23 rfl rfl (fun w hw => hc w hw.base 0 _ rfl)) <| pV rfl (fun a hs => y_lenL hs Tryd.underlying23 rfl) <| pV rfl (fun a hs => y_cmp hs rfl rfl rfl) <| pM rfl <| ?_); clear hs a; intro a hs
        rcases hs.know (d := 102) rfl with ⟨h102, hs1⟩ | ⟨h102, hs1⟩ <;> replace hs := hs1 <;> clear hs1
        · replace h102 := of_decide_eq_true h102
          refine go hs (pS rfl <| pS rfl <| pS rfl <| pS rfl <| pS rfl <| pS rfl <| pS rfl <| pT rfl rfl <| ?_); clear hs a; intro a hs
          refine wpList_nil (then_normal ?_)
          refine wp_cond_true (hs.ev rfl) ?_
          refine wp_seq (wp_region_lit ?_)
          refine go hs (pA rfl <| ?_); clear hs a; intro a hs
          refine wpList_nil (then_normal (wp_ret (then_ret (in_ret (then_ret (then_ret (in_ret (then_ret ?_))))))))
          have hX : refS (q + 1) s left = -1 := by
            have h1 := (xk_stop (hinv1 (by omega)) (stR_falls r lf (by omega)) (by rw [show stR r lf = (false, lf) by unfold stR; rw [if_neg (by omega)]]; show (-1 : Int) < 0; decide)).1
            unfold refS refB; rw [h1]; rfl
          refine fin_ret hs (.tmp (hs.slots _ _ rfl) .nil) ⟨?_, hs.mem.base⟩
          rw [hX]; rfl
        replace h102 := of_decide_eq_false h102
        refine go hs (pG rfl (fun a hs => y_faddr (k' := 4) 4 hs (by kernel_rfl) rfl rfl) <| pG rfl (fun a hs => y_load hs Tryd.underlying40 rfl rfl (fun w hw => (hw.to 0 rfl).cellV rfl)) <| pG rfl (fun a hs => y_move hs rfl) <| pG rfl (fun a hs => y_idxB (size := 1) (off := o + i * 1) hs Tryd.underlying40 (by kernel_rfl) rfl rfl (by omega) (by omega) (by simp)) <| pG rfl (fun a hs => y_load (v := .slice A0 r.length c0) hs Tryd.underlying23 rfl rfl (fun w hw => hc w hw.base 0 _ rfl)) <| pG rfl (fun a hs => y_lenL hs Tryd.underlying23 rfl) <| pG rfl (fun a hs => y_cmp hs rfl rfl rfl) <| pF rfl rfl <| ?_); clear hs a; intro a hs
        refine wpList_nil (then_normal ?_)
        refine wp_cond_split (hs.ev rfl) (fun h110 => ?_) (fun h110 => ?_)
        · replace h110 := of_decide_eq_true h110
          refine wp_seq (wp_region_lit ?_)
          refine go hs (pA rfl <| ?_); clear hs a; intro a hs
          refine wpList_nil (then_normal (wp_ret (then_ret (in_ret (then_ret (then_ret (in_ret (then_ret ?_))))))))
          have hX : refS (q + 1) s left = -1 := by
            have h1 := (xk_stop (hinv1 (by omega)) (stR_falls r lf (by omega)) (by rw [show stR r lf = (false, lf) by unfold stR; rw [if_neg (by omega)]]; show (-1 : Int) < 0; decide)).1
            unfold refS refB; rw [h1]; rfl
          refine fin_ret hs (.tmp (hs.slots _ _ rfl) .nil) ⟨?_, hs.mem.base⟩
          rw [hX]; rfl
        replace h110 := of_decide_eq_false h110
        refine wp_skip (then_normal (wp_region_lit ?_))
        refine go hs (pV rfl (fun a hs => y_faddr (k' := 4) 4 hs (by kernel_rfl) rfl rfl) <| pV rfl (fun a hs => y_load hs Tryd.underlying40 rfl rfl (fun w hw => (hw.to 0 rfl).cellV rfl)) <| pM rfl <| pV rfl (fun a hs => y_idxB (size := 1) (off := o + i * 1) hs Tryd.underlying40 (by kernel_rfl) rfl rfl (by omega) (by omega) (by simp)) <| pV rfl (fun a hs => y_load (v := .slice A0 r.length c0) hs Tryd.underlying23 rfl rfl (fun w hw => hc w hw.base 0 _ rfl)) <| pM rfl <| ?_); clear hs a; intro a hs
        have hR : stR r lf = xlist stE r lf := by unfold stR; rw [if_pos (by omega)]
        have hfl := stR_falls r lf (by omega)
        have hrb : -1 ≤ refL r lf ∧ refL r lf ≤ lf := by rw [refL_B, ← hR]; exact refB_bounds hfl
        refine a_eff rfl (e_callB Tryd.func73 rfl rfl hs rfl rfl (ref_exprs A0 c0 r lf _ (ref_expr 16 (by decide)) (Kd.C_below hC hs.mem.base) (hsm.2.2.2 r (List.mem_of_getElem? hr)) (by omega)) ?_); clear hs a; intro a w hs
        refine go hs (pA rfl <| ?_); clear hs a; intro a hs
        refine wpList_nil (in_normal (then_normal (wp_region_lit ?_)))
        refine go hs (pM rfl <| pV rfl (fun a hs => y_add hs rfl rfl (by omega)) <| pA rfl <| ?_); clear hs a; intro a hs
        refine wpList_nil (then_normal ?_)
        refine ⟨m - 1, by omega, i + 1, refL r lf, by omega, by omega, by rw [refL_B, ← hR]; exact xk_next (hinv1 (by omega)), by rw [refL_B, ← hR]; exact xk_stop (hinv1 (by omega)) hfl, ?_⟩
        exact (hs.mem_to hs.mem).cut _ ⟨rfl, rfl, rfl, rfl, trivial⟩
      replace h92 := of_decide_eq_false h92
      refine wp_exit (then_exit (then_exit (in_here (then_normal ?_))))
      refine ⟨lf, hlf, fun h0 => by have h1 := hinv1 h0; rw [List.drop_eq_nil_of_le (by omega), xk_nil] at h1; exact h1, hneg1, ?_⟩
      exact (hs.mem_to hs.mem).cut _ ⟨rfl, rfl, rfl, trivial⟩
    replace h89 := of_decide_eq_false h89
    refine go hs (pS rfl <| pS rfl <| pF rfl rfl <| ?_); clear hs a; intro a hs
    refine wpList_nil (then_normal ?_)
    refine wp_cond_false (hs.ev rfl) ?_
    refine wp_exit (then_exit (then_exit (in_here (then_normal ?_))))
    refine ⟨lf, hlf, fun h0 => by have h1 := hinv1 h0; rw [List.drop_eq_nil_of_le (by omega), xk_nil] at h1; exact h1, hneg1, ?_⟩
    exact (hs.mem_to hs.mem).cut _ ⟨rfl, rfl, rfl, trivial⟩
  clear hs
  obtain ⟨lf, hlf, hinv0, hneg0, hs⟩ := hJ
  refine wp_seq (wp_seq ?_)
  refine wp_region_lit (go hs (pA rfl <| ?_)); clear hs a; intro a hs
  refine wpList_nil (then_normal (wp_block ?_))
  refine wp_loopN (fun m a w1 => ∃ (i : Nat) (lf : Int), (i + m = s.f3.length) ∧ (-1 ≤ lf ∧ lf ≤ 8192) ∧ (0 ≤ lf → (xshape (q + 1) s left) = xk (xshape q) (s.f3.drop i) (fun l => (true, l)) lf) ∧ (lf < 0 → (xshape (q + 1) s left).1 = false ∧ lf = -1) ∧ St 139 v0 [(1, .int .i64 lf), (2, .int .i64 ((q + 1 : Nat) : Int)), (3, .pointer (some ⟨gx, 0, none⟩)), (10, .int .i64 ((i : Nat) : Int))] [pt gx #[.int .u8 s.f0, .string s.f1, .slice A2 s.f2.length c2, .slice A3 s.f3.length c3, .slice A4 s.f4.length c4, .int .i64 s.f5, .int .i64 s.f6] 42] a w1) (s.f3.length) ⟨0, lf, by omega, hlf, hinv0, hneg0, ?_⟩ (fun m a w1 hJ => ?_)
  · exact (hs.mem_to hs.mem).cut _ ⟨rfl, rfl, rfl, rfl, trivial⟩
  clear hs
  obtain ⟨i, lf, hi, hlf, hinv, hneg, hs⟩ := hJ
  refine wp_seq (wp_seq ?_)
  refine wp_region_lit (go hs (pM rfl <| pV rfl (fun a hs => y_faddr (k' := 3) 3 hs (by kernel_rfl) rfl rfl) <| pV rfl (fun a hs => y_load hs Tryd.underlying39 rfl rfl (fun w hw => (hw.to 0 rfl).cellV rfl)) <| pV rfl (fun a hs => y_lenL hs Tryd.underlying39 rfl) <| pV rfl (fun a hs => y_cmp hs rfl rfl rfl) <| pM rfl <| ?_)); clear hs a; intro a hs
  rcases hs.know (d := 123) rfl with ⟨h123, hs1⟩ | ⟨h123, hs1⟩ <;> replace hs := hs1 <;> clear hs1
  · replace h123 := of_decide_eq_true h123
    refine go hs (pG rfl (fun a hs => y_move hs rfl) <| pG rfl (fun a hs => y_cmp hs rfl rfl rfl) <| pT rfl rfl <| ?_); clear hs a; intro a hs
    refine wpList_nil (then_normal ?_)
    refine wp_cond_split (hs.ev rfl) (fun h126 => ?_) (fun h126 => ?_)
    · replace h126 := of_decide_eq_true h126
      obtain ⟨y, hy⟩ : ∃ y, s.f3[i]? = some y := ⟨_, List.getElem?_eq_getElem (by omega)⟩
      obtain ⟨g0, o, rfl, hcell⟩ := C_atG (show 0 < 7 by decide) hA3 (by omega)
      obtain ⟨cs, hK, hc⟩ := hcell i y hy
      obtain ⟨B2, d2, B3, d3, B4, d4, rfl, e2, g2, e3, g3, e4, g4⟩ := k42_open hK
      have hdrop : s.f3.drop i = y :: s.f3.drop (i + 1) := by
        rw [List.drop_eq_getElem_cons (by omega)]
        rw [List.getElem?_eq_getElem (by omega)] at hy
        injection hy with hy
        rw [hy]
      rw [hdrop] at hinv
      refine wp_skip (then_normal (wp_seq ?_))
      refine wp_block (wp_region_lit ?_)
      refine go hs (pV rfl (fun a hs => y_faddr (k' := 3) 3 hs (by kernel_rfl) rfl rfl) <| pV rfl (fun a hs => y_load hs Tryd.underlying39 rfl rfl (fun w hw => (hw.to 0 rfl).cellV rfl)) <| pM rfl <| pV rfl (fun a hs => y_idxB (size := 7) (off := o + i * 7) hs Tryd.underlying39 (by kernel_rfl) rfl rfl (by omega) (by omega) (by simp)) <| pV rfl (fun a hs => y_loadAgg (vs := [.int .u8 y.f0, .string y.f1, .slice B2 y.f2.length d2, .slice B3 y.f3.length d3, .slice B4 y.f4.length d4, .int .i64 y.f5, .int .i64 y.f6]) hs Tryd.underlying42 rfl (by kernel_rfl) rfl (fun w hw k v hk => hc w hw.base k v hk)) <| pM rfl <| pM rfl <| pV rfl (fun a hs => y_sub hs rfl rfl (by omega)) <| ?_); clear hs a; intro a hs
      replace hs := hs.say 136 rfl (congrArg (Value.int IntKind.i64) (show (((q + 1 : Nat) : Int) - 1) = ((q : Nat) : Int) by omega))
      have hfl := xshape_falls q y lf (by omega)
      have hrb : -1 ≤ refS q y lf ∧ refS q y lf ≤ lf := refB_bounds hfl
      refine a_eff rfl (e_callB Tryd.func46 rfl rfl hs rfl rfl (ih q rfl y B2 B3 B4 d2 d3 d4 lf _ (Kd.C_below g2 hs.mem.base) (Kd.C_below g3 hs.mem.base) (Kd.C_below g4 hs.mem.base) (hsm.2.2.1 y (List.mem_of_getElem? hy)) (by omega)) ?_); clear hs a; intro a w hs
      refine go hs (pA rfl <| ?_); clear hs a; intro a hs
      refine wpList_nil (in_normal (then_normal (wp_region_lit ?_)))
      refine go hs (pM rfl <| pV rfl (fun a hs => y_add hs rfl rfl (by omega)) <| pA rfl <| ?_); clear hs a; intro a hs
      refine wpList_nil (then_normal ?_)
      refine ⟨m - 1, by omega, i + 1, refS q y lf, by omega, by omega, xk_next (hinv (by omega)), xk_stop (hinv (by omega)) hfl, ?_⟩
      exact (hs.mem_to hs.mem).cut _ ⟨rfl, rfl, rfl, rfl, trivial⟩
    replace h126 := of_decide_eq_false h126
    refine wp_exit (then_exit (then_exit (in_here (then_normal (wp_seq ?_)))))
    refine wp_region_lit (go hs (pM rfl <| pA rfl <| ?_)); clear hs a; intro a hs
    refine wpList_nil (then_normal (wp_ret ?_))
    have hX : refS (q + 1) s left = lf := by
      by_cases h0 : 0 ≤ lf
      · have h1 := hinv h0
        rw [List.drop_eq_nil_of_le (by omega), xk_nil] at h1
        unfold refS; rw [h1]; rfl
      obtain ⟨h1, h2⟩ := hneg (by omega)
      unfold refS refB; rw [h1, h2]; rfl
    refine fin_ret hs (.tmp (hs.slots _ _ rfl) .nil) ⟨?_, hs.mem.base⟩
    rw [hX]; rfl
  replace h123 := of_decide_eq_false h123
  refine go hs (pS rfl <| pS rfl <| pF rfl rfl <| ?_); clear hs a; intro a hs
  refine wpList_nil (then_normal ?_)
  refine wp_cond_false (hs.ev rfl) ?_
  refine wp_exit (then_exit (then_exit (in_here (then_normal (wp_seq ?_)))))
  refine wp_region_lit (go hs (pM rfl <| pA rfl <| ?_)); clear hs a; intro a hs
  refine wpList_nil (then_normal (wp_ret ?_))
  have hX : refS (q + 1) s left = lf := by
    by_cases h0 : 0 ≤ lf
    · have h1 := hinv h0
      rw [List.drop_eq_nil_of_le (by omega), xk_nil] at h1
      unfold refS; rw [h1]; rfl
    obtain ⟨h1, h2⟩ := hneg (by omega)
    unfold refS refB; rw [h1, h2]; rfl
  refine fin_ret hs (.tmp (hs.slots _ _ rfl) .nil) ⟨?_, hs.mem.base⟩
  rw [hX]; rfl
theorem ref_shape : ∀ n : Nat, n ≤ 1000 → RefSOk n := fun n => by
  induction n using Nat.strongRecOn with
  | _ n ih => exact fun hn s A2 A3 A4 c2 c3 c4 left v0 hA2 hA3 hA4 hsm hl => ref_shape_step n hn (fun q hq => ih q (by omega) (by omega)) s A2 A3 A4 c2 c3 c4 left v0 hA2 hA3 hA4 hsm hl
theorem refB_ge {r : Bool × Int} {l : Int} (h : fallsB r l) : decide (refB r ≥ 0) = r.1 := by
  unfold refB
  cases h1 : r.1 with
  | true => rw [if_pos rfl]; exact decide_eq_true (h.2.2 h1)
  | false => rw [if_neg (by decide)]; rfl
set_option maxRecDepth 100000 in
theorem ref_MayShape (s : XS) (A2 A3 A4 : Option Addr) (c2 c3 c4 : Nat) (v0 : World) (hA2 : Kd.C k25 v0 A2 s.f2.length s.f2) (hA3 : Kd.C k42 v0 A3 s.f3.length s.f3) (hA4 : Kd.C (Kd.slice 25 k25) v0 A4 s.f4.length s.f4) (hsm : smallS 16 s) :
    Calls Tryd.prog 22 #[.agg #[.int .u8 s.f0, .string s.f1, .slice A2 s.f2.length c2, .slice A3 s.f3.length c3, .slice A4 s.f4.length c4, .int .i64 s.f5, .int .i64 s.f6]] v0 fun e w' => e = .returned (.bool (xshape 16 s 8192).1) ∧ Below v0.heap.size v0 w' := by
  refine calls_enter (N := 6) (n := 5) (args := [.agg #[.int .u8 s.f0, .string s.f1, .slice A2 s.f2.length c2, .slice A3 s.f3.length c3, .slice A4 s.f4.length c4, .int .i64 s.f5, .int .i64 s.f6]]) Tryd.func22 rfl rfl rfl (H.init v0) (fun a hs => ?_)
  refine wp_seq (wp_region_lit ?_)
  refine a_eff rfl (e_box (cs := #[_, _, _, _, _, _, _]) hs rfl rfl rfl ?_); clear hs a; intro gx a w hs
  refine go hs (pA rfl <| ?_); clear hs a; intro a hs
  refine wpList_nil (then_normal (wp_seq ?_))
  refine wp_region_lit (go hs (pV rfl (fun a hs => y_loadPt 0 rfl hs Tryd.underlying42 rfl (by kernel_rfl) rfl) <| ?_)); clear hs a; intro a hs
  refine a_eff rfl (e_callB Tryd.func46 rfl rfl hs rfl rfl (ref_shape 16 (by decide) s A2 A3 A4 c2 c3 c4 8192 _ (Kd.C_below hA2 hs.mem.base) (Kd.C_below hA3 hs.mem.base) (Kd.C_below hA4 hs.mem.base) hsm (by omega)) ?_); clear hs a; intro a w hs
  refine go hs (pV rfl (fun a hs => y_cmp (b := (xshape 16 s 8192).1) hs rfl rfl (congrArg some (refB_ge (xshape_falls 16 s 8192 (by decide))))) <| pA rfl <| ?_); clear hs a; intro a hs
  refine wpList_nil (then_normal (wp_ret ?_))
  refine fin_ret hs (.tmp (hs.slots _ _ rfl) .nil) ⟨rfl, hs.mem.base⟩
end Go.Proofs.YtibaidddhmdafaaDoor.E
end
section
namespace Go.Proofs.YtibaidddhmdafaaDoor.E
open Go Go.RowKit Go.Proofs.YtibaidddhmdafaaDoorW.PrintWords Go.Proofs.YtibaidddhmdafaaDoorW.PrintLast Go.Proofs.YtibaidddhmdafaaDoorW.PrintMore Go.Proofs.YtibaidddhmdafaaDoor.PA
set_option linter.unusedVariables false
set_option linter.unusedSimpArgs false
/-- The head of an item as the reference asks it. -/
def refHead (x : XI) : Prop := 1 ≤ x.f0 ∧ x.f0 ≤ 6 ∧ decide (x.f0 = 1 ∨ x.f0 = 2 ∨ x.f0 = 3) = nameOk x.f1 ∧ (¬ (x.f0 = 1 ∨ x.f0 = 2 ∨ x.f0 = 3) → x.f1.size = 0) ∧ decide (x.f0 = 1 ∨ x.f0 = 4 ∨ x.f0 = 6 ∨ x.f0 = 5 ∧ x.f4 = 3) ≠ noExprB x.f2 ∧ decide (x.f0 = 2) ≠ noShapeB x.f3 ∧ (x.f0 = 5 ↔ 1 ≤ x.f4 ∧ x.f4 ≤ 4) ∧ (x.f0 ≠ 5 → x.f4 = 0) ∧ decide (x.f0 = 5 ∧ x.f4 = 4) = decide (0 < x.f5.length) ∧ x.f5.length ≤ 64
theorem stE_zero {x : XE} {l : Int} (h : noExprB x = true) : (stE x l).1 = false := by
  have h0 := of_decide_eq_true h
  unfold stE
  refine decide_eq_false ?_
  rw [xexpr]
  split
  · show ¬ 0 < 0; omega
  · have hE : exprParts x = none := by
      unfold exprParts
      repeat' split
      all_goals first | rfl | (exfalso; omega)
    rw [hE]; show ¬ 0 < 0; omega
theorem shape_zero {s : XS} {l : Int} (h : noShapeB s = true) : (xshape 16 s l).1 = false := by
  have h0 := of_decide_eq_true h
  rw [xshape]
  split
  · rfl
  · have hP : shapeParts s.f0 = none := by unfold shapeParts; (repeat' split) <;> first | rfl | (exfalso; omega)
    have hH : ¬ headS s := by rintro ⟨nm, a, p, r, h1, _⟩; rw [hP] at h1; cases h1
    rw [if_neg hH]
theorem itemParts_none {k p : Int} (h : itemParts k p = none) : ¬ (1 ≤ k ∧ k ≤ 6 ∧ (k = 5 ↔ 1 ≤ p ∧ p ≤ 4)) := by
  unfold itemParts at h
  rintro ⟨a, b, c⟩
  repeat' split at h
  all_goals first | cases h; done | omega
theorem refHead_head {x : XI} (h : refHead x) : headI x := by
  obtain ⟨b0, b1, b2, b3, b4, b5, b6, b7, b8, b9⟩ := h
  cases hp : itemParts x.f0 x.f4 with
  | none => exact absurd ⟨b0, b1, b6⟩ (itemParts_none hp)
  | some t =>
    obtain ⟨nm, v, sh, li⟩ := t
    have hn : nm = decide (x.f0 = 1 ∨ x.f0 = 2 ∨ x.f0 = 3) := by rcases items_cases hp with ⟨rfl, rfl, rfl, rfl, hk⟩ | ⟨rfl, rfl, rfl, rfl, hk⟩ | ⟨rfl, rfl, rfl, rfl, hk⟩ | ⟨rfl, rfl, rfl, rfl, hk⟩ | ⟨rfl, rfl, rfl, rfl, hk⟩ | ⟨rfl, rfl, rfl, rfl, hk⟩ <;> first | exact (decide_eq_true (by omega)).symm | exact (decide_eq_false (by omega)).symm
    have hv : v = decide (x.f0 = 1 ∨ x.f0 = 4 ∨ x.f0 = 6 ∨ x.f0 = 5 ∧ x.f4 = 3) := by rcases items_cases hp with ⟨rfl, rfl, rfl, rfl, hk⟩ | ⟨rfl, rfl, rfl, rfl, hk⟩ | ⟨rfl, rfl, rfl, rfl, hk⟩ | ⟨rfl, rfl, rfl, rfl, hk⟩ | ⟨rfl, rfl, rfl, rfl, hk⟩ | ⟨rfl, rfl, rfl, rfl, hk⟩ <;> first | exact (decide_eq_true (by omega)).symm | exact (decide_eq_false (by omega)).symm
    have hs : sh = decide (x.f0 = 2) := by rcases items_cases hp with ⟨rfl, rfl, rfl, rfl, hk⟩ | ⟨rfl, rfl, rfl, rfl, hk⟩ | ⟨rfl, rfl, rfl, rfl, hk⟩ | ⟨rfl, rfl, rfl, rfl, hk⟩ | ⟨rfl, rfl, rfl, rfl, hk⟩ | ⟨rfl, rfl, rfl, rfl, hk⟩ <;> first | exact (decide_eq_true (by omega)).symm | exact (decide_eq_false (by omega)).symm
    have hl : li = decide (x.f0 = 5 ∧ x.f4 = 4) := by rcases items_cases hp with ⟨rfl, rfl, rfl, rfl, hk⟩ | ⟨rfl, rfl, rfl, rfl, hk⟩ | ⟨rfl, rfl, rfl, rfl, hk⟩ | ⟨rfl, rfl, rfl, rfl, hk⟩ | ⟨rfl, rfl, rfl, rfl, hk⟩ | ⟨rfl, rfl, rfl, rfl, hk⟩ <;> first | exact (decide_eq_true (by omega)).symm | exact (decide_eq_false (by omega)).symm
    refine ⟨nm, v, sh, li, hp, fun h => ?_, fun h => ?_, b7, fun h => ?_, fun h => ?_, fun h => ?_, fun h => ?_⟩
    · rw [← b2, ← hn]; exact h
    · exact b3 (of_decide_eq_false (hn.symm.trans h))
    · have h1 := of_decide_eq_true (b8.symm.trans (hl.symm.trans h)); exact ⟨h1, b9⟩
    · have h1 := of_decide_eq_false (b8.symm.trans (hl.symm.trans h)); omega
    · have h1 : decide (x.f0 = 1 ∨ x.f0 = 4 ∨ x.f0 = 6 ∨ x.f0 = 5 ∧ x.f4 = 3) = false := hv.symm.trans h
      rw [h1] at b4; cases hq : noExprB x.f2 with
      | true => rfl
      | false => exact absurd hq.symm b4
    · have h1 : decide (x.f0 = 2) = false := hs.symm.trans h
      rw [h1] at b5; cases hq : noShapeB x.f3 with
      | true => rfl
      | false => exact absurd hq.symm b5
theorem itemF_ref {x : XI} {left : Int} (hl : ¬ left - 1 < 0) (hH : headI x) : itemF x left = if (valI x (left - 1)).1 = true then (if (shI x (valI x (left - 1)).2).1 = true then xlist stE x.f5 (shI x (valI x (left - 1)).2).2 else shI x (valI x (left - 1)).2) else valI x (left - 1) := by
  unfold itemF
  rw [if_neg hl, if_pos hH]
theorem itemF_not {x : XI} {left : Int} (h : ¬ (left - 1 < 0) → headI x → (valI x (left - 1)).1 = false ∨ x.f0 = 2 ∧ ∀ l, (xshape 16 x.f3 l).1 = false) : (itemF x left).1 = false := by
  unfold itemF
  split
  · rfl
  · rename_i h1
    split
    · rename_i h2
      rcases h h1 h2 with h3 | ⟨h3, h4⟩
      · rw [if_neg (by rw [h3]; exact Bool.false_ne_true)]; exact h3
      · split
        · have h5 : ∀ l, shI x l = xshape 16 x.f3 l := fun l => by unfold shI; rw [if_pos h3]
          rw [h5, if_neg (by rw [h4]; exact Bool.false_ne_true)]; exact h4 _
        · rename_i h5; simpa using h5
    · rfl
theorem head_refHead {x : XI} (h : headI x) (h1 : hasV x → noExprB x.f2 = false) (h2 : x.f0 = 2 → noShapeB x.f3 = false) : refHead x := by
  obtain ⟨nm, v, sh, li, hp, n1, n2, n3, l1, l2, v1, s1⟩ := h
  have hz : x.f1.size = 0 → nameOk x.f1 = false := nameOk_nil
  rcases items_cases hp with ⟨rfl, rfl, rfl, rfl, hk⟩ | ⟨rfl, rfl, rfl, rfl, hk⟩ | ⟨rfl, rfl, rfl, rfl, hk⟩ | ⟨rfl, rfl, rfl, rfl, hk⟩ | ⟨rfl, rfl, rfl, rfl, hk⟩ | ⟨rfl, rfl, rfl, rfl, hk⟩
  all_goals refine ⟨by omega, by omega, ?_, ?_, ?_, ?_, by omega, n3, ?_, ?_⟩
  all_goals first
    | (rw [n1 rfl]; exact decide_eq_true (by omega))
    | (rw [hz (n2 rfl)]; exact decide_eq_false (by omega))
    | (intro h0; first | exact n2 rfl | omega)
    | (rw [h1 (by unfold hasV; omega), decide_eq_true (by omega)]; exact fun h => by cases h)
    | (rw [v1 rfl, decide_eq_false (by omega)]; exact fun h => by cases h)
    | (rw [h2 (by omega), decide_eq_true (by omega)]; exact fun h => by cases h)
    | (rw [s1 rfl, decide_eq_false (by omega)]; exact fun h => by cases h)
    | (have := l1 rfl; first | omega | (rw [decide_eq_true (by omega), decide_eq_true (by omega)]))
    | (have := l2 rfl; first | omega | (rw [decide_eq_false (by omega), decide_eq_false (by omega)]))
theorem refI_bad {x : XI} {left : Int} (h : ¬ (¬ left - 1 < 0 ∧ refHead x)) : refB (itemF x left) = -1 := by
  have h1 : (itemF x left).1 = false := itemF_not (fun a b => by
    by_cases hv : hasV x ∧ noExprB x.f2 = true
    · left; unfold valI; rw [if_pos hv.1]; exact stE_zero hv.2
    · by_cases hs : x.f0 = 2 ∧ noShapeB x.f3 = true
      · exact .inr ⟨hs.1, fun l => shape_zero hs.2⟩
      · exact absurd ⟨a, head_refHead b (fun h => by cases hq : noExprB x.f2 with | true => exact absurd ⟨h, hq⟩ hv | false => rfl) (fun h => by cases hq : noShapeB x.f3 with | true => exact absurd ⟨h, hq⟩ hs | false => rfl)⟩ h)
  unfold refB; rw [h1]; rfl
theorem refE_B (x : XE) (l : Int) : refE 16 x l = refB (stE x l) := by
  unfold refE refB stE
  by_cases h : (xexpr 16 x l).1 = 0
  · rw [if_pos h, if_neg (by rw [decide_eq_false (by omega)]; exact Bool.false_ne_true)]
  · rw [if_neg h, if_pos (decide_eq_true (by omega))]
theorem ref_exprB (x : XE) (A : Option Addr) (C : Nat) (left : Int) (v0 : World) (hA : Kd.C k25 v0 A x.f3.length x.f3) (hsm : smallX 16 x) (hl : 0 ≤ left ∧ left ≤ 8192) :
    Calls Tryd.prog 42 #[.agg #[.int .u8 x.f0, .int .i64 x.f1, .string x.f2, .slice A x.f3.length C, .int .i64 x.f4, .int .i64 x.f5], .int .i64 left, .int .i64 ((16 : Nat) : Int)] v0 fun e w' => e = .returned (.int .i64 (refB (stE x left))) ∧ Below v0.heap.size v0 w' := by
  have h := ref_expr 16 (by decide) x A C left v0 hA hsm hl
  rw [refE_B] at h; exact h
theorem xb_k {r : Bool × Int} {k : Int → Bool × Int} (h : 0 ≤ refB r) : (if r.1 = true then k r.2 else r) = k (refB r) := by
  unfold refB at h ⊢
  split at h
  · rename_i h1; rw [if_pos h1, if_pos h1]
  · omega
theorem xb_s {r : Bool × Int} {k : Int → Bool × Int} {l : Int} (hf : fallsB r l) (h : refB r < 0) : (if r.1 = true then k r.2 else r).1 = false ∧ refB r = -1 := xb_stop rfl hf h
set_option maxHeartbeats 4000000 in
set_option maxRecDepth 100000 in
theorem ref_Item (x : XI) (A5 A10 A11 A12 A16 : Option Addr) (c5 c10 c11 c12 c16 : Nat) (left : Int) (v0 : World) (hA5 : Kd.C k25 v0 A5 x.f2.f3.length x.f2.f3) (hA10 : Kd.C k25 v0 A10 x.f3.f2.length x.f3.f2) (hA11 : Kd.C k42 v0 A11 x.f3.f3.length x.f3.f3) (hA12 : Kd.C (Kd.slice 25 k25) v0 A12 x.f3.f4.length x.f3.f4) (hA16 : Kd.C k25 v0 A16 x.f5.length x.f5) (hsm : smallI x) (hl : 0 ≤ left ∧ left ≤ 8192) :
    Calls Tryd.prog 41 #[.agg #[.int .u8 x.f0, .string x.f1, .int .u8 x.f2.f0, .int .i64 x.f2.f1, .string x.f2.f2, .slice A5 x.f2.f3.length c5, .int .i64 x.f2.f4, .int .i64 x.f2.f5, .int .u8 x.f3.f0, .string x.f3.f1, .slice A10 x.f3.f2.length c10, .slice A11 x.f3.f3.length c11, .slice A12 x.f3.f4.length c12, .int .i64 x.f3.f5, .int .i64 x.f3.f6, .int .u8 x.f4, .slice A16 x.f5.length c16, .int .i64 x.f6, .int .i64 x.f7], .int .i64 left] v0 fun e w' => e = .returned (.int .i64 (refB (itemF x left))) ∧ Below v0.heap.size v0 w' := by
  refine calls_enter (N := 155) (n := 153) (args := [.agg #[.int .u8 x.f0, .string x.f1, .int .u8 x.f2.f0, .int .i64 x.f2.f1, .string x.f2.f2, .slice A5 x.f2.f3.length c5, .int .i64 x.f2.f4, .int .i64 x.f2.f5, .int .u8 x.f3.f0, .string x.f3.f1, .slice A10 x.f3.f2.length c10, .slice A11 x.f3.f3.length c11, .slice A12 x.f3.f4.length c12, .int .i64 x.f3.f5, .int .i64 x.f3.f6, .int .u8 x.f4, .slice A16 x.f5.length c16, .int .i64 x.f6, .int .i64 x.f7], .int .i64 left]) Tryd.func41 rfl rfl rfl (H.init v0) (fun a hs => ?_)
  have hcl16 := C_len hA16
  refine wp_seq (wp_region_lit ?_)
  refine a_eff rfl (e_box (cs := #[_, _, _, _, _, _, _, _, _, _, _, _, _, _, _, _, _, _, _]) hs rfl rfl rfl ?_); clear hs a; intro gx a w hs
  refine go hs (pA rfl <| ?_); clear hs a; intro a hs
  refine wpList_nil (then_normal (wp_seq ?_))
  refine wp_region_lit (go hs (pM rfl <| pV rfl (fun a hs => y_sub hs rfl rfl (by omega)) <| pA rfl <| ?_)); clear hs a; intro a hs
  refine wpList_nil (then_normal ?_)
  refine wp_seq_cut (fun a w1 => ∃ (nm : Bool), (nm = decide (x.f0 = 1 ∨ x.f0 = 2 ∨ x.f0 = 3)) ∧ St 155 v0 [(1, .int .i64 (left - 1)), (2, .pointer (some ⟨gx, 0, none⟩)), (5, .bool nm)] [pt gx #[.int .u8 x.f0, .string x.f1, .int .u8 x.f2.f0, .int .i64 x.f2.f1, .string x.f2.f2, .slice A5 x.f2.f3.length c5, .int .i64 x.f2.f4, .int .i64 x.f2.f5, .int .u8 x.f3.f0, .string x.f3.f1, .slice A10 x.f3.f2.length c10, .slice A11 x.f3.f3.length c11, .slice A12 x.f3.f4.length c12, .int .i64 x.f3.f5, .int .i64 x.f3.f6, .int .u8 x.f4, .slice A16 x.f5.length c16, .int .i64 x.f6, .int .i64 x.f7] 45] a w1) ?_ (fun a w1 hJ => ?_)
  · refine wp_region_lit (go hs (pV rfl (fun a hs => y_faddr (k' := 0) 0 hs (by kernel_rfl) rfl rfl) <| pV rfl (fun a hs => y_load hs Tryd.underlying37 rfl rfl (fun w hw => (hw.to 0 rfl).cellV rfl)) <| pV rfl (fun a hs => y_cmp hs rfl rfl rfl) <| pM rfl <| ?_)); clear hs a; intro a hs
    rcases hs.know (d := 13) rfl with ⟨h13, hs1⟩ | ⟨h13, hs1⟩ <;> replace hs := hs1 <;> clear hs1
    · replace h13 := eq_of_beq h13
      refine go hs (pS rfl <| pS rfl <| pS rfl <| pT rfl rfl <| pM rfl <| pS rfl <| pS rfl <| pS rfl <| pT rfl rfl <| pA rfl <| ?_); clear hs a; intro a hs
      refine wpList_nil (then_normal ?_)
      refine ⟨true, (decide_eq_true (by omega)).symm, ?_⟩
      exact (hs.mem_to hs.mem).cut _ ⟨rfl, rfl, rfl, trivial⟩
    replace h13 := ne_of_beq_false h13
    refine go hs (pG rfl (fun a hs => y_faddr (k' := 0) 0 hs (by kernel_rfl) rfl rfl) <| pG rfl (fun a hs => y_load hs Tryd.underlying37 rfl rfl (fun w hw => (hw.to 0 rfl).cellV rfl)) <| pG rfl (fun a hs => y_cmp hs rfl rfl rfl) <| pF rfl rfl <| pM rfl <| ?_); clear hs a; intro a hs
    rcases hs.know (d := 18) rfl with ⟨h18, hs1⟩ | ⟨h18, hs1⟩ <;> replace hs := hs1 <;> clear hs1
    · replace h18 := eq_of_beq h18
      refine go hs (pS rfl <| pS rfl <| pS rfl <| pT rfl rfl <| pA rfl <| ?_); clear hs a; intro a hs
      refine wpList_nil (then_normal ?_)
      refine ⟨true, (decide_eq_true (by omega)).symm, ?_⟩
      exact (hs.mem_to hs.mem).cut _ ⟨rfl, rfl, rfl, trivial⟩
    replace h18 := ne_of_beq_false h18
    refine go hs (pG rfl (fun a hs => y_faddr (k' := 0) 0 hs (by kernel_rfl) rfl rfl) <| pG rfl (fun a hs => y_load hs Tryd.underlying37 rfl rfl (fun w hw => (hw.to 0 rfl).cellV rfl)) <| pG rfl (fun a hs => y_cmp hs rfl rfl rfl) <| pF rfl rfl <| pA rfl <| ?_); clear hs a; intro a hs
    refine wpList_nil (then_normal ?_)
    refine ⟨(x.f0 == 3), by rw [Bool.eq_iff_iff]; simp only [beq_iff_eq, decide_eq_true_eq]; clear hs; omega, ?_⟩
    exact (hs.mem_to hs.mem).cut _ ⟨rfl, rfl, rfl, trivial⟩
  clear hs
  obtain ⟨nm, hnm, hs⟩ := hJ
  refine wp_seq_cut (fun a w1 => ∃ (v : Bool), (v = decide (x.f0 = 1 ∨ x.f0 = 4 ∨ x.f0 = 6 ∨ x.f0 = 5 ∧ x.f4 = 3)) ∧ St 155 v0 [(1, .int .i64 (left - 1)), (2, .pointer (some ⟨gx, 0, none⟩)), (5, .bool nm), (6, .bool v)] [pt gx #[.int .u8 x.f0, .string x.f1, .int .u8 x.f2.f0, .int .i64 x.f2.f1, .string x.f2.f2, .slice A5 x.f2.f3.length c5, .int .i64 x.f2.f4, .int .i64 x.f2.f5, .int .u8 x.f3.f0, .string x.f3.f1, .slice A10 x.f3.f2.length c10, .slice A11 x.f3.f3.length c11, .slice A12 x.f3.f4.length c12, .int .i64 x.f3.f5, .int .i64 x.f3.f6, .int .u8 x.f4, .slice A16 x.f5.length c16, .int .i64 x.f6, .int .i64 x.f7] 45] a w1) ?_ (fun a w1 hJ => ?_)
  · refine wp_region_lit (go hs (pV rfl (fun a hs => y_faddr (k' := 0) 0 hs (by kernel_rfl) rfl rfl) <| pV rfl (fun a hs => y_load hs Tryd.underlying37 rfl rfl (fun w hw => (hw.to 0 rfl).cellV rfl)) <| pV rfl (fun a hs => y_cmp hs rfl rfl rfl) <| pM rfl <| ?_)); clear hs a; intro a hs
    rcases hs.know (d := 26) rfl with ⟨h26, hs1⟩ | ⟨h26, hs1⟩ <;> replace hs := hs1 <;> clear hs1
    · replace h26 := eq_of_beq h26
      refine go hs (pS rfl <| pS rfl <| pS rfl <| pT rfl rfl <| pM rfl <| pS rfl <| pS rfl <| pS rfl <| pT rfl rfl <| pM rfl <| pS rfl <| pS rfl <| pS rfl <| pS rfl <| pS rfl <| pS rfl <| pS rfl <| pS rfl <| pT rfl rfl <| pA rfl <| ?_); clear hs a; intro a hs
      refine wpList_nil (then_normal ?_)
      refine ⟨true, (decide_eq_true (by omega)).symm, ?_⟩
      exact (hs.mem_to hs.mem).cut _ ⟨rfl, rfl, rfl, rfl, trivial⟩
    replace h26 := ne_of_beq_false h26
    refine go hs (pG rfl (fun a hs => y_faddr (k' := 0) 0 hs (by kernel_rfl) rfl rfl) <| pG rfl (fun a hs => y_load hs Tryd.underlying37 rfl rfl (fun w hw => (hw.to 0 rfl).cellV rfl)) <| pG rfl (fun a hs => y_cmp hs rfl rfl rfl) <| pF rfl rfl <| pM rfl <| ?_); clear hs a; intro a hs
    rcases hs.know (d := 31) rfl with ⟨h31, hs1⟩ | ⟨h31, hs1⟩ <;> replace hs := hs1 <;> clear hs1
    · replace h31 := eq_of_beq h31
      refine go hs (pS rfl <| pS rfl <| pS rfl <| pT rfl rfl <| pM rfl <| pS rfl <| pS rfl <| pS rfl <| pS rfl <| pS rfl <| pS rfl <| pS rfl <| pS rfl <| pT rfl rfl <| pA rfl <| ?_); clear hs a; intro a hs
      refine wpList_nil (then_normal ?_)
      refine ⟨true, (decide_eq_true (by omega)).symm, ?_⟩
      exact (hs.mem_to hs.mem).cut _ ⟨rfl, rfl, rfl, rfl, trivial⟩
    replace h31 := ne_of_beq_false h31
    refine go hs (pG rfl (fun a hs => y_faddr (k' := 0) 0 hs (by kernel_rfl) rfl rfl) <| pG rfl (fun a hs => y_load hs Tryd.underlying37 rfl rfl (fun w hw => (hw.to 0 rfl).cellV rfl)) <| pG rfl (fun a hs => y_cmp hs rfl rfl rfl) <| pF rfl rfl <| pM rfl <| ?_); clear hs a; intro a hs
    rcases hs.know (d := 36) rfl with ⟨h36, hs1⟩ | ⟨h36, hs1⟩ <;> replace hs := hs1 <;> clear hs1
    · replace h36 := eq_of_beq h36
      refine go hs (pS rfl <| pS rfl <| pS rfl <| pS rfl <| pS rfl <| pS rfl <| pS rfl <| pS rfl <| pT rfl rfl <| pA rfl <| ?_); clear hs a; intro a hs
      refine wpList_nil (then_normal ?_)
      refine ⟨true, (decide_eq_true (by omega)).symm, ?_⟩
      exact (hs.mem_to hs.mem).cut _ ⟨rfl, rfl, rfl, rfl, trivial⟩
    replace h36 := ne_of_beq_false h36
    refine go hs (pG rfl (fun a hs => y_faddr (k' := 0) 0 hs (by kernel_rfl) rfl rfl) <| pG rfl (fun a hs => y_load hs Tryd.underlying37 rfl rfl (fun w hw => (hw.to 0 rfl).cellV rfl)) <| pG rfl (fun a hs => y_cmp hs rfl rfl rfl) <| pG rfl (fun a hs => y_move hs rfl) <| ?_); clear hs a; intro a hs
    rcases hs.know (d := 40) rfl with ⟨h40, hs1⟩ | ⟨h40, hs1⟩ <;> replace hs := hs1 <;> clear hs1
    · replace h40 := eq_of_beq h40
      refine go hs (pG rfl (fun a hs => y_faddr (k' := 15) 15 hs (by kernel_rfl) rfl rfl) <| pG rfl (fun a hs => y_load hs Tryd.underlying43 rfl rfl (fun w hw => (hw.to 0 rfl).cellV rfl)) <| pG rfl (fun a hs => y_cmp hs rfl rfl rfl) <| pG rfl (fun a hs => y_pickT hs rfl rfl rfl) <| pF rfl rfl <| pA rfl <| ?_); clear hs a; intro a hs
      refine wpList_nil (then_normal ?_)
      refine ⟨(x.f4 == 3), by rw [Bool.eq_iff_iff]; simp only [beq_iff_eq, decide_eq_true_eq]; clear hs; omega, ?_⟩
      exact (hs.mem_to hs.mem).cut _ ⟨rfl, rfl, rfl, rfl, trivial⟩
    replace h40 := ne_of_beq_false h40
    refine go hs (pS rfl <| pS rfl <| pS rfl <| pG rfl (fun a hs => y_pickF hs rfl rfl rfl) <| pF rfl rfl <| pA rfl <| ?_); clear hs a; intro a hs
    refine wpList_nil (then_normal ?_)
    refine ⟨false, (decide_eq_false (by omega)).symm, ?_⟩
    exact (hs.mem_to hs.mem).cut _ ⟨rfl, rfl, rfl, rfl, trivial⟩
  clear hs
  obtain ⟨v, hvm, hs⟩ := hJ
  refine wp_seq_cut (fun a w1 => (¬ left - 1 < 0 ∧ 1 ≤ x.f0 ∧ x.f0 ≤ 6) ∧ (nm = nameOk x.f1) ∧ (nm = false → x.f1.size = 0) ∧ St 155 v0 [(1, .int .i64 (left - 1)), (2, .pointer (some ⟨gx, 0, none⟩)), (6, .bool v)] [pt gx #[.int .u8 x.f0, .string x.f1, .int .u8 x.f2.f0, .int .i64 x.f2.f1, .string x.f2.f2, .slice A5 x.f2.f3.length c5, .int .i64 x.f2.f4, .int .i64 x.f2.f5, .int .u8 x.f3.f0, .string x.f3.f1, .slice A10 x.f3.f2.length c10, .slice A11 x.f3.f3.length c11, .slice A12 x.f3.f4.length c12, .int .i64 x.f3.f5, .int .i64 x.f3.f6, .int .u8 x.f4, .slice A16 x.f5.length c16, .int .i64 x.f6, .int .i64 x.f7] 45] a w1) ?_ (fun a w1 hJ => ?_)
  · refine wp_seq (wp_region_lit ?_)
    refine go hs (pM rfl <| pV rfl (fun a hs => y_cmp hs rfl rfl rfl) <| pM rfl <| ?_); clear hs a; intro a hs
    rcases hs.know (d := 48) rfl with ⟨h48, hs1⟩ | ⟨h48, hs1⟩ <;> replace hs := hs1 <;> clear hs1
    · replace h48 := of_decide_eq_true h48
      refine go hs (pS rfl <| pS rfl <| pS rfl <| pT rfl rfl <| pM rfl <| pS rfl <| pS rfl <| pS rfl <| pT rfl rfl <| pM rfl <| pS rfl <| pS rfl <| pS rfl <| pS rfl <| pS rfl <| pT rfl rfl <| pM rfl <| pS rfl <| pS rfl <| pS rfl <| pS rfl <| pS rfl <| pS rfl <| pS rfl <| pT rfl rfl <| ?_); clear hs a; intro a hs
      refine wpList_nil (then_normal ?_)
      refine wp_cond_true (hs.ev rfl) ?_
      refine wp_seq (wp_region_lit ?_)
      refine go hs (pA rfl <| ?_); clear hs a; intro a hs
      refine wpList_nil (then_normal (wp_ret (then_ret ?_)))
      refine fin_ret hs (.tmp (hs.slots _ _ rfl) .nil) ⟨?_, hs.mem.base⟩
      have hX : refB (itemF x left) = -1 := refI_bad (by
        clear hs
        rintro ⟨a0, b0, b1, b2, b3, b4, b5, b6, b7, b8, b9⟩
        first | omega | (rw [hnm, b2] at h65; simp at h65; done) | (have hz : nm = false := (by simpa using h68); have := b3 (of_decide_eq_false (hnm.symm.trans hz)); omega) | exact b4 (hvm.symm.trans (eq_of_beq h79)) | exact b5 (Eq.trans (by rw [Bool.eq_iff_iff]; simp) (eq_of_beq h88)) | (rw [hli.trans b8] at h126; simp at h126; done) | (first | (simp only [Bool.not_eq_true', Bool.not_eq_false', beq_eq_false_iff_ne, beq_iff_eq, ne_eq] at h102; rw [Bool.eq_iff_iff] at h102; simp only [beq_iff_eq, decide_eq_true_eq, Bool.false_eq_true, iff_false] at h102; omega) | (simp at h102; omega)))
      rw [hX]; rfl
    replace h48 := of_decide_eq_false h48
    refine go hs (pG rfl (fun a hs => y_faddr (k' := 0) 0 hs (by kernel_rfl) rfl rfl) <| pG rfl (fun a hs => y_load hs Tryd.underlying37 rfl rfl (fun w hw => (hw.to 0 rfl).cellV rfl)) <| pG rfl (fun a hs => y_cmp hs rfl rfl rfl) <| pF rfl rfl <| pM rfl <| ?_); clear hs a; intro a hs
    rcases hs.know (d := 53) rfl with ⟨h53, hs1⟩ | ⟨h53, hs1⟩ <;> replace hs := hs1 <;> clear hs1
    · replace h53 := of_decide_eq_true h53
      refine go hs (pS rfl <| pS rfl <| pS rfl <| pT rfl rfl <| pM rfl <| pS rfl <| pS rfl <| pS rfl <| pS rfl <| pS rfl <| pT rfl rfl <| pM rfl <| pS rfl <| pS rfl <| pS rfl <| pS rfl <| pS rfl <| pS rfl <| pS rfl <| pT rfl rfl <| ?_); clear hs a; intro a hs
      refine wpList_nil (then_normal ?_)
      refine wp_cond_true (hs.ev rfl) ?_
      refine wp_seq (wp_region_lit ?_)
      refine go hs (pA rfl <| ?_); clear hs a; intro a hs
      refine wpList_nil (then_normal (wp_ret (then_ret ?_)))
      refine fin_ret hs (.tmp (hs.slots _ _ rfl) .nil) ⟨?_, hs.mem.base⟩
      have hX : refB (itemF x left) = -1 := refI_bad (by
        clear hs
        rintro ⟨a0, b0, b1, b2, b3, b4, b5, b6, b7, b8, b9⟩
        first | omega | (rw [hnm, b2] at h65; simp at h65; done) | (have hz : nm = false := (by simpa using h68); have := b3 (of_decide_eq_false (hnm.symm.trans hz)); omega) | exact b4 (hvm.symm.trans (eq_of_beq h79)) | exact b5 (Eq.trans (by rw [Bool.eq_iff_iff]; simp) (eq_of_beq h88)) | (rw [hli.trans b8] at h126; simp at h126; done) | (first | (simp only [Bool.not_eq_true', Bool.not_eq_false', beq_eq_false_iff_ne, beq_iff_eq, ne_eq] at h102; rw [Bool.eq_iff_iff] at h102; simp only [beq_iff_eq, decide_eq_true_eq, Bool.false_eq_true, iff_false] at h102; omega) | (simp at h102; omega)))
      rw [hX]; rfl
    replace h53 := of_decide_eq_false h53
    refine go hs (pG rfl (fun a hs => y_faddr (k' := 0) 0 hs (by kernel_rfl) rfl rfl) <| pG rfl (fun a hs => y_load hs Tryd.underlying37 rfl rfl (fun w hw => (hw.to 0 rfl).cellV rfl)) <| pG rfl (fun a hs => y_cmp hs rfl rfl rfl) <| pF rfl rfl <| pM rfl <| ?_); clear hs a; intro a hs
    rcases hs.know (d := 58) rfl with ⟨h58, hs1⟩ | ⟨h58, hs1⟩ <;> replace hs := hs1 <;> clear hs1
    · replace h58 := of_decide_eq_true h58
      refine go hs (pS rfl <| pS rfl <| pS rfl <| pS rfl <| pS rfl <| pT rfl rfl <| pM rfl <| pS rfl <| pS rfl <| pS rfl <| pS rfl <| pS rfl <| pS rfl <| pS rfl <| pT rfl rfl <| ?_); clear hs a; intro a hs
      refine wpList_nil (then_normal ?_)
      refine wp_cond_true (hs.ev rfl) ?_
      refine wp_seq (wp_region_lit ?_)
      refine go hs (pA rfl <| ?_); clear hs a; intro a hs
      refine wpList_nil (then_normal (wp_ret (then_ret ?_)))
      refine fin_ret hs (.tmp (hs.slots _ _ rfl) .nil) ⟨?_, hs.mem.base⟩
      have hX : refB (itemF x left) = -1 := refI_bad (by
        clear hs
        rintro ⟨a0, b0, b1, b2, b3, b4, b5, b6, b7, b8, b9⟩
        first | omega | (rw [hnm, b2] at h65; simp at h65; done) | (have hz : nm = false := (by simpa using h68); have := b3 (of_decide_eq_false (hnm.symm.trans hz)); omega) | exact b4 (hvm.symm.trans (eq_of_beq h79)) | exact b5 (Eq.trans (by rw [Bool.eq_iff_iff]; simp) (eq_of_beq h88)) | (rw [hli.trans b8] at h126; simp at h126; done) | (first | (simp only [Bool.not_eq_true', Bool.not_eq_false', beq_eq_false_iff_ne, beq_iff_eq, ne_eq] at h102; rw [Bool.eq_iff_iff] at h102; simp only [beq_iff_eq, decide_eq_true_eq, Bool.false_eq_true, iff_false] at h102; omega) | (simp at h102; omega)))
      rw [hX]; rfl
    replace h58 := of_decide_eq_false h58
    refine go hs (pG rfl (fun a hs => y_move hs rfl) <| pG rfl (fun a hs => y_faddr (k' := 1) 1 hs (by kernel_rfl) rfl rfl) <| pG rfl (fun a hs => y_load hs Tryd.underlying9 rfl rfl (fun w hw => (hw.to 0 rfl).cellV rfl)) <| ?_); clear hs a; intro a hs
    refine a_effG hs rfl (e_callB Tryd.func70 rfl rfl hs rfl rfl (recoupref09_Name.calls _ x.f1 (nameOk x.f1) _ (refName x.f1 hsm.1)) ?_); clear hs a; intro a w hs
    refine go hs (pG rfl (fun a hs => y_bne hs Tryd.underlying4 rfl rfl) <| pF rfl rfl <| pM rfl <| ?_); clear hs a; intro a hs
    rcases hs.know (d := 65) rfl with ⟨h65, hs1⟩ | ⟨h65, hs1⟩ <;> replace hs := hs1 <;> clear hs1
    · refine go hs (pS rfl <| pS rfl <| pS rfl <| pS rfl <| pS rfl <| pS rfl <| pS rfl <| pT rfl rfl <| ?_); clear hs a; intro a hs
      refine wpList_nil (then_normal ?_)
      refine wp_cond_true (hs.ev rfl) ?_
      refine wp_seq (wp_region_lit ?_)
      refine go hs (pA rfl <| ?_); clear hs a; intro a hs
      refine wpList_nil (then_normal (wp_ret (then_ret ?_)))
      refine fin_ret hs (.tmp (hs.slots _ _ rfl) .nil) ⟨?_, hs.mem.base⟩
      have hX : refB (itemF x left) = -1 := refI_bad (by
        clear hs
        rintro ⟨a0, b0, b1, b2, b3, b4, b5, b6, b7, b8, b9⟩
        first | omega | (rw [hnm, b2] at h65; simp at h65; done) | (have hz : nm = false := (by simpa using h68); have := b3 (of_decide_eq_false (hnm.symm.trans hz)); omega) | exact b4 (hvm.symm.trans (eq_of_beq h79)) | exact b5 (Eq.trans (by rw [Bool.eq_iff_iff]; simp) (eq_of_beq h88)) | (rw [hli.trans b8] at h126; simp at h126; done) | (first | (simp only [Bool.not_eq_true', Bool.not_eq_false', beq_eq_false_iff_ne, beq_iff_eq, ne_eq] at h102; rw [Bool.eq_iff_iff] at h102; simp only [beq_iff_eq, decide_eq_true_eq, Bool.false_eq_true, iff_false] at h102; omega) | (simp at h102; omega)))
      rw [hX]; rfl
    refine go hs (pG rfl (fun a hs => y_move hs rfl) <| pG rfl (fun a hs => y_not hs rfl) <| pG rfl (fun a hs => y_move hs rfl) <| ?_); clear hs a; intro a hs
    rcases hs.know (d := 68) rfl with ⟨h68, hs1⟩ | ⟨h68, hs1⟩ <;> replace hs := hs1 <;> clear hs1
    · replace h68 := (not_t h68)
      refine go hs (pG rfl (fun a hs => y_faddr (k' := 1) 1 hs (by kernel_rfl) rfl rfl) <| pG rfl (fun a hs => y_load hs Tryd.underlying9 rfl rfl (fun w hw => (hw.to 0 rfl).cellV rfl)) <| pG rfl (fun a hs => y_sneE hs rfl rfl) <| pG rfl (fun a hs => y_pickT hs rfl rfl rfl) <| pF rfl rfl <| ?_); clear hs a; intro a hs
      refine wpList_nil (then_normal ?_)
      refine wp_cond_split (hs.ev rfl) (fun h73 => ?_) (fun h73 => ?_)
      · replace h73 := of_decide_eq_true h73
        refine wp_seq (wp_region_lit ?_)
        refine go hs (pA rfl <| ?_); clear hs a; intro a hs
        refine wpList_nil (then_normal (wp_ret (then_ret ?_)))
        refine fin_ret hs (.tmp (hs.slots _ _ rfl) .nil) ⟨?_, hs.mem.base⟩
        have hX : refB (itemF x left) = -1 := refI_bad (by
          clear hs
          rintro ⟨a0, b0, b1, b2, b3, b4, b5, b6, b7, b8, b9⟩
          first | omega | (rw [hnm, b2] at h65; simp at h65; done) | (have hz : nm = false := (by simpa using h68); have := b3 (of_decide_eq_false (hnm.symm.trans hz)); omega) | exact b4 (hvm.symm.trans (eq_of_beq h79)) | exact b5 (Eq.trans (by rw [Bool.eq_iff_iff]; simp) (eq_of_beq h88)) | (rw [hli.trans b8] at h126; simp at h126; done) | (first | (simp only [Bool.not_eq_true', Bool.not_eq_false', beq_eq_false_iff_ne, beq_iff_eq, ne_eq] at h102; rw [Bool.eq_iff_iff] at h102; simp only [beq_iff_eq, decide_eq_true_eq, Bool.false_eq_true, iff_false] at h102; omega) | (simp at h102; omega)))
        rw [hX]; rfl
      replace h73 := of_decide_eq_false h73
      refine wp_skip (then_normal ?_)
      refine ⟨⟨by omega, by omega, by omega⟩, by simpa using h65, fun h0 => by first | (rw [h0] at h68; cases h68; done) | omega, ?_⟩
      exact (hs.mem_to hs.mem).cut _ ⟨rfl, rfl, rfl, trivial⟩
    replace h68 := (not_f h68)
    refine go hs (pS rfl <| pS rfl <| pS rfl <| pG rfl (fun a hs => y_pickF hs rfl rfl rfl) <| pF rfl rfl <| ?_); clear hs a; intro a hs
    refine wpList_nil (then_normal ?_)
    refine wp_cond_false (hs.ev rfl) ?_
    refine wp_skip (then_normal ?_)
    refine ⟨⟨by omega, by omega, by omega⟩, by simpa using h65, fun h0 => by first | (rw [h0] at h68; cases h68; done) | omega, ?_⟩
    exact (hs.mem_to hs.mem).cut _ ⟨rfl, rfl, rfl, trivial⟩
  clear hs
  obtain ⟨hl0, hn1, hn2, hs⟩ := hJ
  refine wp_seq_cut (fun a w1 => (v ≠ noExprB x.f2) ∧ ((x.f0 == 2) ≠ noShapeB x.f3) ∧ ((x.f0 = 5 ↔ 1 ≤ x.f4 ∧ x.f4 ≤ 4) ∧ (x.f0 ≠ 5 → x.f4 = 0)) ∧ St 155 v0 [(1, .int .i64 (left - 1)), (2, .pointer (some ⟨gx, 0, none⟩)), (6, .bool v)] [pt gx #[.int .u8 x.f0, .string x.f1, .int .u8 x.f2.f0, .int .i64 x.f2.f1, .string x.f2.f2, .slice A5 x.f2.f3.length c5, .int .i64 x.f2.f4, .int .i64 x.f2.f5, .int .u8 x.f3.f0, .string x.f3.f1, .slice A10 x.f3.f2.length c10, .slice A11 x.f3.f3.length c11, .slice A12 x.f3.f4.length c12, .int .i64 x.f3.f5, .int .i64 x.f3.f6, .int .u8 x.f4, .slice A16 x.f5.length c16, .int .i64 x.f6, .int .i64 x.f7] 45] a w1) ?_ (fun a w1 hJ => ?_)
  · refine wp_seq ?_
    refine b_enter [0] (by kernel_rfl) hs #[false, false, false, false, false, false, false, false, false, false, false, false, false, false, false, false, false, false, false, false, false, false, false, false, false, false, false, false, false, false, false, false, false, false, false, false, false, false] (by rfl) 38 (by rfl) ?_; clear hs; intro w hs
    refine b_take 0 rfl #[true, false, false, false, false, false, false, false, false, false, false, false, false, false, false, false, false, false, false, false, false, false, false, false, false, false, false, false, false, false, false, false, false, false, false, false, false, false] rfl (by kernel_rfl) hs ((hs.mem.first 1)) rfl rfl rfl (fun _ _ _ h => h) (y_move hs rfl) ?_; clear hs a; intro a hs
    refine b_take 1 rfl #[true, true, false, false, false, false, false, false, false, false, false, false, false, false, false, false, false, false, false, false, false, false, false, false, false, false, false, false, false, false, false, false, false, false, false, false, false, false] rfl (by kernel_rfl) hs ((hs.mem.first 1)) rfl rfl rfl (fun _ _ _ h => h) (y_faddr (k' := 2) 2 hs (by kernel_rfl) rfl rfl) ?_; clear hs a; intro a hs
    refine b_take 2 rfl #[true, true, true, false, false, false, false, false, false, false, false, false, false, false, false, false, false, false, false, false, false, false, false, false, false, false, false, false, false, false, false, false, false, false, false, false, false, false] rfl (by kernel_rfl) hs ((hs.mem.first 1)) rfl rfl rfl (fun _ _ _ h => h) (y_loadAgg (vs := [.int .u8 x.f2.f0, .int .i64 x.f2.f1, .string x.f2.f2, .slice A5 x.f2.f3.length c5, .int .i64 x.f2.f4, .int .i64 x.f2.f5]) hs Tryd.underlying24 rfl (by kernel_rfl) rfl (fun w hw k v hk => ((hw.to 0 rfl).cell).trans (sub_at 6 rfl hk))) ?_; clear hs a; intro a hs
    refine b_eff 3 (by kernel_rfl) rfl #[true, true, true, true, false, false, false, false, false, false, false, false, false, false, false, false, false, false, false, false, false, false, false, false, false, false, false, false, false, false, false, false, false, false, false, false, false, false] rfl hs rfl (e_callB Tryd.func71 rfl rfl hs rfl rfl (ref_NoExpr x.f2 A5 c5 _) ?_); clear hs a; intro a w hs
    refine ⟨(hs.mem.first 1), ?_⟩
    refine b_take 4 rfl #[true, true, true, true, true, false, false, false, false, false, false, false, false, false, false, false, false, false, false, false, false, false, false, false, false, false, false, false, false, false, false, false, false, false, false, false, false, false] rfl (by kernel_rfl) hs ((hs.mem.first 1)) rfl rfl rfl (fun _ _ _ h => h) (y_beqB hs Tryd.underlying4 rfl rfl rfl) ?_; clear hs a; intro a hs
    refine b_take 5 rfl #[true, true, true, true, true, true, false, false, false, false, false, false, false, false, false, false, false, false, false, false, false, false, false, false, false, false, false, false, false, false, false, false, false, false, false, false, false, false] rfl (by kernel_rfl) hs ((hs.mem.first 1)) rfl rfl rfl (fun _ _ _ h => h) (y_move hs rfl) ?_; clear hs a; intro a hs
    rcases hs.know (d := 79) rfl with ⟨h79, hs1⟩ | ⟨h79, hs1⟩ <;> replace hs := hs1 <;> clear hs1
    · refine b_skip 6 rfl #[true, true, true, true, true, true, true, false, false, false, false, false, false, false, false, false, false, false, false, false, false, false, false, false, false, false, false, false, false, false, false, false, false, false, false, false, false, false] rfl (by kernel_rfl) hs ((hs.mem.first 1)) rfl rfl rfl (fun _ _ _ h => h) ?_; clear hs a; intro a hs
      refine b_skip 7 rfl #[true, true, true, true, true, true, true, true, false, false, false, false, false, false, false, false, false, false, false, false, false, false, false, false, false, false, false, false, false, false, false, false, false, false, false, false, false, false] rfl (by kernel_rfl) hs ((hs.mem.first 1)) rfl rfl rfl (fun _ _ _ h => h) ?_; clear hs a; intro a hs
      refine b_skip 8 rfl #[true, true, true, true, true, true, true, true, true, false, false, false, false, false, false, false, false, false, false, false, false, false, false, false, false, false, false, false, false, false, false, false, false, false, false, false, false, false] rfl (by kernel_rfl) hs ((hs.mem.first 1)) rfl rfl rfl (fun _ _ _ h => h) ?_; clear hs a; intro a hs
      refine b_skip 9 rfl #[true, true, true, true, true, true, true, true, true, true, false, false, false, false, false, false, false, false, false, false, false, false, false, false, false, false, false, false, false, false, false, false, false, false, false, false, false, false] rfl (by kernel_rfl) hs ((hs.mem.first 1)) rfl rfl rfl (fun _ _ _ h => h) ?_; clear hs a; intro a hs
      refine b_skip 10 rfl #[true, true, true, true, true, true, true, true, true, true, true, false, false, false, false, false, false, false, false, false, false, false, false, false, false, false, false, false, false, false, false, false, false, false, false, false, false, false] rfl (by kernel_rfl) hs ((hs.mem.first 1)) rfl rfl rfl (fun _ _ _ h => h) ?_; clear hs a; intro a hs
      refine b_skip 11 rfl #[true, true, true, true, true, true, true, true, true, true, true, true, false, false, false, false, false, false, false, false, false, false, false, false, false, false, false, false, false, false, false, false, false, false, false, false, false, false] rfl (by kernel_rfl) hs ((hs.mem.first 1)) rfl rfl rfl (fun _ _ _ h => h) ?_; clear hs a; intro a hs
      refine b_skip 12 rfl #[true, true, true, true, true, true, true, true, true, true, true, true, true, false, false, false, false, false, false, false, false, false, false, false, false, false, false, false, false, false, false, false, false, false, false, false, false, false] rfl (by kernel_rfl) hs ((hs.mem.first 1)) rfl rfl rfl (fun _ _ _ h => h) ?_; clear hs a; intro a hs
      refine b_take 13 rfl #[true, true, true, true, true, true, true, true, true, true, true, true, true, true, false, false, false, false, false, false, false, false, false, false, false, false, false, false, false, false, false, false, false, false, false, false, false, false] rfl (by kernel_rfl) hs ((hs.mem.first 1)) rfl rfl rfl (fun _ _ _ h => h) (y_pickT hs rfl rfl rfl) ?_; clear hs a; intro a hs
      refine b_take 14 rfl #[true, true, true, true, true, true, true, true, true, true, true, true, true, true, true, false, false, false, false, false, false, false, false, false, false, false, false, false, false, false, false, false, false, false, false, false, false, false] rfl (by kernel_rfl) hs ((hs.mem.first 1)) rfl rfl rfl (fun _ _ _ h => h) (y_move hs rfl) ?_; clear hs a; intro a hs
      refine b_skip 15 rfl #[true, true, true, true, true, true, true, true, true, true, true, true, true, true, true, true, false, false, false, false, false, false, false, false, false, false, false, false, false, false, false, false, false, false, false, false, false, false] rfl (by kernel_rfl) hs ((hs.mem.first 1)) rfl rfl rfl (fun _ _ _ h => h) ?_; clear hs a; intro a hs
      refine b_skip 16 rfl #[true, true, true, true, true, true, true, true, true, true, true, true, true, true, true, true, true, false, false, false, false, false, false, false, false, false, false, false, false, false, false, false, false, false, false, false, false, false] rfl (by kernel_rfl) hs ((hs.mem.first 1)) rfl rfl rfl (fun _ _ _ h => h) ?_; clear hs a; intro a hs
      refine b_skip 17 rfl #[true, true, true, true, true, true, true, true, true, true, true, true, true, true, true, true, true, true, false, false, false, false, false, false, false, false, false, false, false, false, false, false, false, false, false, false, false, false] rfl (by kernel_rfl) hs ((hs.mem.first 1)) rfl rfl rfl (fun _ _ _ h => h) ?_; clear hs a; intro a hs
      refine b_skip 18 rfl #[true, true, true, true, true, true, true, true, true, true, true, true, true, true, true, true, true, true, true, false, false, false, false, false, false, false, false, false, false, false, false, false, false, false, false, false, false, false] rfl (by kernel_rfl) hs ((hs.mem.first 1)) rfl rfl rfl (fun _ _ _ h => h) ?_; clear hs a; intro a hs
      refine b_skip 19 rfl #[true, true, true, true, true, true, true, true, true, true, true, true, true, true, true, true, true, true, true, true, false, false, false, false, false, false, false, false, false, false, false, false, false, false, false, false, false, false] rfl (by kernel_rfl) hs ((hs.mem.first 1)) rfl rfl rfl (fun _ _ _ h => h) ?_; clear hs a; intro a hs
      refine b_skip 20 rfl #[true, true, true, true, true, true, true, true, true, true, true, true, true, true, true, true, true, true, true, true, true, false, false, false, false, false, false, false, false, false, false, false, false, false, false, false, false, false] rfl (by kernel_rfl) hs ((hs.mem.first 1)) rfl rfl rfl (fun _ _ _ h => h) ?_; clear hs a; intro a hs
      refine b_skip 21 rfl #[true, true, true, true, true, true, true, true, true, true, true, true, true, true, true, true, true, true, true, true, true, true, false, false, false, false, false, false, false, false, false, false, false, false, false, false, false, false] rfl (by kernel_rfl) hs ((hs.mem.first 1)) rfl rfl rfl (fun _ _ _ h => h) ?_; clear hs a; intro a hs
      refine b_skip 22 rfl #[true, true, true, true, true, true, true, true, true, true, true, true, true, true, true, true, true, true, true, true, true, true, true, false, false, false, false, false, false, false, false, false, false, false, false, false, false, false] rfl (by kernel_rfl) hs ((hs.mem.first 1)) rfl rfl rfl (fun _ _ _ h => h) ?_; clear hs a; intro a hs
      refine b_skip 23 rfl #[true, true, true, true, true, true, true, true, true, true, true, true, true, true, true, true, true, true, true, true, true, true, true, true, false, false, false, false, false, false, false, false, false, false, false, false, false, false] rfl (by kernel_rfl) hs ((hs.mem.first 1)) rfl rfl rfl (fun _ _ _ h => h) ?_; clear hs a; intro a hs
      refine b_skip 24 rfl #[true, true, true, true, true, true, true, true, true, true, true, true, true, true, true, true, true, true, true, true, true, true, true, true, true, false, false, false, false, false, false, false, false, false, false, false, false, false] rfl (by kernel_rfl) hs ((hs.mem.first 1)) rfl rfl rfl (fun _ _ _ h => h) ?_; clear hs a; intro a hs
      refine b_skip 25 rfl #[true, true, true, true, true, true, true, true, true, true, true, true, true, true, true, true, true, true, true, true, true, true, true, true, true, true, false, false, false, false, false, false, false, false, false, false, false, false] rfl (by kernel_rfl) hs ((hs.mem.first 1)) rfl rfl rfl (fun _ _ _ h => h) ?_; clear hs a; intro a hs
      refine b_skip 26 rfl #[true, true, true, true, true, true, true, true, true, true, true, true, true, true, true, true, true, true, true, true, true, true, true, true, true, true, true, false, false, false, false, false, false, false, false, false, false, false] rfl (by kernel_rfl) hs ((hs.mem.first 1)) rfl rfl rfl (fun _ _ _ h => h) ?_; clear hs a; intro a hs
      refine b_take 27 rfl #[true, true, true, true, true, true, true, true, true, true, true, true, true, true, true, true, true, true, true, true, true, true, true, true, true, true, true, true, false, false, false, false, false, false, false, false, false, false] rfl (by kernel_rfl) hs ((hs.mem.first 1)) rfl rfl rfl (fun _ _ _ h => h) (y_pickT hs rfl rfl rfl) ?_; clear hs a; intro a hs
      refine b_take 28 rfl #[true, true, true, true, true, true, true, true, true, true, true, true, true, true, true, true, true, true, true, true, true, true, true, true, true, true, true, true, true, false, false, false, false, false, false, false, false, false] rfl (by kernel_rfl) hs ((hs.mem.first 1)) rfl rfl rfl (fun _ _ _ h => h) (y_move hs rfl) ?_; clear hs a; intro a hs
      refine b_skip 29 rfl #[true, true, true, true, true, true, true, true, true, true, true, true, true, true, true, true, true, true, true, true, true, true, true, true, true, true, true, true, true, true, false, false, false, false, false, false, false, false] rfl (by kernel_rfl) hs ((hs.mem.first 1)) rfl rfl rfl (fun _ _ _ h => h) ?_; clear hs a; intro a hs
      refine b_skip 30 rfl #[true, true, true, true, true, true, true, true, true, true, true, true, true, true, true, true, true, true, true, true, true, true, true, true, true, true, true, true, true, true, true, false, false, false, false, false, false, false] rfl (by kernel_rfl) hs ((hs.mem.first 1)) rfl rfl rfl (fun _ _ _ h => h) ?_; clear hs a; intro a hs
      refine b_skip 31 rfl #[true, true, true, true, true, true, true, true, true, true, true, true, true, true, true, true, true, true, true, true, true, true, true, true, true, true, true, true, true, true, true, true, false, false, false, false, false, false] rfl (by kernel_rfl) hs ((hs.mem.first 1)) rfl rfl rfl (fun _ _ _ h => h) ?_; clear hs a; intro a hs
      refine b_skip 32 rfl #[true, true, true, true, true, true, true, true, true, true, true, true, true, true, true, true, true, true, true, true, true, true, true, true, true, true, true, true, true, true, true, true, true, false, false, false, false, false] rfl (by kernel_rfl) hs ((hs.mem.first 1)) rfl rfl rfl (fun _ _ _ h => h) ?_; clear hs a; intro a hs
      refine b_skip 33 rfl #[true, true, true, true, true, true, true, true, true, true, true, true, true, true, true, true, true, true, true, true, true, true, true, true, true, true, true, true, true, true, true, true, true, true, false, false, false, false] rfl (by kernel_rfl) hs ((hs.mem.first 1)) rfl rfl rfl (fun _ _ _ h => h) ?_; clear hs a; intro a hs
      refine b_skip 34 rfl #[true, true, true, true, true, true, true, true, true, true, true, true, true, true, true, true, true, true, true, true, true, true, true, true, true, true, true, true, true, true, true, true, true, true, true, false, false, false] rfl (by kernel_rfl) hs ((hs.mem.first 1)) rfl rfl rfl (fun _ _ _ h => h) ?_; clear hs a; intro a hs
      refine b_skip 35 rfl #[true, true, true, true, true, true, true, true, true, true, true, true, true, true, true, true, true, true, true, true, true, true, true, true, true, true, true, true, true, true, true, true, true, true, true, true, false, false] rfl (by kernel_rfl) hs ((hs.mem.first 1)) rfl rfl rfl (fun _ _ _ h => h) ?_; clear hs a; intro a hs
      refine b_skip 36 rfl #[true, true, true, true, true, true, true, true, true, true, true, true, true, true, true, true, true, true, true, true, true, true, true, true, true, true, true, true, true, true, true, true, true, true, true, true, true, false] rfl (by kernel_rfl) hs ((hs.mem.first 1)) rfl rfl rfl (fun _ _ _ h => h) ?_; clear hs a; intro a hs
      refine b_take 37 rfl #[true, true, true, true, true, true, true, true, true, true, true, true, true, true, true, true, true, true, true, true, true, true, true, true, true, true, true, true, true, true, true, true, true, true, true, true, true, true] rfl (by kernel_rfl) hs ((hs.mem.first 1)) rfl rfl rfl (fun _ _ _ h => h) (y_pickT hs rfl rfl rfl) ?_; clear hs a; intro a hs
      refine b_done (by kernel_rfl) (then_normal ?_)
      refine wp_cond_true (hs.ev rfl) ?_
      refine wp_seq (wp_region_lit ?_)
      refine go hs (pA rfl <| ?_); clear hs a; intro a hs
      refine wpList_nil (then_normal (wp_ret (then_ret ?_)))
      refine fin_ret hs (.tmp (hs.slots _ _ rfl) .nil) ⟨?_, hs.mem.base⟩
      have hX : refB (itemF x left) = -1 := refI_bad (by
        clear hs
        rintro ⟨a0, b0, b1, b2, b3, b4, b5, b6, b7, b8, b9⟩
        first | omega | (rw [hnm, b2] at h65; simp at h65; done) | (have hz : nm = false := (by simpa using h68); have := b3 (of_decide_eq_false (hnm.symm.trans hz)); omega) | exact b4 (hvm.symm.trans (eq_of_beq h79)) | exact b5 (Eq.trans (by rw [Bool.eq_iff_iff]; simp) (eq_of_beq h88)) | (rw [hli.trans b8] at h126; simp at h126; done) | (first | (simp only [Bool.not_eq_true', Bool.not_eq_false', beq_eq_false_iff_ne, beq_iff_eq, ne_eq] at h102; rw [Bool.eq_iff_iff] at h102; simp only [beq_iff_eq, decide_eq_true_eq, Bool.false_eq_true, iff_false] at h102; omega) | (simp at h102; omega)))
      rw [hX]; rfl
    refine b_take 6 rfl #[true, true, true, true, true, true, true, false, false, false, false, false, false, false, false, false, false, false, false, false, false, false, false, false, false, false, false, false, false, false, false, false, false, false, false, false, false, false] rfl (by kernel_rfl) hs ((hs.mem.first 1)) rfl rfl rfl (fun _ _ _ h => h) (y_faddr (k' := 0) 0 hs (by kernel_rfl) rfl rfl) ?_; clear hs a; intro a hs
    refine b_take 7 rfl #[true, true, true, true, true, true, true, true, false, false, false, false, false, false, false, false, false, false, false, false, false, false, false, false, false, false, false, false, false, false, false, false, false, false, false, false, false, false] rfl (by kernel_rfl) hs ((hs.mem.first 1)) rfl rfl rfl (fun _ _ _ h => h) (y_load hs Tryd.underlying37 rfl rfl (fun w hw => (hw.to 0 rfl).cellV rfl)) ?_; clear hs a; intro a hs
    refine b_take 8 rfl #[true, true, true, true, true, true, true, true, true, false, false, false, false, false, false, false, false, false, false, false, false, false, false, false, false, false, false, false, false, false, false, false, false, false, false, false, false, false] rfl (by kernel_rfl) hs ((hs.mem.first 1)) rfl rfl rfl (fun _ _ _ h => h) (y_cmp hs rfl rfl rfl) ?_; clear hs a; intro a hs
    refine b_take 9 rfl #[true, true, true, true, true, true, true, true, true, true, false, false, false, false, false, false, false, false, false, false, false, false, false, false, false, false, false, false, false, false, false, false, false, false, false, false, false, false] rfl (by kernel_rfl) hs ((hs.mem.first 1)) rfl rfl rfl (fun _ _ _ h => h) (y_faddr (k' := 8) 8 hs (by kernel_rfl) rfl rfl) ?_; clear hs a; intro a hs
    refine b_take 10 rfl #[true, true, true, true, true, true, true, true, true, true, true, false, false, false, false, false, false, false, false, false, false, false, false, false, false, false, false, false, false, false, false, false, false, false, false, false, false, false] rfl (by kernel_rfl) hs ((hs.mem.first 1)) rfl rfl rfl (fun _ _ _ h => h) (y_loadAgg (vs := [.int .u8 x.f3.f0, .string x.f3.f1, .slice A10 x.f3.f2.length c10, .slice A11 x.f3.f3.length c11, .slice A12 x.f3.f4.length c12, .int .i64 x.f3.f5, .int .i64 x.f3.f6]) hs Tryd.underlying41 rfl (by kernel_rfl) rfl (fun w hw k v hk => ((hw.to 0 rfl).cell).trans (sub_at 7 rfl hk))) ?_; clear hs a; intro a hs
    refine b_eff 11 (by kernel_rfl) rfl #[true, true, true, true, true, true, true, true, true, true, true, true, false, false, false, false, false, false, false, false, false, false, false, false, false, false, false, false, false, false, false, false, false, false, false, false, false, false] rfl hs rfl (e_callB Tryd.func72 rfl rfl hs rfl rfl (ref_noShape x.f3 A10 A11 A12 c10 c11 c12 _) ?_); clear hs a; intro a w hs
    refine ⟨(hs.mem.first 1), ?_⟩
    refine b_take 12 rfl #[true, true, true, true, true, true, true, true, true, true, true, true, true, false, false, false, false, false, false, false, false, false, false, false, false, false, false, false, false, false, false, false, false, false, false, false, false, false] rfl (by kernel_rfl) hs ((hs.mem.first 1)) rfl rfl rfl (fun _ _ _ h => h) (y_beqB hs Tryd.underlying4 rfl rfl rfl) ?_; clear hs a; intro a hs
    refine b_take 13 rfl #[true, true, true, true, true, true, true, true, true, true, true, true, true, true, false, false, false, false, false, false, false, false, false, false, false, false, false, false, false, false, false, false, false, false, false, false, false, false] rfl (by kernel_rfl) hs ((hs.mem.first 1)) rfl rfl rfl (fun _ _ _ h => h) (y_pickF hs rfl rfl rfl) ?_; clear hs a; intro a hs
    refine b_take 14 rfl #[true, true, true, true, true, true, true, true, true, true, true, true, true, true, true, false, false, false, false, false, false, false, false, false, false, false, false, false, false, false, false, false, false, false, false, false, false, false] rfl (by kernel_rfl) hs ((hs.mem.first 1)) rfl rfl rfl (fun _ _ _ h => h) (y_move hs rfl) ?_; clear hs a; intro a hs
    rcases hs.know (d := 88) rfl with ⟨h88, hs1⟩ | ⟨h88, hs1⟩ <;> replace hs := hs1 <;> clear hs1
    · refine b_skip 15 rfl #[true, true, true, true, true, true, true, true, true, true, true, true, true, true, true, true, false, false, false, false, false, false, false, false, false, false, false, false, false, false, false, false, false, false, false, false, false, false] rfl (by kernel_rfl) hs ((hs.mem.first 1)) rfl rfl rfl (fun _ _ _ h => h) ?_; clear hs a; intro a hs
      refine b_skip 16 rfl #[true, true, true, true, true, true, true, true, true, true, true, true, true, true, true, true, true, false, false, false, false, false, false, false, false, false, false, false, false, false, false, false, false, false, false, false, false, false] rfl (by kernel_rfl) hs ((hs.mem.first 1)) rfl rfl rfl (fun _ _ _ h => h) ?_; clear hs a; intro a hs
      refine b_skip 17 rfl #[true, true, true, true, true, true, true, true, true, true, true, true, true, true, true, true, true, true, false, false, false, false, false, false, false, false, false, false, false, false, false, false, false, false, false, false, false, false] rfl (by kernel_rfl) hs ((hs.mem.first 1)) rfl rfl rfl (fun _ _ _ h => h) ?_; clear hs a; intro a hs
      refine b_skip 18 rfl #[true, true, true, true, true, true, true, true, true, true, true, true, true, true, true, true, true, true, true, false, false, false, false, false, false, false, false, false, false, false, false, false, false, false, false, false, false, false] rfl (by kernel_rfl) hs ((hs.mem.first 1)) rfl rfl rfl (fun _ _ _ h => h) ?_; clear hs a; intro a hs
      refine b_skip 19 rfl #[true, true, true, true, true, true, true, true, true, true, true, true, true, true, true, true, true, true, true, true, false, false, false, false, false, false, false, false, false, false, false, false, false, false, false, false, false, false] rfl (by kernel_rfl) hs ((hs.mem.first 1)) rfl rfl rfl (fun _ _ _ h => h) ?_; clear hs a; intro a hs
      refine b_skip 20 rfl #[true, true, true, true, true, true, true, true, true, true, true, true, true, true, true, true, true, true, true, true, true, false, false, false, false, false, false, false, false, false, false, false, false, false, false, false, false, false] rfl (by kernel_rfl) hs ((hs.mem.first 1)) rfl rfl rfl (fun _ _ _ h => h) ?_; clear hs a; intro a hs
      refine b_skip 21 rfl #[true, true, true, true, true, true, true, true, true, true, true, true, true, true, true, true, true, true, true, true, true, true, false, false, false, false, false, false, false, false, false, false, false, false, false, false, false, false] rfl (by kernel_rfl) hs ((hs.mem.first 1)) rfl rfl rfl (fun _ _ _ h => h) ?_; clear hs a; intro a hs
      refine b_skip 22 rfl #[true, true, true, true, true, true, true, true, true, true, true, true, true, true, true, true, true, true, true, true, true, true, true, false, false, false, false, false, false, false, false, false, false, false, false, false, false, false] rfl (by kernel_rfl) hs ((hs.mem.first 1)) rfl rfl rfl (fun _ _ _ h => h) ?_; clear hs a; intro a hs
      refine b_skip 23 rfl #[true, true, true, true, true, true, true, true, true, true, true, true, true, true, true, true, true, true, true, true, true, true, true, true, false, false, false, false, false, false, false, false, false, false, false, false, false, false] rfl (by kernel_rfl) hs ((hs.mem.first 1)) rfl rfl rfl (fun _ _ _ h => h) ?_; clear hs a; intro a hs
      refine b_skip 24 rfl #[true, true, true, true, true, true, true, true, true, true, true, true, true, true, true, true, true, true, true, true, true, true, true, true, true, false, false, false, false, false, false, false, false, false, false, false, false, false] rfl (by kernel_rfl) hs ((hs.mem.first 1)) rfl rfl rfl (fun _ _ _ h => h) ?_; clear hs a; intro a hs
      refine b_skip 25 rfl #[true, true, true, true, true, true, true, true, true, true, true, true, true, true, true, true, true, true, true, true, true, true, true, true, true, true, false, false, false, false, false, false, false, false, false, false, false, false] rfl (by kernel_rfl) hs ((hs.mem.first 1)) rfl rfl rfl (fun _ _ _ h => h) ?_; clear hs a; intro a hs
      refine b_skip 26 rfl #[true, true, true, true, true, true, true, true, true, true, true, true, true, true, true, true, true, true, true, true, true, true, true, true, true, true, true, false, false, false, false, false, false, false, false, false, false, false] rfl (by kernel_rfl) hs ((hs.mem.first 1)) rfl rfl rfl (fun _ _ _ h => h) ?_; clear hs a; intro a hs
      refine b_take 27 rfl #[true, true, true, true, true, true, true, true, true, true, true, true, true, true, true, true, true, true, true, true, true, true, true, true, true, true, true, true, false, false, false, false, false, false, false, false, false, false] rfl (by kernel_rfl) hs ((hs.mem.first 1)) rfl rfl rfl (fun _ _ _ h => h) (y_pickT hs rfl rfl rfl) ?_; clear hs a; intro a hs
      refine b_take 28 rfl #[true, true, true, true, true, true, true, true, true, true, true, true, true, true, true, true, true, true, true, true, true, true, true, true, true, true, true, true, true, false, false, false, false, false, false, false, false, false] rfl (by kernel_rfl) hs ((hs.mem.first 1)) rfl rfl rfl (fun _ _ _ h => h) (y_move hs rfl) ?_; clear hs a; intro a hs
      refine b_skip 29 rfl #[true, true, true, true, true, true, true, true, true, true, true, true, true, true, true, true, true, true, true, true, true, true, true, true, true, true, true, true, true, true, false, false, false, false, false, false, false, false] rfl (by kernel_rfl) hs ((hs.mem.first 1)) rfl rfl rfl (fun _ _ _ h => h) ?_; clear hs a; intro a hs
      refine b_skip 30 rfl #[true, true, true, true, true, true, true, true, true, true, true, true, true, true, true, true, true, true, true, true, true, true, true, true, true, true, true, true, true, true, true, false, false, false, false, false, false, false] rfl (by kernel_rfl) hs ((hs.mem.first 1)) rfl rfl rfl (fun _ _ _ h => h) ?_; clear hs a; intro a hs
      refine b_skip 31 rfl #[true, true, true, true, true, true, true, true, true, true, true, true, true, true, true, true, true, true, true, true, true, true, true, true, true, true, true, true, true, true, true, true, false, false, false, false, false, false] rfl (by kernel_rfl) hs ((hs.mem.first 1)) rfl rfl rfl (fun _ _ _ h => h) ?_; clear hs a; intro a hs
      refine b_skip 32 rfl #[true, true, true, true, true, true, true, true, true, true, true, true, true, true, true, true, true, true, true, true, true, true, true, true, true, true, true, true, true, true, true, true, true, false, false, false, false, false] rfl (by kernel_rfl) hs ((hs.mem.first 1)) rfl rfl rfl (fun _ _ _ h => h) ?_; clear hs a; intro a hs
      refine b_skip 33 rfl #[true, true, true, true, true, true, true, true, true, true, true, true, true, true, true, true, true, true, true, true, true, true, true, true, true, true, true, true, true, true, true, true, true, true, false, false, false, false] rfl (by kernel_rfl) hs ((hs.mem.first 1)) rfl rfl rfl (fun _ _ _ h => h) ?_; clear hs a; intro a hs
      refine b_skip 34 rfl #[true, true, true, true, true, true, true, true, true, true, true, true, true, true, true, true, true, true, true, true, true, true, true, true, true, true, true, true, true, true, true, true, true, true, true, false, false, false] rfl (by kernel_rfl) hs ((hs.mem.first 1)) rfl rfl rfl (fun _ _ _ h => h) ?_; clear hs a; intro a hs
      refine b_skip 35 rfl #[true, true, true, true, true, true, true, true, true, true, true, true, true, true, true, true, true, true, true, true, true, true, true, true, true, true, true, true, true, true, true, true, true, true, true, true, false, false] rfl (by kernel_rfl) hs ((hs.mem.first 1)) rfl rfl rfl (fun _ _ _ h => h) ?_; clear hs a; intro a hs
      refine b_skip 36 rfl #[true, true, true, true, true, true, true, true, true, true, true, true, true, true, true, true, true, true, true, true, true, true, true, true, true, true, true, true, true, true, true, true, true, true, true, true, true, false] rfl (by kernel_rfl) hs ((hs.mem.first 1)) rfl rfl rfl (fun _ _ _ h => h) ?_; clear hs a; intro a hs
      refine b_take 37 rfl #[true, true, true, true, true, true, true, true, true, true, true, true, true, true, true, true, true, true, true, true, true, true, true, true, true, true, true, true, true, true, true, true, true, true, true, true, true, true] rfl (by kernel_rfl) hs ((hs.mem.first 1)) rfl rfl rfl (fun _ _ _ h => h) (y_pickT hs rfl rfl rfl) ?_; clear hs a; intro a hs
      refine b_done (by kernel_rfl) (then_normal ?_)
      refine wp_cond_true (hs.ev rfl) ?_
      refine wp_seq (wp_region_lit ?_)
      refine go hs (pA rfl <| ?_); clear hs a; intro a hs
      refine wpList_nil (then_normal (wp_ret (then_ret ?_)))
      refine fin_ret hs (.tmp (hs.slots _ _ rfl) .nil) ⟨?_, hs.mem.base⟩
      have hX : refB (itemF x left) = -1 := refI_bad (by
        clear hs
        rintro ⟨a0, b0, b1, b2, b3, b4, b5, b6, b7, b8, b9⟩
        first | omega | (rw [hnm, b2] at h65; simp at h65; done) | (have hz : nm = false := (by simpa using h68); have := b3 (of_decide_eq_false (hnm.symm.trans hz)); omega) | exact b4 (hvm.symm.trans (eq_of_beq h79)) | exact b5 (Eq.trans (by rw [Bool.eq_iff_iff]; simp) (eq_of_beq h88)) | (rw [hli.trans b8] at h126; simp at h126; done) | (first | (simp only [Bool.not_eq_true', Bool.not_eq_false', beq_eq_false_iff_ne, beq_iff_eq, ne_eq] at h102; rw [Bool.eq_iff_iff] at h102; simp only [beq_iff_eq, decide_eq_true_eq, Bool.false_eq_true, iff_false] at h102; omega) | (simp at h102; omega)))
      rw [hX]; rfl
    refine b_take 15 rfl #[true, true, true, true, true, true, true, true, true, true, true, true, true, true, true, true, false, false, false, false, false, false, false, false, false, false, false, false, false, false, false, false, false, false, false, false, false, false] rfl (by kernel_rfl) hs ((hs.mem.first 1)) rfl rfl rfl (fun _ _ _ h => h) (y_faddr (k' := 0) 0 hs (by kernel_rfl) rfl rfl) ?_; clear hs a; intro a hs
    refine b_take 16 rfl #[true, true, true, true, true, true, true, true, true, true, true, true, true, true, true, true, true, false, false, false, false, false, false, false, false, false, false, false, false, false, false, false, false, false, false, false, false, false] rfl (by kernel_rfl) hs ((hs.mem.first 1)) rfl rfl rfl (fun _ _ _ h => h) (y_load hs Tryd.underlying37 rfl rfl (fun w hw => (hw.to 0 rfl).cellV rfl)) ?_; clear hs a; intro a hs
    refine b_take 17 rfl #[true, true, true, true, true, true, true, true, true, true, true, true, true, true, true, true, true, true, false, false, false, false, false, false, false, false, false, false, false, false, false, false, false, false, false, false, false, false] rfl (by kernel_rfl) hs ((hs.mem.first 1)) rfl rfl rfl (fun _ _ _ h => h) (y_cmp hs rfl rfl rfl) ?_; clear hs a; intro a hs
    refine b_take 18 rfl #[true, true, true, true, true, true, true, true, true, true, true, true, true, true, true, true, true, true, true, false, false, false, false, false, false, false, false, false, false, false, false, false, false, false, false, false, false, false] rfl (by kernel_rfl) hs ((hs.mem.first 1)) rfl rfl rfl (fun _ _ _ h => h) (y_faddr (k' := 15) 15 hs (by kernel_rfl) rfl rfl) ?_; clear hs a; intro a hs
    refine b_take 19 rfl #[true, true, true, true, true, true, true, true, true, true, true, true, true, true, true, true, true, true, true, true, false, false, false, false, false, false, false, false, false, false, false, false, false, false, false, false, false, false] rfl (by kernel_rfl) hs ((hs.mem.first 1)) rfl rfl rfl (fun _ _ _ h => h) (y_load hs Tryd.underlying43 rfl rfl (fun w hw => (hw.to 0 rfl).cellV rfl)) ?_; clear hs a; intro a hs
    refine b_take 20 rfl #[true, true, true, true, true, true, true, true, true, true, true, true, true, true, true, true, true, true, true, true, true, false, false, false, false, false, false, false, false, false, false, false, false, false, false, false, false, false] rfl (by kernel_rfl) hs ((hs.mem.first 1)) rfl rfl rfl (fun _ _ _ h => h) (y_cmp hs rfl rfl rfl) ?_; clear hs a; intro a hs
    refine b_take 21 rfl #[true, true, true, true, true, true, true, true, true, true, true, true, true, true, true, true, true, true, true, true, true, true, false, false, false, false, false, false, false, false, false, false, false, false, false, false, false, false] rfl (by kernel_rfl) hs ((hs.mem.first 1)) rfl rfl rfl (fun _ _ _ h => h) (y_move hs rfl) ?_; clear hs a; intro a hs
    rcases hs.know (d := 95) rfl with ⟨h95, hs1⟩ | ⟨h95, hs1⟩ <;> replace hs := hs1 <;> clear hs1
    · replace h95 := of_decide_eq_true h95
      refine b_take 22 rfl #[true, true, true, true, true, true, true, true, true, true, true, true, true, true, true, true, true, true, true, true, true, true, true, false, false, false, false, false, false, false, false, false, false, false, false, false, false, false] rfl (by kernel_rfl) hs ((hs.mem.first 1)) rfl rfl rfl (fun _ _ _ h => h) (y_faddr (k' := 15) 15 hs (by kernel_rfl) rfl rfl) ?_; clear hs a; intro a hs
      refine b_take 23 rfl #[true, true, true, true, true, true, true, true, true, true, true, true, true, true, true, true, true, true, true, true, true, true, true, true, false, false, false, false, false, false, false, false, false, false, false, false, false, false] rfl (by kernel_rfl) hs ((hs.mem.first 1)) rfl rfl rfl (fun _ _ _ h => h) (y_load hs Tryd.underlying43 rfl rfl (fun w hw => (hw.to 0 rfl).cellV rfl)) ?_; clear hs a; intro a hs
      refine b_take 24 rfl #[true, true, true, true, true, true, true, true, true, true, true, true, true, true, true, true, true, true, true, true, true, true, true, true, true, false, false, false, false, false, false, false, false, false, false, false, false, false] rfl (by kernel_rfl) hs ((hs.mem.first 1)) rfl rfl rfl (fun _ _ _ h => h) (y_cmp hs rfl rfl rfl) ?_; clear hs a; intro a hs
      refine b_take 25 rfl #[true, true, true, true, true, true, true, true, true, true, true, true, true, true, true, true, true, true, true, true, true, true, true, true, true, true, false, false, false, false, false, false, false, false, false, false, false, false] rfl (by kernel_rfl) hs ((hs.mem.first 1)) rfl rfl rfl (fun _ _ _ h => h) (y_pickT hs rfl rfl rfl) ?_; clear hs a; intro a hs
      refine b_take 26 rfl #[true, true, true, true, true, true, true, true, true, true, true, true, true, true, true, true, true, true, true, true, true, true, true, true, true, true, true, false, false, false, false, false, false, false, false, false, false, false] rfl (by kernel_rfl) hs ((hs.mem.first 1)) rfl rfl rfl (fun _ _ _ h => h) (y_bne hs Tryd.underlying4 rfl rfl) ?_; clear hs a; intro a hs
      refine b_take 27 rfl #[true, true, true, true, true, true, true, true, true, true, true, true, true, true, true, true, true, true, true, true, true, true, true, true, true, true, true, true, false, false, false, false, false, false, false, false, false, false] rfl (by kernel_rfl) hs ((hs.mem.first 1)) rfl rfl rfl (fun _ _ _ h => h) (y_pickF hs rfl rfl rfl) ?_; clear hs a; intro a hs
      refine b_take 28 rfl #[true, true, true, true, true, true, true, true, true, true, true, true, true, true, true, true, true, true, true, true, true, true, true, true, true, true, true, true, true, false, false, false, false, false, false, false, false, false] rfl (by kernel_rfl) hs ((hs.mem.first 1)) rfl rfl rfl (fun _ _ _ h => h) (y_move hs rfl) ?_; clear hs a; intro a hs
      rcases hs.know (d := 102) rfl with ⟨h102, hs1⟩ | ⟨h102, hs1⟩ <;> replace hs := hs1 <;> clear hs1
      · refine b_skip 29 rfl #[true, true, true, true, true, true, true, true, true, true, true, true, true, true, true, true, true, true, true, true, true, true, true, true, true, true, true, true, true, true, false, false, false, false, false, false, false, false] rfl (by kernel_rfl) hs ((hs.mem.first 1)) rfl rfl rfl (fun _ _ _ h => h) ?_; clear hs a; intro a hs
        refine b_skip 30 rfl #[true, true, true, true, true, true, true, true, true, true, true, true, true, true, true, true, true, true, true, true, true, true, true, true, true, true, true, true, true, true, true, false, false, false, false, false, false, false] rfl (by kernel_rfl) hs ((hs.mem.first 1)) rfl rfl rfl (fun _ _ _ h => h) ?_; clear hs a; intro a hs
        refine b_skip 31 rfl #[true, true, true, true, true, true, true, true, true, true, true, true, true, true, true, true, true, true, true, true, true, true, true, true, true, true, true, true, true, true, true, true, false, false, false, false, false, false] rfl (by kernel_rfl) hs ((hs.mem.first 1)) rfl rfl rfl (fun _ _ _ h => h) ?_; clear hs a; intro a hs
        refine b_skip 32 rfl #[true, true, true, true, true, true, true, true, true, true, true, true, true, true, true, true, true, true, true, true, true, true, true, true, true, true, true, true, true, true, true, true, true, false, false, false, false, false] rfl (by kernel_rfl) hs ((hs.mem.first 1)) rfl rfl rfl (fun _ _ _ h => h) ?_; clear hs a; intro a hs
        refine b_skip 33 rfl #[true, true, true, true, true, true, true, true, true, true, true, true, true, true, true, true, true, true, true, true, true, true, true, true, true, true, true, true, true, true, true, true, true, true, false, false, false, false] rfl (by kernel_rfl) hs ((hs.mem.first 1)) rfl rfl rfl (fun _ _ _ h => h) ?_; clear hs a; intro a hs
        refine b_skip 34 rfl #[true, true, true, true, true, true, true, true, true, true, true, true, true, true, true, true, true, true, true, true, true, true, true, true, true, true, true, true, true, true, true, true, true, true, true, false, false, false] rfl (by kernel_rfl) hs ((hs.mem.first 1)) rfl rfl rfl (fun _ _ _ h => h) ?_; clear hs a; intro a hs
        refine b_skip 35 rfl #[true, true, true, true, true, true, true, true, true, true, true, true, true, true, true, true, true, true, true, true, true, true, true, true, true, true, true, true, true, true, true, true, true, true, true, true, false, false] rfl (by kernel_rfl) hs ((hs.mem.first 1)) rfl rfl rfl (fun _ _ _ h => h) ?_; clear hs a; intro a hs
        refine b_skip 36 rfl #[true, true, true, true, true, true, true, true, true, true, true, true, true, true, true, true, true, true, true, true, true, true, true, true, true, true, true, true, true, true, true, true, true, true, true, true, true, false] rfl (by kernel_rfl) hs ((hs.mem.first 1)) rfl rfl rfl (fun _ _ _ h => h) ?_; clear hs a; intro a hs
        refine b_take 37 rfl #[true, true, true, true, true, true, true, true, true, true, true, true, true, true, true, true, true, true, true, true, true, true, true, true, true, true, true, true, true, true, true, true, true, true, true, true, true, true] rfl (by kernel_rfl) hs ((hs.mem.first 1)) rfl rfl rfl (fun _ _ _ h => h) (y_pickT hs rfl rfl rfl) ?_; clear hs a; intro a hs
        refine b_done (by kernel_rfl) (then_normal ?_)
        refine wp_cond_true (hs.ev rfl) ?_
        refine wp_seq (wp_region_lit ?_)
        refine go hs (pA rfl <| ?_); clear hs a; intro a hs
        refine wpList_nil (then_normal (wp_ret (then_ret ?_)))
        refine fin_ret hs (.tmp (hs.slots _ _ rfl) .nil) ⟨?_, hs.mem.base⟩
        have hX : refB (itemF x left) = -1 := refI_bad (by
          clear hs
          rintro ⟨a0, b0, b1, b2, b3, b4, b5, b6, b7, b8, b9⟩
          first | omega | (rw [hnm, b2] at h65; simp at h65; done) | (have hz : nm = false := (by simpa using h68); have := b3 (of_decide_eq_false (hnm.symm.trans hz)); omega) | exact b4 (hvm.symm.trans (eq_of_beq h79)) | exact b5 (Eq.trans (by rw [Bool.eq_iff_iff]; simp) (eq_of_beq h88)) | (rw [hli.trans b8] at h126; simp at h126; done) | (first | (simp only [Bool.not_eq_true', Bool.not_eq_false', beq_eq_false_iff_ne, beq_iff_eq, ne_eq] at h102; rw [Bool.eq_iff_iff] at h102; simp only [beq_iff_eq, decide_eq_true_eq, Bool.false_eq_true, iff_false] at h102; omega) | (simp at h102; omega)))
        rw [hX]; rfl
      refine b_take 29 rfl #[true, true, true, true, true, true, true, true, true, true, true, true, true, true, true, true, true, true, true, true, true, true, true, true, true, true, true, true, true, true, false, false, false, false, false, false, false, false] rfl (by kernel_rfl) hs ((hs.mem.first 1)) rfl rfl rfl (fun _ _ _ h => h) (y_faddr (k' := 0) 0 hs (by kernel_rfl) rfl rfl) ?_; clear hs a; intro a hs
      refine b_take 30 rfl #[true, true, true, true, true, true, true, true, true, true, true, true, true, true, true, true, true, true, true, true, true, true, true, true, true, true, true, true, true, true, true, false, false, false, false, false, false, false] rfl (by kernel_rfl) hs ((hs.mem.first 1)) rfl rfl rfl (fun _ _ _ h => h) (y_load hs Tryd.underlying37 rfl rfl (fun w hw => (hw.to 0 rfl).cellV rfl)) ?_; clear hs a; intro a hs
      refine b_take 31 rfl #[true, true, true, true, true, true, true, true, true, true, true, true, true, true, true, true, true, true, true, true, true, true, true, true, true, true, true, true, true, true, true, true, false, false, false, false, false, false] rfl (by kernel_rfl) hs ((hs.mem.first 1)) rfl rfl rfl (fun _ _ _ h => h) (y_cmp hs rfl rfl rfl) ?_; clear hs a; intro a hs
      refine b_take 32 rfl #[true, true, true, true, true, true, true, true, true, true, true, true, true, true, true, true, true, true, true, true, true, true, true, true, true, true, true, true, true, true, true, true, true, false, false, false, false, false] rfl (by kernel_rfl) hs ((hs.mem.first 1)) rfl rfl rfl (fun _ _ _ h => h) (y_move hs rfl) ?_; clear hs a; intro a hs
      rcases hs.know (d := 106) rfl with ⟨h106, hs1⟩ | ⟨h106, hs1⟩ <;> replace hs := hs1 <;> clear hs1
      · replace h106 := bne_iff_ne.1 h106
        refine b_take 33 rfl #[true, true, true, true, true, true, true, true, true, true, true, true, true, true, true, true, true, true, true, true, true, true, true, true, true, true, true, true, true, true, true, true, true, true, false, false, false, false] rfl (by kernel_rfl) hs ((hs.mem.first 1)) rfl rfl rfl (fun _ _ _ h => h) (y_faddr (k' := 15) 15 hs (by kernel_rfl) rfl rfl) ?_; clear hs a; intro a hs
        refine b_take 34 rfl #[true, true, true, true, true, true, true, true, true, true, true, true, true, true, true, true, true, true, true, true, true, true, true, true, true, true, true, true, true, true, true, true, true, true, true, false, false, false] rfl (by kernel_rfl) hs ((hs.mem.first 1)) rfl rfl rfl (fun _ _ _ h => h) (y_load hs Tryd.underlying43 rfl rfl (fun w hw => (hw.to 0 rfl).cellV rfl)) ?_; clear hs a; intro a hs
        refine b_take 35 rfl #[true, true, true, true, true, true, true, true, true, true, true, true, true, true, true, true, true, true, true, true, true, true, true, true, true, true, true, true, true, true, true, true, true, true, true, true, false, false] rfl (by kernel_rfl) hs ((hs.mem.first 1)) rfl rfl rfl (fun _ _ _ h => h) (y_cmp hs rfl rfl rfl) ?_; clear hs a; intro a hs
        refine b_take 36 rfl #[true, true, true, true, true, true, true, true, true, true, true, true, true, true, true, true, true, true, true, true, true, true, true, true, true, true, true, true, true, true, true, true, true, true, true, true, true, false] rfl (by kernel_rfl) hs ((hs.mem.first 1)) rfl rfl rfl (fun _ _ _ h => h) (y_pickT hs rfl rfl rfl) ?_; clear hs a; intro a hs
        refine b_take 37 rfl #[true, true, true, true, true, true, true, true, true, true, true, true, true, true, true, true, true, true, true, true, true, true, true, true, true, true, true, true, true, true, true, true, true, true, true, true, true, true] rfl (by kernel_rfl) hs ((hs.mem.first 1)) rfl rfl rfl (fun _ _ _ h => h) (y_pickF hs rfl rfl rfl) ?_; clear hs a; intro a hs
        refine b_done (by kernel_rfl) (then_normal ?_)
        refine wp_cond_split (hs.ev rfl) (fun h111 => ?_) (fun h111 => ?_)
        · replace h111 := bne_iff_ne.1 h111
          refine wp_seq (wp_region_lit ?_)
          refine go hs (pA rfl <| ?_); clear hs a; intro a hs
          refine wpList_nil (then_normal (wp_ret (then_ret ?_)))
          refine fin_ret hs (.tmp (hs.slots _ _ rfl) .nil) ⟨?_, hs.mem.base⟩
          have hX : refB (itemF x left) = -1 := refI_bad (by
            clear hs
            rintro ⟨a0, b0, b1, b2, b3, b4, b5, b6, b7, b8, b9⟩
            first | omega | (rw [hnm, b2] at h65; simp at h65; done) | (have hz : nm = false := (by simpa using h68); have := b3 (of_decide_eq_false (hnm.symm.trans hz)); omega) | exact b4 (hvm.symm.trans (eq_of_beq h79)) | exact b5 (Eq.trans (by rw [Bool.eq_iff_iff]; simp) (eq_of_beq h88)) | (rw [hli.trans b8] at h126; simp at h126; done) | (first | (simp only [Bool.not_eq_true', Bool.not_eq_false', beq_eq_false_iff_ne, beq_iff_eq, ne_eq] at h102; rw [Bool.eq_iff_iff] at h102; simp only [beq_iff_eq, decide_eq_true_eq, Bool.false_eq_true, iff_false] at h102; omega) | (simp at h102; omega)))
          rw [hX]; rfl
        replace h111 := bne_eq_false_iff_eq.1 h111
        refine wp_skip (then_normal ?_)
        refine ⟨beq_eq_false_iff_ne.1 h79, beq_eq_false_iff_ne.1 h88, ⟨by clear hs; first | (simp only [Bool.not_eq_true', Bool.not_eq_false', beq_eq_false_iff_ne, beq_iff_eq, ne_eq] at h102; rw [Bool.eq_iff_iff] at h102; simp only [beq_iff_eq, decide_eq_true_eq, Bool.false_eq_true, iff_false] at h102; omega) | (simp at h102; omega), fun h0 => by clear hs; omega⟩, ?_⟩
        exact (hs.mem_to hs.mem).cut _ ⟨rfl, rfl, rfl, trivial⟩
      replace h106 := bne_eq_false_iff_eq.1 h106
      refine b_skip 33 rfl #[true, true, true, true, true, true, true, true, true, true, true, true, true, true, true, true, true, true, true, true, true, true, true, true, true, true, true, true, true, true, true, true, true, true, false, false, false, false] rfl (by kernel_rfl) hs ((hs.mem.first 1)) rfl rfl rfl (fun _ _ _ h => h) ?_; clear hs a; intro a hs
      refine b_skip 34 rfl #[true, true, true, true, true, true, true, true, true, true, true, true, true, true, true, true, true, true, true, true, true, true, true, true, true, true, true, true, true, true, true, true, true, true, true, false, false, false] rfl (by kernel_rfl) hs ((hs.mem.first 1)) rfl rfl rfl (fun _ _ _ h => h) ?_; clear hs a; intro a hs
      refine b_skip 35 rfl #[true, true, true, true, true, true, true, true, true, true, true, true, true, true, true, true, true, true, true, true, true, true, true, true, true, true, true, true, true, true, true, true, true, true, true, true, false, false] rfl (by kernel_rfl) hs ((hs.mem.first 1)) rfl rfl rfl (fun _ _ _ h => h) ?_; clear hs a; intro a hs
      refine b_take 36 rfl #[true, true, true, true, true, true, true, true, true, true, true, true, true, true, true, true, true, true, true, true, true, true, true, true, true, true, true, true, true, true, true, true, true, true, true, true, true, false] rfl (by kernel_rfl) hs ((hs.mem.first 1)) rfl rfl rfl (fun _ _ _ h => h) (y_pickF hs rfl rfl rfl) ?_; clear hs a; intro a hs
      refine b_take 37 rfl #[true, true, true, true, true, true, true, true, true, true, true, true, true, true, true, true, true, true, true, true, true, true, true, true, true, true, true, true, true, true, true, true, true, true, true, true, true, true] rfl (by kernel_rfl) hs ((hs.mem.first 1)) rfl rfl rfl (fun _ _ _ h => h) (y_pickF hs rfl rfl rfl) ?_; clear hs a; intro a hs
      refine b_done (by kernel_rfl) (then_normal ?_)
      refine wp_cond_false (hs.ev rfl) ?_
      refine wp_skip (then_normal ?_)
      refine ⟨beq_eq_false_iff_ne.1 h79, beq_eq_false_iff_ne.1 h88, ⟨by clear hs; first | (simp only [Bool.not_eq_true', Bool.not_eq_false', beq_eq_false_iff_ne, beq_iff_eq, ne_eq] at h102; rw [Bool.eq_iff_iff] at h102; simp only [beq_iff_eq, decide_eq_true_eq, Bool.false_eq_true, iff_false] at h102; omega) | (simp at h102; omega), fun h0 => by clear hs; omega⟩, ?_⟩
      exact (hs.mem_to hs.mem).cut _ ⟨rfl, rfl, rfl, trivial⟩
    replace h95 := of_decide_eq_false h95
    refine b_skip 22 rfl #[true, true, true, true, true, true, true, true, true, true, true, true, true, true, true, true, true, true, true, true, true, true, true, false, false, false, false, false, false, false, false, false, false, false, false, false, false, false] rfl (by kernel_rfl) hs ((hs.mem.first 1)) rfl rfl rfl (fun _ _ _ h => h) ?_; clear hs a; intro a hs
    refine b_skip 23 rfl #[true, true, true, true, true, true, true, true, true, true, true, true, true, true, true, true, true, true, true, true, true, true, true, true, false, false, false, false, false, false, false, false, false, false, false, false, false, false] rfl (by kernel_rfl) hs ((hs.mem.first 1)) rfl rfl rfl (fun _ _ _ h => h) ?_; clear hs a; intro a hs
    refine b_skip 24 rfl #[true, true, true, true, true, true, true, true, true, true, true, true, true, true, true, true, true, true, true, true, true, true, true, true, true, false, false, false, false, false, false, false, false, false, false, false, false, false] rfl (by kernel_rfl) hs ((hs.mem.first 1)) rfl rfl rfl (fun _ _ _ h => h) ?_; clear hs a; intro a hs
    refine b_take 25 rfl #[true, true, true, true, true, true, true, true, true, true, true, true, true, true, true, true, true, true, true, true, true, true, true, true, true, true, false, false, false, false, false, false, false, false, false, false, false, false] rfl (by kernel_rfl) hs ((hs.mem.first 1)) rfl rfl rfl (fun _ _ _ h => h) (y_pickF hs rfl rfl rfl) ?_; clear hs a; intro a hs
    refine b_take 26 rfl #[true, true, true, true, true, true, true, true, true, true, true, true, true, true, true, true, true, true, true, true, true, true, true, true, true, true, true, false, false, false, false, false, false, false, false, false, false, false] rfl (by kernel_rfl) hs ((hs.mem.first 1)) rfl rfl rfl (fun _ _ _ h => h) (y_bne hs Tryd.underlying4 rfl rfl) ?_; clear hs a; intro a hs
    refine b_take 27 rfl #[true, true, true, true, true, true, true, true, true, true, true, true, true, true, true, true, true, true, true, true, true, true, true, true, true, true, true, true, false, false, false, false, false, false, false, false, false, false] rfl (by kernel_rfl) hs ((hs.mem.first 1)) rfl rfl rfl (fun _ _ _ h => h) (y_pickF hs rfl rfl rfl) ?_; clear hs a; intro a hs
    refine b_take 28 rfl #[true, true, true, true, true, true, true, true, true, true, true, true, true, true, true, true, true, true, true, true, true, true, true, true, true, true, true, true, true, false, false, false, false, false, false, false, false, false] rfl (by kernel_rfl) hs ((hs.mem.first 1)) rfl rfl rfl (fun _ _ _ h => h) (y_move hs rfl) ?_; clear hs a; intro a hs
    rcases hs.know (d := 102) rfl with ⟨h102, hs1⟩ | ⟨h102, hs1⟩ <;> replace hs := hs1 <;> clear hs1
    · refine b_skip 29 rfl #[true, true, true, true, true, true, true, true, true, true, true, true, true, true, true, true, true, true, true, true, true, true, true, true, true, true, true, true, true, true, false, false, false, false, false, false, false, false] rfl (by kernel_rfl) hs ((hs.mem.first 1)) rfl rfl rfl (fun _ _ _ h => h) ?_; clear hs a; intro a hs
      refine b_skip 30 rfl #[true, true, true, true, true, true, true, true, true, true, true, true, true, true, true, true, true, true, true, true, true, true, true, true, true, true, true, true, true, true, true, false, false, false, false, false, false, false] rfl (by kernel_rfl) hs ((hs.mem.first 1)) rfl rfl rfl (fun _ _ _ h => h) ?_; clear hs a; intro a hs
      refine b_skip 31 rfl #[true, true, true, true, true, true, true, true, true, true, true, true, true, true, true, true, true, true, true, true, true, true, true, true, true, true, true, true, true, true, true, true, false, false, false, false, false, false] rfl (by kernel_rfl) hs ((hs.mem.first 1)) rfl rfl rfl (fun _ _ _ h => h) ?_; clear hs a; intro a hs
      refine b_skip 32 rfl #[true, true, true, true, true, true, true, true, true, true, true, true, true, true, true, true, true, true, true, true, true, true, true, true, true, true, true, true, true, true, true, true, true, false, false, false, false, false] rfl (by kernel_rfl) hs ((hs.mem.first 1)) rfl rfl rfl (fun _ _ _ h => h) ?_; clear hs a; intro a hs
      refine b_skip 33 rfl #[true, true, true, true, true, true, true, true, true, true, true, true, true, true, true, true, true, true, true, true, true, true, true, true, true, true, true, true, true, true, true, true, true, true, false, false, false, false] rfl (by kernel_rfl) hs ((hs.mem.first 1)) rfl rfl rfl (fun _ _ _ h => h) ?_; clear hs a; intro a hs
      refine b_skip 34 rfl #[true, true, true, true, true, true, true, true, true, true, true, true, true, true, true, true, true, true, true, true, true, true, true, true, true, true, true, true, true, true, true, true, true, true, true, false, false, false] rfl (by kernel_rfl) hs ((hs.mem.first 1)) rfl rfl rfl (fun _ _ _ h => h) ?_; clear hs a; intro a hs
      refine b_skip 35 rfl #[true, true, true, true, true, true, true, true, true, true, true, true, true, true, true, true, true, true, true, true, true, true, true, true, true, true, true, true, true, true, true, true, true, true, true, true, false, false] rfl (by kernel_rfl) hs ((hs.mem.first 1)) rfl rfl rfl (fun _ _ _ h => h) ?_; clear hs a; intro a hs
      refine b_skip 36 rfl #[true, true, true, true, true, true, true, true, true, true, true, true, true, true, true, true, true, true, true, true, true, true, true, true, true, true, true, true, true, true, true, true, true, true, true, true, true, false] rfl (by kernel_rfl) hs ((hs.mem.first 1)) rfl rfl rfl (fun _ _ _ h => h) ?_; clear hs a; intro a hs
      refine b_take 37 rfl #[true, true, true, true, true, true, true, true, true, true, true, true, true, true, true, true, true, true, true, true, true, true, true, true, true, true, true, true, true, true, true, true, true, true, true, true, true, true] rfl (by kernel_rfl) hs ((hs.mem.first 1)) rfl rfl rfl (fun _ _ _ h => h) (y_pickT hs rfl rfl rfl) ?_; clear hs a; intro a hs
      refine b_done (by kernel_rfl) (then_normal ?_)
      refine wp_cond_true (hs.ev rfl) ?_
      refine wp_seq (wp_region_lit ?_)
      refine go hs (pA rfl <| ?_); clear hs a; intro a hs
      refine wpList_nil (then_normal (wp_ret (then_ret ?_)))
      refine fin_ret hs (.tmp (hs.slots _ _ rfl) .nil) ⟨?_, hs.mem.base⟩
      have hX : refB (itemF x left) = -1 := refI_bad (by
        clear hs
        rintro ⟨a0, b0, b1, b2, b3, b4, b5, b6, b7, b8, b9⟩
        first | omega | (rw [hnm, b2] at h65; simp at h65; done) | (have hz : nm = false := (by simpa using h68); have := b3 (of_decide_eq_false (hnm.symm.trans hz)); omega) | exact b4 (hvm.symm.trans (eq_of_beq h79)) | exact b5 (Eq.trans (by rw [Bool.eq_iff_iff]; simp) (eq_of_beq h88)) | (rw [hli.trans b8] at h126; simp at h126; done) | (first | (simp only [Bool.not_eq_true', Bool.not_eq_false', beq_eq_false_iff_ne, beq_iff_eq, ne_eq] at h102; rw [Bool.eq_iff_iff] at h102; simp only [beq_iff_eq, decide_eq_true_eq, Bool.false_eq_true, iff_false] at h102; omega) | (simp at h102; omega)))
      rw [hX]; rfl
    refine b_take 29 rfl #[true, true, true, true, true, true, true, true, true, true, true, true, true, true, true, true, true, true, true, true, true, true, true, true, true, true, true, true, true, true, false, false, false, false, false, false, false, false] rfl (by kernel_rfl) hs ((hs.mem.first 1)) rfl rfl rfl (fun _ _ _ h => h) (y_faddr (k' := 0) 0 hs (by kernel_rfl) rfl rfl) ?_; clear hs a; intro a hs
    refine b_take 30 rfl #[true, true, true, true, true, true, true, true, true, true, true, true, true, true, true, true, true, true, true, true, true, true, true, true, true, true, true, true, true, true, true, false, false, false, false, false, false, false] rfl (by kernel_rfl) hs ((hs.mem.first 1)) rfl rfl rfl (fun _ _ _ h => h) (y_load hs Tryd.underlying37 rfl rfl (fun w hw => (hw.to 0 rfl).cellV rfl)) ?_; clear hs a; intro a hs
    refine b_take 31 rfl #[true, true, true, true, true, true, true, true, true, true, true, true, true, true, true, true, true, true, true, true, true, true, true, true, true, true, true, true, true, true, true, true, false, false, false, false, false, false] rfl (by kernel_rfl) hs ((hs.mem.first 1)) rfl rfl rfl (fun _ _ _ h => h) (y_cmp hs rfl rfl rfl) ?_; clear hs a; intro a hs
    refine b_take 32 rfl #[true, true, true, true, true, true, true, true, true, true, true, true, true, true, true, true, true, true, true, true, true, true, true, true, true, true, true, true, true, true, true, true, true, false, false, false, false, false] rfl (by kernel_rfl) hs ((hs.mem.first 1)) rfl rfl rfl (fun _ _ _ h => h) (y_move hs rfl) ?_; clear hs a; intro a hs
    rcases hs.know (d := 106) rfl with ⟨h106, hs1⟩ | ⟨h106, hs1⟩ <;> replace hs := hs1 <;> clear hs1
    · replace h106 := bne_iff_ne.1 h106
      refine b_take 33 rfl #[true, true, true, true, true, true, true, true, true, true, true, true, true, true, true, true, true, true, true, true, true, true, true, true, true, true, true, true, true, true, true, true, true, true, false, false, false, false] rfl (by kernel_rfl) hs ((hs.mem.first 1)) rfl rfl rfl (fun _ _ _ h => h) (y_faddr (k' := 15) 15 hs (by kernel_rfl) rfl rfl) ?_; clear hs a; intro a hs
      refine b_take 34 rfl #[true, true, true, true, true, true, true, true, true, true, true, true, true, true, true, true, true, true, true, true, true, true, true, true, true, true, true, true, true, true, true, true, true, true, true, false, false, false] rfl (by kernel_rfl) hs ((hs.mem.first 1)) rfl rfl rfl (fun _ _ _ h => h) (y_load hs Tryd.underlying43 rfl rfl (fun w hw => (hw.to 0 rfl).cellV rfl)) ?_; clear hs a; intro a hs
      refine b_take 35 rfl #[true, true, true, true, true, true, true, true, true, true, true, true, true, true, true, true, true, true, true, true, true, true, true, true, true, true, true, true, true, true, true, true, true, true, true, true, false, false] rfl (by kernel_rfl) hs ((hs.mem.first 1)) rfl rfl rfl (fun _ _ _ h => h) (y_cmp hs rfl rfl rfl) ?_; clear hs a; intro a hs
      refine b_take 36 rfl #[true, true, true, true, true, true, true, true, true, true, true, true, true, true, true, true, true, true, true, true, true, true, true, true, true, true, true, true, true, true, true, true, true, true, true, true, true, false] rfl (by kernel_rfl) hs ((hs.mem.first 1)) rfl rfl rfl (fun _ _ _ h => h) (y_pickT hs rfl rfl rfl) ?_; clear hs a; intro a hs
      refine b_take 37 rfl #[true, true, true, true, true, true, true, true, true, true, true, true, true, true, true, true, true, true, true, true, true, true, true, true, true, true, true, true, true, true, true, true, true, true, true, true, true, true] rfl (by kernel_rfl) hs ((hs.mem.first 1)) rfl rfl rfl (fun _ _ _ h => h) (y_pickF hs rfl rfl rfl) ?_; clear hs a; intro a hs
      refine b_done (by kernel_rfl) (then_normal ?_)
      refine wp_cond_split (hs.ev rfl) (fun h111 => ?_) (fun h111 => ?_)
      · replace h111 := bne_iff_ne.1 h111
        refine wp_seq (wp_region_lit ?_)
        refine go hs (pA rfl <| ?_); clear hs a; intro a hs
        refine wpList_nil (then_normal (wp_ret (then_ret ?_)))
        refine fin_ret hs (.tmp (hs.slots _ _ rfl) .nil) ⟨?_, hs.mem.base⟩
        have hX : refB (itemF x left) = -1 := refI_bad (by
          clear hs
          rintro ⟨a0, b0, b1, b2, b3, b4, b5, b6, b7, b8, b9⟩
          first | omega | (rw [hnm, b2] at h65; simp at h65; done) | (have hz : nm = false := (by simpa using h68); have := b3 (of_decide_eq_false (hnm.symm.trans hz)); omega) | exact b4 (hvm.symm.trans (eq_of_beq h79)) | exact b5 (Eq.trans (by rw [Bool.eq_iff_iff]; simp) (eq_of_beq h88)) | (rw [hli.trans b8] at h126; simp at h126; done) | (first | (simp only [Bool.not_eq_true', Bool.not_eq_false', beq_eq_false_iff_ne, beq_iff_eq, ne_eq] at h102; rw [Bool.eq_iff_iff] at h102; simp only [beq_iff_eq, decide_eq_true_eq, Bool.false_eq_true, iff_false] at h102; omega) | (simp at h102; omega)))
        rw [hX]; rfl
      replace h111 := bne_eq_false_iff_eq.1 h111
      refine wp_skip (then_normal ?_)
      refine ⟨beq_eq_false_iff_ne.1 h79, beq_eq_false_iff_ne.1 h88, ⟨by clear hs; first | (simp only [Bool.not_eq_true', Bool.not_eq_false', beq_eq_false_iff_ne, beq_iff_eq, ne_eq] at h102; rw [Bool.eq_iff_iff] at h102; simp only [beq_iff_eq, decide_eq_true_eq, Bool.false_eq_true, iff_false] at h102; omega) | (simp at h102; omega), fun h0 => by clear hs; omega⟩, ?_⟩
      exact (hs.mem_to hs.mem).cut _ ⟨rfl, rfl, rfl, trivial⟩
    replace h106 := bne_eq_false_iff_eq.1 h106
    refine b_skip 33 rfl #[true, true, true, true, true, true, true, true, true, true, true, true, true, true, true, true, true, true, true, true, true, true, true, true, true, true, true, true, true, true, true, true, true, true, false, false, false, false] rfl (by kernel_rfl) hs ((hs.mem.first 1)) rfl rfl rfl (fun _ _ _ h => h) ?_; clear hs a; intro a hs
    refine b_skip 34 rfl #[true, true, true, true, true, true, true, true, true, true, true, true, true, true, true, true, true, true, true, true, true, true, true, true, true, true, true, true, true, true, true, true, true, true, true, false, false, false] rfl (by kernel_rfl) hs ((hs.mem.first 1)) rfl rfl rfl (fun _ _ _ h => h) ?_; clear hs a; intro a hs
    refine b_skip 35 rfl #[true, true, true, true, true, true, true, true, true, true, true, true, true, true, true, true, true, true, true, true, true, true, true, true, true, true, true, true, true, true, true, true, true, true, true, true, false, false] rfl (by kernel_rfl) hs ((hs.mem.first 1)) rfl rfl rfl (fun _ _ _ h => h) ?_; clear hs a; intro a hs
    refine b_take 36 rfl #[true, true, true, true, true, true, true, true, true, true, true, true, true, true, true, true, true, true, true, true, true, true, true, true, true, true, true, true, true, true, true, true, true, true, true, true, true, false] rfl (by kernel_rfl) hs ((hs.mem.first 1)) rfl rfl rfl (fun _ _ _ h => h) (y_pickF hs rfl rfl rfl) ?_; clear hs a; intro a hs
    refine b_take 37 rfl #[true, true, true, true, true, true, true, true, true, true, true, true, true, true, true, true, true, true, true, true, true, true, true, true, true, true, true, true, true, true, true, true, true, true, true, true, true, true] rfl (by kernel_rfl) hs ((hs.mem.first 1)) rfl rfl rfl (fun _ _ _ h => h) (y_pickF hs rfl rfl rfl) ?_; clear hs a; intro a hs
    refine b_done (by kernel_rfl) (then_normal ?_)
    refine wp_cond_false (hs.ev rfl) ?_
    refine wp_skip (then_normal ?_)
    refine ⟨beq_eq_false_iff_ne.1 h79, beq_eq_false_iff_ne.1 h88, ⟨by clear hs; first | (simp only [Bool.not_eq_true', Bool.not_eq_false', beq_eq_false_iff_ne, beq_iff_eq, ne_eq] at h102; rw [Bool.eq_iff_iff] at h102; simp only [beq_iff_eq, decide_eq_true_eq, Bool.false_eq_true, iff_false] at h102; omega) | (simp at h102; omega), fun h0 => by clear hs; omega⟩, ?_⟩
    exact (hs.mem_to hs.mem).cut _ ⟨rfl, rfl, rfl, trivial⟩
  clear hs
  obtain ⟨hv1, hs1, hp, hs⟩ := hJ
  refine wp_seq ?_
  refine wp_seq_cut (fun a w1 => ∃ (li : Bool), (li = decide (x.f0 = 5 ∧ x.f4 = 4)) ∧ St 155 v0 [(1, .int .i64 (left - 1)), (2, .pointer (some ⟨gx, 0, none⟩)), (6, .bool v), (7, .bool li)] [pt gx #[.int .u8 x.f0, .string x.f1, .int .u8 x.f2.f0, .int .i64 x.f2.f1, .string x.f2.f2, .slice A5 x.f2.f3.length c5, .int .i64 x.f2.f4, .int .i64 x.f2.f5, .int .u8 x.f3.f0, .string x.f3.f1, .slice A10 x.f3.f2.length c10, .slice A11 x.f3.f3.length c11, .slice A12 x.f3.f4.length c12, .int .i64 x.f3.f5, .int .i64 x.f3.f6, .int .u8 x.f4, .slice A16 x.f5.length c16, .int .i64 x.f6, .int .i64 x.f7] 45] a w1) ?_ (fun a w1 hJ => ?_)
  · refine wp_region_lit (go hs (pV rfl (fun a hs => y_faddr (k' := 0) 0 hs (by kernel_rfl) rfl rfl) <| pV rfl (fun a hs => y_load hs Tryd.underlying37 rfl rfl (fun w hw => (hw.to 0 rfl).cellV rfl)) <| pV rfl (fun a hs => y_cmp hs rfl rfl rfl) <| pM rfl <| ?_)); clear hs a; intro a hs
    rcases hs.know (d := 115) rfl with ⟨h115, hs1⟩ | ⟨h115, hs1⟩ <;> replace hs := hs1 <;> clear hs1
    · replace h115 := eq_of_beq h115
      refine go hs (pG rfl (fun a hs => y_faddr (k' := 15) 15 hs (by kernel_rfl) rfl rfl) <| pG rfl (fun a hs => y_load hs Tryd.underlying43 rfl rfl (fun w hw => (hw.to 0 rfl).cellV rfl)) <| pG rfl (fun a hs => y_cmp hs rfl rfl rfl) <| pT rfl rfl <| pA rfl <| ?_); clear hs a; intro a hs
      refine wpList_nil (then_normal ?_)
      refine ⟨(x.f4 == 4), by rw [Bool.eq_iff_iff]; simp only [beq_iff_eq, decide_eq_true_eq]; clear hs; omega, ?_⟩
      exact (hs.mem_to hs.mem).cut _ ⟨rfl, rfl, rfl, rfl, trivial⟩
    replace h115 := ne_of_beq_false h115
    refine go hs (pS rfl <| pS rfl <| pS rfl <| pF rfl rfl <| pA rfl <| ?_); clear hs a; intro a hs
    refine wpList_nil (then_normal ?_)
    refine ⟨false, (decide_eq_false (by omega)).symm, ?_⟩
    exact (hs.mem_to hs.mem).cut _ ⟨rfl, rfl, rfl, rfl, trivial⟩
  clear hs
  obtain ⟨li, hli, hs⟩ := hJ
  refine wp_seq (wp_region_lit ?_)
  refine go hs (pM rfl <| pV rfl (fun a hs => y_faddr (k' := 16) 16 hs (by kernel_rfl) rfl rfl) <| pV rfl (fun a hs => y_load hs Tryd.underlying23 rfl rfl (fun w hw => (hw.to 0 rfl).cellV rfl)) <| pV rfl (fun a hs => y_lenL hs Tryd.underlying23 rfl) <| pV rfl (fun a hs => y_cmp hs rfl rfl rfl) <| pV rfl (fun a hs => y_bne hs Tryd.underlying4 rfl rfl) <| pM rfl <| ?_); clear hs a; intro a hs
  rcases hs.know (d := 126) rfl with ⟨h126, hs1⟩ | ⟨h126, hs1⟩ <;> replace hs := hs1 <;> clear hs1
  · refine go hs (pS rfl <| pS rfl <| pS rfl <| pS rfl <| pT rfl rfl <| ?_); clear hs a; intro a hs
    refine wpList_nil (then_normal ?_)
    refine wp_cond_true (hs.ev rfl) ?_
    refine wp_seq (wp_region_lit ?_)
    refine go hs (pA rfl <| ?_); clear hs a; intro a hs
    refine wpList_nil (then_normal (wp_ret (then_ret ?_)))
    refine fin_ret hs (.tmp (hs.slots _ _ rfl) .nil) ⟨?_, hs.mem.base⟩
    have hX : refB (itemF x left) = -1 := refI_bad (by
      clear hs
      rintro ⟨a0, b0, b1, b2, b3, b4, b5, b6, b7, b8, b9⟩
      first | omega | (rw [hnm, b2] at h65; simp at h65; done) | (have hz : nm = false := (by simpa using h68); have := b3 (of_decide_eq_false (hnm.symm.trans hz)); omega) | exact b4 (hvm.symm.trans (eq_of_beq h79)) | exact b5 (Eq.trans (by rw [Bool.eq_iff_iff]; simp) (eq_of_beq h88)) | (rw [hli.trans b8] at h126; simp at h126; done) | (first | (simp only [Bool.not_eq_true', Bool.not_eq_false', beq_eq_false_iff_ne, beq_iff_eq, ne_eq] at h102; rw [Bool.eq_iff_iff] at h102; simp only [beq_iff_eq, decide_eq_true_eq, Bool.false_eq_true, iff_false] at h102; omega) | (simp at h102; omega)))
    rw [hX]; rfl
  refine go hs (pG rfl (fun a hs => y_faddr (k' := 16) 16 hs (by kernel_rfl) rfl rfl) <| pG rfl (fun a hs => y_load hs Tryd.underlying23 rfl rfl (fun w hw => (hw.to 0 rfl).cellV rfl)) <| pG rfl (fun a hs => y_lenL hs Tryd.underlying23 rfl) <| pG rfl (fun a hs => y_cmp hs rfl rfl rfl) <| pF rfl rfl <| ?_); clear hs a; intro a hs
  refine wpList_nil (then_normal ?_)
  refine wp_cond_split (hs.ev rfl) (fun h131 => ?_) (fun h131 => ?_)
  · replace h131 := of_decide_eq_true h131
    refine wp_seq (wp_region_lit ?_)
    refine go hs (pA rfl <| ?_); clear hs a; intro a hs
    refine wpList_nil (then_normal (wp_ret (then_ret ?_)))
    refine fin_ret hs (.tmp (hs.slots _ _ rfl) .nil) ⟨?_, hs.mem.base⟩
    have hX : refB (itemF x left) = -1 := refI_bad (by
      clear hs
      rintro ⟨a0, b0, b1, b2, b3, b4, b5, b6, b7, b8, b9⟩
      first | omega | (rw [hnm, b2] at h65; simp at h65; done) | (have hz : nm = false := (by simpa using h68); have := b3 (of_decide_eq_false (hnm.symm.trans hz)); omega) | exact b4 (hvm.symm.trans (eq_of_beq h79)) | exact b5 (Eq.trans (by rw [Bool.eq_iff_iff]; simp) (eq_of_beq h88)) | (rw [hli.trans b8] at h126; simp at h126; done) | (first | (simp only [Bool.not_eq_true', Bool.not_eq_false', beq_eq_false_iff_ne, beq_iff_eq, ne_eq] at h102; rw [Bool.eq_iff_iff] at h102; simp only [beq_iff_eq, decide_eq_true_eq, Bool.false_eq_true, iff_false] at h102; omega) | (simp at h102; omega)))
    rw [hX]; rfl
  replace h131 := of_decide_eq_false h131
  refine wp_skip (then_normal ?_)
  refine wp_seq_cut (fun a w1 => ∃ (lf : Int), (-1 ≤ lf ∧ lf ≤ 8192) ∧ (0 ≤ lf → (itemF x left) = if (shI x lf).1 = true then xlist stE x.f5 (shI x lf).2 else shI x lf) ∧ (lf < 0 → (itemF x left).1 = false ∧ lf = -1) ∧ St 155 v0 [(1, .int .i64 lf), (2, .pointer (some ⟨gx, 0, none⟩))] [pt gx #[.int .u8 x.f0, .string x.f1, .int .u8 x.f2.f0, .int .i64 x.f2.f1, .string x.f2.f2, .slice A5 x.f2.f3.length c5, .int .i64 x.f2.f4, .int .i64 x.f2.f5, .int .u8 x.f3.f0, .string x.f3.f1, .slice A10 x.f3.f2.length c10, .slice A11 x.f3.f3.length c11, .slice A12 x.f3.f4.length c12, .int .i64 x.f3.f5, .int .i64 x.f3.f6, .int .u8 x.f4, .slice A16 x.f5.length c16, .int .i64 x.f6, .int .i64 x.f7] 45] a w1) ?_ (fun a w1 hJ => ?_)
  · refine wp_seq ?_
    have hR : refHead x := by
      clear hs
      refine ⟨by omega, by omega, by rw [← hn1, hnm], fun h0 => hn2 (by rw [hnm, decide_eq_false h0]), by rw [← hvm]; exact hv1, ?_, hp.1, hp.2, ?_, by omega⟩
      · intro h0; exact hs1 (by rw [← h0]; rw [Bool.eq_iff_iff]; simp)
      rw [← hli]; simpa using h126
    have hH := refHead_head hR
    have hI := itemF_ref (left := left) (by omega) hH
    refine wp_region_lit (go hs (pM rfl <| ?_)); clear hs a; intro a hs
    refine wpList_nil (then_normal ?_)
    refine wp_cond_split (hs.ev rfl) (fun h132 => ?_) (fun h132 => ?_)
    · have hV : valI x (left - 1) = stE x.f2 (left - 1) := by unfold valI; rw [if_pos (show hasV x from of_decide_eq_true (hvm.symm.trans h132))]
      have hfv := stE_falls x.f2 (left - 1) (by omega)
      have hrb := refB_bounds hfv
      refine wp_region_lit (go hs (pV rfl (fun a hs => y_faddr (k' := 2) 2 hs (by kernel_rfl) rfl rfl) <| pV rfl (fun a hs => y_loadAgg (vs := [.int .u8 x.f2.f0, .int .i64 x.f2.f1, .string x.f2.f2, .slice A5 x.f2.f3.length c5, .int .i64 x.f2.f4, .int .i64 x.f2.f5]) hs Tryd.underlying24 rfl (by kernel_rfl) rfl (fun w hw k v hk => ((hw.to 0 rfl).cell).trans (sub_at 6 rfl hk))) <| pM rfl <| ?_)); clear hs a; intro a hs
      refine a_eff rfl (e_callB Tryd.func42 rfl rfl hs rfl rfl (ref_exprB x.f2 A5 c5 (left - 1) _ (Kd.C_below hA5 hs.mem.base) hsm.2.1 (by omega)) ?_); clear hs a; intro a w hs
      refine go hs (pA rfl <| ?_); clear hs a; intro a hs
      refine wpList_nil (then_normal ?_)
      refine ⟨refB (stE x.f2 (left - 1)), by omega, fun h0 => by rw [hI, hV]; exact xb_k (k := fun l => if (shI x l).1 = true then xlist stE x.f5 (shI x l).2 else shI x l) h0, fun h0 => by rw [hI, hV]; exact xb_s (k := fun l => if (shI x l).1 = true then xlist stE x.f5 (shI x l).2 else shI x l) hfv h0, ?_⟩
      exact (hs.mem_to hs.mem).cut _ ⟨rfl, rfl, trivial⟩
    have hV : valI x (left - 1) = (true, left - 1) := by unfold valI; rw [if_neg (show ¬ hasV x from of_decide_eq_false (hvm.symm.trans h132))]
    refine wp_skip (then_normal ?_)
    refine ⟨left - 1, by omega, fun h0 => by rw [hI, hV, if_pos rfl], fun h0 => by omega, ?_⟩
    exact (hs.mem_to hs.mem).cut _ ⟨rfl, rfl, trivial⟩
  clear hs
  obtain ⟨lf, hlf, hinv, hneg, hs⟩ := hJ
  refine wp_seq_cut (fun a w1 => ∃ (lf : Int), (-1 ≤ lf ∧ lf ≤ 8192) ∧ (0 ≤ lf → (itemF x left) = xlist stE x.f5 lf) ∧ (lf < 0 → (itemF x left).1 = false ∧ lf = -1) ∧ St 155 v0 [(1, .int .i64 lf), (2, .pointer (some ⟨gx, 0, none⟩))] [pt gx #[.int .u8 x.f0, .string x.f1, .int .u8 x.f2.f0, .int .i64 x.f2.f1, .string x.f2.f2, .slice A5 x.f2.f3.length c5, .int .i64 x.f2.f4, .int .i64 x.f2.f5, .int .u8 x.f3.f0, .string x.f3.f1, .slice A10 x.f3.f2.length c10, .slice A11 x.f3.f3.length c11, .slice A12 x.f3.f4.length c12, .int .i64 x.f3.f5, .int .i64 x.f3.f6, .int .u8 x.f4, .slice A16 x.f5.length c16, .int .i64 x.f6, .int .i64 x.f7] 45] a w1) ?_ (fun a w1 hJ => ?_)
  · refine wp_seq (wp_region_lit ?_)
    refine go hs (pV rfl (fun a hs => y_faddr (k' := 0) 0 hs (by kernel_rfl) rfl rfl) <| pV rfl (fun a hs => y_load hs Tryd.underlying37 rfl rfl (fun w hw => (hw.to 0 rfl).cellV rfl)) <| pV rfl (fun a hs => y_cmp hs rfl rfl rfl) <| pM rfl <| ?_); clear hs a; intro a hs
    rcases hs.know (d := 140) rfl with ⟨h140, hs1⟩ | ⟨h140, hs1⟩ <;> replace hs := hs1 <;> clear hs1
    · replace h140 := eq_of_beq h140
      refine go hs (pG rfl (fun a hs => y_move hs rfl) <| pG rfl (fun a hs => y_cmp hs rfl rfl rfl) <| pT rfl rfl <| ?_); clear hs a; intro a hs
      refine wpList_nil (then_normal ?_)
      refine wp_cond_split (hs.ev rfl) (fun h143 => ?_) (fun h143 => ?_)
      · replace h143 := of_decide_eq_true h143
        have hSn : ∀ l, shI x l = xshape 16 x.f3 l := fun l => by unfold shI; rw [if_pos (by omega)]
        have hfs := xshape_falls 16 x.f3 lf (by omega)
        have hrb := refB_bounds hfs
        refine wp_region_lit (go hs (pV rfl (fun a hs => y_faddr (k' := 8) 8 hs (by kernel_rfl) rfl rfl) <| pV rfl (fun a hs => y_loadAgg (vs := [.int .u8 x.f3.f0, .string x.f3.f1, .slice A10 x.f3.f2.length c10, .slice A11 x.f3.f3.length c11, .slice A12 x.f3.f4.length c12, .int .i64 x.f3.f5, .int .i64 x.f3.f6]) hs Tryd.underlying41 rfl (by kernel_rfl) rfl (fun w hw k v hk => ((hw.to 0 rfl).cell).trans (sub_at 7 rfl hk))) <| pM rfl <| ?_)); clear hs a; intro a hs
        refine a_eff rfl (e_callB Tryd.func46 rfl rfl hs rfl rfl (ref_shape 16 (by decide) x.f3 A10 A11 A12 c10 c11 c12 lf _ (Kd.C_below hA10 hs.mem.base) (Kd.C_below hA11 hs.mem.base) (Kd.C_below hA12 hs.mem.base) hsm.2.2.1 (by omega)) ?_); clear hs a; intro a w hs
        refine go hs (pA rfl <| ?_); clear hs a; intro a hs
        refine wpList_nil (then_normal ?_)
        refine ⟨refB (xshape 16 x.f3 lf), by omega, fun h0 => by rw [hinv (by omega), hSn]; exact xb_k (k := fun l => xlist stE x.f5 l) h0, fun h0 => by rw [hinv (by omega), hSn]; exact xb_s (k := fun l => xlist stE x.f5 l) hfs h0, ?_⟩
        exact (hs.mem_to hs.mem).cut _ ⟨rfl, rfl, trivial⟩
      replace h143 := of_decide_eq_false h143
      refine wp_skip (then_normal ?_)
      refine ⟨lf, hlf, fun h0 => by omega, hneg, ?_⟩
      exact (hs.mem_to hs.mem).cut _ ⟨rfl, rfl, trivial⟩
    replace h140 := ne_of_beq_false h140
    have hSn : ∀ l, shI x l = (true, l) := fun l => by unfold shI; rw [if_neg (by omega)]
    refine go hs (pS rfl <| pS rfl <| pF rfl rfl <| ?_); clear hs a; intro a hs
    refine wpList_nil (then_normal ?_)
    refine wp_cond_false (hs.ev rfl) ?_
    refine wp_skip (then_normal ?_)
    refine ⟨lf, hlf, fun h0 => by have h1 := hinv h0; rw [hSn, if_pos rfl] at h1; exact h1, hneg, ?_⟩
    exact (hs.mem_to hs.mem).cut _ ⟨rfl, rfl, trivial⟩
  clear hs
  obtain ⟨lf, hlf, hinv, hneg, hs⟩ := hJ
  refine wp_seq_cut (fun a w1 => ∃ (lq : Int), (refB (itemF x left) = lq) ∧ St 155 v0 [(1, .int .i64 lq), (2, .pointer (some ⟨gx, 0, none⟩))] [pt gx #[.int .u8 x.f0, .string x.f1, .int .u8 x.f2.f0, .int .i64 x.f2.f1, .string x.f2.f2, .slice A5 x.f2.f3.length c5, .int .i64 x.f2.f4, .int .i64 x.f2.f5, .int .u8 x.f3.f0, .string x.f3.f1, .slice A10 x.f3.f2.length c10, .slice A11 x.f3.f3.length c11, .slice A12 x.f3.f4.length c12, .int .i64 x.f3.f5, .int .i64 x.f3.f6, .int .u8 x.f4, .slice A16 x.f5.length c16, .int .i64 x.f6, .int .i64 x.f7] 45] a w1) ?_ (fun a w1 hJ => ?_)
  · refine wp_seq (wp_region_lit ?_)
    refine go hs (pM rfl <| pV rfl (fun a hs => y_cmp hs rfl rfl rfl) <| ?_); clear hs a; intro a hs
    refine wpList_nil (then_normal ?_)
    refine wp_cond_split (hs.ev rfl) (fun h149 => ?_) (fun h149 => ?_)
    · replace h149 := of_decide_eq_true h149
      have hfl := xlist_left x.f5 lf (fun p _ l h => stE_falls p l h) (by omega)
      refine wp_region_lit (go hs (pV rfl (fun a hs => y_faddr (k' := 16) 16 hs (by kernel_rfl) rfl rfl) <| pV rfl (fun a hs => y_load hs Tryd.underlying23 rfl rfl (fun w hw => (hw.to 0 rfl).cellV rfl)) <| pM rfl <| ?_)); clear hs a; intro a hs
      refine a_eff rfl (e_callB Tryd.func73 rfl rfl hs rfl rfl (ref_exprs A16 c16 x.f5 lf _ (ref_expr 16 (by decide)) (Kd.C_below hA16 hs.mem.base) hsm.2.2.2 (by omega)) ?_); clear hs a; intro a w hs
      refine go hs (pA rfl <| ?_); clear hs a; intro a hs
      refine wpList_nil (then_normal ?_)
      refine ⟨refL x.f5 lf, by rw [hinv (by omega)]; rfl, ?_⟩
      exact (hs.mem_to hs.mem).cut _ ⟨rfl, rfl, trivial⟩
    replace h149 := of_decide_eq_false h149
    refine wp_skip (then_normal ?_)
    refine ⟨lf, by obtain ⟨h1, h2⟩ := hneg (by omega); unfold refB; rw [h1, h2]; rfl, ?_⟩
    exact (hs.mem_to hs.mem).cut _ ⟨rfl, rfl, trivial⟩
  clear hs
  obtain ⟨lq, hq, hs⟩ := hJ
  refine wp_seq (wp_region_lit ?_)
  refine go hs (pM rfl <| pA rfl <| ?_); clear hs a; intro a hs
  refine wpList_nil (then_normal (wp_ret ?_))
  refine fin_ret hs (.tmp (hs.slots _ _ rfl) .nil) ⟨?_, hs.mem.base⟩
  rw [hq]; rfl
set_option maxRecDepth 100000 in
theorem ref_May (A : Option Addr) (c : Nat) (l : List XI) (v0 : World) (hA : Kd.C k45 v0 A l.length l) (hsm : ∀ p ∈ l, smallI p) :
    Calls Tryd.prog 17 #[.slice A l.length c] v0 fun e w' => e = .returned (.bool (mayI l)) ∧ Below v0.heap.size v0 w' := by
  refine calls_enter (N := 28) (n := 27) (args := [.slice A l.length c]) Tryd.func17 rfl rfl rfl (H.init v0) (fun a hs => ?_)
  have hcl := C_len hA
  refine wp_seq (wp_region_lit ?_)
  refine go hs (pA rfl <| ?_); clear hs a; intro a hs
  refine wpList_nil (then_normal (wp_seq ?_))
  refine wp_region_lit (go hs (pA rfl <| ?_)); clear hs a; intro a hs
  refine wpList_nil (then_normal (wp_seq ?_))
  refine wp_seq (wp_region_lit ?_)
  refine go hs (pA rfl <| ?_); clear hs a; intro a hs
  refine wpList_nil (then_normal (wp_block ?_))
  refine wp_loopN (fun m a w1 => ∃ (i : Nat) (lf : Int), (i + m = l.length) ∧ (-1 ≤ lf ∧ lf ≤ 8192) ∧ (0 ≤ lf → (xlist itemF l 8192) = xk itemF (l.drop i) (fun l => (true, l)) lf) ∧ (lf < 0 → (xlist itemF l 8192).1 = false ∧ lf = -1) ∧ St 28 v0 [(0, .slice A l.length c), (3, .int .i64 lf), (4, .int .i64 ((i : Nat) : Int))] [] a w1) (l.length) ⟨0, 8192, by omega, by omega, fun _ => xk_true.symm, fun h => by omega, ?_⟩ (fun m a w1 hJ => ?_)
  · exact (hs.mem_to hs.mem).cut _ ⟨rfl, rfl, rfl, trivial⟩
  clear hs
  obtain ⟨i, lf, hi, hlf, hinv, hneg, hs⟩ := hJ
  refine wp_seq (wp_seq ?_)
  refine wp_region_lit (go hs (pM rfl <| pM rfl <| pV rfl (fun a hs => y_lenL hs Tryd.underlying32 rfl) <| pV rfl (fun a hs => y_cmp hs rfl rfl rfl) <| pM rfl <| ?_)); clear hs a; intro a hs
  rcases hs.know (d := 9) rfl with ⟨h9, hs1⟩ | ⟨h9, hs1⟩ <;> replace hs := hs1 <;> clear hs1
  · replace h9 := of_decide_eq_true h9
    refine go hs (pG rfl (fun a hs => y_move hs rfl) <| pG rfl (fun a hs => y_cmp hs rfl rfl rfl) <| pT rfl rfl <| ?_); clear hs a; intro a hs
    refine wpList_nil (then_normal ?_)
    refine wp_cond_split (hs.ev rfl) (fun h12 => ?_) (fun h12 => ?_)
    · replace h12 := of_decide_eq_true h12
      obtain ⟨y, hy⟩ : ∃ y, l[i]? = some y := ⟨_, List.getElem?_eq_getElem (by omega)⟩
      obtain ⟨g0, o, rfl, hcell⟩ := C_atG (show 0 < 19 by decide) hA (by omega)
      obtain ⟨cs, hK, hc⟩ := hcell i y hy
      obtain ⟨A5, c5, A10, c10, A11, c11, A12, c12, A16, c16, rfl, l5, g5, l10, g10, l11, g11, l12, g12, l16, g16⟩ := k45_open hK
      have hdrop : l.drop i = y :: l.drop (i + 1) := by
        rw [List.drop_eq_getElem_cons (by omega)]
        rw [List.getElem?_eq_getElem (by omega)] at hy
        injection hy with hy
        rw [hy]
      rw [hdrop] at hinv
      refine wp_skip (then_normal (wp_seq ?_))
      refine wp_block (wp_region_lit ?_)
      refine go hs (pM rfl <| pM rfl <| pV rfl (fun a hs => y_idxB (size := 19) (off := o + i * 19) hs Tryd.underlying32 (by kernel_rfl) rfl rfl (by omega) (by omega) (by simp)) <| pV rfl (fun a hs => y_loadAgg (vs := [.int .u8 y.f0, .string y.f1, .int .u8 y.f2.f0, .int .i64 y.f2.f1, .string y.f2.f2, .slice A5 y.f2.f3.length c5, .int .i64 y.f2.f4, .int .i64 y.f2.f5, .int .u8 y.f3.f0, .string y.f3.f1, .slice A10 y.f3.f2.length c10, .slice A11 y.f3.f3.length c11, .slice A12 y.f3.f4.length c12, .int .i64 y.f3.f5, .int .i64 y.f3.f6, .int .u8 y.f4, .slice A16 y.f5.length c16, .int .i64 y.f6, .int .i64 y.f7]) hs Tryd.underlying44 rfl (by kernel_rfl) rfl (fun w hw k v hk => hc w hw.base k v hk)) <| pM rfl <| ?_); clear hs a; intro a hs
      have hfl := itemF_falls y lf (by omega)
      have hrb := refB_bounds hfl
      refine a_eff rfl (e_callB Tryd.func41 rfl rfl hs rfl rfl (ref_Item y A5 A10 A11 A12 A16 c5 c10 c11 c12 c16 lf _ (Kd.C_below g5 hs.mem.base) (Kd.C_below g10 hs.mem.base) (Kd.C_below g11 hs.mem.base) (Kd.C_below g12 hs.mem.base) (Kd.C_below g16 hs.mem.base) (hsm y (List.mem_of_getElem? hy)) (by omega)) ?_); clear hs a; intro a w hs
      refine go hs (pA rfl <| ?_); clear hs a; intro a hs
      refine wpList_nil (in_normal (then_normal (wp_region_lit ?_)))
      refine go hs (pM rfl <| pV rfl (fun a hs => y_add hs rfl rfl (by omega)) <| pA rfl <| ?_); clear hs a; intro a hs
      refine wpList_nil (then_normal ?_)
      refine ⟨m - 1, by omega, i + 1, refB (itemF y lf), by omega, by omega, xk_next (hinv (by omega)), xk_stop (hinv (by omega)) hfl, ?_⟩
      exact (hs.mem_to hs.mem).cut _ ⟨rfl, rfl, rfl, trivial⟩
    replace h12 := of_decide_eq_false h12
    refine wp_exit (then_exit (then_exit (in_here (then_normal (wp_seq ?_)))))
    have hq : (xlist itemF l 8192).1 = decide (0 ≤ lf) := by
      by_cases h0 : 0 ≤ lf
      · have h1 := hinv h0
        rw [List.drop_eq_nil_of_le (by omega), xk_nil] at h1
        rw [h1]; exact (decide_eq_true h0).symm
      rw [(hneg (by omega)).1]; exact (decide_eq_false h0).symm
    refine wp_region_lit (go hs (pM rfl <| pV rfl (fun a hs => y_cmp hs rfl rfl rfl) <| pM rfl <| ?_)); clear hs a; intro a hs
    rcases hs.know (d := 23) rfl with ⟨h23, hs1⟩ | ⟨h23, hs1⟩ <;> replace hs := hs1 <;> clear hs1
    · replace h23 := of_decide_eq_true h23
      refine go hs (pG rfl (fun a hs => y_move hs rfl) <| pG rfl (fun a hs => y_lenL hs Tryd.underlying32 rfl) <| pG rfl (fun a hs => y_cmp hs rfl rfl rfl) <| pT rfl rfl <| pA rfl <| ?_); clear hs a; intro a hs
      refine wpList_nil (then_normal (wp_ret ?_))
      refine fin_ret hs (.tmp (hs.slots _ _ rfl) .nil) ⟨?_, hs.mem.base⟩
      first | (rw [show mayI l = false by unfold mayI; rw [hq, decide_eq_false (show ¬ 0 ≤ lf by omega), Bool.and_false]]; rfl) | (rw [show mayI l = decide ((l.length : Int) ≤ 64) by unfold mayI; rw [hq, decide_eq_true (show 0 ≤ lf by omega), Bool.and_true]; exact decide_eq_decide.2 (by omega)]; rfl)
    replace h23 := of_decide_eq_false h23
    refine go hs (pS rfl <| pS rfl <| pS rfl <| pF rfl rfl <| pA rfl <| ?_); clear hs a; intro a hs
    refine wpList_nil (then_normal (wp_ret ?_))
    refine fin_ret hs (.tmp (hs.slots _ _ rfl) .nil) ⟨?_, hs.mem.base⟩
    first | (rw [show mayI l = false by unfold mayI; rw [hq, decide_eq_false (show ¬ 0 ≤ lf by omega), Bool.and_false]]; rfl) | (rw [show mayI l = decide ((l.length : Int) ≤ 64) by unfold mayI; rw [hq, decide_eq_true (show 0 ≤ lf by omega), Bool.and_true]; exact decide_eq_decide.2 (by omega)]; rfl)
  replace h9 := of_decide_eq_false h9
  refine go hs (pS rfl <| pS rfl <| pF rfl rfl <| ?_); clear hs a; intro a hs
  refine wpList_nil (then_normal ?_)
  refine wp_cond_false (hs.ev rfl) ?_
  refine wp_exit (then_exit (then_exit (in_here (then_normal (wp_seq ?_)))))
  have hq : (xlist itemF l 8192).1 = decide (0 ≤ lf) := by
    by_cases h0 : 0 ≤ lf
    · have h1 := hinv h0
      rw [List.drop_eq_nil_of_le (by omega), xk_nil] at h1
      rw [h1]; exact (decide_eq_true h0).symm
    rw [(hneg (by omega)).1]; exact (decide_eq_false h0).symm
  refine wp_region_lit (go hs (pM rfl <| pV rfl (fun a hs => y_cmp hs rfl rfl rfl) <| pM rfl <| ?_)); clear hs a; intro a hs
  rcases hs.know (d := 23) rfl with ⟨h23, hs1⟩ | ⟨h23, hs1⟩ <;> replace hs := hs1 <;> clear hs1
  · replace h23 := of_decide_eq_true h23
    refine go hs (pG rfl (fun a hs => y_move hs rfl) <| pG rfl (fun a hs => y_lenL hs Tryd.underlying32 rfl) <| pG rfl (fun a hs => y_cmp hs rfl rfl rfl) <| pT rfl rfl <| pA rfl <| ?_); clear hs a; intro a hs
    refine wpList_nil (then_normal (wp_ret ?_))
    refine fin_ret hs (.tmp (hs.slots _ _ rfl) .nil) ⟨?_, hs.mem.base⟩
    first | (rw [show mayI l = false by unfold mayI; rw [hq, decide_eq_false (show ¬ 0 ≤ lf by omega), Bool.and_false]]; rfl) | (rw [show mayI l = decide ((l.length : Int) ≤ 64) by unfold mayI; rw [hq, decide_eq_true (show 0 ≤ lf by omega), Bool.and_true]; exact decide_eq_decide.2 (by omega)]; rfl)
  replace h23 := of_decide_eq_false h23
  refine go hs (pS rfl <| pS rfl <| pS rfl <| pF rfl rfl <| pA rfl <| ?_); clear hs a; intro a hs
  refine wpList_nil (then_normal (wp_ret ?_))
  refine fin_ret hs (.tmp (hs.slots _ _ rfl) .nil) ⟨?_, hs.mem.base⟩
  first | (rw [show mayI l = false by unfold mayI; rw [hq, decide_eq_false (show ¬ 0 ≤ lf by omega), Bool.and_false]]; rfl) | (rw [show mayI l = decide ((l.length : Int) ≤ 64) by unfold mayI; rw [hq, decide_eq_true (show 0 ≤ lf by omega), Bool.and_true]; exact decide_eq_decide.2 (by omega)]; rfl)
end Go.Proofs.YtibaidddhmdafaaDoor.E
end
