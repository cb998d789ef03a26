/- What YtibaidddhmdafaaDoorRTreeFresh's proof reaches of its texts, part 14. Conditions: as each says. -/
import Derived.ArgAppend
import Derived.Below
import Derived.BigCall
import Derived.BigQuiet
import Derived.Deep.AppendLies
import Derived.Deep.CutBlock
import Derived.Deep.DeepCutAuto
import Derived.Deep.Draws
import Derived.Deep.LoopGhost
import Derived.Deep.OwnRows
import Derived.Deep.QuietTactic
import Derived.Deep.RegionHeld3
import Derived.Deep.WholeRow
import Derived.KernelRfl
import Derived.Laws.AppendOwn
import Derived.Laws.BitsLemmas
import Derived.Laws.BytesArg
import Derived.Laws.CopyRow
import Derived.Laws.Externs
import Derived.Laws.IdiomCopy
import Derived.Laws.MakeOwn
import Derived.Laws.OwnMore
import Derived.Laws.Rows
import Derived.Laws.Slices
import Derived.Laws.StructEq
import Derived.Laws.Tables
import Derived.Lib.AppendStr
import Derived.Lib.Builder
import Derived.Lib.Bytealg
import Derived.Lib.ConvBytes
import Derived.Lib.ItoaLen
import Derived.Lib.ItoaMem
import Derived.Lib.LaidTab
import Derived.Lib.Strings
import Derived.Lib.Walk
import Derived.Maps.AppendAt
import Derived.OrdersHeld
import Derived.OwnWalk
import Derived.RowKit
import Derived.RowKit3
import Derived.ScopeJumps
import Derived.Shelf.LaysM
import Derived.Shelf.Strconv.Itoa3
import Derived.Shelf.Strings.Builder1
import Derived.Sort.Grow
import Derived.Tactics
import Derived.Test.YtibaidddhmdafaaDoorProg
import Derived.WalkKit
import Derived.WideLaws
import Derived.Test.YtibaidddhmdafaaDoorZTreeFresh13
section
namespace Go.Proofs.YtibaidddhmdafaaDoor.E
open Go Go.RowKit Go.Proofs.YtibaidddhmdafaaDoorW.PrintWords Go.Proofs.YtibaidddhmdafaaDoorW.PrintLast Go.Proofs.YtibaidddhmdafaaDoorW.PrintMore Go.Proofs.YtibaidddhmdafaaDoor.PA
set_option linter.unusedVariables false
set_option linter.unusedSimpArgs false
theorem builder_put (g : Nat) (p : Option Addr) (hp : p = none ∨ p = some ⟨g, 0, none⟩) (A : Option Addr) (c : Nat) (acc s : ByteArray) (hn : acc.size + s.size ≤ 100000000) (bs : List Res) (w0 w : World) (h : H w0 (pt g #[.pointer p, .slice A acc.size c] 62 :: row 5 1 (.slice A acc.size c) acc.size (Lib.strCells acc) :: bs) w) :
    Calls Tryd.prog 38 #[.pointer (some ⟨g, 0, none⟩), .string s] w fun e w' => ∃ A' c', e = .returned (.tuple #[.int .i64 (s.size : Int), .nilIface]) ∧ H w0 (pt g #[.pointer (some ⟨g, 0, none⟩), .slice A' (acc ++ s).size c'] 62 :: row 5 1 (.slice A' (acc ++ s).size c') (acc ++ s).size (Lib.strCells (acc ++ s)) :: bs) w' := by
  have h1 := builder_WriteString g p hp A acc.size c (Lib.strCells acc) s hn bs w0 w h
  rw [strCells_app, ByteArray.size_append]
  exact h1
theorem builder_put1 (g : Nat) (p : Option Addr) (hp : p = none ∨ p = some ⟨g, 0, none⟩) (A : Option Addr) (c : Nat) (acc : ByteArray) (hn : acc.size ≤ 100000000) (bs : List Res) (w0 w : World) (h : H w0 (pt g #[.pointer p, .slice A acc.size c] 62 :: row 5 1 (.slice A acc.size c) acc.size (Lib.strCells acc) :: bs) w) :
    Calls Tryd.prog 91 #[.pointer (some ⟨g, 0, none⟩), .int .u8 32] w fun e w' => ∃ A' c', e = .returned .nilIface ∧ H w0 (pt g #[.pointer (some ⟨g, 0, none⟩), .slice A' (acc ++ ⟨#[32]⟩).size c'] 62 :: row 5 1 (.slice A' (acc ++ ⟨#[32]⟩).size c') (acc ++ ⟨#[32]⟩).size (Lib.strCells (acc ++ ⟨#[32]⟩)) :: bs) w' := by
  have h1 := builder_WriteByte g p hp A acc.size c (Lib.strCells acc) 32 hn bs w0 w h
  rw [strCells_app, ByteArray.size_append]
  exact h1
theorem grow_below (w : World) (k : Nat) (os : Array Obj) : Below w.heap.size w (Go.Sort.grow (w.drewN k) os) := by
  have h1 : (w.drewN k).heap = w.heap := rfl
  refine ⟨rfl, rfl, rfl, ?_, fun j hj => ?_⟩
  · show w.heap.size ≤ (w.heap ++ os).size; simp
  · show (w.heap ++ os)[j]? = _
    rw [Array.getElem?_append_left hj]
theorem joinF_bad {l : List S94} {i : Nat} {t : S94} (ht : l[i]? = some t) (hm : mayB t = false) : joinF l = (⟨#[]⟩, 2) := by
  unfold joinF
  rw [if_neg (fun h => by rw [List.all_eq_true.1 h t (List.mem_of_getElem? ht)] at hm; cases hm)]
/-- strconv's table stands in its variable. -/
def Pow10 (w : World) : Prop := Lib.TabIs Tryd.prog w "internal/strconv.uint64pow10" .u64 Lib.pow10Tab
set_option maxRecDepth 100000 in
theorem token_Join (A : Option Addr) (c : Nat) (l : List S94) (v0 : World) (hA : Kd.C k94 v0 A l.length l) (hl : l.length ≤ 140737488355328) (hsz : ∀ t ∈ l, t.f1.size ≤ 9223372036854775807) (hP : Pow10 v0) :
    Calls Tryd.prog 64 #[.slice A l.length c] v0 fun e w' => e = .returned (.tuple #[.string (joinF l).1, .int .i64 (joinF l).2]) ∧ Below v0.heap.size v0 w' := by
  refine calls_enter (N := 43) (n := 42) (args := [.slice A l.length c]) Tryd.func64 rfl rfl rfl (H.init v0) (fun a hs => ?_)
  repeat with_reducible refine wp_seq ?_
  refine wp_region_lit (go hs (pA rfl <| pA rfl <| ?_)); clear hs a; intro a hs
  refine wpList_nil ?_
  repeat first | with_reducible refine in_normal ?_ | with_reducible refine then_normal ?_ | with_reducible refine then_ret ?_ | with_reducible refine in_ret ?_ | with_reducible refine then_exit ?_ | with_reducible refine in_here ?_ | with_reducible refine in_other rfl ?_ | with_reducible refine then_goto ?_ | with_reducible refine in_goto ?_ | with_reducible refine jump_normal ?_ | with_reducible refine jump_ret ?_ | with_reducible refine jump_goto ?_
  repeat with_reducible refine wp_seq ?_
  refine wp_region_lit (go hs (pM rfl <| pV rfl (fun a hs => y_lenL hs Tryd.underlying88 rfl) <| pM rfl <| ?_)); clear hs a; intro a hs
  refine wpList_nil ?_
  repeat first | with_reducible refine in_normal ?_ | with_reducible refine then_normal ?_ | with_reducible refine then_ret ?_ | with_reducible refine in_ret ?_ | with_reducible refine then_exit ?_ | with_reducible refine in_here ?_ | with_reducible refine in_other rfl ?_ | with_reducible refine then_goto ?_ | with_reducible refine in_goto ?_ | with_reducible refine jump_normal ?_ | with_reducible refine jump_ret ?_ | with_reducible refine jump_goto ?_
  repeat with_reducible refine wp_seq ?_
  refine wp_block ?_
  refine wp_loopN (fun m a w1 => ∃ i : Nat, i + m = l.length ∧ (∀ j t, j < i → l[j]? = some t → mayB t = true) ∧ St 43 v0 [(0, .slice A l.length c), (9, .slice A l.length c), (10, .int .i64 (l.length : Int)), (11, .int .i64 ((i : Nat) : Int))] [] a w1) l.length ⟨0, by omega, fun j t hj => absurd hj (by omega), hs.cut _ ⟨rfl, rfl, rfl, rfl, trivial⟩⟩ (fun m a w1 hJ => ?_)
  clear hs
  obtain ⟨i, hi, hmay, hs⟩ := hJ
  by_cases hlt : i < l.length
  · repeat with_reducible refine wp_seq ?_
    refine wp_region_lit (go hs (pV rfl (fun a hs => y_cmp (b := true) hs rfl rfl (congrArg some (decide_eq_true (by omega)))) <| ?_)); clear hs a; intro a hs
    refine wpList_nil ?_
    repeat first | with_reducible refine in_normal ?_ | with_reducible refine then_normal ?_ | with_reducible refine then_ret ?_ | with_reducible refine in_ret ?_ | with_reducible refine then_exit ?_ | with_reducible refine in_here ?_ | with_reducible refine in_other rfl ?_ | with_reducible refine then_goto ?_ | with_reducible refine in_goto ?_ | with_reducible refine jump_normal ?_ | with_reducible refine jump_ret ?_ | with_reducible refine jump_goto ?_
    repeat with_reducible refine wp_seq ?_
    refine wp_cond_true (hs.ev rfl) ?_
    repeat with_reducible refine wp_seq ?_
    refine wp_skip ?_
    repeat first | with_reducible refine in_normal ?_ | with_reducible refine then_normal ?_ | with_reducible refine then_ret ?_ | with_reducible refine in_ret ?_ | with_reducible refine then_exit ?_ | with_reducible refine in_here ?_ | with_reducible refine in_other rfl ?_
    obtain ⟨t, ht⟩ : ∃ t, l[i]? = some t := ⟨_, List.getElem?_eq_getElem hlt⟩
    obtain ⟨g0, o, rfl, hcell⟩ := C_some hA (by omega)
    repeat with_reducible refine wp_seq ?_
    refine wp_block ?_
    repeat with_reducible refine wp_seq ?_
    refine wp_region_lit (go hs (pV rfl (fun a hs => y_idxB (size := 5) (off := o + i * 5) hs Tryd.underlying88 (by kernel_rfl) rfl rfl (by omega) (by omega) (by simp)) <| pV rfl (fun a hs => y_loadAgg (vs := tokC t) hs Tryd.underlying93 rfl (by kernel_rfl) rfl (fun w hw k v hk => hcell w hw.base i t ht k v hk)) <| ?_)); clear hs a; intro a hs
    refine a_eff rfl (e_alloc (z := .agg #[.int .u8 0, .string ⟨#[]⟩, .int .i64 0, .int .i64 0, .int .i64 0]) (cs := #[.int .u8 0, .string ⟨#[]⟩, .int .i64 0, .int .i64 0, .int .i64 0]) hs rfl (by kernel_rfl) rfl ?_); clear hs a; intro gt a w hs
    refine a_eff rfl (e_store (cl := [_, _, _, _, _]) 0 rfl hs rfl rfl (by kernel_rfl) rfl rfl rfl ?_); clear hs a; intro a w hs
    refine wpList_nil ?_
    repeat first | with_reducible refine in_normal ?_ | with_reducible refine then_normal ?_ | with_reducible refine then_ret ?_ | with_reducible refine in_ret ?_ | with_reducible refine then_exit ?_ | with_reducible refine in_here ?_ | with_reducible refine in_other rfl ?_ | with_reducible refine then_goto ?_ | with_reducible refine in_goto ?_ | with_reducible refine jump_normal ?_ | with_reducible refine jump_ret ?_ | with_reducible refine jump_goto ?_
    repeat with_reducible refine wp_seq ?_
    refine wp_region_lit (go hs (pV rfl (fun a hs => y_loadPt 0 rfl hs Tryd.underlying94 rfl (by kernel_rfl) rfl) <| ?_)); clear hs a; intro a hs
    refine a_eff rfl (e_callB Tryd.func90 rfl rfl hs rfl rfl (token_May.calls (t.f1.size + 3) t.f0 t.f1 t.f2 t.f3 t.f4 _ _ (may_prog t (hsz t (List.mem_of_getElem? ht)))) ?_); clear hs a; intro a w1 hs
    refine go hs (pV rfl (fun a hs => y_not hs rfl) <| ?_); clear hs a; intro a hs
    refine wpList_nil ?_
    repeat first | with_reducible refine in_normal ?_ | with_reducible refine then_normal ?_ | with_reducible refine then_ret ?_ | with_reducible refine in_ret ?_ | with_reducible refine then_exit ?_ | with_reducible refine in_here ?_ | with_reducible refine in_other rfl ?_ | with_reducible refine then_goto ?_ | with_reducible refine in_goto ?_ | with_reducible refine jump_normal ?_ | with_reducible refine jump_ret ?_ | with_reducible refine jump_goto ?_
    repeat with_reducible refine wp_seq ?_
    refine wp_cond_split (hs.ev rfl) (fun hb => ?_) (fun hb => ?_)
    · have hF : joinF l = (⟨#[]⟩, 2) := joinF_bad ht (by simpa using hb)
      repeat with_reducible refine wp_seq ?_
      refine wp_region_lit (go hs (pA rfl <| pA rfl <| ?_)); clear hs a; intro a hs
      refine wpList_nil ?_
      repeat first | with_reducible refine in_normal ?_ | with_reducible refine then_normal ?_ | with_reducible refine then_ret ?_ | with_reducible refine in_ret ?_ | with_reducible refine then_exit ?_ | with_reducible refine in_here ?_ | with_reducible refine in_other rfl ?_ | with_reducible refine then_goto ?_ | with_reducible refine in_goto ?_ | with_reducible refine jump_normal ?_ | with_reducible refine jump_ret ?_ | with_reducible refine jump_goto ?_
      repeat with_reducible refine wp_seq ?_
      refine wp_ret ?_
      repeat first | with_reducible refine in_normal ?_ | with_reducible refine then_normal ?_ | with_reducible refine then_ret ?_ | with_reducible refine in_ret ?_ | with_reducible refine then_exit ?_ | with_reducible refine in_here ?_ | with_reducible refine in_other rfl ?_ | with_reducible refine then_goto ?_ | with_reducible refine in_goto ?_ | with_reducible refine jump_normal ?_ | with_reducible refine jump_ret ?_ | with_reducible refine jump_goto ?_
      refine fin_ret (vs := [.string ⟨#[]⟩, .int .i64 2]) hs (.tmp (hs.slots _ _ rfl) (.tmp (hs.slots _ _ rfl) .nil)) ⟨?_, hs.mem.base⟩
      rw [hF]; rfl
    have hm1 : mayB t = true := by simpa using hb
    repeat with_reducible refine wp_seq ?_
    refine wp_skip ?_
    repeat first | with_reducible refine in_normal ?_ | with_reducible refine then_normal ?_ | with_reducible refine then_ret ?_ | with_reducible refine in_ret ?_ | with_reducible refine then_exit ?_ | with_reducible refine in_here ?_ | with_reducible refine in_other rfl ?_
    repeat with_reducible refine wp_seq ?_
    refine wp_region_lit (go hs (pV rfl (fun a hs => y_add hs rfl rfl (by omega)) <| pM rfl <| ?_)); clear hs a; intro a hs
    refine wpList_nil ?_
    repeat first | with_reducible refine in_normal ?_ | with_reducible refine then_normal ?_ | with_reducible refine then_ret ?_ | with_reducible refine in_ret ?_ | with_reducible refine then_exit ?_ | with_reducible refine in_here ?_ | with_reducible refine in_other rfl ?_ | with_reducible refine then_goto ?_ | with_reducible refine in_goto ?_ | with_reducible refine jump_normal ?_ | with_reducible refine jump_ret ?_ | with_reducible refine jump_goto ?_
    exact ⟨m - 1, by omega, i + 1, by omega, fun j u hj hu => (Nat.lt_succ_iff_lt_or_eq.1 hj).elim (fun h => hmay j u h hu) (fun h => by subst h; rw [ht] at hu; injection hu with hu; subst hu; exact hm1), (hs.mem_to (hs.mem.to 0 rfl).drop).cut _ ⟨rfl, rfl, rfl, rfl, trivial⟩⟩
  repeat with_reducible refine wp_seq ?_
  refine wp_region_lit (go hs (pV rfl (fun a hs => y_cmp (b := false) hs rfl rfl (congrArg some (decide_eq_false (by omega)))) <| ?_)); clear hs a; intro a hs
  refine wpList_nil ?_
  repeat first | with_reducible refine in_normal ?_ | with_reducible refine then_normal ?_ | with_reducible refine then_ret ?_ | with_reducible refine in_ret ?_ | with_reducible refine then_exit ?_ | with_reducible refine in_here ?_ | with_reducible refine in_other rfl ?_ | with_reducible refine then_goto ?_ | with_reducible refine in_goto ?_ | with_reducible refine jump_normal ?_ | with_reducible refine jump_ret ?_ | with_reducible refine jump_goto ?_
  repeat with_reducible refine wp_seq ?_
  refine wp_cond_false (hs.ev rfl) ?_
  repeat with_reducible refine wp_seq ?_
  refine wp_exit ?_
  repeat first | with_reducible refine in_normal ?_ | with_reducible refine then_normal ?_ | with_reducible refine then_ret ?_ | with_reducible refine in_ret ?_ | with_reducible refine then_exit ?_ | with_reducible refine in_here ?_ | with_reducible refine in_other rfl ?_ | with_reducible refine then_goto ?_ | with_reducible refine in_goto ?_ | with_reducible refine jump_normal ?_ | with_reducible refine jump_ret ?_ | with_reducible refine jump_goto ?_
  have hall : ∀ t ∈ l, mayB t = true := fun t ht => by
    obtain ⟨j, hj⟩ := List.getElem?_of_mem ht
    exact hmay j t (by have := (List.getElem?_eq_some_iff.1 hj).1; omega) hj
  have hallB : l.all mayB = true := List.all_eq_true.2 hall
  clear hmay
  repeat with_reducible refine wp_seq ?_
  refine wp_region_lit ?_
  refine a_eff rfl (e_alloc (z := .agg #[.pointer none, .slice none 0 0]) (cs := #[.pointer none, .slice none 0 0]) hs rfl (by kernel_rfl) rfl ?_); clear hs a; intro gb a w hs
  refine wpList_nil ?_
  repeat first | with_reducible refine in_normal ?_ | with_reducible refine then_normal ?_ | with_reducible refine then_ret ?_ | with_reducible refine in_ret ?_ | with_reducible refine then_exit ?_ | with_reducible refine in_here ?_ | with_reducible refine in_other rfl ?_ | with_reducible refine then_goto ?_ | with_reducible refine in_goto ?_ | with_reducible refine jump_normal ?_ | with_reducible refine jump_ret ?_ | with_reducible refine jump_goto ?_
  repeat with_reducible refine wp_seq ?_
  refine wp_region_lit (go hs (pM rfl <| pV rfl (fun a hs => y_lenL hs Tryd.underlying88 rfl) <| pM rfl <| ?_)); clear hs a; intro a hs
  refine wpList_nil ?_
  repeat first | with_reducible refine in_normal ?_ | with_reducible refine then_normal ?_ | with_reducible refine then_ret ?_ | with_reducible refine in_ret ?_ | with_reducible refine then_exit ?_ | with_reducible refine in_here ?_ | with_reducible refine in_other rfl ?_ | with_reducible refine then_goto ?_ | with_reducible refine in_goto ?_ | with_reducible refine jump_normal ?_ | with_reducible refine jump_ret ?_ | with_reducible refine jump_goto ?_
  repeat with_reducible refine wp_seq ?_
  refine wp_block ?_
  have hm0 : H v0 [pt gb #[.pointer none, .slice none (⟨#[]⟩ : ByteArray).size 0] 62, row 5 1 (.slice none (⟨#[]⟩ : ByteArray).size 0) (⟨#[]⟩ : ByteArray).size (Lib.strCells (⟨#[]⟩ : ByteArray))] _ := (hs.mem.nilRow 5 1).to 1 rfl
  refine wp_loopN (fun m a w1 => ∃ (i : Nat) (acc : ByteArray) (p A2 : Option Addr) (c2 : Nat), i + m = l.length ∧ (p = none ∨ p = some ⟨gb, 0, none⟩) ∧ acc.size ≤ 65536 ∧ joinP (l.drop i) acc i = joinP l ⟨#[]⟩ 0 ∧ St 43 v0 [(6, .pointer (some ⟨gb, 0, none⟩)), (19, .slice A l.length c), (20, .int .i64 (l.length : Int)), (21, .int .i64 ((i : Nat) : Int))] [pt gb #[.pointer p, .slice A2 (acc).size c2] 62, row 5 1 (.slice A2 (acc).size c2) (acc).size (Lib.strCells (acc))] a w1) l.length ⟨0, ⟨#[]⟩, none, none, 0, by omega, .inl rfl, by decide, rfl, (hs.mem_to hm0).cut _ ⟨rfl, rfl, rfl, rfl, trivial⟩⟩ (fun m a w1 hJ => ?_)
  clear hs hi hlt hm0
  obtain ⟨i, acc, p, A2, c2, hi, hp, hacc, hjoin, hs⟩ := hJ
  by_cases hlt : i < l.length
  · repeat with_reducible refine wp_seq ?_
    refine wp_region_lit (go hs (pV rfl (fun a hs => y_cmp (b := true) hs rfl rfl (congrArg some (decide_eq_true (by omega)))) <| ?_)); clear hs a; intro a hs
    refine wpList_nil ?_
    repeat first | with_reducible refine in_normal ?_ | with_reducible refine then_normal ?_ | with_reducible refine then_ret ?_ | with_reducible refine in_ret ?_ | with_reducible refine then_exit ?_ | with_reducible refine in_here ?_ | with_reducible refine in_other rfl ?_ | with_reducible refine then_goto ?_ | with_reducible refine in_goto ?_ | with_reducible refine jump_normal ?_ | with_reducible refine jump_ret ?_ | with_reducible refine jump_goto ?_
    repeat with_reducible refine wp_seq ?_
    refine wp_cond_true (hs.ev rfl) ?_
    repeat with_reducible refine wp_seq ?_
    refine wp_skip ?_
    repeat first | with_reducible refine in_normal ?_ | with_reducible refine then_normal ?_ | with_reducible refine then_ret ?_ | with_reducible refine in_ret ?_ | with_reducible refine then_exit ?_ | with_reducible refine in_here ?_ | with_reducible refine in_other rfl ?_
    obtain ⟨t, ht⟩ : ∃ t, l[i]? = some t := ⟨_, List.getElem?_eq_getElem hlt⟩
    obtain ⟨g0, o, rfl, hcell⟩ := C_some hA (by omega)
    have hm1 : mayB t = true := hall t (List.mem_of_getElem? ht)
    have hfs := form_size hm1
    have hdrop : l.drop i = t :: l.drop (i + 1) := by
      have h2 := List.drop_eq_getElem_cons hlt
      rw [List.getElem?_eq_getElem hlt] at ht
      injection ht with ht
      rw [h2, ht]
    rw [hdrop, joinP] at hjoin
    repeat with_reducible refine wp_seq ?_
    refine wp_block ?_
    repeat with_reducible refine wp_seq ?_
    refine wp_region_lit (go hs (pM rfl <| pV rfl (fun a hs => y_idxB (size := 5) (off := o + i * 5) hs Tryd.underlying88 (by kernel_rfl) rfl rfl (by omega) (by omega) (by simp)) <| pV rfl (fun a hs => y_loadAgg (vs := tokC t) hs Tryd.underlying93 rfl (by kernel_rfl) rfl (fun w hw k v hk => hcell w hw.base i t ht k v hk)) <| ?_)); clear hs a; intro a hs
    refine a_eff rfl (e_alloc (z := .agg #[.int .u8 0, .string ⟨#[]⟩, .int .i64 0, .int .i64 0, .int .i64 0]) (cs := #[.int .u8 0, .string ⟨#[]⟩, .int .i64 0, .int .i64 0, .int .i64 0]) hs rfl (by kernel_rfl) rfl ?_); clear hs a; intro gt a w hs
    refine go hs (pA rfl <| ?_); clear hs a; intro a hs
    refine a_eff rfl (e_store (cl := [_, _, _, _, _]) 0 rfl hs rfl rfl (by kernel_rfl) rfl rfl rfl ?_); clear hs a; intro a w hs
    refine wpList_nil ?_
    repeat first | with_reducible refine in_normal ?_ | with_reducible refine then_normal ?_ | with_reducible refine then_ret ?_ | with_reducible refine in_ret ?_ | with_reducible refine then_exit ?_ | with_reducible refine in_here ?_ | with_reducible refine in_other rfl ?_ | with_reducible refine then_goto ?_ | with_reducible refine in_goto ?_ | with_reducible refine jump_normal ?_ | with_reducible refine jump_ret ?_ | with_reducible refine jump_goto ?_
    by_cases hi0 : i > 0
    · repeat with_reducible refine wp_seq ?_
      refine wp_region_lit (go hs (pM rfl <| pV rfl (fun a hs => y_cmp (b := true) hs rfl rfl (congrArg some (decide_eq_true (by omega)))) <| ?_)); clear hs a; intro a hs
      refine wpList_nil ?_
      repeat first | with_reducible refine in_normal ?_ | with_reducible refine then_normal ?_ | with_reducible refine then_ret ?_ | with_reducible refine in_ret ?_ | with_reducible refine then_exit ?_ | with_reducible refine in_here ?_ | with_reducible refine in_other rfl ?_ | with_reducible refine then_goto ?_ | with_reducible refine in_goto ?_ | with_reducible refine jump_normal ?_ | with_reducible refine jump_ret ?_ | with_reducible refine jump_goto ?_
      repeat with_reducible refine wp_seq ?_
      refine wp_cond_true (hs.ev rfl) ?_
      have hs32 : (acc ++ ⟨#[32]⟩ : ByteArray).size = acc.size + 1 := by rw [ByteArray.size_append]; rfl
      repeat with_reducible refine wp_seq ?_
      refine wp_region_lit ?_
      refine a_eff rfl (e_callX Tryd.func91 rfl rfl hs rfl rfl (builder_put1 gb p hp A2 c2 acc (by omega) _ v0 _ ((hs.mem.to 2 rfl).to 2 rfl)) (fun e w1 ⟨A3, c3, he, hm⟩ => ⟨_, he, _, hm, ?_⟩)); clear hs a; intro a hs
      refine wpList_nil ?_
      repeat first | with_reducible refine in_normal ?_ | with_reducible refine then_normal ?_ | with_reducible refine then_ret ?_ | with_reducible refine in_ret ?_ | with_reducible refine then_exit ?_ | with_reducible refine in_here ?_ | with_reducible refine in_other rfl ?_ | with_reducible refine then_goto ?_ | with_reducible refine in_goto ?_ | with_reducible refine jump_normal ?_ | with_reducible refine jump_ret ?_ | with_reducible refine jump_goto ?_
      by_cases h3 : t.f0 = 3
      · repeat with_reducible refine wp_seq ?_
        refine wp_region_lit (go hs (pV rfl (fun a hs => y_faddr (k' := 0) 0 hs (by kernel_rfl) rfl rfl) <| pV rfl (fun a hs => y_load hs Tryd.underlying92 rfl rfl (fun w hw => (hw.to 2 rfl).cellV rfl)) <| pV rfl (fun a hs => y_cmp (b := true) hs rfl rfl (congrArg some (beq_iff_eq.2 (h3)))) <| ?_)); clear hs a; intro a hs
        refine wpList_nil ?_
        repeat first | with_reducible refine in_normal ?_ | with_reducible refine then_normal ?_ | with_reducible refine then_ret ?_ | with_reducible refine in_ret ?_ | with_reducible refine then_exit ?_ | with_reducible refine in_here ?_ | with_reducible refine in_other rfl ?_ | with_reducible refine then_goto ?_ | with_reducible refine in_goto ?_ | with_reducible refine jump_normal ?_ | with_reducible refine jump_ret ?_ | with_reducible refine jump_goto ?_
        repeat with_reducible refine wp_seq ?_
        refine wp_cond_true (hs.ev rfl) ?_
        obtain ⟨n0, n1⟩ := may_num hm1 h3
        have hz : (⟨(Lib.itoa t.f2).toArray⟩ : ByteArray).size = (formT t).size := by unfold formT; rw [if_pos h3]
        repeat with_reducible refine wp_seq ?_
        refine wp_region_lit (go hs (pV rfl (fun a hs => y_faddr (k' := 2) 2 hs (by kernel_rfl) rfl rfl) <| pV rfl (fun a hs => y_load hs Tryd.underlying3 rfl rfl (fun w hw => (hw.to 2 rfl).cellV rfl)) <| ?_)); clear hs a; intro a hs
        refine a_eff rfl (e_callB Tryd.func88 rfl rfl hs rfl rfl ((Tryd.strconv_Itoa t.f2 (by omega) (by omega) _ (varKeep hs.mem.base hP)).mono (by rintro e w1 ⟨rfl, k, os, rfl⟩; exact ⟨rfl, grow_below _ k os⟩)) ?_); clear hs a; intro a w1 hs
        refine a_eff rfl (e_callX Tryd.func38 rfl rfl hs rfl rfl (builder_put gb _ (.inr rfl) A3 c3 ((acc ++ ⟨#[32]⟩)) (⟨(Lib.itoa t.f2).toArray⟩) (by rw [hz]; omega) _ v0 _ ((hs.mem.to 1 rfl).to 1 rfl)) (fun e w1 ⟨A4, c4, he, hm⟩ => ⟨_, he, _, hm, ?_⟩)); clear hs a; intro a hs
        refine wpList_nil ?_
        repeat first | with_reducible refine in_normal ?_ | with_reducible refine then_normal ?_ | with_reducible refine then_ret ?_ | with_reducible refine in_ret ?_ | with_reducible refine then_exit ?_ | with_reducible refine in_here ?_ | with_reducible refine in_other rfl ?_ | with_reducible refine then_goto ?_ | with_reducible refine in_goto ?_ | with_reducible refine jump_normal ?_ | with_reducible refine jump_ret ?_ | with_reducible refine jump_goto ?_
        have hstep : stepJ acc i t = ((acc ++ ⟨#[32]⟩) ++ ⟨(Lib.itoa t.f2).toArray⟩) := by unfold stepJ formT; rw [if_pos hi0, if_pos h3]
        repeat with_reducible refine wp_seq ?_
        refine wp_region_lit ?_
        refine a_eff rfl (e_callX Tryd.func39 rfl rfl hs rfl rfl (builder_Len gb _ A4 _ c4 _ v0 _ ((hs.mem.to 1 rfl).to 1 rfl)) (fun e w1 ⟨he, hm⟩ => ⟨_, he, _, hm, ?_⟩)); clear hs a; intro a hs
        refine go hs (pV rfl (fun a hs => y_cmp (b := decide ((((acc ++ ⟨#[32]⟩) ++ ⟨(Lib.itoa t.f2).toArray⟩)).size > 65536)) hs rfl rfl (congrArg some (decide_eq_decide.2 (by omega)))) <| ?_); clear hs a; intro a hs
        refine wpList_nil ?_
        repeat first | with_reducible refine in_normal ?_ | with_reducible refine then_normal ?_ | with_reducible refine then_ret ?_ | with_reducible refine in_ret ?_ | with_reducible refine then_exit ?_ | with_reducible refine in_here ?_ | with_reducible refine in_other rfl ?_ | with_reducible refine then_goto ?_ | with_reducible refine in_goto ?_ | with_reducible refine jump_normal ?_ | with_reducible refine jump_ret ?_ | with_reducible refine jump_goto ?_
        repeat with_reducible refine wp_seq ?_
        refine wp_cond_split (hs.ev rfl) (fun hb => ?_) (fun hb => ?_)
        · have hbig : (((acc ++ ⟨#[32]⟩) ++ ⟨(Lib.itoa t.f2).toArray⟩)).size > 65536 := of_decide_eq_true hb
          rw [hstep, if_pos hbig] at hjoin
          have hF : joinF l = (⟨#[]⟩, 4) := by unfold joinF; rw [if_pos hallB, ← hjoin]
          repeat with_reducible refine wp_seq ?_
          refine wp_region_lit (go hs (pA rfl <| pA rfl <| ?_)); clear hs a; intro a hs
          refine wpList_nil ?_
          repeat first | with_reducible refine in_normal ?_ | with_reducible refine then_normal ?_ | with_reducible refine then_ret ?_ | with_reducible refine in_ret ?_ | with_reducible refine then_exit ?_ | with_reducible refine in_here ?_ | with_reducible refine in_other rfl ?_ | with_reducible refine then_goto ?_ | with_reducible refine in_goto ?_ | with_reducible refine jump_normal ?_ | with_reducible refine jump_ret ?_ | with_reducible refine jump_goto ?_
          repeat with_reducible refine wp_seq ?_
          refine wp_ret ?_
          repeat first | with_reducible refine in_normal ?_ | with_reducible refine then_normal ?_ | with_reducible refine then_ret ?_ | with_reducible refine in_ret ?_ | with_reducible refine then_exit ?_ | with_reducible refine in_here ?_ | with_reducible refine in_other rfl ?_ | with_reducible refine then_goto ?_ | with_reducible refine in_goto ?_ | with_reducible refine jump_normal ?_ | with_reducible refine jump_ret ?_ | with_reducible refine jump_goto ?_
          refine fin_ret (vs := [.string ⟨#[]⟩, .int .i64 4]) hs (.tmp (hs.slots _ _ rfl) (.tmp (hs.slots _ _ rfl) .nil)) ⟨?_, hs.mem.base⟩
          rw [hF]; rfl
        have hbig : ¬ (((acc ++ ⟨#[32]⟩) ++ ⟨(Lib.itoa t.f2).toArray⟩)).size > 65536 := of_decide_eq_false hb
        rw [hstep, if_neg hbig] at hjoin
        repeat with_reducible refine wp_seq ?_
        refine wp_skip ?_
        repeat first | with_reducible refine in_normal ?_ | with_reducible refine then_normal ?_ | with_reducible refine then_ret ?_ | with_reducible refine in_ret ?_ | with_reducible refine then_exit ?_ | with_reducible refine in_here ?_ | with_reducible refine in_other rfl ?_
        repeat with_reducible refine wp_seq ?_
        refine wp_region_lit (go hs (pV rfl (fun a hs => y_add hs rfl rfl (by omega)) <| pM rfl <| ?_)); clear hs a; intro a hs
        refine wpList_nil ?_
        repeat first | with_reducible refine in_normal ?_ | with_reducible refine then_normal ?_ | with_reducible refine then_ret ?_ | with_reducible refine in_ret ?_ | with_reducible refine then_exit ?_ | with_reducible refine in_here ?_ | with_reducible refine in_other rfl ?_ | with_reducible refine then_goto ?_ | with_reducible refine in_goto ?_ | with_reducible refine jump_normal ?_ | with_reducible refine jump_ret ?_ | with_reducible refine jump_goto ?_
        refine ⟨m - 1, by omega, i + 1, ((acc ++ ⟨#[32]⟩) ++ ⟨(Lib.itoa t.f2).toArray⟩), some ⟨gb, 0, none⟩, A4, c4, by omega, .inr rfl, by omega, hjoin, ?_⟩
        exact (hs.mem_to (((hs.mem.to 2 rfl).drop.to 1 rfl).to 1 rfl)).cut _ ⟨rfl, rfl, rfl, rfl, trivial⟩
      repeat with_reducible refine wp_seq ?_
      refine wp_region_lit (go hs (pV rfl (fun a hs => y_faddr (k' := 0) 0 hs (by kernel_rfl) rfl rfl) <| pV rfl (fun a hs => y_load hs Tryd.underlying92 rfl rfl (fun w hw => (hw.to 2 rfl).cellV rfl)) <| pV rfl (fun a hs => y_cmp (b := false) hs rfl rfl (congrArg some (beq_eq_false_iff_ne.2 (h3)))) <| ?_)); clear hs a; intro a hs
      refine wpList_nil ?_
      repeat first | with_reducible refine in_normal ?_ | with_reducible refine then_normal ?_ | with_reducible refine then_ret ?_ | with_reducible refine in_ret ?_ | with_reducible refine then_exit ?_ | with_reducible refine in_here ?_ | with_reducible refine in_other rfl ?_ | with_reducible refine then_goto ?_ | with_reducible refine in_goto ?_ | with_reducible refine jump_normal ?_ | with_reducible refine jump_ret ?_ | with_reducible refine jump_goto ?_
      repeat with_reducible refine wp_seq ?_
      refine wp_cond_false (hs.ev rfl) ?_
      have hz : t.f1.size = (formT t).size := by unfold formT; rw [if_neg h3]
      repeat with_reducible refine wp_seq ?_
      refine wp_region_lit (go hs (pV rfl (fun a hs => y_faddr (k' := 1) 1 hs (by kernel_rfl) rfl rfl) <| pV rfl (fun a hs => y_load hs Tryd.underlying9 rfl rfl (fun w hw => (hw.to 2 rfl).cellV rfl)) <| ?_)); clear hs a; intro a hs
      refine a_eff rfl (e_callX Tryd.func38 rfl rfl hs rfl rfl (builder_put gb _ (.inr rfl) A3 c3 ((acc ++ ⟨#[32]⟩)) (t.f1) (by rw [hz]; omega) _ v0 _ ((hs.mem.to 1 rfl).to 1 rfl)) (fun e w1 ⟨A4, c4, he, hm⟩ => ⟨_, he, _, hm, ?_⟩)); clear hs a; intro a hs
      refine wpList_nil ?_
      repeat first | with_reducible refine in_normal ?_ | with_reducible refine then_normal ?_ | with_reducible refine then_ret ?_ | with_reducible refine in_ret ?_ | with_reducible refine then_exit ?_ | with_reducible refine in_here ?_ | with_reducible refine in_other rfl ?_ | with_reducible refine then_goto ?_ | with_reducible refine in_goto ?_ | with_reducible refine jump_normal ?_ | with_reducible refine jump_ret ?_ | with_reducible refine jump_goto ?_
      have hstep : stepJ acc i t = ((acc ++ ⟨#[32]⟩) ++ t.f1) := by unfold stepJ formT; rw [if_pos hi0, if_neg h3]
      repeat with_reducible refine wp_seq ?_
      refine wp_region_lit ?_
      refine a_eff rfl (e_callX Tryd.func39 rfl rfl hs rfl rfl (builder_Len gb _ A4 _ c4 _ v0 _ ((hs.mem.to 1 rfl).to 1 rfl)) (fun e w1 ⟨he, hm⟩ => ⟨_, he, _, hm, ?_⟩)); clear hs a; intro a hs
      refine go hs (pV rfl (fun a hs => y_cmp (b := decide ((((acc ++ ⟨#[32]⟩) ++ t.f1)).size > 65536)) hs rfl rfl (congrArg some (decide_eq_decide.2 (by omega)))) <| ?_); clear hs a; intro a hs
      refine wpList_nil ?_
      repeat first | with_reducible refine in_normal ?_ | with_reducible refine then_normal ?_ | with_reducible refine then_ret ?_ | with_reducible refine in_ret ?_ | with_reducible refine then_exit ?_ | with_reducible refine in_here ?_ | with_reducible refine in_other rfl ?_ | with_reducible refine then_goto ?_ | with_reducible refine in_goto ?_ | with_reducible refine jump_normal ?_ | with_reducible refine jump_ret ?_ | with_reducible refine jump_goto ?_
      repeat with_reducible refine wp_seq ?_
      refine wp_cond_split (hs.ev rfl) (fun hb => ?_) (fun hb => ?_)
      · have hbig : (((acc ++ ⟨#[32]⟩) ++ t.f1)).size > 65536 := of_decide_eq_true hb
        rw [hstep, if_pos hbig] at hjoin
        have hF : joinF l = (⟨#[]⟩, 4) := by unfold joinF; rw [if_pos hallB, ← hjoin]
        repeat with_reducible refine wp_seq ?_
        refine wp_region_lit (go hs (pA rfl <| pA rfl <| ?_)); clear hs a; intro a hs
        refine wpList_nil ?_
        repeat first | with_reducible refine in_normal ?_ | with_reducible refine then_normal ?_ | with_reducible refine then_ret ?_ | with_reducible refine in_ret ?_ | with_reducible refine then_exit ?_ | with_reducible refine in_here ?_ | with_reducible refine in_other rfl ?_ | with_reducible refine then_goto ?_ | with_reducible refine in_goto ?_ | with_reducible refine jump_normal ?_ | with_reducible refine jump_ret ?_ | with_reducible refine jump_goto ?_
        repeat with_reducible refine wp_seq ?_
        refine wp_ret ?_
        repeat first | with_reducible refine in_normal ?_ | with_reducible refine then_normal ?_ | with_reducible refine then_ret ?_ | with_reducible refine in_ret ?_ | with_reducible refine then_exit ?_ | with_reducible refine in_here ?_ | with_reducible refine in_other rfl ?_ | with_reducible refine then_goto ?_ | with_reducible refine in_goto ?_ | with_reducible refine jump_normal ?_ | with_reducible refine jump_ret ?_ | with_reducible refine jump_goto ?_
        refine fin_ret (vs := [.string ⟨#[]⟩, .int .i64 4]) hs (.tmp (hs.slots _ _ rfl) (.tmp (hs.slots _ _ rfl) .nil)) ⟨?_, hs.mem.base⟩
        rw [hF]; rfl
      have hbig : ¬ (((acc ++ ⟨#[32]⟩) ++ t.f1)).size > 65536 := of_decide_eq_false hb
      rw [hstep, if_neg hbig] at hjoin
      repeat with_reducible refine wp_seq ?_
      refine wp_skip ?_
      repeat first | with_reducible refine in_normal ?_ | with_reducible refine then_normal ?_ | with_reducible refine then_ret ?_ | with_reducible refine in_ret ?_ | with_reducible refine then_exit ?_ | with_reducible refine in_here ?_ | with_reducible refine in_other rfl ?_
      repeat with_reducible refine wp_seq ?_
      refine wp_region_lit (go hs (pV rfl (fun a hs => y_add hs rfl rfl (by omega)) <| pM rfl <| ?_)); clear hs a; intro a hs
      refine wpList_nil ?_
      repeat first | with_reducible refine in_normal ?_ | with_reducible refine then_normal ?_ | with_reducible refine then_ret ?_ | with_reducible refine in_ret ?_ | with_reducible refine then_exit ?_ | with_reducible refine in_here ?_ | with_reducible refine in_other rfl ?_ | with_reducible refine then_goto ?_ | with_reducible refine in_goto ?_ | with_reducible refine jump_normal ?_ | with_reducible refine jump_ret ?_ | with_reducible refine jump_goto ?_
      refine ⟨m - 1, by omega, i + 1, ((acc ++ ⟨#[32]⟩) ++ t.f1), some ⟨gb, 0, none⟩, A4, c4, by omega, .inr rfl, by omega, hjoin, ?_⟩
      exact (hs.mem_to (((hs.mem.to 2 rfl).drop.to 1 rfl).to 1 rfl)).cut _ ⟨rfl, rfl, rfl, rfl, trivial⟩
    repeat with_reducible refine wp_seq ?_
    refine wp_region_lit (go hs (pM rfl <| pV rfl (fun a hs => y_cmp (b := false) hs rfl rfl (congrArg some (decide_eq_false (by omega)))) <| ?_)); clear hs a; intro a hs
    refine wpList_nil ?_
    repeat first | with_reducible refine in_normal ?_ | with_reducible refine then_normal ?_ | with_reducible refine then_ret ?_ | with_reducible refine in_ret ?_ | with_reducible refine then_exit ?_ | with_reducible refine in_here ?_ | with_reducible refine in_other rfl ?_ | with_reducible refine then_goto ?_ | with_reducible refine in_goto ?_ | with_reducible refine jump_normal ?_ | with_reducible refine jump_ret ?_ | with_reducible refine jump_goto ?_
    repeat with_reducible refine wp_seq ?_
    refine wp_cond_false (hs.ev rfl) ?_
    repeat with_reducible refine wp_seq ?_
    refine wp_skip ?_
    repeat first | with_reducible refine in_normal ?_ | with_reducible refine then_normal ?_ | with_reducible refine then_ret ?_ | with_reducible refine in_ret ?_ | with_reducible refine then_exit ?_ | with_reducible refine in_here ?_ | with_reducible refine in_other rfl ?_
    by_cases h3 : t.f0 = 3
    · repeat with_reducible refine wp_seq ?_
      refine wp_region_lit (go hs (pV rfl (fun a hs => y_faddr (k' := 0) 0 hs (by kernel_rfl) rfl rfl) <| pV rfl (fun a hs => y_load hs Tryd.underlying92 rfl rfl (fun w hw => (hw.to 0 rfl).cellV rfl)) <| pV rfl (fun a hs => y_cmp (b := true) hs rfl rfl (congrArg some (beq_iff_eq.2 (h3)))) <| ?_)); clear hs a; intro a hs
      refine wpList_nil ?_
      repeat first | with_reducible refine in_normal ?_ | with_reducible refine then_normal ?_ | with_reducible refine then_ret ?_ | with_reducible refine in_ret ?_ | with_reducible refine then_exit ?_ | with_reducible refine in_here ?_ | with_reducible refine in_other rfl ?_ | with_reducible refine then_goto ?_ | with_reducible refine in_goto ?_ | with_reducible refine jump_normal ?_ | with_reducible refine jump_ret ?_ | with_reducible refine jump_goto ?_
      repeat with_reducible refine wp_seq ?_
      refine wp_cond_true (hs.ev rfl) ?_
      obtain ⟨n0, n1⟩ := may_num hm1 h3
      have hz : (⟨(Lib.itoa t.f2).toArray⟩ : ByteArray).size = (formT t).size := by unfold formT; rw [if_pos h3]
      repeat with_reducible refine wp_seq ?_
      refine wp_region_lit (go hs (pV rfl (fun a hs => y_faddr (k' := 2) 2 hs (by kernel_rfl) rfl rfl) <| pV rfl (fun a hs => y_load hs Tryd.underlying3 rfl rfl (fun w hw => (hw.to 0 rfl).cellV rfl)) <| ?_)); clear hs a; intro a hs
      refine a_eff rfl (e_callB Tryd.func88 rfl rfl hs rfl rfl ((Tryd.strconv_Itoa t.f2 (by omega) (by omega) _ (varKeep hs.mem.base hP)).mono (by rintro e w1 ⟨rfl, k, os, rfl⟩; exact ⟨rfl, grow_below _ k os⟩)) ?_); clear hs a; intro a w1 hs
      refine a_eff rfl (e_callX Tryd.func38 rfl rfl hs rfl rfl (builder_put gb p hp A2 c2 (acc) (⟨(Lib.itoa t.f2).toArray⟩) (by rw [hz]; omega) _ v0 _ ((hs.mem.to 2 rfl).to 2 rfl)) (fun e w1 ⟨A4, c4, he, hm⟩ => ⟨_, he, _, hm, ?_⟩)); clear hs a; intro a hs
      refine wpList_nil ?_
      repeat first | with_reducible refine in_normal ?_ | with_reducible refine then_normal ?_ | with_reducible refine then_ret ?_ | with_reducible refine in_ret ?_ | with_reducible refine then_exit ?_ | with_reducible refine in_here ?_ | with_reducible refine in_other rfl ?_ | with_reducible refine then_goto ?_ | with_reducible refine in_goto ?_ | with_reducible refine jump_normal ?_ | with_reducible refine jump_ret ?_ | with_reducible refine jump_goto ?_
      have hstep : stepJ acc i t = (acc ++ ⟨(Lib.itoa t.f2).toArray⟩) := by unfold stepJ formT; rw [if_neg hi0, if_pos h3]
      repeat with_reducible refine wp_seq ?_
      refine wp_region_lit ?_
      refine a_eff rfl (e_callX Tryd.func39 rfl rfl hs rfl rfl (builder_Len gb _ A4 _ c4 _ v0 _ ((hs.mem.to 1 rfl).to 1 rfl)) (fun e w1 ⟨he, hm⟩ => ⟨_, he, _, hm, ?_⟩)); clear hs a; intro a hs
      refine go hs (pV rfl (fun a hs => y_cmp (b := decide (((acc ++ ⟨(Lib.itoa t.f2).toArray⟩)).size > 65536)) hs rfl rfl (congrArg some (decide_eq_decide.2 (by omega)))) <| ?_); clear hs a; intro a hs
      refine wpList_nil ?_
      repeat first | with_reducible refine in_normal ?_ | with_reducible refine then_normal ?_ | with_reducible refine then_ret ?_ | with_reducible refine in_ret ?_ | with_reducible refine then_exit ?_ | with_reducible refine in_here ?_ | with_reducible refine in_other rfl ?_ | with_reducible refine then_goto ?_ | with_reducible refine in_goto ?_ | with_reducible refine jump_normal ?_ | with_reducible refine jump_ret ?_ | with_reducible refine jump_goto ?_
      repeat with_reducible refine wp_seq ?_
      refine wp_cond_split (hs.ev rfl) (fun hb => ?_) (fun hb => ?_)
      · have hbig : ((acc ++ ⟨(Lib.itoa t.f2).toArray⟩)).size > 65536 := of_decide_eq_true hb
        rw [hstep, if_pos hbig] at hjoin
        have hF : joinF l = (⟨#[]⟩, 4) := by unfold joinF; rw [if_pos hallB, ← hjoin]
        repeat with_reducible refine wp_seq ?_
        refine wp_region_lit (go hs (pA rfl <| pA rfl <| ?_)); clear hs a; intro a hs
        refine wpList_nil ?_
        repeat first | with_reducible refine in_normal ?_ | with_reducible refine then_normal ?_ | with_reducible refine then_ret ?_ | with_reducible refine in_ret ?_ | with_reducible refine then_exit ?_ | with_reducible refine in_here ?_ | with_reducible refine in_other rfl ?_ | with_reducible refine then_goto ?_ | with_reducible refine in_goto ?_ | with_reducible refine jump_normal ?_ | with_reducible refine jump_ret ?_ | with_reducible refine jump_goto ?_
        repeat with_reducible refine wp_seq ?_
        refine wp_ret ?_
        repeat first | with_reducible refine in_normal ?_ | with_reducible refine then_normal ?_ | with_reducible refine then_ret ?_ | with_reducible refine in_ret ?_ | with_reducible refine then_exit ?_ | with_reducible refine in_here ?_ | with_reducible refine in_other rfl ?_ | with_reducible refine then_goto ?_ | with_reducible refine in_goto ?_ | with_reducible refine jump_normal ?_ | with_reducible refine jump_ret ?_ | with_reducible refine jump_goto ?_
        refine fin_ret (vs := [.string ⟨#[]⟩, .int .i64 4]) hs (.tmp (hs.slots _ _ rfl) (.tmp (hs.slots _ _ rfl) .nil)) ⟨?_, hs.mem.base⟩
        rw [hF]; rfl
      have hbig : ¬ ((acc ++ ⟨(Lib.itoa t.f2).toArray⟩)).size > 65536 := of_decide_eq_false hb
      rw [hstep, if_neg hbig] at hjoin
      repeat with_reducible refine wp_seq ?_
      refine wp_skip ?_
      repeat first | with_reducible refine in_normal ?_ | with_reducible refine then_normal ?_ | with_reducible refine then_ret ?_ | with_reducible refine in_ret ?_ | with_reducible refine then_exit ?_ | with_reducible refine in_here ?_ | with_reducible refine in_other rfl ?_
      repeat with_reducible refine wp_seq ?_
      refine wp_region_lit (go hs (pV rfl (fun a hs => y_add hs rfl rfl (by omega)) <| pM rfl <| ?_)); clear hs a; intro a hs
      refine wpList_nil ?_
      repeat first | with_reducible refine in_normal ?_ | with_reducible refine then_normal ?_ | with_reducible refine then_ret ?_ | with_reducible refine in_ret ?_ | with_reducible refine then_exit ?_ | with_reducible refine in_here ?_ | with_reducible refine in_other rfl ?_ | with_reducible refine then_goto ?_ | with_reducible refine in_goto ?_ | with_reducible refine jump_normal ?_ | with_reducible refine jump_ret ?_ | with_reducible refine jump_goto ?_
      refine ⟨m - 1, by omega, i + 1, (acc ++ ⟨(Lib.itoa t.f2).toArray⟩), some ⟨gb, 0, none⟩, A4, c4, by omega, .inr rfl, by omega, hjoin, ?_⟩
      exact (hs.mem_to (((hs.mem.to 2 rfl).drop.to 1 rfl).to 1 rfl)).cut _ ⟨rfl, rfl, rfl, rfl, trivial⟩
    repeat with_reducible refine wp_seq ?_
    refine wp_region_lit (go hs (pV rfl (fun a hs => y_faddr (k' := 0) 0 hs (by kernel_rfl) rfl rfl) <| pV rfl (fun a hs => y_load hs Tryd.underlying92 rfl rfl (fun w hw => (hw.to 0 rfl).cellV rfl)) <| pV rfl (fun a hs => y_cmp (b := false) hs rfl rfl (congrArg some (beq_eq_false_iff_ne.2 (h3)))) <| ?_)); clear hs a; intro a hs
    refine wpList_nil ?_
    repeat first | with_reducible refine in_normal ?_ | with_reducible refine then_normal ?_ | with_reducible refine then_ret ?_ | with_reducible refine in_ret ?_ | with_reducible refine then_exit ?_ | with_reducible refine in_here ?_ | with_reducible refine in_other rfl ?_ | with_reducible refine then_goto ?_ | with_reducible refine in_goto ?_ | with_reducible refine jump_normal ?_ | with_reducible refine jump_ret ?_ | with_reducible refine jump_goto ?_
    repeat with_reducible refine wp_seq ?_
    refine wp_cond_false (hs.ev rfl) ?_
    have hz : t.f1.size = (formT t).size := by unfold formT; rw [if_neg h3]
    repeat with_reducible refine wp_seq ?_
    refine wp_region_lit (go hs (pV rfl (fun a hs => y_faddr (k' := 1) 1 hs (by kernel_rfl) rfl rfl) <| pV rfl (fun a hs => y_load hs Tryd.underlying9 rfl rfl (fun w hw => (hw.to 0 rfl).cellV rfl)) <| ?_)); clear hs a; intro a hs
    refine a_eff rfl (e_callX Tryd.func38 rfl rfl hs rfl rfl (builder_put gb p hp A2 c2 (acc) (t.f1) (by rw [hz]; omega) _ v0 _ ((hs.mem.to 2 rfl).to 2 rfl)) (fun e w1 ⟨A4, c4, he, hm⟩ => ⟨_, he, _, hm, ?_⟩)); clear hs a; intro a hs
    refine wpList_nil ?_
    repeat first | with_reducible refine in_normal ?_ | with_reducible refine then_normal ?_ | with_reducible refine then_ret ?_ | with_reducible refine in_ret ?_ | with_reducible refine then_exit ?_ | with_reducible refine in_here ?_ | with_reducible refine in_other rfl ?_ | with_reducible refine then_goto ?_ | with_reducible refine in_goto ?_ | with_reducible refine jump_normal ?_ | with_reducible refine jump_ret ?_ | with_reducible refine jump_goto ?_
    have hstep : stepJ acc i t = (acc ++ t.f1) := by unfold stepJ formT; rw [if_neg hi0, if_neg h3]
    repeat with_reducible refine wp_seq ?_
    refine wp_region_lit ?_
    refine a_eff rfl (e_callX Tryd.func39 rfl rfl hs rfl rfl (builder_Len gb _ A4 _ c4 _ v0 _ ((hs.mem.to 1 rfl).to 1 rfl)) (fun e w1 ⟨he, hm⟩ => ⟨_, he, _, hm, ?_⟩)); clear hs a; intro a hs
    refine go hs (pV rfl (fun a hs => y_cmp (b := decide (((acc ++ t.f1)).size > 65536)) hs rfl rfl (congrArg some (decide_eq_decide.2 (by omega)))) <| ?_); clear hs a; intro a hs
    refine wpList_nil ?_
    repeat first | with_reducible refine in_normal ?_ | with_reducible refine then_normal ?_ | with_reducible refine then_ret ?_ | with_reducible refine in_ret ?_ | with_reducible refine then_exit ?_ | with_reducible refine in_here ?_ | with_reducible refine in_other rfl ?_ | with_reducible refine then_goto ?_ | with_reducible refine in_goto ?_ | with_reducible refine jump_normal ?_ | with_reducible refine jump_ret ?_ | with_reducible refine jump_goto ?_
    repeat with_reducible refine wp_seq ?_
    refine wp_cond_split (hs.ev rfl) (fun hb => ?_) (fun hb => ?_)
    · have hbig : ((acc ++ t.f1)).size > 65536 := of_decide_eq_true hb
      rw [hstep, if_pos hbig] at hjoin
      have hF : joinF l = (⟨#[]⟩, 4) := by unfold joinF; rw [if_pos hallB, ← hjoin]
      repeat with_reducible refine wp_seq ?_
      refine wp_region_lit (go hs (pA rfl <| pA rfl <| ?_)); clear hs a; intro a hs
      refine wpList_nil ?_
      repeat first | with_reducible refine in_normal ?_ | with_reducible refine then_normal ?_ | with_reducible refine then_ret ?_ | with_reducible refine in_ret ?_ | with_reducible refine then_exit ?_ | with_reducible refine in_here ?_ | with_reducible refine in_other rfl ?_ | with_reducible refine then_goto ?_ | with_reducible refine in_goto ?_ | with_reducible refine jump_normal ?_ | with_reducible refine jump_ret ?_ | with_reducible refine jump_goto ?_
      repeat with_reducible refine wp_seq ?_
      refine wp_ret ?_
      repeat first | with_reducible refine in_normal ?_ | with_reducible refine then_normal ?_ | with_reducible refine then_ret ?_ | with_reducible refine in_ret ?_ | with_reducible refine then_exit ?_ | with_reducible refine in_here ?_ | with_reducible refine in_other rfl ?_ | with_reducible refine then_goto ?_ | with_reducible refine in_goto ?_ | with_reducible refine jump_normal ?_ | with_reducible refine jump_ret ?_ | with_reducible refine jump_goto ?_
      refine fin_ret (vs := [.string ⟨#[]⟩, .int .i64 4]) hs (.tmp (hs.slots _ _ rfl) (.tmp (hs.slots _ _ rfl) .nil)) ⟨?_, hs.mem.base⟩
      rw [hF]; rfl
    have hbig : ¬ ((acc ++ t.f1)).size > 65536 := of_decide_eq_false hb
    rw [hstep, if_neg hbig] at hjoin
    repeat with_reducible refine wp_seq ?_
    refine wp_skip ?_
    repeat first | with_reducible refine in_normal ?_ | with_reducible refine then_normal ?_ | with_reducible refine then_ret ?_ | with_reducible refine in_ret ?_ | with_reducible refine then_exit ?_ | with_reducible refine in_here ?_ | with_reducible refine in_other rfl ?_
    repeat with_reducible refine wp_seq ?_
    refine wp_region_lit (go hs (pV rfl (fun a hs => y_add hs rfl rfl (by omega)) <| pM rfl <| ?_)); clear hs a; intro a hs
    refine wpList_nil ?_
    repeat first | with_reducible refine in_normal ?_ | with_reducible refine then_normal ?_ | with_reducible refine then_ret ?_ | with_reducible refine in_ret ?_ | with_reducible refine then_exit ?_ | with_reducible refine in_here ?_ | with_reducible refine in_other rfl ?_ | with_reducible refine then_goto ?_ | with_reducible refine in_goto ?_ | with_reducible refine jump_normal ?_ | with_reducible refine jump_ret ?_ | with_reducible refine jump_goto ?_
    refine ⟨m - 1, by omega, i + 1, (acc ++ t.f1), some ⟨gb, 0, none⟩, A4, c4, by omega, .inr rfl, by omega, hjoin, ?_⟩
    exact (hs.mem_to (((hs.mem.to 2 rfl).drop.to 1 rfl).to 1 rfl)).cut _ ⟨rfl, rfl, rfl, rfl, trivial⟩
  repeat with_reducible refine wp_seq ?_
  refine wp_region_lit (go hs (pV rfl (fun a hs => y_cmp (b := false) hs rfl rfl (congrArg some (decide_eq_false (by omega)))) <| ?_)); clear hs a; intro a hs
  refine wpList_nil ?_
  repeat first | with_reducible refine in_normal ?_ | with_reducible refine then_normal ?_ | with_reducible refine then_ret ?_ | with_reducible refine in_ret ?_ | with_reducible refine then_exit ?_ | with_reducible refine in_here ?_ | with_reducible refine in_other rfl ?_ | with_reducible refine then_goto ?_ | with_reducible refine in_goto ?_ | with_reducible refine jump_normal ?_ | with_reducible refine jump_ret ?_ | with_reducible refine jump_goto ?_
  repeat with_reducible refine wp_seq ?_
  refine wp_cond_false (hs.ev rfl) ?_
  repeat with_reducible refine wp_seq ?_
  refine wp_exit ?_
  repeat first | with_reducible refine in_normal ?_ | with_reducible refine then_normal ?_ | with_reducible refine then_ret ?_ | with_reducible refine in_ret ?_ | with_reducible refine then_exit ?_ | with_reducible refine in_here ?_ | with_reducible refine in_other rfl ?_ | with_reducible refine then_goto ?_ | with_reducible refine in_goto ?_ | with_reducible refine jump_normal ?_ | with_reducible refine jump_ret ?_ | with_reducible refine jump_goto ?_
  rw [List.drop_eq_nil_of_le (by omega), joinP] at hjoin
  have hF : joinF l = (acc, 0) := by unfold joinF; rw [if_pos hallB, ← hjoin]
  repeat with_reducible refine wp_seq ?_
  refine wp_region_lit ?_
  refine a_eff rfl (e_callX Tryd.func40 rfl rfl hs rfl rfl (builder_String gb p hp A2 _ c2 acc rfl _ v0 _ ((hs.mem.to 1 rfl).to 1 rfl)) (fun e w1 ⟨he, hb⟩ => ⟨_, he, [], hs.mem.bare.onBelow hb, ?_⟩)); clear hs a; intro a hs
  refine go hs (pA rfl <| pA rfl <| ?_); clear hs a; intro a hs
  refine wpList_nil ?_
  repeat first | with_reducible refine in_normal ?_ | with_reducible refine then_normal ?_ | with_reducible refine then_ret ?_ | with_reducible refine in_ret ?_ | with_reducible refine then_exit ?_ | with_reducible refine in_here ?_ | with_reducible refine in_other rfl ?_ | with_reducible refine then_goto ?_ | with_reducible refine in_goto ?_ | with_reducible refine jump_normal ?_ | with_reducible refine jump_ret ?_ | with_reducible refine jump_goto ?_
  repeat with_reducible refine wp_seq ?_
  refine wp_ret ?_
  repeat first | with_reducible refine in_normal ?_ | with_reducible refine then_normal ?_ | with_reducible refine then_ret ?_ | with_reducible refine in_ret ?_ | with_reducible refine then_exit ?_ | with_reducible refine in_here ?_ | with_reducible refine in_other rfl ?_ | with_reducible refine then_goto ?_ | with_reducible refine in_goto ?_ | with_reducible refine jump_normal ?_ | with_reducible refine jump_ret ?_ | with_reducible refine jump_goto ?_
  refine fin_ret (vs := [.string acc, .int .i64 0]) hs (.tmp (hs.slots _ _ rfl) (.tmp (hs.slots _ _ rfl) .nil)) ⟨?_, hs.mem.base⟩
  rw [hF]; rfl
end Go.Proofs.YtibaidddhmdafaaDoor.E
end
