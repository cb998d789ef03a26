/- What YtibaidddhmdafaaDoorRTreeMays's proof reaches of its texts, part 15. Conditions: as each says. -/
import Derived.ArgAppend
import Derived.Below
import Derived.BigCall
import Derived.BigQuiet
import Derived.Deep.AppendLies
import Derived.Deep.CutBlock
import Derived.Deep.DeepCutAuto
import Derived.Deep.Draws
import Derived.Deep.LoopGhost
import Derived.Deep.OwnRows
import Derived.Deep.QuietTactic
import Derived.Deep.RegionHeld3
import Derived.Deep.WholeRow
import Derived.KernelRfl
import Derived.Laws.AppendOwn
import Derived.Laws.BitsLemmas
import Derived.Laws.BytesArg
import Derived.Laws.CopyRow
import Derived.Laws.Externs
import Derived.Laws.IdiomCopy
import Derived.Laws.MakeOwn
import Derived.Laws.OwnMore
import Derived.Laws.Rows
import Derived.Laws.Slices
import Derived.Laws.StructEq
import Derived.Laws.Tables
import Derived.Lib.AppendStr
import Derived.Lib.Builder
import Derived.Lib.Bytealg
import Derived.Lib.ConvBytes
import Derived.Lib.ItoaLen
import Derived.Lib.ItoaMem
import Derived.Lib.LaidTab
import Derived.Lib.Strings
import Derived.Lib.Walk
import Derived.Maps.AppendAt
import Derived.OrdersHeld
import Derived.OwnWalk
import Derived.RowKit
import Derived.RowKit3
import Derived.ScopeJumps
import Derived.Shelf.LaysM
import Derived.Shelf.Strconv.Itoa3
import Derived.Shelf.Strings.Builder1
import Derived.Sort.Grow
import Derived.Tactics
import Derived.Test.YtibaidddhmdafaaDoorProg
import Derived.WalkKit
import Derived.WideLaws
import Derived.Test.YtibaidddhmdafaaDoorZTreeMays5
import Derived.Test.YtibaidddhmdafaaDoorZTreeMays13
import Derived.Test.YtibaidddhmdafaaDoorZTreeMays14
section
namespace Go.Proofs.YtibaidddhmdafaaDoor.E
open Go Go.RowKit Go.Proofs.YtibaidddhmdafaaDoorW.PrintWords Go.Proofs.YtibaidddhmdafaaDoorW.PrintLast Go.Proofs.YtibaidddhmdafaaDoorW.PrintMore Go.Proofs.YtibaidddhmdafaaDoor.PA
set_option linter.unusedVariables false
set_option linter.unusedSimpArgs false
theorem builder_put (g : Nat) (p : Option Addr) (hp : p = none ∨ p = some ⟨g, 0, none⟩) (A : Option Addr) (c : Nat) (acc s : ByteArray) (hn : acc.size + s.size ≤ 100000000) (bs : List Res) (w0 w : World) (h : H w0 (pt g #[.pointer p, .slice A acc.size c] 62 :: row 5 1 (.slice A acc.size c) acc.size (Lib.strCells acc) :: bs) w) :
    Calls Tryd.prog 38 #[.pointer (some ⟨g, 0, none⟩), .string s] w fun e w' => ∃ A' c', e = .returned (.tuple #[.int .i64 (s.size : Int), .nilIface]) ∧ H w0 (pt g #[.pointer (some ⟨g, 0, none⟩), .slice A' (acc ++ s).size c'] 62 :: row 5 1 (.slice A' (acc ++ s).size c') (acc ++ s).size (Lib.strCells (acc ++ s)) :: bs) w' := by
  have h1 := builder_WriteString g p hp A acc.size c (Lib.strCells acc) s hn bs w0 w h
  rw [strCells_app, ByteArray.size_append]
  exact h1
theorem builder_put1 (g : Nat) (p : Option Addr) (hp : p = none ∨ p = some ⟨g, 0, none⟩) (A : Option Addr) (c : Nat) (acc : ByteArray) (hn : acc.size ≤ 100000000) (bs : List Res) (w0 w : World) (h : H w0 (pt g #[.pointer p, .slice A acc.size c] 62 :: row 5 1 (.slice A acc.size c) acc.size (Lib.strCells acc) :: bs) w) :
    Calls Tryd.prog 91 #[.pointer (some ⟨g, 0, none⟩), .int .u8 32] w fun e w' => ∃ A' c', e = .returned .nilIface ∧ H w0 (pt g #[.pointer (some ⟨g, 0, none⟩), .slice A' (acc ++ ⟨#[32]⟩).size c'] 62 :: row 5 1 (.slice A' (acc ++ ⟨#[32]⟩).size c') (acc ++ ⟨#[32]⟩).size (Lib.strCells (acc ++ ⟨#[32]⟩)) :: bs) w' := by
  have h1 := builder_WriteByte g p hp A acc.size c (Lib.strCells acc) 32 hn bs w0 w h
  rw [strCells_app, ByteArray.size_append]
  exact h1
theorem grow_below (w : World) (k : Nat) (os : Array Obj) : Below w.heap.size w (Go.Sort.grow (w.drewN k) os) := by
  have h1 : (w.drewN k).heap = w.heap := rfl
  refine ⟨rfl, rfl, rfl, ?_, fun j hj => ?_⟩
  · show w.heap.size ≤ (w.heap ++ os).size; simp
  · show (w.heap ++ os)[j]? = _
    rw [Array.getElem?_append_left hj]
theorem joinF_bad {l : List S94} {i : Nat} {t : S94} (ht : l[i]? = some t) (hm : mayB t = false) : joinF l = (⟨#[]⟩, 2) := by
  unfold joinF
  rw [if_neg (fun h => by rw [List.all_eq_true.1 h t (List.mem_of_getElem? ht)] at hm; cases hm)]
/-- strconv's table stands in its variable. -/
def Pow10 (w : World) : Prop := Lib.TabIs Tryd.prog w "internal/strconv.uint64pow10" .u64 Lib.pow10Tab
set_option maxRecDepth 100000 in
theorem token_Join (A : Option Addr) (c : Nat) (l : List S94) (v0 : World) (hA : Kd.C k94 v0 A l.length l) (hl : l.length ≤ 140737488355328) (hsz : ∀ t ∈ l, t.f1.size ≤ 9223372036854775807) (hP : Pow10 v0) :
    Calls Tryd.prog 64 #[.slice A l.length c] v0 fun e w' => e = .returned (.tuple #[.string (joinF l).1, .int .i64 (joinF l).2]) ∧ Below v0.heap.size v0 w' := by
  refine calls_enter (N := 43) (n := 42) (args := [.slice A l.length c]) Tryd.func64 rfl rfl rfl (H.init v0) (fun a hs => ?_)
  repeat with_reducible refine wp_seq ?_
  refine wp_region_lit ?_
  refine a_val hs rfl rfl rfl (y_assign hs rfl) ?_; clear hs a; intro a hs
  refine a_val hs rfl rfl rfl (y_assign hs rfl) ?_; clear hs a; intro a hs
  refine wpList_nil ?_
  repeat first | with_reducible refine in_normal ?_ | with_reducible refine then_normal ?_ | with_reducible refine then_ret ?_ | with_reducible refine in_ret ?_ | with_reducible refine then_exit ?_ | with_reducible refine in_here ?_ | with_reducible refine in_other rfl ?_ | with_reducible refine then_goto ?_ | with_reducible refine in_goto ?_ | with_reducible refine jump_normal ?_ | with_reducible refine jump_ret ?_ | with_reducible refine jump_goto ?_
  repeat with_reducible refine wp_seq ?_
  refine wp_region_lit ?_
  refine a_val hs rfl rfl rfl (y_move hs rfl) ?_; clear hs a; intro a hs
  refine a_val hs rfl rfl rfl (y_lenL hs Tryd.underlying88 rfl) ?_; clear hs a; intro a hs
  refine a_val hs rfl rfl rfl (y_move hs rfl) ?_; clear hs a; intro a hs
  refine wpList_nil ?_
  repeat first | with_reducible refine in_normal ?_ | with_reducible refine then_normal ?_ | with_reducible refine then_ret ?_ | with_reducible refine in_ret ?_ | with_reducible refine then_exit ?_ | with_reducible refine in_here ?_ | with_reducible refine in_other rfl ?_ | with_reducible refine then_goto ?_ | with_reducible refine in_goto ?_ | with_reducible refine jump_normal ?_ | with_reducible refine jump_ret ?_ | with_reducible refine jump_goto ?_
  repeat with_reducible refine wp_seq ?_
  refine wp_block ?_
  refine wp_loopN (fun m a w1 => ∃ i : Nat, i + m = l.length ∧ (∀ j t, j < i → l[j]? = some t → mayB t = true) ∧ St 43 v0 [(0, .slice A l.length c), (9, .slice A l.length c), (10, .int .i64 (l.length : Int)), (11, .int .i64 ((i : Nat) : Int))] [] a w1) l.length ⟨0, by omega, fun j t hj => absurd hj (by omega), hs.cut _ ⟨rfl, rfl, rfl, rfl, trivial⟩⟩ (fun m a w1 hJ => ?_)
  clear hs
  obtain ⟨i, hi, hmay, hs⟩ := hJ
  by_cases hlt : i < l.length
  · repeat with_reducible refine wp_seq ?_
    refine wp_region_lit ?_
    refine a_val hs rfl rfl rfl (y_cmp (b := true) hs rfl rfl (congrArg some (decide_eq_true (by omega)))) ?_; clear hs a; intro a hs
    refine wpList_nil ?_
    repeat first | with_reducible refine in_normal ?_ | with_reducible refine then_normal ?_ | with_reducible refine then_ret ?_ | with_reducible refine in_ret ?_ | with_reducible refine then_exit ?_ | with_reducible refine in_here ?_ | with_reducible refine in_other rfl ?_ | with_reducible refine then_goto ?_ | with_reducible refine in_goto ?_ | with_reducible refine jump_normal ?_ | with_reducible refine jump_ret ?_ | with_reducible refine jump_goto ?_
    repeat with_reducible refine wp_seq ?_
    refine wp_cond_true (hs.ev rfl) ?_
    repeat with_reducible refine wp_seq ?_
    refine wp_skip ?_
    repeat first | with_reducible refine in_normal ?_ | with_reducible refine then_normal ?_ | with_reducible refine then_ret ?_ | with_reducible refine in_ret ?_ | with_reducible refine then_exit ?_ | with_reducible refine in_here ?_ | with_reducible refine in_other rfl ?_
    obtain ⟨t, ht⟩ : ∃ t, l[i]? = some t := ⟨_, List.getElem?_eq_getElem hlt⟩
    obtain ⟨g0, o, rfl, hcell⟩ := C_some hA (by omega)
    repeat with_reducible refine wp_seq ?_
    refine wp_block ?_
    repeat with_reducible refine wp_seq ?_
    refine wp_region_lit ?_
    refine a_val hs rfl rfl rfl (y_idxB (size := 5) (off := o + i * 5) hs Tryd.underlying88 (by kernel_rfl) rfl rfl (by omega) (by omega) (by simp)) ?_; clear hs a; intro a hs
    refine a_val hs rfl rfl rfl (y_loadAgg (vs := tokC t) hs Tryd.underlying93 rfl (by kernel_rfl) rfl (fun w hw k v hk => hcell w hw.base i t ht k v hk)) ?_; clear hs a; intro a hs
    refine a_eff rfl (e_alloc (z := .agg #[.int .u8 0, .string ⟨#[]⟩, .int .i64 0, .int .i64 0, .int .i64 0]) (cs := #[.int .u8 0, .string ⟨#[]⟩, .int .i64 0, .int .i64 0, .int .i64 0]) hs rfl (by kernel_rfl) rfl ?_); clear hs a; intro gt a w hs
    refine a_eff rfl (e_store (cl := [_, _, _, _, _]) 0 rfl hs rfl rfl (by kernel_rfl) rfl rfl rfl ?_); clear hs a; intro a w hs
    refine wpList_nil ?_
    repeat first | with_reducible refine in_normal ?_ | with_reducible refine then_normal ?_ | with_reducible refine then_ret ?_ | with_reducible refine in_ret ?_ | with_reducible refine then_exit ?_ | with_reducible refine in_here ?_ | with_reducible refine in_other rfl ?_ | with_reducible refine then_goto ?_ | with_reducible refine in_goto ?_ | with_reducible refine jump_normal ?_ | with_reducible refine jump_ret ?_ | with_reducible refine jump_goto ?_
    repeat with_reducible refine wp_seq ?_
    refine wp_region_lit ?_
    refine a_val hs rfl rfl rfl (y_loadPt 0 rfl hs Tryd.underlying94 rfl (by kernel_rfl) rfl) ?_; clear hs a; intro a hs
    refine a_eff rfl (e_callB Tryd.func90 rfl rfl hs rfl rfl (token_May.calls (t.f1.size + 3) t.f0 t.f1 t.f2 t.f3 t.f4 _ _ (may_prog t (hsz t (List.mem_of_getElem? ht)))) ?_); clear hs a; intro a w1 hs
    refine a_val hs rfl rfl rfl (y_not hs rfl) ?_; clear hs a; intro a hs
    refine wpList_nil ?_
    repeat first | with_reducible refine in_normal ?_ | with_reducible refine then_normal ?_ | with_reducible refine then_ret ?_ | with_reducible refine in_ret ?_ | with_reducible refine then_exit ?_ | with_reducible refine in_here ?_ | with_reducible refine in_other rfl ?_ | with_reducible refine then_goto ?_ | with_reducible refine in_goto ?_ | with_reducible refine jump_normal ?_ | with_reducible refine jump_ret ?_ | with_reducible refine jump_goto ?_
    repeat with_reducible refine wp_seq ?_
    refine wp_cond_split (hs.ev rfl) (fun hb => ?_) (fun hb => ?_)
    · have hF : joinF l = (⟨#[]⟩, 2) := joinF_bad ht (by simpa using hb)
      repeat with_reducible refine wp_seq ?_
      refine wp_region_lit ?_
      refine a_val hs rfl rfl rfl (y_assign hs rfl) ?_; clear hs a; intro a hs
      refine a_val hs rfl rfl rfl (y_assign hs rfl) ?_; clear hs a; intro a hs
      refine wpList_nil ?_
      repeat first | with_reducible refine in_normal ?_ | with_reducible refine then_normal ?_ | with_reducible refine then_ret ?_ | with_reducible refine in_ret ?_ | with_reducible refine then_exit ?_ | with_reducible refine in_here ?_ | with_reducible refine in_other rfl ?_ | with_reducible refine then_goto ?_ | with_reducible refine in_goto ?_ | with_reducible refine jump_normal ?_ | with_reducible refine jump_ret ?_ | with_reducible refine jump_goto ?_
      repeat with_reducible refine wp_seq ?_
      refine wp_ret ?_
      repeat first | with_reducible refine in_normal ?_ | with_reducible refine then_normal ?_ | with_reducible refine then_ret ?_ | with_reducible refine in_ret ?_ | with_reducible refine then_exit ?_ | with_reducible refine in_here ?_ | with_reducible refine in_other rfl ?_ | with_reducible refine then_goto ?_ | with_reducible refine in_goto ?_ | with_reducible refine jump_normal ?_ | with_reducible refine jump_ret ?_ | with_reducible refine jump_goto ?_
      refine fin_ret (vs := [.string ⟨#[]⟩, .int .i64 2]) hs (.tmp (hs.slots _ _ rfl) (.tmp (hs.slots _ _ rfl) .nil)) ⟨?_, hs.mem.base⟩
      rw [hF]; rfl
    · have hm1 : mayB t = true := by simpa using hb
      repeat with_reducible refine wp_seq ?_
      refine wp_skip ?_
      repeat first | with_reducible refine in_normal ?_ | with_reducible refine then_normal ?_ | with_reducible refine then_ret ?_ | with_reducible refine in_ret ?_ | with_reducible refine then_exit ?_ | with_reducible refine in_here ?_ | with_reducible refine in_other rfl ?_
      repeat with_reducible refine wp_seq ?_
      refine wp_region_lit ?_
      refine a_val hs rfl rfl rfl (y_add hs rfl rfl (by omega)) ?_; clear hs a; intro a hs
      refine a_val hs rfl rfl rfl (y_move hs rfl) ?_; clear hs a; intro a hs
      refine wpList_nil ?_
      repeat first | with_reducible refine in_normal ?_ | with_reducible refine then_normal ?_ | with_reducible refine then_ret ?_ | with_reducible refine in_ret ?_ | with_reducible refine then_exit ?_ | with_reducible refine in_here ?_ | with_reducible refine in_other rfl ?_ | with_reducible refine then_goto ?_ | with_reducible refine in_goto ?_ | with_reducible refine jump_normal ?_ | with_reducible refine jump_ret ?_ | with_reducible refine jump_goto ?_
      exact ⟨m - 1, by omega, i + 1, by omega, fun j u hj hu => (Nat.lt_succ_iff_lt_or_eq.1 hj).elim (fun h => hmay j u h hu) (fun h => by subst h; rw [ht] at hu; injection hu with hu; subst hu; exact hm1), (hs.mem_to (hs.mem.to 0 rfl).drop).cut _ ⟨rfl, rfl, rfl, rfl, trivial⟩⟩
  · repeat with_reducible refine wp_seq ?_
    refine wp_region_lit ?_
    refine a_val hs rfl rfl rfl (y_cmp (b := false) hs rfl rfl (congrArg some (decide_eq_false (by omega)))) ?_; clear hs a; intro a hs
    refine wpList_nil ?_
    repeat first | with_reducible refine in_normal ?_ | with_reducible refine then_normal ?_ | with_reducible refine then_ret ?_ | with_reducible refine in_ret ?_ | with_reducible refine then_exit ?_ | with_reducible refine in_here ?_ | with_reducible refine in_other rfl ?_ | with_reducible refine then_goto ?_ | with_reducible refine in_goto ?_ | with_reducible refine jump_normal ?_ | with_reducible refine jump_ret ?_ | with_reducible refine jump_goto ?_
    repeat with_reducible refine wp_seq ?_
    refine wp_cond_false (hs.ev rfl) ?_
    repeat with_reducible refine wp_seq ?_
    refine wp_exit ?_
    repeat first | with_reducible refine in_normal ?_ | with_reducible refine then_normal ?_ | with_reducible refine then_ret ?_ | with_reducible refine in_ret ?_ | with_reducible refine then_exit ?_ | with_reducible refine in_here ?_ | with_reducible refine in_other rfl ?_ | with_reducible refine then_goto ?_ | with_reducible refine in_goto ?_ | with_reducible refine jump_normal ?_ | with_reducible refine jump_ret ?_ | with_reducible refine jump_goto ?_
    have hall : ∀ t ∈ l, mayB t = true := fun t ht => by
      obtain ⟨j, hj⟩ := List.getElem?_of_mem ht
      exact hmay j t (by have := (List.getElem?_eq_some_iff.1 hj).1; omega) hj
    have hallB : l.all mayB = true := List.all_eq_true.2 hall
    clear hmay
    repeat with_reducible refine wp_seq ?_
    refine wp_region_lit ?_
    refine a_eff rfl (e_alloc (z := .agg #[.pointer none, .slice none 0 0]) (cs := #[.pointer none, .slice none 0 0]) hs rfl (by kernel_rfl) rfl ?_); clear hs a; intro gb a w hs
    refine wpList_nil ?_
    repeat first | with_reducible refine in_normal ?_ | with_reducible refine then_normal ?_ | with_reducible refine then_ret ?_ | with_reducible refine in_ret ?_ | with_reducible refine then_exit ?_ | with_reducible refine in_here ?_ | with_reducible refine in_other rfl ?_ | with_reducible refine then_goto ?_ | with_reducible refine in_goto ?_ | with_reducible refine jump_normal ?_ | with_reducible refine jump_ret ?_ | with_reducible refine jump_goto ?_
    repeat with_reducible refine wp_seq ?_
    refine wp_region_lit ?_
    refine a_val hs rfl rfl rfl (y_move hs rfl) ?_; clear hs a; intro a hs
    refine a_val hs rfl rfl rfl (y_lenL hs Tryd.underlying88 rfl) ?_; clear hs a; intro a hs
    refine a_val hs rfl rfl rfl (y_move hs rfl) ?_; clear hs a; intro a hs
    refine wpList_nil ?_
    repeat first | with_reducible refine in_normal ?_ | with_reducible refine then_normal ?_ | with_reducible refine then_ret ?_ | with_reducible refine in_ret ?_ | with_reducible refine then_exit ?_ | with_reducible refine in_here ?_ | with_reducible refine in_other rfl ?_ | with_reducible refine then_goto ?_ | with_reducible refine in_goto ?_ | with_reducible refine jump_normal ?_ | with_reducible refine jump_ret ?_ | with_reducible refine jump_goto ?_
    repeat with_reducible refine wp_seq ?_
    refine wp_block ?_
    have hm0 : H v0 [pt gb #[.pointer none, .slice none (⟨#[]⟩ : ByteArray).size 0] 62, row 5 1 (.slice none (⟨#[]⟩ : ByteArray).size 0) (⟨#[]⟩ : ByteArray).size (Lib.strCells (⟨#[]⟩ : ByteArray))] _ := (hs.mem.nilRow 5 1).to 1 rfl
    refine wp_loopN (fun m a w1 => ∃ (i : Nat) (acc : ByteArray) (p A2 : Option Addr) (c2 : Nat), i + m = l.length ∧ (p = none ∨ p = some ⟨gb, 0, none⟩) ∧ acc.size ≤ 65536 ∧ joinP (l.drop i) acc i = joinP l ⟨#[]⟩ 0 ∧ St 43 v0 [(6, .pointer (some ⟨gb, 0, none⟩)), (19, .slice A l.length c), (20, .int .i64 (l.length : Int)), (21, .int .i64 ((i : Nat) : Int))] [pt gb #[.pointer p, .slice A2 (acc).size c2] 62, row 5 1 (.slice A2 (acc).size c2) (acc).size (Lib.strCells (acc))] a w1) l.length ⟨0, ⟨#[]⟩, none, none, 0, by omega, .inl rfl, by decide, rfl, (hs.mem_to hm0).cut _ ⟨rfl, rfl, rfl, rfl, trivial⟩⟩ (fun m a w1 hJ => ?_)
    clear hs hi hlt hm0
    obtain ⟨i, acc, p, A2, c2, hi, hp, hacc, hjoin, hs⟩ := hJ
    by_cases hlt : i < l.length
    · repeat with_reducible refine wp_seq ?_
      refine wp_region_lit ?_
      refine a_val hs rfl rfl rfl (y_cmp (b := true) hs rfl rfl (congrArg some (decide_eq_true (by omega)))) ?_; clear hs a; intro a hs
      refine wpList_nil ?_
      repeat first | with_reducible refine in_normal ?_ | with_reducible refine then_normal ?_ | with_reducible refine then_ret ?_ | with_reducible refine in_ret ?_ | with_reducible refine then_exit ?_ | with_reducible refine in_here ?_ | with_reducible refine in_other rfl ?_ | with_reducible refine then_goto ?_ | with_reducible refine in_goto ?_ | with_reducible refine jump_normal ?_ | with_reducible refine jump_ret ?_ | with_reducible refine jump_goto ?_
      repeat with_reducible refine wp_seq ?_
      refine wp_cond_true (hs.ev rfl) ?_
      repeat with_reducible refine wp_seq ?_
      refine wp_skip ?_
      repeat first | with_reducible refine in_normal ?_ | with_reducible refine then_normal ?_ | with_reducible refine then_ret ?_ | with_reducible refine in_ret ?_ | with_reducible refine then_exit ?_ | with_reducible refine in_here ?_ | with_reducible refine in_other rfl ?_
      obtain ⟨t, ht⟩ : ∃ t, l[i]? = some t := ⟨_, List.getElem?_eq_getElem hlt⟩
      obtain ⟨g0, o, rfl, hcell⟩ := C_some hA (by omega)
      have hm1 : mayB t = true := hall t (List.mem_of_getElem? ht)
      have hfs := form_size hm1
      have hdrop : l.drop i = t :: l.drop (i + 1) := by
        have h2 := List.drop_eq_getElem_cons hlt
        rw [List.getElem?_eq_getElem hlt] at ht
        injection ht with ht
        rw [h2, ht]
      rw [hdrop, joinP] at hjoin
      repeat with_reducible refine wp_seq ?_
      refine wp_block ?_
      repeat with_reducible refine wp_seq ?_
      refine wp_region_lit ?_
      refine a_val hs rfl rfl rfl (y_move hs rfl) ?_; clear hs a; intro a hs
      refine a_val hs rfl rfl rfl (y_idxB (size := 5) (off := o + i * 5) hs Tryd.underlying88 (by kernel_rfl) rfl rfl (by omega) (by omega) (by simp)) ?_; clear hs a; intro a hs
      refine a_val hs rfl rfl rfl (y_loadAgg (vs := tokC t) hs Tryd.underlying93 rfl (by kernel_rfl) rfl (fun w hw k v hk => hcell w hw.base i t ht k v hk)) ?_; clear hs a; intro a hs
      refine a_eff rfl (e_alloc (z := .agg #[.int .u8 0, .string ⟨#[]⟩, .int .i64 0, .int .i64 0, .int .i64 0]) (cs := #[.int .u8 0, .string ⟨#[]⟩, .int .i64 0, .int .i64 0, .int .i64 0]) hs rfl (by kernel_rfl) rfl ?_); clear hs a; intro gt a w hs
      refine a_val hs rfl rfl rfl (y_assign hs rfl) ?_; clear hs a; intro a hs
      refine a_eff rfl (e_store (cl := [_, _, _, _, _]) 0 rfl hs rfl rfl (by kernel_rfl) rfl rfl rfl ?_); clear hs a; intro a w hs
      refine wpList_nil ?_
      repeat first | with_reducible refine in_normal ?_ | with_reducible refine then_normal ?_ | with_reducible refine then_ret ?_ | with_reducible refine in_ret ?_ | with_reducible refine then_exit ?_ | with_reducible refine in_here ?_ | with_reducible refine in_other rfl ?_ | with_reducible refine then_goto ?_ | with_reducible refine in_goto ?_ | with_reducible refine jump_normal ?_ | with_reducible refine jump_ret ?_ | with_reducible refine jump_goto ?_
      by_cases hi0 : i > 0
      · repeat with_reducible refine wp_seq ?_
        refine wp_region_lit ?_
        refine a_val hs rfl rfl rfl (y_move hs rfl) ?_; clear hs a; intro a hs
        refine a_val hs rfl rfl rfl (y_cmp (b := true) hs rfl rfl (congrArg some (decide_eq_true (by omega)))) ?_; clear hs a; intro a hs
        refine wpList_nil ?_
        repeat first | with_reducible refine in_normal ?_ | with_reducible refine then_normal ?_ | with_reducible refine then_ret ?_ | with_reducible refine in_ret ?_ | with_reducible refine then_exit ?_ | with_reducible refine in_here ?_ | with_reducible refine in_other rfl ?_ | with_reducible refine then_goto ?_ | with_reducible refine in_goto ?_ | with_reducible refine jump_normal ?_ | with_reducible refine jump_ret ?_ | with_reducible refine jump_goto ?_
        repeat with_reducible refine wp_seq ?_
        refine wp_cond_true (hs.ev rfl) ?_
        have hs32 : (acc ++ ⟨#[32]⟩ : ByteArray).size = acc.size + 1 := by rw [ByteArray.size_append]; rfl
        repeat with_reducible refine wp_seq ?_
        refine wp_region_lit ?_
        refine a_eff rfl (e_callX Tryd.func91 rfl rfl hs rfl rfl (builder_put1 gb p hp A2 c2 acc (by omega) _ v0 _ ((hs.mem.to 2 rfl).to 2 rfl)) (fun e w1 ⟨A3, c3, he, hm⟩ => ⟨_, he, _, hm, ?_⟩)); clear hs a; intro a hs
        refine wpList_nil ?_
        repeat first | with_reducible refine in_normal ?_ | with_reducible refine then_normal ?_ | with_reducible refine then_ret ?_ | with_reducible refine in_ret ?_ | with_reducible refine then_exit ?_ | with_reducible refine in_here ?_ | with_reducible refine in_other rfl ?_ | with_reducible refine then_goto ?_ | with_reducible refine in_goto ?_ | with_reducible refine jump_normal ?_ | with_reducible refine jump_ret ?_ | with_reducible refine jump_goto ?_
        by_cases h3 : t.f0 = 3
        · repeat with_reducible refine wp_seq ?_
          refine wp_region_lit ?_
          refine a_val hs rfl rfl rfl (y_faddr (k' := 0) 0 hs (by kernel_rfl) rfl rfl) ?_; clear hs a; intro a hs
          refine a_val hs rfl rfl rfl (y_load hs Tryd.underlying92 rfl rfl (fun w hw => (hw.to 2 rfl).cellV rfl)) ?_; clear hs a; intro a hs
          refine a_val hs rfl rfl rfl (y_cmp (b := true) hs rfl rfl (congrArg some (beq_iff_eq.2 (h3)))) ?_; clear hs a; intro a hs
          refine wpList_nil ?_
          repeat first | with_reducible refine in_normal ?_ | with_reducible refine then_normal ?_ | with_reducible refine then_ret ?_ | with_reducible refine in_ret ?_ | with_reducible refine then_exit ?_ | with_reducible refine in_here ?_ | with_reducible refine in_other rfl ?_ | with_reducible refine then_goto ?_ | with_reducible refine in_goto ?_ | with_reducible refine jump_normal ?_ | with_reducible refine jump_ret ?_ | with_reducible refine jump_goto ?_
          repeat with_reducible refine wp_seq ?_
          refine wp_cond_true (hs.ev rfl) ?_
          obtain ⟨n0, n1⟩ := may_num hm1 h3
          have hz : (⟨(Lib.itoa t.f2).toArray⟩ : ByteArray).size = (formT t).size := by unfold formT; rw [if_pos h3]
          repeat with_reducible refine wp_seq ?_
          refine wp_region_lit ?_
          refine a_val hs rfl rfl rfl (y_faddr (k' := 2) 2 hs (by kernel_rfl) rfl rfl) ?_; clear hs a; intro a hs
          refine a_val hs rfl rfl rfl (y_load hs Tryd.underlying3 rfl rfl (fun w hw => (hw.to 2 rfl).cellV rfl)) ?_; clear hs a; intro a hs
          refine a_eff rfl (e_callB Tryd.func88 rfl rfl hs rfl rfl ((Tryd.strconv_Itoa t.f2 (by omega) (by omega) _ (varKeep hs.mem.base hP)).mono (by rintro e w1 ⟨rfl, k, os, rfl⟩; exact ⟨rfl, grow_below _ k os⟩)) ?_); clear hs a; intro a w1 hs
          refine a_eff rfl (e_callX Tryd.func38 rfl rfl hs rfl rfl (builder_put gb _ (.inr rfl) A3 c3 ((acc ++ ⟨#[32]⟩)) (⟨(Lib.itoa t.f2).toArray⟩) (by rw [hz]; omega) _ v0 _ ((hs.mem.to 1 rfl).to 1 rfl)) (fun e w1 ⟨A4, c4, he, hm⟩ => ⟨_, he, _, hm, ?_⟩)); clear hs a; intro a hs
          refine wpList_nil ?_
          repeat first | with_reducible refine in_normal ?_ | with_reducible refine then_normal ?_ | with_reducible refine then_ret ?_ | with_reducible refine in_ret ?_ | with_reducible refine then_exit ?_ | with_reducible refine in_here ?_ | with_reducible refine in_other rfl ?_ | with_reducible refine then_goto ?_ | with_reducible refine in_goto ?_ | with_reducible refine jump_normal ?_ | with_reducible refine jump_ret ?_ | with_reducible refine jump_goto ?_
          have hstep : stepJ acc i t = ((acc ++ ⟨#[32]⟩) ++ ⟨(Lib.itoa t.f2).toArray⟩) := by unfold stepJ formT; rw [if_pos hi0, if_pos h3]
          repeat with_reducible refine wp_seq ?_
          refine wp_region_lit ?_
          refine a_eff rfl (e_callX Tryd.func39 rfl rfl hs rfl rfl (builder_Len gb _ A4 _ c4 _ v0 _ ((hs.mem.to 1 rfl).to 1 rfl)) (fun e w1 ⟨he, hm⟩ => ⟨_, he, _, hm, ?_⟩)); clear hs a; intro a hs
          refine a_val hs rfl rfl rfl (y_cmp (b := decide ((((acc ++ ⟨#[32]⟩) ++ ⟨(Lib.itoa t.f2).toArray⟩)).size > 65536)) hs rfl rfl (congrArg some (decide_eq_decide.2 (by omega)))) ?_; clear hs a; intro a hs
          refine wpList_nil ?_
          repeat first | with_reducible refine in_normal ?_ | with_reducible refine then_normal ?_ | with_reducible refine then_ret ?_ | with_reducible refine in_ret ?_ | with_reducible refine then_exit ?_ | with_reducible refine in_here ?_ | with_reducible refine in_other rfl ?_ | with_reducible refine then_goto ?_ | with_reducible refine in_goto ?_ | with_reducible refine jump_normal ?_ | with_reducible refine jump_ret ?_ | with_reducible refine jump_goto ?_
          repeat with_reducible refine wp_seq ?_
          refine wp_cond_split (hs.ev rfl) (fun hb => ?_) (fun hb => ?_)
          · have hbig : (((acc ++ ⟨#[32]⟩) ++ ⟨(Lib.itoa t.f2).toArray⟩)).size > 65536 := of_decide_eq_true hb
            rw [hstep, if_pos hbig] at hjoin
            have hF : joinF l = (⟨#[]⟩, 4) := by unfold joinF; rw [if_pos hallB, ← hjoin]
            repeat with_reducible refine wp_seq ?_
            refine wp_region_lit ?_
            refine a_val hs rfl rfl rfl (y_assign hs rfl) ?_; clear hs a; intro a hs
            refine a_val hs rfl rfl rfl (y_assign hs rfl) ?_; clear hs a; intro a hs
            refine wpList_nil ?_
            repeat first | with_reducible refine in_normal ?_ | with_reducible refine then_normal ?_ | with_reducible refine then_ret ?_ | with_reducible refine in_ret ?_ | with_reducible refine then_exit ?_ | with_reducible refine in_here ?_ | with_reducible refine in_other rfl ?_ | with_reducible refine then_goto ?_ | with_reducible refine in_goto ?_ | with_reducible refine jump_normal ?_ | with_reducible refine jump_ret ?_ | with_reducible refine jump_goto ?_
            repeat with_reducible refine wp_seq ?_
            refine wp_ret ?_
            repeat first | with_reducible refine in_normal ?_ | with_reducible refine then_normal ?_ | with_reducible refine then_ret ?_ | with_reducible refine in_ret ?_ | with_reducible refine then_exit ?_ | with_reducible refine in_here ?_ | with_reducible refine in_other rfl ?_ | with_reducible refine then_goto ?_ | with_reducible refine in_goto ?_ | with_reducible refine jump_normal ?_ | with_reducible refine jump_ret ?_ | with_reducible refine jump_goto ?_
            refine fin_ret (vs := [.string ⟨#[]⟩, .int .i64 4]) hs (.tmp (hs.slots _ _ rfl) (.tmp (hs.slots _ _ rfl) .nil)) ⟨?_, hs.mem.base⟩
            rw [hF]; rfl
          · have hbig : ¬ (((acc ++ ⟨#[32]⟩) ++ ⟨(Lib.itoa t.f2).toArray⟩)).size > 65536 := of_decide_eq_false hb
            rw [hstep, if_neg hbig] at hjoin
            repeat with_reducible refine wp_seq ?_
            refine wp_skip ?_
            repeat first | with_reducible refine in_normal ?_ | with_reducible refine then_normal ?_ | with_reducible refine then_ret ?_ | with_reducible refine in_ret ?_ | with_reducible refine then_exit ?_ | with_reducible refine in_here ?_ | with_reducible refine in_other rfl ?_
            repeat with_reducible refine wp_seq ?_
            refine wp_region_lit ?_
            refine a_val hs rfl rfl rfl (y_add hs rfl rfl (by omega)) ?_; clear hs a; intro a hs
            refine a_val hs rfl rfl rfl (y_move hs rfl) ?_; clear hs a; intro a hs
            refine wpList_nil ?_
            repeat first | with_reducible refine in_normal ?_ | with_reducible refine then_normal ?_ | with_reducible refine then_ret ?_ | with_reducible refine in_ret ?_ | with_reducible refine then_exit ?_ | with_reducible refine in_here ?_ | with_reducible refine in_other rfl ?_ | with_reducible refine then_goto ?_ | with_reducible refine in_goto ?_ | with_reducible refine jump_normal ?_ | with_reducible refine jump_ret ?_ | with_reducible refine jump_goto ?_
            refine ⟨m - 1, by omega, i + 1, ((acc ++ ⟨#[32]⟩) ++ ⟨(Lib.itoa t.f2).toArray⟩), some ⟨gb, 0, none⟩, A4, c4, by omega, .inr rfl, by omega, hjoin, ?_⟩
            exact (hs.mem_to (((hs.mem.to 2 rfl).drop.to 1 rfl).to 1 rfl)).cut _ ⟨rfl, rfl, rfl, rfl, trivial⟩
        · repeat with_reducible refine wp_seq ?_
          refine wp_region_lit ?_
          refine a_val hs rfl rfl rfl (y_faddr (k' := 0) 0 hs (by kernel_rfl) rfl rfl) ?_; clear hs a; intro a hs
          refine a_val hs rfl rfl rfl (y_load hs Tryd.underlying92 rfl rfl (fun w hw => (hw.to 2 rfl).cellV rfl)) ?_; clear hs a; intro a hs
          refine a_val hs rfl rfl rfl (y_cmp (b := false) hs rfl rfl (congrArg some (beq_eq_false_iff_ne.2 (h3)))) ?_; clear hs a; intro a hs
          refine wpList_nil ?_
          repeat first | with_reducible refine in_normal ?_ | with_reducible refine then_normal ?_ | with_reducible refine then_ret ?_ | with_reducible refine in_ret ?_ | with_reducible refine then_exit ?_ | with_reducible refine in_here ?_ | with_reducible refine in_other rfl ?_ | with_reducible refine then_goto ?_ | with_reducible refine in_goto ?_ | with_reducible refine jump_normal ?_ | with_reducible refine jump_ret ?_ | with_reducible refine jump_goto ?_
          repeat with_reducible refine wp_seq ?_
          refine wp_cond_false (hs.ev rfl) ?_
          have hz : t.f1.size = (formT t).size := by unfold formT; rw [if_neg h3]
          repeat with_reducible refine wp_seq ?_
          refine wp_region_lit ?_
          refine a_val hs rfl rfl rfl (y_faddr (k' := 1) 1 hs (by kernel_rfl) rfl rfl) ?_; clear hs a; intro a hs
          refine a_val hs rfl rfl rfl (y_load hs Tryd.underlying9 rfl rfl (fun w hw => (hw.to 2 rfl).cellV rfl)) ?_; clear hs a; intro a hs
          refine a_eff rfl (e_callX Tryd.func38 rfl rfl hs rfl rfl (builder_put gb _ (.inr rfl) A3 c3 ((acc ++ ⟨#[32]⟩)) (t.f1) (by rw [hz]; omega) _ v0 _ ((hs.mem.to 1 rfl).to 1 rfl)) (fun e w1 ⟨A4, c4, he, hm⟩ => ⟨_, he, _, hm, ?_⟩)); clear hs a; intro a hs
          refine wpList_nil ?_
          repeat first | with_reducible refine in_normal ?_ | with_reducible refine then_normal ?_ | with_reducible refine then_ret ?_ | with_reducible refine in_ret ?_ | with_reducible refine then_exit ?_ | with_reducible refine in_here ?_ | with_reducible refine in_other rfl ?_ | with_reducible refine then_goto ?_ | with_reducible refine in_goto ?_ | with_reducible refine jump_normal ?_ | with_reducible refine jump_ret ?_ | with_reducible refine jump_goto ?_
          have hstep : stepJ acc i t = ((acc ++ ⟨#[32]⟩) ++ t.f1) := by unfold stepJ formT; rw [if_pos hi0, if_neg h3]
          repeat with_reducible refine wp_seq ?_
          refine wp_region_lit ?_
          refine a_eff rfl (e_callX Tryd.func39 rfl rfl hs rfl rfl (builder_Len gb _ A4 _ c4 _ v0 _ ((hs.mem.to 1 rfl).to 1 rfl)) (fun e w1 ⟨he, hm⟩ => ⟨_, he, _, hm, ?_⟩)); clear hs a; intro a hs
          refine a_val hs rfl rfl rfl (y_cmp (b := decide ((((acc ++ ⟨#[32]⟩) ++ t.f1)).size > 65536)) hs rfl rfl (congrArg some (decide_eq_decide.2 (by omega)))) ?_; clear hs a; intro a hs
          refine wpList_nil ?_
          repeat first | with_reducible refine in_normal ?_ | with_reducible refine then_normal ?_ | with_reducible refine then_ret ?_ | with_reducible refine in_ret ?_ | with_reducible refine then_exit ?_ | with_reducible refine in_here ?_ | with_reducible refine in_other rfl ?_ | with_reducible refine then_goto ?_ | with_reducible refine in_goto ?_ | with_reducible refine jump_normal ?_ | with_reducible refine jump_ret ?_ | with_reducible refine jump_goto ?_
          repeat with_reducible refine wp_seq ?_
          refine wp_cond_split (hs.ev rfl) (fun hb => ?_) (fun hb => ?_)
          · have hbig : (((acc ++ ⟨#[32]⟩) ++ t.f1)).size > 65536 := of_decide_eq_true hb
            rw [hstep, if_pos hbig] at hjoin
            have hF : joinF l = (⟨#[]⟩, 4) := by unfold joinF; rw [if_pos hallB, ← hjoin]
            repeat with_reducible refine wp_seq ?_
            refine wp_region_lit ?_
            refine a_val hs rfl rfl rfl (y_assign hs rfl) ?_; clear hs a; intro a hs
            refine a_val hs rfl rfl rfl (y_assign hs rfl) ?_; clear hs a; intro a hs
            refine wpList_nil ?_
            repeat first | with_reducible refine in_normal ?_ | with_reducible refine then_normal ?_ | with_reducible refine then_ret ?_ | with_reducible refine in_ret ?_ | with_reducible refine then_exit ?_ | with_reducible refine in_here ?_ | with_reducible refine in_other rfl ?_ | with_reducible refine then_goto ?_ | with_reducible refine in_goto ?_ | with_reducible refine jump_normal ?_ | with_reducible refine jump_ret ?_ | with_reducible refine jump_goto ?_
            repeat with_reducible refine wp_seq ?_
            refine wp_ret ?_
            repeat first | with_reducible refine in_normal ?_ | with_reducible refine then_normal ?_ | with_reducible refine then_ret ?_ | with_reducible refine in_ret ?_ | with_reducible refine then_exit ?_ | with_reducible refine in_here ?_ | with_reducible refine in_other rfl ?_ | with_reducible refine then_goto ?_ | with_reducible refine in_goto ?_ | with_reducible refine jump_normal ?_ | with_reducible refine jump_ret ?_ | with_reducible refine jump_goto ?_
            refine fin_ret (vs := [.string ⟨#[]⟩, .int .i64 4]) hs (.tmp (hs.slots _ _ rfl) (.tmp (hs.slots _ _ rfl) .nil)) ⟨?_, hs.mem.base⟩
            rw [hF]; rfl
          · have hbig : ¬ (((acc ++ ⟨#[32]⟩) ++ t.f1)).size > 65536 := of_decide_eq_false hb
            rw [hstep, if_neg hbig] at hjoin
            repeat with_reducible refine wp_seq ?_
            refine wp_skip ?_
            repeat first | with_reducible refine in_normal ?_ | with_reducible refine then_normal ?_ | with_reducible refine then_ret ?_ | with_reducible refine in_ret ?_ | with_reducible refine then_exit ?_ | with_reducible refine in_here ?_ | with_reducible refine in_other rfl ?_
            repeat with_reducible refine wp_seq ?_
            refine wp_region_lit ?_
            refine a_val hs rfl rfl rfl (y_add hs rfl rfl (by omega)) ?_; clear hs a; intro a hs
            refine a_val hs rfl rfl rfl (y_move hs rfl) ?_; clear hs a; intro a hs
            refine wpList_nil ?_
            repeat first | with_reducible refine in_normal ?_ | with_reducible refine then_normal ?_ | with_reducible refine then_ret ?_ | with_reducible refine in_ret ?_ | with_reducible refine then_exit ?_ | with_reducible refine in_here ?_ | with_reducible refine in_other rfl ?_ | with_reducible refine then_goto ?_ | with_reducible refine in_goto ?_ | with_reducible refine jump_normal ?_ | with_reducible refine jump_ret ?_ | with_reducible refine jump_goto ?_
            refine ⟨m - 1, by omega, i + 1, ((acc ++ ⟨#[32]⟩) ++ t.f1), some ⟨gb, 0, none⟩, A4, c4, by omega, .inr rfl, by omega, hjoin, ?_⟩
            exact (hs.mem_to (((hs.mem.to 2 rfl).drop.to 1 rfl).to 1 rfl)).cut _ ⟨rfl, rfl, rfl, rfl, trivial⟩
      · repeat with_reducible refine wp_seq ?_
        refine wp_region_lit ?_
        refine a_val hs rfl rfl rfl (y_move hs rfl) ?_; clear hs a; intro a hs
        refine a_val hs rfl rfl rfl (y_cmp (b := false) hs rfl rfl (congrArg some (decide_eq_false (by omega)))) ?_; clear hs a; intro a hs
        refine wpList_nil ?_
        repeat first | with_reducible refine in_normal ?_ | with_reducible refine then_normal ?_ | with_reducible refine then_ret ?_ | with_reducible refine in_ret ?_ | with_reducible refine then_exit ?_ | with_reducible refine in_here ?_ | with_reducible refine in_other rfl ?_ | with_reducible refine then_goto ?_ | with_reducible refine in_goto ?_ | with_reducible refine jump_normal ?_ | with_reducible refine jump_ret ?_ | with_reducible refine jump_goto ?_
        repeat with_reducible refine wp_seq ?_
        refine wp_cond_false (hs.ev rfl) ?_
        repeat with_reducible refine wp_seq ?_
        refine wp_skip ?_
        repeat first | with_reducible refine in_normal ?_ | with_reducible refine then_normal ?_ | with_reducible refine then_ret ?_ | with_reducible refine in_ret ?_ | with_reducible refine then_exit ?_ | with_reducible refine in_here ?_ | with_reducible refine in_other rfl ?_
        by_cases h3 : t.f0 = 3
        · repeat with_reducible refine wp_seq ?_
          refine wp_region_lit ?_
          refine a_val hs rfl rfl rfl (y_faddr (k' := 0) 0 hs (by kernel_rfl) rfl rfl) ?_; clear hs a; intro a hs
          refine a_val hs rfl rfl rfl (y_load hs Tryd.underlying92 rfl rfl (fun w hw => (hw.to 0 rfl).cellV rfl)) ?_; clear hs a; intro a hs
          refine a_val hs rfl rfl rfl (y_cmp (b := true) hs rfl rfl (congrArg some (beq_iff_eq.2 (h3)))) ?_; clear hs a; intro a hs
          refine wpList_nil ?_
          repeat first | with_reducible refine in_normal ?_ | with_reducible refine then_normal ?_ | with_reducible refine then_ret ?_ | with_reducible refine in_ret ?_ | with_reducible refine then_exit ?_ | with_reducible refine in_here ?_ | with_reducible refine in_other rfl ?_ | with_reducible refine then_goto ?_ | with_reducible refine in_goto ?_ | with_reducible refine jump_normal ?_ | with_reducible refine jump_ret ?_ | with_reducible refine jump_goto ?_
          repeat with_reducible refine wp_seq ?_
          refine wp_cond_true (hs.ev rfl) ?_
          obtain ⟨n0, n1⟩ := may_num hm1 h3
          have hz : (⟨(Lib.itoa t.f2).toArray⟩ : ByteArray).size = (formT t).size := by unfold formT; rw [if_pos h3]
          repeat with_reducible refine wp_seq ?_
          refine wp_region_lit ?_
          refine a_val hs rfl rfl rfl (y_faddr (k' := 2) 2 hs (by kernel_rfl) rfl rfl) ?_; clear hs a; intro a hs
          refine a_val hs rfl rfl rfl (y_load hs Tryd.underlying3 rfl rfl (fun w hw => (hw.to 0 rfl).cellV rfl)) ?_; clear hs a; intro a hs
          refine a_eff rfl (e_callB Tryd.func88 rfl rfl hs rfl rfl ((Tryd.strconv_Itoa t.f2 (by omega) (by omega) _ (varKeep hs.mem.base hP)).mono (by rintro e w1 ⟨rfl, k, os, rfl⟩; exact ⟨rfl, grow_below _ k os⟩)) ?_); clear hs a; intro a w1 hs
          refine a_eff rfl (e_callX Tryd.func38 rfl rfl hs rfl rfl (builder_put gb p hp A2 c2 (acc) (⟨(Lib.itoa t.f2).toArray⟩) (by rw [hz]; omega) _ v0 _ ((hs.mem.to 2 rfl).to 2 rfl)) (fun e w1 ⟨A4, c4, he, hm⟩ => ⟨_, he, _, hm, ?_⟩)); clear hs a; intro a hs
          refine wpList_nil ?_
          repeat first | with_reducible refine in_normal ?_ | with_reducible refine then_normal ?_ | with_reducible refine then_ret ?_ | with_reducible refine in_ret ?_ | with_reducible refine then_exit ?_ | with_reducible refine in_here ?_ | with_reducible refine in_other rfl ?_ | with_reducible refine then_goto ?_ | with_reducible refine in_goto ?_ | with_reducible refine jump_normal ?_ | with_reducible refine jump_ret ?_ | with_reducible refine jump_goto ?_
          have hstep : stepJ acc i t = (acc ++ ⟨(Lib.itoa t.f2).toArray⟩) := by unfold stepJ formT; rw [if_neg hi0, if_pos h3]
          repeat with_reducible refine wp_seq ?_
          refine wp_region_lit ?_
          refine a_eff rfl (e_callX Tryd.func39 rfl rfl hs rfl rfl (builder_Len gb _ A4 _ c4 _ v0 _ ((hs.mem.to 1 rfl).to 1 rfl)) (fun e w1 ⟨he, hm⟩ => ⟨_, he, _, hm, ?_⟩)); clear hs a; intro a hs
          refine a_val hs rfl rfl rfl (y_cmp (b := decide (((acc ++ ⟨(Lib.itoa t.f2).toArray⟩)).size > 65536)) hs rfl rfl (congrArg some (decide_eq_decide.2 (by omega)))) ?_; clear hs a; intro a hs
          refine wpList_nil ?_
          repeat first | with_reducible refine in_normal ?_ | with_reducible refine then_normal ?_ | with_reducible refine then_ret ?_ | with_reducible refine in_ret ?_ | with_reducible refine then_exit ?_ | with_reducible refine in_here ?_ | with_reducible refine in_other rfl ?_ | with_reducible refine then_goto ?_ | with_reducible refine in_goto ?_ | with_reducible refine jump_normal ?_ | with_reducible refine jump_ret ?_ | with_reducible refine jump_goto ?_
          repeat with_reducible refine wp_seq ?_
          refine wp_cond_split (hs.ev rfl) (fun hb => ?_) (fun hb => ?_)
          · have hbig : ((acc ++ ⟨(Lib.itoa t.f2).toArray⟩)).size > 65536 := of_decide_eq_true hb
            rw [hstep, if_pos hbig] at hjoin
            have hF : joinF l = (⟨#[]⟩, 4) := by unfold joinF; rw [if_pos hallB, ← hjoin]
            repeat with_reducible refine wp_seq ?_
            refine wp_region_lit ?_
            refine a_val hs rfl rfl rfl (y_assign hs rfl) ?_; clear hs a; intro a hs
            refine a_val hs rfl rfl rfl (y_assign hs rfl) ?_; clear hs a; intro a hs
            refine wpList_nil ?_
            repeat first | with_reducible refine in_normal ?_ | with_reducible refine then_normal ?_ | with_reducible refine then_ret ?_ | with_reducible refine in_ret ?_ | with_reducible refine then_exit ?_ | with_reducible refine in_here ?_ | with_reducible refine in_other rfl ?_ | with_reducible refine then_goto ?_ | with_reducible refine in_goto ?_ | with_reducible refine jump_normal ?_ | with_reducible refine jump_ret ?_ | with_reducible refine jump_goto ?_
            repeat with_reducible refine wp_seq ?_
            refine wp_ret ?_
            repeat first | with_reducible refine in_normal ?_ | with_reducible refine then_normal ?_ | with_reducible refine then_ret ?_ | with_reducible refine in_ret ?_ | with_reducible refine then_exit ?_ | with_reducible refine in_here ?_ | with_reducible refine in_other rfl ?_ | with_reducible refine then_goto ?_ | with_reducible refine in_goto ?_ | with_reducible refine jump_normal ?_ | with_reducible refine jump_ret ?_ | with_reducible refine jump_goto ?_
            refine fin_ret (vs := [.string ⟨#[]⟩, .int .i64 4]) hs (.tmp (hs.slots _ _ rfl) (.tmp (hs.slots _ _ rfl) .nil)) ⟨?_, hs.mem.base⟩
            rw [hF]; rfl
          · have hbig : ¬ ((acc ++ ⟨(Lib.itoa t.f2).toArray⟩)).size > 65536 := of_decide_eq_false hb
            rw [hstep, if_neg hbig] at hjoin
            repeat with_reducible refine wp_seq ?_
            refine wp_skip ?_
            repeat first | with_reducible refine in_normal ?_ | with_reducible refine then_normal ?_ | with_reducible refine then_ret ?_ | with_reducible refine in_ret ?_ | with_reducible refine then_exit ?_ | with_reducible refine in_here ?_ | with_reducible refine in_other rfl ?_
            repeat with_reducible refine wp_seq ?_
            refine wp_region_lit ?_
            refine a_val hs rfl rfl rfl (y_add hs rfl rfl (by omega)) ?_; clear hs a; intro a hs
            refine a_val hs rfl rfl rfl (y_move hs rfl) ?_; clear hs a; intro a hs
            refine wpList_nil ?_
            repeat first | with_reducible refine in_normal ?_ | with_reducible refine then_normal ?_ | with_reducible refine then_ret ?_ | with_reducible refine in_ret ?_ | with_reducible refine then_exit ?_ | with_reducible refine in_here ?_ | with_reducible refine in_other rfl ?_ | with_reducible refine then_goto ?_ | with_reducible refine in_goto ?_ | with_reducible refine jump_normal ?_ | with_reducible refine jump_ret ?_ | with_reducible refine jump_goto ?_
            refine ⟨m - 1, by omega, i + 1, (acc ++ ⟨(Lib.itoa t.f2).toArray⟩), some ⟨gb, 0, none⟩, A4, c4, by omega, .inr rfl, by omega, hjoin, ?_⟩
            exact (hs.mem_to (((hs.mem.to 2 rfl).drop.to 1 rfl).to 1 rfl)).cut _ ⟨rfl, rfl, rfl, rfl, trivial⟩
        · repeat with_reducible refine wp_seq ?_
          refine wp_region_lit ?_
          refine a_val hs rfl rfl rfl (y_faddr (k' := 0) 0 hs (by kernel_rfl) rfl rfl) ?_; clear hs a; intro a hs
          refine a_val hs rfl rfl rfl (y_load hs Tryd.underlying92 rfl rfl (fun w hw => (hw.to 0 rfl).cellV rfl)) ?_; clear hs a; intro a hs
          refine a_val hs rfl rfl rfl (y_cmp (b := false) hs rfl rfl (congrArg some (beq_eq_false_iff_ne.2 (h3)))) ?_; clear hs a; intro a hs
          refine wpList_nil ?_
          repeat first | with_reducible refine in_normal ?_ | with_reducible refine then_normal ?_ | with_reducible refine then_ret ?_ | with_reducible refine in_ret ?_ | with_reducible refine then_exit ?_ | with_reducible refine in_here ?_ | with_reducible refine in_other rfl ?_ | with_reducible refine then_goto ?_ | with_reducible refine in_goto ?_ | with_reducible refine jump_normal ?_ | with_reducible refine jump_ret ?_ | with_reducible refine jump_goto ?_
          repeat with_reducible refine wp_seq ?_
          refine wp_cond_false (hs.ev rfl) ?_
          have hz : t.f1.size = (formT t).size := by unfold formT; rw [if_neg h3]
          repeat with_reducible refine wp_seq ?_
          refine wp_region_lit ?_
          refine a_val hs rfl rfl rfl (y_faddr (k' := 1) 1 hs (by kernel_rfl) rfl rfl) ?_; clear hs a; intro a hs
          refine a_val hs rfl rfl rfl (y_load hs Tryd.underlying9 rfl rfl (fun w hw => (hw.to 0 rfl).cellV rfl)) ?_; clear hs a; intro a hs
          refine a_eff rfl (e_callX Tryd.func38 rfl rfl hs rfl rfl (builder_put gb p hp A2 c2 (acc) (t.f1) (by rw [hz]; omega) _ v0 _ ((hs.mem.to 2 rfl).to 2 rfl)) (fun e w1 ⟨A4, c4, he, hm⟩ => ⟨_, he, _, hm, ?_⟩)); clear hs a; intro a hs
          refine wpList_nil ?_
          repeat first | with_reducible refine in_normal ?_ | with_reducible refine then_normal ?_ | with_reducible refine then_ret ?_ | with_reducible refine in_ret ?_ | with_reducible refine then_exit ?_ | with_reducible refine in_here ?_ | with_reducible refine in_other rfl ?_ | with_reducible refine then_goto ?_ | with_reducible refine in_goto ?_ | with_reducible refine jump_normal ?_ | with_reducible refine jump_ret ?_ | with_reducible refine jump_goto ?_
          have hstep : stepJ acc i t = (acc ++ t.f1) := by unfold stepJ formT; rw [if_neg hi0, if_neg h3]
          repeat with_reducible refine wp_seq ?_
          refine wp_region_lit ?_
          refine a_eff rfl (e_callX Tryd.func39 rfl rfl hs rfl rfl (builder_Len gb _ A4 _ c4 _ v0 _ ((hs.mem.to 1 rfl).to 1 rfl)) (fun e w1 ⟨he, hm⟩ => ⟨_, he, _, hm, ?_⟩)); clear hs a; intro a hs
          refine a_val hs rfl rfl rfl (y_cmp (b := decide (((acc ++ t.f1)).size > 65536)) hs rfl rfl (congrArg some (decide_eq_decide.2 (by omega)))) ?_; clear hs a; intro a hs
          refine wpList_nil ?_
          repeat first | with_reducible refine in_normal ?_ | with_reducible refine then_normal ?_ | with_reducible refine then_ret ?_ | with_reducible refine in_ret ?_ | with_reducible refine then_exit ?_ | with_reducible refine in_here ?_ | with_reducible refine in_other rfl ?_ | with_reducible refine then_goto ?_ | with_reducible refine in_goto ?_ | with_reducible refine jump_normal ?_ | with_reducible refine jump_ret ?_ | with_reducible refine jump_goto ?_
          repeat with_reducible refine wp_seq ?_
          refine wp_cond_split (hs.ev rfl) (fun hb => ?_) (fun hb => ?_)
          · have hbig : ((acc ++ t.f1)).size > 65536 := of_decide_eq_true hb
            rw [hstep, if_pos hbig] at hjoin
            have hF : joinF l = (⟨#[]⟩, 4) := by unfold joinF; rw [if_pos hallB, ← hjoin]
            repeat with_reducible refine wp_seq ?_
            refine wp_region_lit ?_
            refine a_val hs rfl rfl rfl (y_assign hs rfl) ?_; clear hs a; intro a hs
            refine a_val hs rfl rfl rfl (y_assign hs rfl) ?_; clear hs a; intro a hs
            refine wpList_nil ?_
            repeat first | with_reducible refine in_normal ?_ | with_reducible refine then_normal ?_ | with_reducible refine then_ret ?_ | with_reducible refine in_ret ?_ | with_reducible refine then_exit ?_ | with_reducible refine in_here ?_ | with_reducible refine in_other rfl ?_ | with_reducible refine then_goto ?_ | with_reducible refine in_goto ?_ | with_reducible refine jump_normal ?_ | with_reducible refine jump_ret ?_ | with_reducible refine jump_goto ?_
            repeat with_reducible refine wp_seq ?_
            refine wp_ret ?_
            repeat first | with_reducible refine in_normal ?_ | with_reducible refine then_normal ?_ | with_reducible refine then_ret ?_ | with_reducible refine in_ret ?_ | with_reducible refine then_exit ?_ | with_reducible refine in_here ?_ | with_reducible refine in_other rfl ?_ | with_reducible refine then_goto ?_ | with_reducible refine in_goto ?_ | with_reducible refine jump_normal ?_ | with_reducible refine jump_ret ?_ | with_reducible refine jump_goto ?_
            refine fin_ret (vs := [.string ⟨#[]⟩, .int .i64 4]) hs (.tmp (hs.slots _ _ rfl) (.tmp (hs.slots _ _ rfl) .nil)) ⟨?_, hs.mem.base⟩
            rw [hF]; rfl
          · have hbig : ¬ ((acc ++ t.f1)).size > 65536 := of_decide_eq_false hb
            rw [hstep, if_neg hbig] at hjoin
            repeat with_reducible refine wp_seq ?_
            refine wp_skip ?_
            repeat first | with_reducible refine in_normal ?_ | with_reducible refine then_normal ?_ | with_reducible refine then_ret ?_ | with_reducible refine in_ret ?_ | with_reducible refine then_exit ?_ | with_reducible refine in_here ?_ | with_reducible refine in_other rfl ?_
            repeat with_reducible refine wp_seq ?_
            refine wp_region_lit ?_
            refine a_val hs rfl rfl rfl (y_add hs rfl rfl (by omega)) ?_; clear hs a; intro a hs
            refine a_val hs rfl rfl rfl (y_move hs rfl) ?_; clear hs a; intro a hs
            refine wpList_nil ?_
            repeat first | with_reducible refine in_normal ?_ | with_reducible refine then_normal ?_ | with_reducible refine then_ret ?_ | with_reducible refine in_ret ?_ | with_reducible refine then_exit ?_ | with_reducible refine in_here ?_ | with_reducible refine in_other rfl ?_ | with_reducible refine then_goto ?_ | with_reducible refine in_goto ?_ | with_reducible refine jump_normal ?_ | with_reducible refine jump_ret ?_ | with_reducible refine jump_goto ?_
            refine ⟨m - 1, by omega, i + 1, (acc ++ t.f1), some ⟨gb, 0, none⟩, A4, c4, by omega, .inr rfl, by omega, hjoin, ?_⟩
            exact (hs.mem_to (((hs.mem.to 2 rfl).drop.to 1 rfl).to 1 rfl)).cut _ ⟨rfl, rfl, rfl, rfl, trivial⟩
    · repeat with_reducible refine wp_seq ?_
      refine wp_region_lit ?_
      refine a_val hs rfl rfl rfl (y_cmp (b := false) hs rfl rfl (congrArg some (decide_eq_false (by omega)))) ?_; clear hs a; intro a hs
      refine wpList_nil ?_
      repeat first | with_reducible refine in_normal ?_ | with_reducible refine then_normal ?_ | with_reducible refine then_ret ?_ | with_reducible refine in_ret ?_ | with_reducible refine then_exit ?_ | with_reducible refine in_here ?_ | with_reducible refine in_other rfl ?_ | with_reducible refine then_goto ?_ | with_reducible refine in_goto ?_ | with_reducible refine jump_normal ?_ | with_reducible refine jump_ret ?_ | with_reducible refine jump_goto ?_
      repeat with_reducible refine wp_seq ?_
      refine wp_cond_false (hs.ev rfl) ?_
      repeat with_reducible refine wp_seq ?_
      refine wp_exit ?_
      repeat first | with_reducible refine in_normal ?_ | with_reducible refine then_normal ?_ | with_reducible refine then_ret ?_ | with_reducible refine in_ret ?_ | with_reducible refine then_exit ?_ | with_reducible refine in_here ?_ | with_reducible refine in_other rfl ?_ | with_reducible refine then_goto ?_ | with_reducible refine in_goto ?_ | with_reducible refine jump_normal ?_ | with_reducible refine jump_ret ?_ | with_reducible refine jump_goto ?_
      rw [List.drop_eq_nil_of_le (by omega), joinP] at hjoin
      have hF : joinF l = (acc, 0) := by unfold joinF; rw [if_pos hallB, ← hjoin]
      repeat with_reducible refine wp_seq ?_
      refine wp_region_lit ?_
      refine a_eff rfl (e_callX Tryd.func40 rfl rfl hs rfl rfl (builder_String gb p hp A2 _ c2 acc rfl _ v0 _ ((hs.mem.to 1 rfl).to 1 rfl)) (fun e w1 ⟨he, hb⟩ => ⟨_, he, [], hs.mem.bare.onBelow hb, ?_⟩)); clear hs a; intro a hs
      refine a_val hs rfl rfl rfl (y_assign hs rfl) ?_; clear hs a; intro a hs
      refine a_val hs rfl rfl rfl (y_assign hs rfl) ?_; clear hs a; intro a hs
      refine wpList_nil ?_
      repeat first | with_reducible refine in_normal ?_ | with_reducible refine then_normal ?_ | with_reducible refine then_ret ?_ | with_reducible refine in_ret ?_ | with_reducible refine then_exit ?_ | with_reducible refine in_here ?_ | with_reducible refine in_other rfl ?_ | with_reducible refine then_goto ?_ | with_reducible refine in_goto ?_ | with_reducible refine jump_normal ?_ | with_reducible refine jump_ret ?_ | with_reducible refine jump_goto ?_
      repeat with_reducible refine wp_seq ?_
      refine wp_ret ?_
      repeat first | with_reducible refine in_normal ?_ | with_reducible refine then_normal ?_ | with_reducible refine then_ret ?_ | with_reducible refine in_ret ?_ | with_reducible refine then_exit ?_ | with_reducible refine in_here ?_ | with_reducible refine in_other rfl ?_ | with_reducible refine then_goto ?_ | with_reducible refine in_goto ?_ | with_reducible refine jump_normal ?_ | with_reducible refine jump_ret ?_ | with_reducible refine jump_goto ?_
      refine fin_ret (vs := [.string acc, .int .i64 0]) hs (.tmp (hs.slots _ _ rfl) (.tmp (hs.slots _ _ rfl) .nil)) ⟨?_, hs.mem.base⟩
      rw [hF]; rfl
end Go.Proofs.YtibaidddhmdafaaDoor.E
end
section
namespace Go.Proofs.YtibaidddhmdafaaDoor.E
open Go Go.RowKit Go.Proofs.YtibaidddhmdafaaDoorW.PrintWords Go.Proofs.YtibaidddhmdafaaDoorW.PrintLast Go.Proofs.YtibaidddhmdafaaDoorW.PrintMore Go.Proofs.YtibaidddhmdafaaDoor.PA
set_option linter.unusedVariables false
set_option linter.unusedSimpArgs false
abbrev XE := S25
abbrev XT := S94
/-- How many parts an expression of its kind has; none: it may not be. -/
def exprParts (x : XE) : Option Nat :=
  if x.f0 = 1 then (if 0 ≤ x.f1 ∧ x.f1 ≤ 2147483647 ∧ x.f2.size = 0 then some 0 else none)
  else if x.f0 = 2 then (if x.f1 = 0 ∧ nameOk x.f2 = true then some 0 else none)
  else if x.f0 = 3 then (if x.f1 = 0 ∧ x.f2.size = 0 then some 1 else none)
  else if 4 ≤ x.f0 ∧ x.f0 ≤ 8 then (if x.f1 = 0 ∧ x.f2.size = 0 then some 2 else none)
  else none
theorem exprParts_le {x : XE} {p : Nat} (h : exprParts x = some p) : p ≤ 2 := by
  unfold exprParts at h
  repeat' split at h
  all_goals first | (cases h; omega) | cases h
def xexprs (f : XE → Int → Nat × Int) : List XE → Nat → Int → Nat × Int
  | [], d, left => (d + 1, left)
  | p :: ps, d, left => if (f p left).1 = 0 then (0, (f p left).2) else xexprs f ps (max d (f p left).1) (f p left).2
/-- How deep an expression is, so many levels being allowed (0: it may not be), and how many nodes are left behind it. -/
def xexpr : Nat → XE → Int → Nat × Int
  | 0, _, left => (0, left)
  | n + 1, x, left => if left - 1 < 0 then (0, left - 1) else
    match exprParts x with
    | none => (0, left - 1)
    | some p => if x.f3.length = p then xexprs (xexpr n) x.f3 0 (left - 1) else (0, left - 1)
theorem xexprs_le {f : XE → Int → Nat × Int} {k : Nat} (hf : ∀ x l, (f x l).1 ≤ k) : ∀ (ps : List XE) (d : Nat) (left : Int), d ≤ k → (xexprs f ps d left).1 ≤ k + 1
  | [], d, left, h => by rw [xexprs]; show d + 1 ≤ _; omega
  | p :: ps, d, left, h => by
    rw [xexprs]
    split
    · exact Nat.zero_le _
    · exact xexprs_le hf ps _ _ (by have := hf p left; omega)
theorem xexpr_le : ∀ (n : Nat) (x : XE) (left : Int), (xexpr n x left).1 ≤ n
  | 0, _, _ => Nat.le_refl _
  | n + 1, x, left => by
    rw [xexpr]
    split
    · exact Nat.zero_le _
    · split
      · exact Nat.zero_le _
      · split
        · exact xexprs_le (fun y l => xexpr_le n y l) _ _ _ (Nat.zero_le _)
        · exact Nat.zero_le _
/-- How far the nodes that are left may fall. -/
def falls (r : Nat × Int) (l : Int) : Prop := -1 ≤ r.2 ∧ r.2 ≤ l ∧ (r.1 ≠ 0 → 0 ≤ r.2)
theorem xexprs_left {f : XE → Int → Nat × Int} (hf : ∀ x l, 0 ≤ l → falls (f x l) l) : ∀ (ps : List XE) (d : Nat) (left : Int), 0 ≤ left → falls (xexprs f ps d left) left
  | [], d, left, h => ⟨by rw [xexprs]; show -1 ≤ left; omega, Int.le_refl _, fun _ => h⟩
  | p :: ps, d, left, h => by
    obtain ⟨a, b, c⟩ := hf p left h
    rw [xexprs]
    split
    · exact ⟨a, b, fun h => absurd rfl h⟩
    · rename_i h0
      obtain ⟨x, y, z⟩ := xexprs_left hf ps (max d (f p left).1) (f p left).2 (c h0)
      exact ⟨x, by omega, z⟩
theorem xexpr_left : ∀ (n : Nat) (x : XE) (left : Int), 0 ≤ left → falls (xexpr n x left) left
  | 0, _, left, h => ⟨by show -1 ≤ left; omega, Int.le_refl _, fun h => absurd rfl h⟩
  | n + 1, x, left, h => by
    have h0 : falls (0, left - 1) left := ⟨by show -1 ≤ left - 1; omega, by show left - 1 ≤ left; omega, fun h => absurd rfl h⟩
    rw [xexpr]
    split
    · exact h0
    · split
      · exact h0
      · split
        · obtain ⟨a, b, c⟩ := xexprs_left (fun y l h => xexpr_left n y l h) x.f3 0 (left - 1) (by omega)
          exact ⟨a, by omega, c⟩
        · exact h0
/-- The shape of an expression that may be. -/
def shapeX : Nat → XE → Prop
  | 0, _ => False
  | n + 1, x => exprParts x = some x.f3.length ∧ ∀ p ∈ x.f3, shapeX n p
theorem xexprs_all {f : XE → Int → Nat × Int} : ∀ (ps : List XE) (d : Nat) (left : Int), (xexprs f ps d left).1 ≠ 0 → ∀ p ∈ ps, ∃ l, (f p l).1 ≠ 0
  | [], _, _, _, _, hp => absurd hp (by simp)
  | q :: ps, d, left, h, p, hp => by
    rw [xexprs] at h
    split at h
    · exact absurd rfl h
    · rename_i h0
      rcases List.mem_cons.1 hp with rfl | hp
      · exact ⟨left, h0⟩
      · exact xexprs_all ps _ _ h p hp
theorem shape_of : ∀ (n : Nat) (x : XE) (left : Int), (xexpr n x left).1 ≠ 0 → shapeX n x
  | 0, _, _, h => absurd rfl h
  | n + 1, x, left, h => by
    rw [xexpr] at h
    split at h
    · exact absurd rfl h
    · split at h
      · exact absurd rfl h
      · rename_i p hp
        split at h
        · rename_i hl
          refine ⟨by rw [hp, hl], fun q hq => ?_⟩
          obtain ⟨l, hl⟩ := xexprs_all _ _ _ h q hq
          exact shape_of n q l hl
        · exact absurd rfl h
def smallX : Nat → XE → Prop
  | 0, _ => True
  | n + 1, x => x.f2.size ≤ 9223372036854775807 ∧ ∀ p ∈ x.f3, smallX n p
def tk (k : Int) (s : ByteArray) : XT := ⟨k, s, 0, 0, 0⟩
/-- The token of a text: a word, a name or a sign. -/
def sayT (s : ByteArray) : XT := if mayB (tk 2 s) = true then tk 2 s else if mayB (tk 1 s) = true then tk 1 s else tk 4 s
def opS (k : Int) : ByteArray := if k = 4 then ⟨#[43]⟩ else if k = 5 then ⟨#[45]⟩ else if k = 6 then ⟨#[42]⟩ else if k = 7 then ⟨#[47]⟩ else ⟨#[37]⟩
def part (x : XE) (i : Nat) : XE := x.f3.getD i z25
def toksX : Nat → XE → List XT
  | 0, _ => []
  | n + 1, x => if x.f0 = 1 then [⟨3, ⟨#[]⟩, x.f1, 0, 0⟩] else if x.f0 = 2 then [sayT x.f2] else if x.f0 = 3 then sayT ⟨#[45]⟩ :: toksX n (part x 0)
    else sayT ⟨#[40]⟩ :: (toksX n (part x 0) ++ sayT (opS x.f0) :: (toksX n (part x 1) ++ [sayT ⟨#[41]⟩]))
theorem toks_len : ∀ (n : Nat) (x : XE), (toksX n x).length + 3 ≤ 3 * 2 ^ n
  | 0, _ => by simp [toksX]
  | n + 1, x => by
    have h0 := toks_len n (part x 0); have h1 := toks_len n (part x 1)
    have h2 : 2 ^ (n + 1) = 2 * 2 ^ n := by rw [Nat.pow_succ]; omega
    rw [toksX, h2]
    split
    · simp only [List.length_cons, List.length_nil]; omega
    · split
      · simp only [List.length_cons, List.length_nil]; omega
      · split
        · simp only [List.length_cons]; omega
        · simp only [List.length_cons, List.length_append, List.length_nil]; omega
theorem tokC_len (x : XT) : (tokC x).length = 5 := rfl
theorem part_mem {x : XE} {i : Nat} (h : i < x.f3.length) : x.f3[i]? = some (part x i) ∧ part x i ∈ x.f3 := by
  have e : x.f3[i]? = some (part x i) := by
    unfold part
    rw [List.getD_eq_getElem?_getD, List.getElem?_eq_getElem h]; rfl
  exact ⟨e, List.mem_of_getElem? e⟩
theorem sayT_f1 (s : ByteArray) : (sayT s).f1 = s := by unfold sayT; (repeat' split) <;> rfl
theorem parts_kind {x : XE} {p : Nat} (h : exprParts x = some p) : (x.f0 = 1 ∧ p = 0 ∧ 0 ≤ x.f1 ∧ x.f1 ≤ 2147483647) ∨ (x.f0 = 2 ∧ p = 0 ∧ nameOk x.f2 = true) ∨ (x.f0 = 3 ∧ p = 1) ∨ (4 ≤ x.f0 ∧ x.f0 ≤ 8 ∧ p = 2) := by
  unfold exprParts at h
  split at h
  · split at h
    · rename_i h1 h2; cases h; exact .inl ⟨h1, rfl, h2.1, h2.2.1⟩
    · cases h
  · split at h
    · split at h
      · rename_i h1 h2; cases h; exact .inr (.inl ⟨h1, rfl, h2.2⟩)
      · cases h
    · split at h
      · split at h
        · rename_i h1 h2; cases h; exact .inr (.inr (.inl ⟨h1, rfl⟩))
        · cases h
      · split at h
        · split at h
          · rename_i h1 h2; cases h; exact .inr (.inr (.inr ⟨h1.1, h1.2, rfl⟩))
          · cases h
        · cases h
theorem nameOk_size {s : ByteArray} (h : nameOk s = true) : s.size ≤ 16 := by
  unfold nameOk at h
  simp only [Bool.and_eq_true] at h
  exact name_size h.1
theorem opS_size (k : Int) : (opS k).size = 1 := by unfold opS; repeat' split
                                                    all_goals rfl
theorem toks_size : ∀ (n : Nat) (x : XE), shapeX n x → ∀ t ∈ toksX n x, t.f1.size ≤ 9223372036854775807
  | 0, _, h, _, _ => h.elim
  | n + 1, x, h, t, ht => by
    obtain ⟨hp, hq⟩ := h
    have hk := parts_kind hp
    rw [toksX] at ht
    split at ht
    · simp only [List.mem_cons, List.not_mem_nil, or_false] at ht; subst ht; show (⟨#[]⟩ : ByteArray).size ≤ 9223372036854775807; decide
    · split at ht
      · rename_i h2
        simp only [List.mem_cons, List.not_mem_nil, or_false] at ht; subst ht
        rw [sayT_f1]
        rcases hk with h | h | h | h <;> first | (have := nameOk_size h.2.2; omega) | omega
      · split at ht
        · rename_i h3
          rcases List.mem_cons.1 ht with rfl | ht
          · rw [sayT_f1]; decide
          · exact toks_size n _ (hq _ (part_mem (by omega)).2) t ht
        · have hl : x.f3.length = 2 := by omega
          simp only [List.mem_cons, List.mem_append, List.not_mem_nil, or_false] at ht
          rcases ht with rfl | ht | rfl | ht | rfl
          · rw [sayT_f1]; decide
          · exact toks_size n _ (hq _ (part_mem (by omega)).2) t ht
          · rw [sayT_f1, opS_size]; decide
          · exact toks_size n _ (hq _ (part_mem (by omega)).2) t ht
          · rw [sayT_f1]; decide
theorem oneT (l : List XT) : ∀ u ∈ l.flatMap tokC, u.oneCell' = true := by
  intro u hu
  obtain ⟨t, _, h⟩ := List.mem_flatMap.1 hu
  simp only [tokC, List.mem_cons, List.not_mem_nil, or_false] at h
  rcases h with rfl | rfl | rfl | rfl | rfl <;> rfl
theorem tokC_K (w : World) (x : XT) : k94.K w x (tokC x) := k94_mk w x
end Go.Proofs.YtibaidddhmdafaaDoor.E
end
section
namespace Go.Proofs.YtibaidddhmdafaaDoor.E
open Go Go.RowKit Go.Proofs.YtibaidddhmdafaaDoorW.PrintWords Go.Proofs.YtibaidddhmdafaaDoorW.PrintLast Go.Proofs.YtibaidddhmdafaaDoorW.PrintMore Go.Proofs.YtibaidddhmdafaaDoor.PA
set_option linter.unusedVariables false
set_option linter.unusedSimpArgs false
set_option maxRecDepth 100000 in
theorem walk_node (g : Nat) (left : Int) (hl : 0 ≤ left ∧ left ≤ 8192) (bs : List Res) (w0 w : World) (h : H w0 (pt g #[.int .i64 (left)] 102 :: bs) w) :
    Calls Tryd.prog 74 #[.pointer (some ⟨g, 0, none⟩)] w fun e w' => e = .returned (.bool (decide (left - 1 ≥ 0))) ∧ H w0 (pt g #[.int .i64 (left - 1)] 102 :: bs) w' := by
  refine calls_enter (N := 15) (n := 14) (args := [.pointer (some ⟨g, 0, none⟩)]) Tryd.func74 rfl rfl rfl (h) (fun a hs => ?_)
  refine wp_seq ?_
  refine wp_region_lit ?_
  refine a_val hs rfl rfl rfl (y_assign hs rfl) ?_; clear hs a; intro a hs
  refine wpList_nil (then_normal ?_)
  refine wp_seq ?_
  refine wp_region_lit ?_
  refine a_val hs rfl rfl rfl (y_move hs rfl) ?_; clear hs a; intro a hs
  refine a_val hs rfl rfl rfl (y_nilchk hs rfl) ?_; clear hs a; intro a hs
  refine a_val hs rfl rfl rfl (y_faddr (k' := 0) 0 hs (by kernel_rfl) rfl rfl) ?_; clear hs a; intro a hs
  refine a_val hs rfl rfl rfl (y_load hs Tryd.underlying3 rfl rfl (fun w hw => (hw.to 0 rfl).cellV rfl)) ?_; clear hs a; intro a hs
  refine a_val hs rfl rfl rfl (y_sub hs rfl rfl (by omega)) ?_; clear hs a; intro a hs
  refine a_val hs rfl rfl rfl (y_nilchk hs rfl) ?_; clear hs a; intro a hs
  refine a_val hs rfl rfl rfl (y_faddr (k' := 0) 0 hs (by kernel_rfl) rfl rfl) ?_; clear hs a; intro a hs
  refine a_eff rfl (e_store (cl := [_]) 0 rfl hs rfl rfl (by kernel_rfl) rfl rfl rfl ?_); clear hs a; intro a w hs
  refine wpList_nil (then_normal ?_)
  refine wp_seq ?_
  refine wp_region_lit ?_
  refine a_val hs rfl rfl rfl (y_move hs rfl) ?_; clear hs a; intro a hs
  refine a_val hs rfl rfl rfl (y_nilchk hs rfl) ?_; clear hs a; intro a hs
  refine a_val hs rfl rfl rfl (y_faddr (k' := 0) 0 hs (by kernel_rfl) rfl rfl) ?_; clear hs a; intro a hs
  refine a_val hs rfl rfl rfl (y_load hs Tryd.underlying3 rfl rfl (fun w hw => (hw.to 0 rfl).cellV rfl)) ?_; clear hs a; intro a hs
  refine a_val hs rfl rfl rfl (y_cmp hs rfl rfl rfl) ?_; clear hs a; intro a hs
  refine a_val hs rfl rfl rfl (y_assign hs rfl) ?_; clear hs a; intro a hs
  refine wpList_nil (then_normal ?_)
  refine wp_ret ?_
  refine fin_ret hs (.tmp (hs.slots _ _ rfl) .nil) ⟨rfl, hs.mem⟩
theorem tnamed_ok (s : ByteArray) (hs : s.size ≤ 9223372036854775807) : tree_named.f (s.size + 3) s = some (nameOk s) := by
  unfold tree_named.f
  rw [may_name s hs]; rfl
/-- What the walk over expressions does, so many levels being allowed. -/
def WalkOk (n : Nat) : Prop := ∀ (x : XE) (A : Option Addr) (C g : Nat) (left : Int) (bs : List Res) (w0 w : World), Kd.C k25 w0 A x.f3.length x.f3 → smallX n x → 0 ≤ left ∧ left ≤ 8192 → H w0 (pt g #[.int .i64 (left)] 102 :: bs) w →
    Calls Tryd.prog 44 #[.pointer (some ⟨g, 0, none⟩), .agg #[.int .u8 x.f0, .int .i64 x.f1, .string x.f2, .slice A x.f3.length C, .int .i64 x.f4, .int .i64 x.f5], .int .i64 ((n : Nat) : Int)] w fun e w' => e = .returned (.int .i64 (((xexpr n x left).1 : Nat) : Int)) ∧ H w0 (pt g #[.int .i64 ((xexpr n x left).2)] 102 :: bs) w'
set_option maxRecDepth 100000 in
theorem walk_expr_step (n : Nat) (hn : n ≤ 1000) (ih : ∀ q, q + 1 = n → WalkOk q) (x : XE) (A : Option Addr) (C g : Nat) (left : Int) (bs : List Res) (w0 w : World) (hA : Kd.C k25 w0 A x.f3.length x.f3) (hsm : smallX n x) (hl : 0 ≤ left ∧ left ≤ 8192) (h : H w0 (pt g #[.int .i64 (left)] 102 :: bs) w) :
    Calls Tryd.prog 44 #[.pointer (some ⟨g, 0, none⟩), .agg #[.int .u8 x.f0, .int .i64 x.f1, .string x.f2, .slice A x.f3.length C, .int .i64 x.f4, .int .i64 x.f5], .int .i64 ((n : Nat) : Int)] w fun e w' => e = .returned (.int .i64 (((xexpr n x left).1 : Nat) : Int)) ∧ H w0 (pt g #[.int .i64 ((xexpr n x left).2)] 102 :: bs) w' := by
  refine calls_enter (N := 92) (n := 89) (args := [.pointer (some ⟨g, 0, none⟩), .agg #[.int .u8 x.f0, .int .i64 x.f1, .string x.f2, .slice A x.f3.length C, .int .i64 x.f4, .int .i64 x.f5], .int .i64 ((n : Nat) : Int)]) Tryd.func44 rfl rfl rfl (h) (fun a hs => ?_)
  refine wp_seq ?_
  refine wp_region_lit ?_
  refine a_eff rfl (e_box (cs := #[_, _, _, _, _, _]) hs rfl rfl rfl ?_); clear hs a; intro gx a w hs
  refine a_val hs rfl rfl rfl (y_assign hs rfl) ?_; clear hs a; intro a hs
  refine wpList_nil (then_normal ?_)
  refine wp_seq ?_
  refine wp_seq ?_
  refine wp_region_lit ?_
  refine a_val hs rfl rfl rfl (y_move hs rfl) ?_; clear hs a; intro a hs
  refine a_val hs rfl rfl rfl (y_cmp hs rfl rfl rfl) ?_; clear hs a; intro a hs
  refine a_val hs rfl rfl rfl (y_move hs rfl) ?_; clear hs a; intro a hs
  rcases hs.know (d := 14) rfl with ⟨h14, hs1⟩ | ⟨h14, hs1⟩ <;> replace hs := hs1 <;> clear hs1
  · replace h14 := eq_of_beq h14
    refine a_skip hs rfl rfl rfl ?_; clear hs a; intro a hs
    refine a_skip hs rfl rfl rfl ?_; clear hs a; intro a hs
    refine a_skip hs rfl rfl rfl ?_; clear hs a; intro a hs
    refine a_val hs rfl rfl rfl (y_pickT hs rfl rfl rfl) ?_; clear hs a; intro a hs
    refine wpList_nil (then_normal ?_)
    refine wp_cond_true (hs.ev rfl) ?_
    refine wp_seq ?_
    refine wp_region_lit ?_
    refine a_val hs rfl rfl rfl (y_assign hs rfl) ?_; clear hs a; intro a hs
    refine wpList_nil (then_normal ?_)
    refine wp_ret (then_ret ?_)
    obtain rfl : n = 0 := by omega
    have hX : xexpr 0 x left = (0, left) := rfl
    refine fin_ret hs (.tmp (hs.slots _ _ rfl) .nil) ⟨?_, ?_⟩
    · rw [hX]; rfl
    · rw [hX]; exact (hs.mem.to 0 rfl).drop
  · replace h14 := ne_of_beq_false h14
    obtain ⟨q, rfl⟩ : ∃ q, n = q + 1 := ⟨n - 1, by omega⟩
    refine a_valG hs rfl rfl rfl (y_move hs rfl) ?_; clear hs a; intro a hs
    refine a_effG hs rfl (e_callX Tryd.func74 rfl rfl hs rfl rfl (walk_node g left hl _ w0 _ (hs.mem.to 1 rfl)) (fun e w1 ⟨he, hm⟩ => ⟨_, he, _, hm, ?_⟩)); clear hs a; intro a hs
    refine a_valG hs rfl rfl rfl (y_not hs rfl) ?_; clear hs a; intro a hs
    refine a_val hs rfl rfl rfl (y_pickF hs rfl rfl rfl) ?_; clear hs a; intro a hs
    refine wpList_nil (then_normal ?_)
    refine wp_cond_split (hs.ev rfl) (fun h18 => ?_) (fun h18 => ?_)
    · replace h18 := of_decide_eq_false (not_t h18)
      refine wp_seq ?_
      refine wp_region_lit ?_
      refine a_val hs rfl rfl rfl (y_assign hs rfl) ?_; clear hs a; intro a hs
      refine wpList_nil (then_normal ?_)
      refine wp_ret (then_ret ?_)
      have hX : xexpr (q + 1) x left = (0, left - 1) := by rw [xexpr, if_pos (by omega)]
      refine fin_ret hs (.tmp (hs.slots _ _ rfl) .nil) ⟨?_, ?_⟩
      · rw [hX]; rfl
      · rw [hX]; exact (hs.mem.to 1 rfl).drop
    · replace h18 := of_decide_eq_true (not_f h18)
      refine wp_skip (then_normal ?_)
      refine wp_seq ?_
      refine wp_region_lit ?_
      refine a_val hs rfl rfl rfl (y_assign hs rfl) ?_; clear hs a; intro a hs
      refine wpList_nil (then_normal ?_)
      refine wp_seq_cut (fun a w1 => ∃ (p : Nat), (exprParts x = some p) ∧ St 92 w0 [(0, .pointer (some ⟨g, 0, none⟩)), (2, .int .i64 ((q + 1 : Nat) : Int)), (4, .pointer (some ⟨gx, 0, none⟩)), (7, .int .i64 ((p : Nat) : Int))] (pt gx #[.int .u8 x.f0, .int .i64 x.f1, .string x.f2, .slice A x.f3.length C, .int .i64 x.f4, .int .i64 x.f5] 25 :: pt g #[.int .i64 (left - 1)] 102 :: bs) a w1) ?_ (fun a w1 hJ => ?_)
      · refine wp_seq ?_
        refine wp_region_lit ?_
        refine a_val hs rfl rfl rfl (y_faddr (k' := 0) 0 hs (by kernel_rfl) rfl rfl) ?_; clear hs a; intro a hs
        refine a_val hs rfl rfl rfl (y_load hs Tryd.underlying22 rfl rfl (fun w hw => (hw.to 1 rfl).cellV rfl)) ?_; clear hs a; intro a hs
        refine wpList_nil (then_normal ?_)
        refine wp_block ?_
        refine wp_seq ?_
        refine wp_block ?_
        refine wp_seq ?_
        refine wp_block ?_
        refine wp_seq ?_
        refine wp_block ?_
        refine wp_seq ?_
        refine wp_block ?_
        refine wp_seq ?_
        refine wp_block ?_
        refine wp_seq ?_
        refine wp_seq ?_
        refine wp_seq ?_
        refine wp_region_lit ?_
        refine a_val hs rfl rfl rfl (y_cmp hs rfl rfl rfl) ?_; clear hs a; intro a hs
        refine a_val hs rfl rfl rfl (y_assign hs rfl) ?_; clear hs a; intro a hs
        refine wpList_nil (then_normal ?_)
        refine wp_cond_split (hs.ev rfl) (fun h21 => ?_) (fun h21 => ?_)
        · replace h21 := eq_of_beq h21
          refine wp_exit (then_exit (then_exit (in_here (then_normal ?_))))
          refine wp_seq ?_
          refine wp_seq ?_
          refine wp_region_lit ?_
          refine a_val hs rfl rfl rfl (y_faddr (k' := 1) 1 hs (by kernel_rfl) rfl rfl) ?_; clear hs a; intro a hs
          refine a_val hs rfl rfl rfl (y_load hs Tryd.underlying3 rfl rfl (fun w hw => (hw.to 1 rfl).cellV rfl)) ?_; clear hs a; intro a hs
          refine a_val hs rfl rfl rfl (y_cmp hs rfl rfl rfl) ?_; clear hs a; intro a hs
          refine a_val hs rfl rfl rfl (y_move hs rfl) ?_; clear hs a; intro a hs
          rcases hs.know (d := 36) rfl with ⟨h36, hs1⟩ | ⟨h36, hs1⟩ <;> replace hs := hs1 <;> clear hs1
          · replace h36 := of_decide_eq_true h36
            refine a_skip hs rfl rfl rfl ?_; clear hs a; intro a hs
            refine a_skip hs rfl rfl rfl ?_; clear hs a; intro a hs
            refine a_skip hs rfl rfl rfl ?_; clear hs a; intro a hs
            refine a_val hs rfl rfl rfl (y_pickT hs rfl rfl rfl) ?_; clear hs a; intro a hs
            refine a_val hs rfl rfl rfl (y_move hs rfl) ?_; clear hs a; intro a hs
            refine a_skip hs rfl rfl rfl ?_; clear hs a; intro a hs
            refine a_skip hs rfl rfl rfl ?_; clear hs a; intro a hs
            refine a_skip hs rfl rfl rfl ?_; clear hs a; intro a hs
            refine a_val hs rfl rfl rfl (y_pickT hs rfl rfl rfl) ?_; clear hs a; intro a hs
            refine wpList_nil (then_normal ?_)
            refine wp_cond_true (hs.ev rfl) ?_
            refine wp_seq ?_
            refine wp_region_lit ?_
            refine a_val hs rfl rfl rfl (y_assign hs rfl) ?_; clear hs a; intro a hs
            refine wpList_nil (then_normal ?_)
            refine wp_ret (then_ret (in_ret (then_ret (in_ret (then_ret (in_ret (then_ret (in_ret (then_ret (in_ret (then_ret ?_)))))))))))
            have hE : exprParts x = none := by
              clear hs
              unfold exprParts
              repeat' split
              all_goals first | rfl | (exfalso; omega) | (rename_i hc; exfalso; omega) | (rename_i hc; exact absurd hc.2 (by assumption)) | (rename_i hc; rw [hc.2] at h54; cases h54)
            have hX : xexpr (q + 1) x left = (0, left - 1) := by rw [xexpr, if_neg (by omega), hE]
            refine fin_ret hs (.tmp (hs.slots _ _ rfl) .nil) ⟨?_, ?_⟩
            · rw [hX]; rfl
            · rw [hX]; exact (hs.mem.to 1 rfl).drop
          · replace h36 := of_decide_eq_false h36
            refine a_valG hs rfl rfl rfl (y_faddr (k' := 1) 1 hs (by kernel_rfl) rfl rfl) ?_; clear hs a; intro a hs
            refine a_valG hs rfl rfl rfl (y_load hs Tryd.underlying3 rfl rfl (fun w hw => (hw.to 1 rfl).cellV rfl)) ?_; clear hs a; intro a hs
            refine a_valG hs rfl rfl rfl (y_cmp hs rfl rfl rfl) ?_; clear hs a; intro a hs
            refine a_val hs rfl rfl rfl (y_pickF hs rfl rfl rfl) ?_; clear hs a; intro a hs
            refine a_val hs rfl rfl rfl (y_move hs rfl) ?_; clear hs a; intro a hs
            rcases hs.know (d := 41) rfl with ⟨h41, hs1⟩ | ⟨h41, hs1⟩ <;> replace hs := hs1 <;> clear hs1
            · replace h41 := of_decide_eq_true h41
              refine a_skip hs rfl rfl rfl ?_; clear hs a; intro a hs
              refine a_skip hs rfl rfl rfl ?_; clear hs a; intro a hs
              refine a_skip hs rfl rfl rfl ?_; clear hs a; intro a hs
              refine a_val hs rfl rfl rfl (y_pickT hs rfl rfl rfl) ?_; clear hs a; intro a hs
              refine wpList_nil (then_normal ?_)
              refine wp_cond_true (hs.ev rfl) ?_
              refine wp_seq ?_
              refine wp_region_lit ?_
              refine a_val hs rfl rfl rfl (y_assign hs rfl) ?_; clear hs a; intro a hs
              refine wpList_nil (then_normal ?_)
              refine wp_ret (then_ret (in_ret (then_ret (in_ret (then_ret (in_ret (then_ret (in_ret (then_ret (in_ret (then_ret ?_)))))))))))
              have hE : exprParts x = none := by
                clear hs
                unfold exprParts
                repeat' split
                all_goals first | rfl | (exfalso; omega) | (rename_i hc; exfalso; omega) | (rename_i hc; exact absurd hc.2 (by assumption)) | (rename_i hc; rw [hc.2] at h54; cases h54)
              have hX : xexpr (q + 1) x left = (0, left - 1) := by rw [xexpr, if_neg (by omega), hE]
              refine fin_ret hs (.tmp (hs.slots _ _ rfl) .nil) ⟨?_, ?_⟩
              · rw [hX]; rfl
              · rw [hX]; exact (hs.mem.to 1 rfl).drop
            · replace h41 := of_decide_eq_false h41
              refine a_valG hs rfl rfl rfl (y_faddr (k' := 2) 2 hs (by kernel_rfl) rfl rfl) ?_; clear hs a; intro a hs
              refine a_valG hs rfl rfl rfl (y_load hs Tryd.underlying9 rfl rfl (fun w hw => (hw.to 1 rfl).cellV rfl)) ?_; clear hs a; intro a hs
              refine a_valG hs rfl rfl rfl (y_sneE hs rfl rfl) ?_; clear hs a; intro a hs
              refine a_val hs rfl rfl rfl (y_pickF hs rfl rfl rfl) ?_; clear hs a; intro a hs
              refine wpList_nil (then_normal ?_)
              refine wp_cond_split (hs.ev rfl) (fun h45 => ?_) (fun h45 => ?_)
              · replace h45 := of_decide_eq_true h45
                refine wp_seq ?_
                refine wp_region_lit ?_
                refine a_val hs rfl rfl rfl (y_assign hs rfl) ?_; clear hs a; intro a hs
                refine wpList_nil (then_normal ?_)
                refine wp_ret (then_ret (in_ret (then_ret (in_ret (then_ret (in_ret (then_ret (in_ret (then_ret (in_ret (then_ret ?_)))))))))))
                have hE : exprParts x = none := by
                  clear hs
                  unfold exprParts
                  repeat' split
                  all_goals first | rfl | (exfalso; omega) | (rename_i hc; exfalso; omega) | (rename_i hc; exact absurd hc.2 (by assumption)) | (rename_i hc; rw [hc.2] at h54; cases h54)
                have hX : xexpr (q + 1) x left = (0, left - 1) := by rw [xexpr, if_neg (by omega), hE]
                refine fin_ret hs (.tmp (hs.slots _ _ rfl) .nil) ⟨?_, ?_⟩
                · rw [hX]; rfl
                · rw [hX]; exact (hs.mem.to 1 rfl).drop
              · replace h45 := of_decide_eq_false h45
                refine wp_skip (then_normal ?_)
                refine wp_exit (in_other rfl (then_exit (in_other rfl (then_exit (in_other rfl (then_exit (in_other rfl (then_exit (in_here (then_normal ?_))))))))))
                refine ⟨0, by clear hs; unfold exprParts; (repeat' split) <;> first | rfl | (exfalso; omega) | (rename_i hc; exfalso; omega) | (rename_i hc; exact absurd ⟨by omega, by assumption⟩ hc), ?_⟩
                exact (hs.mem_to (hs.mem.to 1 rfl)).cut _ ⟨rfl, rfl, rfl, rfl, trivial⟩
        · replace h21 := ne_of_beq_false h21
          refine wp_skip (then_normal ?_)
          refine wp_seq ?_
          refine wp_seq ?_
          refine wp_region_lit ?_
          refine a_val hs rfl rfl rfl (y_cmp hs rfl rfl rfl) ?_; clear hs a; intro a hs
          refine a_val hs rfl rfl rfl (y_assign hs rfl) ?_; clear hs a; intro a hs
          refine wpList_nil (then_normal ?_)
          refine wp_cond_split (hs.ev rfl) (fun h23 => ?_) (fun h23 => ?_)
          · replace h23 := eq_of_beq h23
            refine wp_exit (then_exit (then_exit (in_other rfl (then_exit (in_here (then_normal ?_))))))
            refine wp_seq ?_
            refine wp_seq ?_
            refine wp_region_lit ?_
            refine a_val hs rfl rfl rfl (y_faddr (k' := 1) 1 hs (by kernel_rfl) rfl rfl) ?_; clear hs a; intro a hs
            refine a_val hs rfl rfl rfl (y_load hs Tryd.underlying3 rfl rfl (fun w hw => (hw.to 1 rfl).cellV rfl)) ?_; clear hs a; intro a hs
            refine a_val hs rfl rfl rfl (y_cmp hs rfl rfl rfl) ?_; clear hs a; intro a hs
            refine a_val hs rfl rfl rfl (y_move hs rfl) ?_; clear hs a; intro a hs
            rcases hs.know (d := 49) rfl with ⟨h49, hs1⟩ | ⟨h49, hs1⟩ <;> replace hs := hs1 <;> clear hs1
            · replace h49 := bne_iff_ne.1 h49
              refine a_skip hs rfl rfl rfl ?_; clear hs a; intro a hs
              refine a_skip hs rfl rfl rfl ?_; clear hs a; intro a hs
              refine a_skip hs rfl rfl rfl ?_; clear hs a; intro a hs
              refine a_skip hs rfl rfl rfl ?_; clear hs a; intro a hs
              refine a_val hs rfl rfl rfl (y_pickT hs rfl rfl rfl) ?_; clear hs a; intro a hs
              refine wpList_nil (then_normal ?_)
              refine wp_cond_true (hs.ev rfl) ?_
              refine wp_seq ?_
              refine wp_region_lit ?_
              refine a_val hs rfl rfl rfl (y_assign hs rfl) ?_; clear hs a; intro a hs
              refine wpList_nil (then_normal ?_)
              refine wp_ret (then_ret (in_ret (then_ret (in_ret (then_ret (in_ret (then_ret (in_ret (then_ret ?_)))))))))
              have hE : exprParts x = none := by
                clear hs
                unfold exprParts
                repeat' split
                all_goals first | rfl | (exfalso; omega) | (rename_i hc; exfalso; omega) | (rename_i hc; exact absurd hc.2 (by assumption)) | (rename_i hc; rw [hc.2] at h54; cases h54)
              have hX : xexpr (q + 1) x left = (0, left - 1) := by rw [xexpr, if_neg (by omega), hE]
              refine fin_ret hs (.tmp (hs.slots _ _ rfl) .nil) ⟨?_, ?_⟩
              · rw [hX]; rfl
              · rw [hX]; exact (hs.mem.to 1 rfl).drop
            · replace h49 := bne_eq_false_iff_eq.1 h49
              refine a_valG hs rfl rfl rfl (y_faddr (k' := 2) 2 hs (by kernel_rfl) rfl rfl) ?_; clear hs a; intro a hs
              refine a_valG hs rfl rfl rfl (y_load hs Tryd.underlying9 rfl rfl (fun w hw => (hw.to 1 rfl).cellV rfl)) ?_; clear hs a; intro a hs
              refine a_effG hs rfl (e_callB Tryd.func75 rfl rfl hs rfl rfl (tree_named.calls _ x.f2 (nameOk x.f2) _ (tnamed_ok x.f2 hsm.1)) ?_); clear hs a; intro a w hs
              refine a_valG hs rfl rfl rfl (y_not hs rfl) ?_; clear hs a; intro a hs
              refine a_val hs rfl rfl rfl (y_pickF hs rfl rfl rfl) ?_; clear hs a; intro a hs
              refine wpList_nil (then_normal ?_)
              refine wp_cond_split (hs.ev rfl) (fun h54 => ?_) (fun h54 => ?_)
              · replace h54 := (not_t h54)
                refine wp_seq ?_
                refine wp_region_lit ?_
                refine a_val hs rfl rfl rfl (y_assign hs rfl) ?_; clear hs a; intro a hs
                refine wpList_nil (then_normal ?_)
                refine wp_ret (then_ret (in_ret (then_ret (in_ret (then_ret (in_ret (then_ret (in_ret (then_ret ?_)))))))))
                have hE : exprParts x = none := by
                  clear hs
                  unfold exprParts
                  repeat' split
                  all_goals first | rfl | (exfalso; omega) | (rename_i hc; exfalso; omega) | (rename_i hc; exact absurd hc.2 (by assumption)) | (rename_i hc; rw [hc.2] at h54; cases h54)
                have hX : xexpr (q + 1) x left = (0, left - 1) := by rw [xexpr, if_neg (by omega), hE]
                refine fin_ret hs (.tmp (hs.slots _ _ rfl) .nil) ⟨?_, ?_⟩
                · rw [hX]; rfl
                · rw [hX]; exact (hs.mem.to 1 rfl).drop
              · replace h54 := (not_f h54)
                refine wp_skip (then_normal ?_)
                refine wp_exit (in_other rfl (then_exit (in_other rfl (then_exit (in_other rfl (then_exit (in_here (then_normal ?_))))))))
                refine ⟨0, by clear hs; unfold exprParts; (repeat' split) <;> first | rfl | (exfalso; omega) | (rename_i hc; exfalso; omega) | (rename_i hc; exact absurd ⟨by omega, by assumption⟩ hc), ?_⟩
                exact (hs.mem_to (hs.mem.to 1 rfl)).cut _ ⟨rfl, rfl, rfl, rfl, trivial⟩
          · replace h23 := ne_of_beq_false h23
            refine wp_skip (then_normal ?_)
            refine wp_seq ?_
            refine wp_seq ?_
            refine wp_seq ?_
            refine wp_region_lit ?_
            refine a_val hs rfl rfl rfl (y_cmp hs rfl rfl rfl) ?_; clear hs a; intro a hs
            refine a_val hs rfl rfl rfl (y_assign hs rfl) ?_; clear hs a; intro a hs
            refine wpList_nil (then_normal ?_)
            refine wp_cond_split (hs.ev rfl) (fun h25 => ?_) (fun h25 => ?_)
            · replace h25 := eq_of_beq h25
              replace hs := hs.say 25 rfl (congrArg Value.bool (beq_iff_eq.2 h25))
              refine wp_skip (then_normal ?_)
              refine wp_cond_true (hs.ev rfl) ?_
              refine wp_exit (then_exit (then_exit (in_other rfl (then_exit (in_other rfl (then_exit (in_here (then_normal ?_))))))))
              refine wp_region_lit ?_
              refine a_val hs rfl rfl rfl (y_move hs rfl) ?_; clear hs a; intro a hs
              refine a_val hs rfl rfl rfl (y_add hs rfl rfl (by omega)) ?_; clear hs a; intro a hs
              refine a_val hs rfl rfl rfl (y_assign hs rfl) ?_; clear hs a; intro a hs
              refine wpList_nil (in_normal (then_normal ?_))
              refine wp_seq ?_
              refine wp_seq ?_
              refine wp_region_lit ?_
              refine a_val hs rfl rfl rfl (y_move hs rfl) ?_; clear hs a; intro a hs
              refine a_val hs rfl rfl rfl (y_add hs rfl rfl (by omega)) ?_; clear hs a; intro a hs
              refine a_val hs rfl rfl rfl (y_assign hs rfl) ?_; clear hs a; intro a hs
              refine wpList_nil (then_normal ?_)
              refine wp_seq ?_
              refine wp_region_lit ?_
              refine a_val hs rfl rfl rfl (y_faddr (k' := 1) 1 hs (by kernel_rfl) rfl rfl) ?_; clear hs a; intro a hs
              refine a_val hs rfl rfl rfl (y_load hs Tryd.underlying3 rfl rfl (fun w hw => (hw.to 1 rfl).cellV rfl)) ?_; clear hs a; intro a hs
              refine a_val hs rfl rfl rfl (y_cmp hs rfl rfl rfl) ?_; clear hs a; intro a hs
              refine a_val hs rfl rfl rfl (y_move hs rfl) ?_; clear hs a; intro a hs
              rcases hs.know (d := 62) rfl with ⟨h62, hs1⟩ | ⟨h62, hs1⟩ <;> replace hs := hs1 <;> clear hs1
              · replace h62 := bne_iff_ne.1 h62
                refine a_skip hs rfl rfl rfl ?_; clear hs a; intro a hs
                refine a_skip hs rfl rfl rfl ?_; clear hs a; intro a hs
                refine a_skip hs rfl rfl rfl ?_; clear hs a; intro a hs
                refine a_val hs rfl rfl rfl (y_pickT hs rfl rfl rfl) ?_; clear hs a; intro a hs
                refine wpList_nil (then_normal ?_)
                refine wp_cond_true (hs.ev rfl) ?_
                refine wp_seq ?_
                refine wp_region_lit ?_
                refine a_val hs rfl rfl rfl (y_assign hs rfl) ?_; clear hs a; intro a hs
                refine wpList_nil (then_normal ?_)
                refine wp_ret (then_ret (in_ret (then_ret (in_ret (then_ret ?_)))))
                have hE : exprParts x = none := by
                  clear hs
                  unfold exprParts
                  repeat' split
                  all_goals first | rfl | (exfalso; omega) | (rename_i hc; exfalso; omega) | (rename_i hc; exact absurd hc.2 (by assumption)) | (rename_i hc; rw [hc.2] at h54; cases h54)
                have hX : xexpr (q + 1) x left = (0, left - 1) := by rw [xexpr, if_neg (by omega), hE]
                refine fin_ret hs (.tmp (hs.slots _ _ rfl) .nil) ⟨?_, ?_⟩
                · rw [hX]; rfl
                · rw [hX]; exact (hs.mem.to 1 rfl).drop
              · replace h62 := bne_eq_false_iff_eq.1 h62
                refine a_valG hs rfl rfl rfl (y_faddr (k' := 2) 2 hs (by kernel_rfl) rfl rfl) ?_; clear hs a; intro a hs
                refine a_valG hs rfl rfl rfl (y_load hs Tryd.underlying9 rfl rfl (fun w hw => (hw.to 1 rfl).cellV rfl)) ?_; clear hs a; intro a hs
                refine a_valG hs rfl rfl rfl (y_sneE hs rfl rfl) ?_; clear hs a; intro a hs
                refine a_val hs rfl rfl rfl (y_pickF hs rfl rfl rfl) ?_; clear hs a; intro a hs
                refine wpList_nil (then_normal ?_)
                refine wp_cond_split (hs.ev rfl) (fun h66 => ?_) (fun h66 => ?_)
                · replace h66 := of_decide_eq_true h66
                  refine wp_seq ?_
                  refine wp_region_lit ?_
                  refine a_val hs rfl rfl rfl (y_assign hs rfl) ?_; clear hs a; intro a hs
                  refine wpList_nil (then_normal ?_)
                  refine wp_ret (then_ret (in_ret (then_ret (in_ret (then_ret ?_)))))
                  have hE : exprParts x = none := by
                    clear hs
                    unfold exprParts
                    repeat' split
                    all_goals first | rfl | (exfalso; omega) | (rename_i hc; exfalso; omega) | (rename_i hc; exact absurd hc.2 (by assumption)) | (rename_i hc; rw [hc.2] at h54; cases h54)
                  have hX : xexpr (q + 1) x left = (0, left - 1) := by rw [xexpr, if_neg (by omega), hE]
                  refine fin_ret hs (.tmp (hs.slots _ _ rfl) .nil) ⟨?_, ?_⟩
                  · rw [hX]; rfl
                  · rw [hX]; exact (hs.mem.to 1 rfl).drop
                · replace h66 := of_decide_eq_false h66
                  refine wp_skip (then_normal ?_)
                  refine wp_exit (in_other rfl (then_exit (in_here (then_normal ?_))))
                  refine ⟨2, by clear hs; unfold exprParts; (repeat' split) <;> first | rfl | (exfalso; omega) | (rename_i hc; exfalso; omega) | (rename_i hc; exact absurd ⟨by omega, by assumption⟩ hc), ?_⟩
                  exact (hs.mem_to (hs.mem.to 1 rfl)).cut _ ⟨rfl, rfl, rfl, rfl, trivial⟩
            · replace h25 := ne_of_beq_false h25
              replace hs := hs.say 25 rfl (congrArg Value.bool (beq_eq_false_iff_ne.2 h25))
              refine wp_seq ?_
              refine wp_region_lit ?_
              refine a_val hs rfl rfl rfl (y_cmp hs rfl rfl rfl) ?_; clear hs a; intro a hs
              refine a_val hs rfl rfl rfl (y_assign hs rfl) ?_; clear hs a; intro a hs
              refine wpList_nil (then_normal ?_)
              refine wp_cond_split (hs.ev rfl) (fun h25 => ?_) (fun h25 => ?_)
              · replace h25 := eq_of_beq h25
                replace hs := hs.say 25 rfl (congrArg Value.bool (beq_iff_eq.2 h25))
                refine wp_skip (then_normal ?_)
                refine wp_cond_true (hs.ev rfl) ?_
                refine wp_exit (then_exit (then_exit (in_other rfl (then_exit (in_other rfl (then_exit (in_here (then_normal ?_))))))))
                refine wp_region_lit ?_
                refine a_val hs rfl rfl rfl (y_move hs rfl) ?_; clear hs a; intro a hs
                refine a_val hs rfl rfl rfl (y_add hs rfl rfl (by omega)) ?_; clear hs a; intro a hs
                refine a_val hs rfl rfl rfl (y_assign hs rfl) ?_; clear hs a; intro a hs
                refine wpList_nil (in_normal (then_normal ?_))
                refine wp_seq ?_
                refine wp_seq ?_
                refine wp_region_lit ?_
                refine a_val hs rfl rfl rfl (y_move hs rfl) ?_; clear hs a; intro a hs
                refine a_val hs rfl rfl rfl (y_add hs rfl rfl (by omega)) ?_; clear hs a; intro a hs
                refine a_val hs rfl rfl rfl (y_assign hs rfl) ?_; clear hs a; intro a hs
                refine wpList_nil (then_normal ?_)
                refine wp_seq ?_
                refine wp_region_lit ?_
                refine a_val hs rfl rfl rfl (y_faddr (k' := 1) 1 hs (by kernel_rfl) rfl rfl) ?_; clear hs a; intro a hs
                refine a_val hs rfl rfl rfl (y_load hs Tryd.underlying3 rfl rfl (fun w hw => (hw.to 1 rfl).cellV rfl)) ?_; clear hs a; intro a hs
                refine a_val hs rfl rfl rfl (y_cmp hs rfl rfl rfl) ?_; clear hs a; intro a hs
                refine a_val hs rfl rfl rfl (y_move hs rfl) ?_; clear hs a; intro a hs
                rcases hs.know (d := 62) rfl with ⟨h62, hs1⟩ | ⟨h62, hs1⟩ <;> replace hs := hs1 <;> clear hs1
                · replace h62 := bne_iff_ne.1 h62
                  refine a_skip hs rfl rfl rfl ?_; clear hs a; intro a hs
                  refine a_skip hs rfl rfl rfl ?_; clear hs a; intro a hs
                  refine a_skip hs rfl rfl rfl ?_; clear hs a; intro a hs
                  refine a_val hs rfl rfl rfl (y_pickT hs rfl rfl rfl) ?_; clear hs a; intro a hs
                  refine wpList_nil (then_normal ?_)
                  refine wp_cond_true (hs.ev rfl) ?_
                  refine wp_seq ?_
                  refine wp_region_lit ?_
                  refine a_val hs rfl rfl rfl (y_assign hs rfl) ?_; clear hs a; intro a hs
                  refine wpList_nil (then_normal ?_)
                  refine wp_ret (then_ret (in_ret (then_ret (in_ret (then_ret ?_)))))
                  have hE : exprParts x = none := by
                    clear hs
                    unfold exprParts
                    repeat' split
                    all_goals first | rfl | (exfalso; omega) | (rename_i hc; exfalso; omega) | (rename_i hc; exact absurd hc.2 (by assumption)) | (rename_i hc; rw [hc.2] at h54; cases h54)
                  have hX : xexpr (q + 1) x left = (0, left - 1) := by rw [xexpr, if_neg (by omega), hE]
                  refine fin_ret hs (.tmp (hs.slots _ _ rfl) .nil) ⟨?_, ?_⟩
                  · rw [hX]; rfl
                  · rw [hX]; exact (hs.mem.to 1 rfl).drop
                · replace h62 := bne_eq_false_iff_eq.1 h62
                  refine a_valG hs rfl rfl rfl (y_faddr (k' := 2) 2 hs (by kernel_rfl) rfl rfl) ?_; clear hs a; intro a hs
                  refine a_valG hs rfl rfl rfl (y_load hs Tryd.underlying9 rfl rfl (fun w hw => (hw.to 1 rfl).cellV rfl)) ?_; clear hs a; intro a hs
                  refine a_valG hs rfl rfl rfl (y_sneE hs rfl rfl) ?_; clear hs a; intro a hs
                  refine a_val hs rfl rfl rfl (y_pickF hs rfl rfl rfl) ?_; clear hs a; intro a hs
                  refine wpList_nil (then_normal ?_)
                  refine wp_cond_split (hs.ev rfl) (fun h66 => ?_) (fun h66 => ?_)
                  · replace h66 := of_decide_eq_true h66
                    refine wp_seq ?_
                    refine wp_region_lit ?_
                    refine a_val hs rfl rfl rfl (y_assign hs rfl) ?_; clear hs a; intro a hs
                    refine wpList_nil (then_normal ?_)
                    refine wp_ret (then_ret (in_ret (then_ret (in_ret (then_ret ?_)))))
                    have hE : exprParts x = none := by
                      clear hs
                      unfold exprParts
                      repeat' split
                      all_goals first | rfl | (exfalso; omega) | (rename_i hc; exfalso; omega) | (rename_i hc; exact absurd hc.2 (by assumption)) | (rename_i hc; rw [hc.2] at h54; cases h54)
                    have hX : xexpr (q + 1) x left = (0, left - 1) := by rw [xexpr, if_neg (by omega), hE]
                    refine fin_ret hs (.tmp (hs.slots _ _ rfl) .nil) ⟨?_, ?_⟩
                    · rw [hX]; rfl
                    · rw [hX]; exact (hs.mem.to 1 rfl).drop
                  · replace h66 := of_decide_eq_false h66
                    refine wp_skip (then_normal ?_)
                    refine wp_exit (in_other rfl (then_exit (in_here (then_normal ?_))))
                    refine ⟨2, by clear hs; unfold exprParts; (repeat' split) <;> first | rfl | (exfalso; omega) | (rename_i hc; exfalso; omega) | (rename_i hc; exact absurd ⟨by omega, by assumption⟩ hc), ?_⟩
                    exact (hs.mem_to (hs.mem.to 1 rfl)).cut _ ⟨rfl, rfl, rfl, rfl, trivial⟩
              · replace h25 := ne_of_beq_false h25
                replace hs := hs.say 25 rfl (congrArg Value.bool (beq_eq_false_iff_ne.2 h25))
                refine wp_seq ?_
                refine wp_region_lit ?_
                refine a_val hs rfl rfl rfl (y_cmp hs rfl rfl rfl) ?_; clear hs a; intro a hs
                refine a_val hs rfl rfl rfl (y_assign hs rfl) ?_; clear hs a; intro a hs
                refine wpList_nil (then_normal ?_)
                refine wp_cond_split (hs.ev rfl) (fun h25 => ?_) (fun h25 => ?_)
                · replace h25 := eq_of_beq h25
                  replace hs := hs.say 25 rfl (congrArg Value.bool (beq_iff_eq.2 h25))
                  refine wp_skip (then_normal ?_)
                  refine wp_cond_true (hs.ev rfl) ?_
                  refine wp_exit (then_exit (then_exit (in_other rfl (then_exit (in_other rfl (then_exit (in_here (then_normal ?_))))))))
                  refine wp_region_lit ?_
                  refine a_val hs rfl rfl rfl (y_move hs rfl) ?_; clear hs a; intro a hs
                  refine a_val hs rfl rfl rfl (y_add hs rfl rfl (by omega)) ?_; clear hs a; intro a hs
                  refine a_val hs rfl rfl rfl (y_assign hs rfl) ?_; clear hs a; intro a hs
                  refine wpList_nil (in_normal (then_normal ?_))
                  refine wp_seq ?_
                  refine wp_seq ?_
                  refine wp_region_lit ?_
                  refine a_val hs rfl rfl rfl (y_move hs rfl) ?_; clear hs a; intro a hs
                  refine a_val hs rfl rfl rfl (y_add hs rfl rfl (by omega)) ?_; clear hs a; intro a hs
                  refine a_val hs rfl rfl rfl (y_assign hs rfl) ?_; clear hs a; intro a hs
                  refine wpList_nil (then_normal ?_)
                  refine wp_seq ?_
                  refine wp_region_lit ?_
                  refine a_val hs rfl rfl rfl (y_faddr (k' := 1) 1 hs (by kernel_rfl) rfl rfl) ?_; clear hs a; intro a hs
                  refine a_val hs rfl rfl rfl (y_load hs Tryd.underlying3 rfl rfl (fun w hw => (hw.to 1 rfl).cellV rfl)) ?_; clear hs a; intro a hs
                  refine a_val hs rfl rfl rfl (y_cmp hs rfl rfl rfl) ?_; clear hs a; intro a hs
                  refine a_val hs rfl rfl rfl (y_move hs rfl) ?_; clear hs a; intro a hs
                  rcases hs.know (d := 62) rfl with ⟨h62, hs1⟩ | ⟨h62, hs1⟩ <;> replace hs := hs1 <;> clear hs1
                  · replace h62 := bne_iff_ne.1 h62
                    refine a_skip hs rfl rfl rfl ?_; clear hs a; intro a hs
                    refine a_skip hs rfl rfl rfl ?_; clear hs a; intro a hs
                    refine a_skip hs rfl rfl rfl ?_; clear hs a; intro a hs
                    refine a_val hs rfl rfl rfl (y_pickT hs rfl rfl rfl) ?_; clear hs a; intro a hs
                    refine wpList_nil (then_normal ?_)
                    refine wp_cond_true (hs.ev rfl) ?_
                    refine wp_seq ?_
                    refine wp_region_lit ?_
                    refine a_val hs rfl rfl rfl (y_assign hs rfl) ?_; clear hs a; intro a hs
                    refine wpList_nil (then_normal ?_)
                    refine wp_ret (then_ret (in_ret (then_ret (in_ret (then_ret ?_)))))
                    have hE : exprParts x = none := by
                      clear hs
                      unfold exprParts
                      repeat' split
                      all_goals first | rfl | (exfalso; omega) | (rename_i hc; exfalso; omega) | (rename_i hc; exact absurd hc.2 (by assumption)) | (rename_i hc; rw [hc.2] at h54; cases h54)
                    have hX : xexpr (q + 1) x left = (0, left - 1) := by rw [xexpr, if_neg (by omega), hE]
                    refine fin_ret hs (.tmp (hs.slots _ _ rfl) .nil) ⟨?_, ?_⟩
                    · rw [hX]; rfl
                    · rw [hX]; exact (hs.mem.to 1 rfl).drop
                  · replace h62 := bne_eq_false_iff_eq.1 h62
                    refine a_valG hs rfl rfl rfl (y_faddr (k' := 2) 2 hs (by kernel_rfl) rfl rfl) ?_; clear hs a; intro a hs
                    refine a_valG hs rfl rfl rfl (y_load hs Tryd.underlying9 rfl rfl (fun w hw => (hw.to 1 rfl).cellV rfl)) ?_; clear hs a; intro a hs
                    refine a_valG hs rfl rfl rfl (y_sneE hs rfl rfl) ?_; clear hs a; intro a hs
                    refine a_val hs rfl rfl rfl (y_pickF hs rfl rfl rfl) ?_; clear hs a; intro a hs
                    refine wpList_nil (then_normal ?_)
                    refine wp_cond_split (hs.ev rfl) (fun h66 => ?_) (fun h66 => ?_)
                    · replace h66 := of_decide_eq_true h66
                      refine wp_seq ?_
                      refine wp_region_lit ?_
                      refine a_val hs rfl rfl rfl (y_assign hs rfl) ?_; clear hs a; intro a hs
                      refine wpList_nil (then_normal ?_)
                      refine wp_ret (then_ret (in_ret (then_ret (in_ret (then_ret ?_)))))
                      have hE : exprParts x = none := by
                        clear hs
                        unfold exprParts
                        repeat' split
                        all_goals first | rfl | (exfalso; omega) | (rename_i hc; exfalso; omega) | (rename_i hc; exact absurd hc.2 (by assumption)) | (rename_i hc; rw [hc.2] at h54; cases h54)
                      have hX : xexpr (q + 1) x left = (0, left - 1) := by rw [xexpr, if_neg (by omega), hE]
                      refine fin_ret hs (.tmp (hs.slots _ _ rfl) .nil) ⟨?_, ?_⟩
                      · rw [hX]; rfl
                      · rw [hX]; exact (hs.mem.to 1 rfl).drop
                    · replace h66 := of_decide_eq_false h66
                      refine wp_skip (then_normal ?_)
                      refine wp_exit (in_other rfl (then_exit (in_here (then_normal ?_))))
                      refine ⟨2, by clear hs; unfold exprParts; (repeat' split) <;> first | rfl | (exfalso; omega) | (rename_i hc; exfalso; omega) | (rename_i hc; exact absurd ⟨by omega, by assumption⟩ hc), ?_⟩
                      exact (hs.mem_to (hs.mem.to 1 rfl)).cut _ ⟨rfl, rfl, rfl, rfl, trivial⟩
                · replace h25 := ne_of_beq_false h25
                  replace hs := hs.say 25 rfl (congrArg Value.bool (beq_eq_false_iff_ne.2 h25))
                  refine wp_seq ?_
                  refine wp_region_lit ?_
                  refine a_val hs rfl rfl rfl (y_cmp hs rfl rfl rfl) ?_; clear hs a; intro a hs
                  refine a_val hs rfl rfl rfl (y_assign hs rfl) ?_; clear hs a; intro a hs
                  refine wpList_nil (then_normal ?_)
                  refine wp_cond_split (hs.ev rfl) (fun h25 => ?_) (fun h25 => ?_)
                  · replace h25 := eq_of_beq h25
                    replace hs := hs.say 25 rfl (congrArg Value.bool (beq_iff_eq.2 h25))
                    refine wp_skip (then_normal ?_)
                    refine wp_cond_true (hs.ev rfl) ?_
                    refine wp_exit (then_exit (then_exit (in_other rfl (then_exit (in_other rfl (then_exit (in_here (then_normal ?_))))))))
                    refine wp_region_lit ?_
                    refine a_val hs rfl rfl rfl (y_move hs rfl) ?_; clear hs a; intro a hs
                    refine a_val hs rfl rfl rfl (y_add hs rfl rfl (by omega)) ?_; clear hs a; intro a hs
                    refine a_val hs rfl rfl rfl (y_assign hs rfl) ?_; clear hs a; intro a hs
                    refine wpList_nil (in_normal (then_normal ?_))
                    refine wp_seq ?_
                    refine wp_seq ?_
                    refine wp_region_lit ?_
                    refine a_val hs rfl rfl rfl (y_move hs rfl) ?_; clear hs a; intro a hs
                    refine a_val hs rfl rfl rfl (y_add hs rfl rfl (by omega)) ?_; clear hs a; intro a hs
                    refine a_val hs rfl rfl rfl (y_assign hs rfl) ?_; clear hs a; intro a hs
                    refine wpList_nil (then_normal ?_)
                    refine wp_seq ?_
                    refine wp_region_lit ?_
                    refine a_val hs rfl rfl rfl (y_faddr (k' := 1) 1 hs (by kernel_rfl) rfl rfl) ?_; clear hs a; intro a hs
                    refine a_val hs rfl rfl rfl (y_load hs Tryd.underlying3 rfl rfl (fun w hw => (hw.to 1 rfl).cellV rfl)) ?_; clear hs a; intro a hs
                    refine a_val hs rfl rfl rfl (y_cmp hs rfl rfl rfl) ?_; clear hs a; intro a hs
                    refine a_val hs rfl rfl rfl (y_move hs rfl) ?_; clear hs a; intro a hs
                    rcases hs.know (d := 62) rfl with ⟨h62, hs1⟩ | ⟨h62, hs1⟩ <;> replace hs := hs1 <;> clear hs1
                    · replace h62 := bne_iff_ne.1 h62
                      refine a_skip hs rfl rfl rfl ?_; clear hs a; intro a hs
                      refine a_skip hs rfl rfl rfl ?_; clear hs a; intro a hs
                      refine a_skip hs rfl rfl rfl ?_; clear hs a; intro a hs
                      refine a_val hs rfl rfl rfl (y_pickT hs rfl rfl rfl) ?_; clear hs a; intro a hs
                      refine wpList_nil (then_normal ?_)
                      refine wp_cond_true (hs.ev rfl) ?_
                      refine wp_seq ?_
                      refine wp_region_lit ?_
                      refine a_val hs rfl rfl rfl (y_assign hs rfl) ?_; clear hs a; intro a hs
                      refine wpList_nil (then_normal ?_)
                      refine wp_ret (then_ret (in_ret (then_ret (in_ret (then_ret ?_)))))
                      have hE : exprParts x = none := by
                        clear hs
                        unfold exprParts
                        repeat' split
                        all_goals first | rfl | (exfalso; omega) | (rename_i hc; exfalso; omega) | (rename_i hc; exact absurd hc.2 (by assumption)) | (rename_i hc; rw [hc.2] at h54; cases h54)
                      have hX : xexpr (q + 1) x left = (0, left - 1) := by rw [xexpr, if_neg (by omega), hE]
                      refine fin_ret hs (.tmp (hs.slots _ _ rfl) .nil) ⟨?_, ?_⟩
                      · rw [hX]; rfl
                      · rw [hX]; exact (hs.mem.to 1 rfl).drop
                    · replace h62 := bne_eq_false_iff_eq.1 h62
                      refine a_valG hs rfl rfl rfl (y_faddr (k' := 2) 2 hs (by kernel_rfl) rfl rfl) ?_; clear hs a; intro a hs
                      refine a_valG hs rfl rfl rfl (y_load hs Tryd.underlying9 rfl rfl (fun w hw => (hw.to 1 rfl).cellV rfl)) ?_; clear hs a; intro a hs
                      refine a_valG hs rfl rfl rfl (y_sneE hs rfl rfl) ?_; clear hs a; intro a hs
                      refine a_val hs rfl rfl rfl (y_pickF hs rfl rfl rfl) ?_; clear hs a; intro a hs
                      refine wpList_nil (then_normal ?_)
                      refine wp_cond_split (hs.ev rfl) (fun h66 => ?_) (fun h66 => ?_)
                      · replace h66 := of_decide_eq_true h66
                        refine wp_seq ?_
                        refine wp_region_lit ?_
                        refine a_val hs rfl rfl rfl (y_assign hs rfl) ?_; clear hs a; intro a hs
                        refine wpList_nil (then_normal ?_)
                        refine wp_ret (then_ret (in_ret (then_ret (in_ret (then_ret ?_)))))
                        have hE : exprParts x = none := by
                          clear hs
                          unfold exprParts
                          repeat' split
                          all_goals first | rfl | (exfalso; omega) | (rename_i hc; exfalso; omega) | (rename_i hc; exact absurd hc.2 (by assumption)) | (rename_i hc; rw [hc.2] at h54; cases h54)
                        have hX : xexpr (q + 1) x left = (0, left - 1) := by rw [xexpr, if_neg (by omega), hE]
                        refine fin_ret hs (.tmp (hs.slots _ _ rfl) .nil) ⟨?_, ?_⟩
                        · rw [hX]; rfl
                        · rw [hX]; exact (hs.mem.to 1 rfl).drop
                      · replace h66 := of_decide_eq_false h66
                        refine wp_skip (then_normal ?_)
                        refine wp_exit (in_other rfl (then_exit (in_here (then_normal ?_))))
                        refine ⟨2, by clear hs; unfold exprParts; (repeat' split) <;> first | rfl | (exfalso; omega) | (rename_i hc; exfalso; omega) | (rename_i hc; exact absurd ⟨by omega, by assumption⟩ hc), ?_⟩
                        exact (hs.mem_to (hs.mem.to 1 rfl)).cut _ ⟨rfl, rfl, rfl, rfl, trivial⟩
                  · replace h25 := ne_of_beq_false h25
                    replace hs := hs.say 25 rfl (congrArg Value.bool (beq_eq_false_iff_ne.2 h25))
                    refine wp_region_lit ?_
                    refine a_val hs rfl rfl rfl (y_cmp hs rfl rfl rfl) ?_; clear hs a; intro a hs
                    refine a_val hs rfl rfl rfl (y_assign hs rfl) ?_; clear hs a; intro a hs
                    refine wpList_nil (then_normal ?_)
                    refine wp_cond_split (hs.ev rfl) (fun h25 => ?_) (fun h25 => ?_)
                    · replace h25 := eq_of_beq h25
                      replace hs := hs.say 25 rfl (congrArg Value.bool (beq_iff_eq.2 h25))
                      refine wp_exit (then_exit (then_exit (in_other rfl (then_exit (in_other rfl (then_exit (in_here (then_normal ?_))))))))
                      refine wp_region_lit ?_
                      refine a_val hs rfl rfl rfl (y_move hs rfl) ?_; clear hs a; intro a hs
                      refine a_val hs rfl rfl rfl (y_add hs rfl rfl (by omega)) ?_; clear hs a; intro a hs
                      refine a_val hs rfl rfl rfl (y_assign hs rfl) ?_; clear hs a; intro a hs
                      refine wpList_nil (in_normal (then_normal ?_))
                      refine wp_seq ?_
                      refine wp_seq ?_
                      refine wp_region_lit ?_
                      refine a_val hs rfl rfl rfl (y_move hs rfl) ?_; clear hs a; intro a hs
                      refine a_val hs rfl rfl rfl (y_add hs rfl rfl (by omega)) ?_; clear hs a; intro a hs
                      refine a_val hs rfl rfl rfl (y_assign hs rfl) ?_; clear hs a; intro a hs
                      refine wpList_nil (then_normal ?_)
                      refine wp_seq ?_
                      refine wp_region_lit ?_
                      refine a_val hs rfl rfl rfl (y_faddr (k' := 1) 1 hs (by kernel_rfl) rfl rfl) ?_; clear hs a; intro a hs
                      refine a_val hs rfl rfl rfl (y_load hs Tryd.underlying3 rfl rfl (fun w hw => (hw.to 1 rfl).cellV rfl)) ?_; clear hs a; intro a hs
                      refine a_val hs rfl rfl rfl (y_cmp hs rfl rfl rfl) ?_; clear hs a; intro a hs
                      refine a_val hs rfl rfl rfl (y_move hs rfl) ?_; clear hs a; intro a hs
                      rcases hs.know (d := 62) rfl with ⟨h62, hs1⟩ | ⟨h62, hs1⟩ <;> replace hs := hs1 <;> clear hs1
                      · replace h62 := bne_iff_ne.1 h62
                        refine a_skip hs rfl rfl rfl ?_; clear hs a; intro a hs
                        refine a_skip hs rfl rfl rfl ?_; clear hs a; intro a hs
                        refine a_skip hs rfl rfl rfl ?_; clear hs a; intro a hs
                        refine a_val hs rfl rfl rfl (y_pickT hs rfl rfl rfl) ?_; clear hs a; intro a hs
                        refine wpList_nil (then_normal ?_)
                        refine wp_cond_true (hs.ev rfl) ?_
                        refine wp_seq ?_
                        refine wp_region_lit ?_
                        refine a_val hs rfl rfl rfl (y_assign hs rfl) ?_; clear hs a; intro a hs
                        refine wpList_nil (then_normal ?_)
                        refine wp_ret (then_ret (in_ret (then_ret (in_ret (then_ret ?_)))))
                        have hE : exprParts x = none := by
                          clear hs
                          unfold exprParts
                          repeat' split
                          all_goals first | rfl | (exfalso; omega) | (rename_i hc; exfalso; omega) | (rename_i hc; exact absurd hc.2 (by assumption)) | (rename_i hc; rw [hc.2] at h54; cases h54)
                        have hX : xexpr (q + 1) x left = (0, left - 1) := by rw [xexpr, if_neg (by omega), hE]
                        refine fin_ret hs (.tmp (hs.slots _ _ rfl) .nil) ⟨?_, ?_⟩
                        · rw [hX]; rfl
                        · rw [hX]; exact (hs.mem.to 1 rfl).drop
                      · replace h62 := bne_eq_false_iff_eq.1 h62
                        refine a_valG hs rfl rfl rfl (y_faddr (k' := 2) 2 hs (by kernel_rfl) rfl rfl) ?_; clear hs a; intro a hs
                        refine a_valG hs rfl rfl rfl (y_load hs Tryd.underlying9 rfl rfl (fun w hw => (hw.to 1 rfl).cellV rfl)) ?_; clear hs a; intro a hs
                        refine a_valG hs rfl rfl rfl (y_sneE hs rfl rfl) ?_; clear hs a; intro a hs
                        refine a_val hs rfl rfl rfl (y_pickF hs rfl rfl rfl) ?_; clear hs a; intro a hs
                        refine wpList_nil (then_normal ?_)
                        refine wp_cond_split (hs.ev rfl) (fun h66 => ?_) (fun h66 => ?_)
                        · replace h66 := of_decide_eq_true h66
                          refine wp_seq ?_
                          refine wp_region_lit ?_
                          refine a_val hs rfl rfl rfl (y_assign hs rfl) ?_; clear hs a; intro a hs
                          refine wpList_nil (then_normal ?_)
                          refine wp_ret (then_ret (in_ret (then_ret (in_ret (then_ret ?_)))))
                          have hE : exprParts x = none := by
                            clear hs
                            unfold exprParts
                            repeat' split
                            all_goals first | rfl | (exfalso; omega) | (rename_i hc; exfalso; omega) | (rename_i hc; exact absurd hc.2 (by assumption)) | (rename_i hc; rw [hc.2] at h54; cases h54)
                          have hX : xexpr (q + 1) x left = (0, left - 1) := by rw [xexpr, if_neg (by omega), hE]
                          refine fin_ret hs (.tmp (hs.slots _ _ rfl) .nil) ⟨?_, ?_⟩
                          · rw [hX]; rfl
                          · rw [hX]; exact (hs.mem.to 1 rfl).drop
                        · replace h66 := of_decide_eq_false h66
                          refine wp_skip (then_normal ?_)
                          refine wp_exit (in_other rfl (then_exit (in_here (then_normal ?_))))
                          refine ⟨2, by clear hs; unfold exprParts; (repeat' split) <;> first | rfl | (exfalso; omega) | (rename_i hc; exfalso; omega) | (rename_i hc; exact absurd ⟨by omega, by assumption⟩ hc), ?_⟩
                          exact (hs.mem_to (hs.mem.to 1 rfl)).cut _ ⟨rfl, rfl, rfl, rfl, trivial⟩
                    · replace h25 := ne_of_beq_false h25
                      replace hs := hs.say 25 rfl (congrArg Value.bool (beq_eq_false_iff_ne.2 h25))
                      refine wp_skip (then_normal ?_)
                      refine wp_seq ?_
                      refine wp_region_lit ?_
                      refine a_val hs rfl rfl rfl (y_cmp hs rfl rfl rfl) ?_; clear hs a; intro a hs
                      refine a_val hs rfl rfl rfl (y_assign hs rfl) ?_; clear hs a; intro a hs
                      refine wpList_nil (then_normal ?_)
                      refine wp_cond_split (hs.ev rfl) (fun h31 => ?_) (fun h31 => ?_)
                      · replace h31 := eq_of_beq h31
                        refine wp_exit (then_exit (in_other rfl (then_exit (in_other rfl (then_exit (in_other rfl (then_exit (in_here (then_normal ?_)))))))))
                        refine wp_seq ?_
                        refine wp_seq ?_
                        refine wp_region_lit ?_
                        refine a_val hs rfl rfl rfl (y_move hs rfl) ?_; clear hs a; intro a hs
                        refine a_val hs rfl rfl rfl (y_add hs rfl rfl (by omega)) ?_; clear hs a; intro a hs
                        refine a_val hs rfl rfl rfl (y_assign hs rfl) ?_; clear hs a; intro a hs
                        refine wpList_nil (then_normal ?_)
                        refine wp_seq ?_
                        refine wp_region_lit ?_
                        refine a_val hs rfl rfl rfl (y_faddr (k' := 1) 1 hs (by kernel_rfl) rfl rfl) ?_; clear hs a; intro a hs
                        refine a_val hs rfl rfl rfl (y_load hs Tryd.underlying3 rfl rfl (fun w hw => (hw.to 1 rfl).cellV rfl)) ?_; clear hs a; intro a hs
                        refine a_val hs rfl rfl rfl (y_cmp hs rfl rfl rfl) ?_; clear hs a; intro a hs
                        refine a_val hs rfl rfl rfl (y_move hs rfl) ?_; clear hs a; intro a hs
                        rcases hs.know (d := 62) rfl with ⟨h62, hs1⟩ | ⟨h62, hs1⟩ <;> replace hs := hs1 <;> clear hs1
                        · replace h62 := bne_iff_ne.1 h62
                          refine a_skip hs rfl rfl rfl ?_; clear hs a; intro a hs
                          refine a_skip hs rfl rfl rfl ?_; clear hs a; intro a hs
                          refine a_skip hs rfl rfl rfl ?_; clear hs a; intro a hs
                          refine a_val hs rfl rfl rfl (y_pickT hs rfl rfl rfl) ?_; clear hs a; intro a hs
                          refine wpList_nil (then_normal ?_)
                          refine wp_cond_true (hs.ev rfl) ?_
                          refine wp_seq ?_
                          refine wp_region_lit ?_
                          refine a_val hs rfl rfl rfl (y_assign hs rfl) ?_; clear hs a; intro a hs
                          refine wpList_nil (then_normal ?_)
                          refine wp_ret (then_ret (in_ret (then_ret (in_ret (then_ret ?_)))))
                          have hE : exprParts x = none := by
                            clear hs
                            unfold exprParts
                            repeat' split
                            all_goals first | rfl | (exfalso; omega) | (rename_i hc; exfalso; omega) | (rename_i hc; exact absurd hc.2 (by assumption)) | (rename_i hc; rw [hc.2] at h54; cases h54)
                          have hX : xexpr (q + 1) x left = (0, left - 1) := by rw [xexpr, if_neg (by omega), hE]
                          refine fin_ret hs (.tmp (hs.slots _ _ rfl) .nil) ⟨?_, ?_⟩
                          · rw [hX]; rfl
                          · rw [hX]; exact (hs.mem.to 1 rfl).drop
                        · replace h62 := bne_eq_false_iff_eq.1 h62
                          refine a_valG hs rfl rfl rfl (y_faddr (k' := 2) 2 hs (by kernel_rfl) rfl rfl) ?_; clear hs a; intro a hs
                          refine a_valG hs rfl rfl rfl (y_load hs Tryd.underlying9 rfl rfl (fun w hw => (hw.to 1 rfl).cellV rfl)) ?_; clear hs a; intro a hs
                          refine a_valG hs rfl rfl rfl (y_sneE hs rfl rfl) ?_; clear hs a; intro a hs
                          refine a_val hs rfl rfl rfl (y_pickF hs rfl rfl rfl) ?_; clear hs a; intro a hs
                          refine wpList_nil (then_normal ?_)
                          refine wp_cond_split (hs.ev rfl) (fun h66 => ?_) (fun h66 => ?_)
                          · replace h66 := of_decide_eq_true h66
                            refine wp_seq ?_
                            refine wp_region_lit ?_
                            refine a_val hs rfl rfl rfl (y_assign hs rfl) ?_; clear hs a; intro a hs
                            refine wpList_nil (then_normal ?_)
                            refine wp_ret (then_ret (in_ret (then_ret (in_ret (then_ret ?_)))))
                            have hE : exprParts x = none := by
                              clear hs
                              unfold exprParts
                              repeat' split
                              all_goals first | rfl | (exfalso; omega) | (rename_i hc; exfalso; omega) | (rename_i hc; exact absurd hc.2 (by assumption)) | (rename_i hc; rw [hc.2] at h54; cases h54)
                            have hX : xexpr (q + 1) x left = (0, left - 1) := by rw [xexpr, if_neg (by omega), hE]
                            refine fin_ret hs (.tmp (hs.slots _ _ rfl) .nil) ⟨?_, ?_⟩
                            · rw [hX]; rfl
                            · rw [hX]; exact (hs.mem.to 1 rfl).drop
                          · replace h66 := of_decide_eq_false h66
                            refine wp_skip (then_normal ?_)
                            refine wp_exit (in_other rfl (then_exit (in_here (then_normal ?_))))
                            refine ⟨1, by clear hs; unfold exprParts; (repeat' split) <;> first | rfl | (exfalso; omega) | (rename_i hc; exfalso; omega) | (rename_i hc; exact absurd ⟨by omega, by assumption⟩ hc), ?_⟩
                            exact (hs.mem_to (hs.mem.to 1 rfl)).cut _ ⟨rfl, rfl, rfl, rfl, trivial⟩
                      · replace h31 := ne_of_beq_false h31
                        refine wp_skip (then_normal ?_)
                        refine wp_exit (in_other rfl (then_exit (in_other rfl (then_exit (in_other rfl (then_exit (in_other rfl (then_exit (in_here (then_normal ?_))))))))))
                        refine wp_seq ?_
                        refine wp_seq ?_
                        refine wp_region_lit ?_
                        refine a_val hs rfl rfl rfl (y_assign hs rfl) ?_; clear hs a; intro a hs
                        refine wpList_nil (then_normal ?_)
                        refine wp_ret (then_ret (in_ret (then_ret ?_)))
                        have hE : exprParts x = none := by
                          clear hs
                          unfold exprParts
                          repeat' split
                          all_goals first | rfl | (exfalso; omega) | (rename_i hc; exfalso; omega) | (rename_i hc; exact absurd hc.2 (by assumption)) | (rename_i hc; rw [hc.2] at h54; cases h54)
                        have hX : xexpr (q + 1) x left = (0, left - 1) := by rw [xexpr, if_neg (by omega), hE]
                        refine fin_ret hs (.tmp (hs.slots _ _ rfl) .nil) ⟨?_, ?_⟩
                        · rw [hX]; rfl
                        · rw [hX]; exact (hs.mem.to 1 rfl).drop
      · clear hs
        obtain ⟨p, hp, hs⟩ := hJ
        have hp2 := exprParts_le hp
        refine wp_seq ?_
        refine wp_seq ?_
        refine wp_region_lit ?_
        refine a_val hs rfl rfl rfl (y_faddr (k' := 3) 3 hs (by kernel_rfl) rfl rfl) ?_; clear hs a; intro a hs
        refine a_val hs rfl rfl rfl (y_load hs Tryd.underlying23 rfl rfl (fun w hw => (hw.to 0 rfl).cellV rfl)) ?_; clear hs a; intro a hs
        refine a_val hs rfl rfl rfl (y_lenL hs Tryd.underlying23 rfl) ?_; clear hs a; intro a hs
        refine a_val hs rfl rfl rfl (y_move hs rfl) ?_; clear hs a; intro a hs
        refine a_val hs rfl rfl rfl (y_cmp hs rfl rfl rfl) ?_; clear hs a; intro a hs
        refine wpList_nil (then_normal ?_)
        refine wp_cond_split (hs.ev rfl) (fun h71 => ?_) (fun h71 => ?_)
        · replace h71 := bne_iff_ne.1 h71
          refine wp_seq ?_
          refine wp_region_lit ?_
          refine a_val hs rfl rfl rfl (y_assign hs rfl) ?_; clear hs a; intro a hs
          refine wpList_nil (then_normal ?_)
          refine wp_ret (then_ret ?_)
          have hX : xexpr (q + 1) x left = (0, left - 1) := by
            rw [xexpr, if_neg (by omega), hp]
            show (if _ then _ else _) = _
            rw [if_neg (by omega)]
          refine fin_ret hs (.tmp (hs.slots _ _ rfl) .nil) ⟨?_, ?_⟩
          · rw [hX]; rfl
          · rw [hX]; exact (hs.mem.to 0 rfl).drop
        · replace h71 := bne_eq_false_iff_eq.1 h71
          refine wp_skip (then_normal ?_)
          refine wp_seq ?_
          refine wp_region_lit ?_
          refine a_val hs rfl rfl rfl (y_assign hs rfl) ?_; clear hs a; intro a hs
          refine wpList_nil (then_normal ?_)
          refine wp_seq ?_
          refine wp_seq ?_
          refine wp_region_lit ?_
          refine a_val hs rfl rfl rfl (y_faddr (k' := 3) 3 hs (by kernel_rfl) rfl rfl) ?_; clear hs a; intro a hs
          refine a_val hs rfl rfl rfl (y_load hs Tryd.underlying23 rfl rfl (fun w hw => (hw.to 0 rfl).cellV rfl)) ?_; clear hs a; intro a hs
          refine a_val hs rfl rfl rfl (y_lenL hs Tryd.underlying23 rfl) ?_; clear hs a; intro a hs
          refine a_val hs rfl rfl rfl (y_move hs rfl) ?_; clear hs a; intro a hs
          refine wpList_nil (then_normal ?_)
          refine wp_block ?_
          refine wp_loopN (fun m a w1 => ∃ (i d : Nat) (left2 : Int), (i + m = x.f3.length) ∧ (0 ≤ left2 ∧ left2 ≤ 8192) ∧ (d ≤ q) ∧ (xexprs (xexpr q) (x.f3.drop i) d left2 = xexprs (xexpr q) x.f3 0 (left - 1)) ∧ St 92 w0 [(0, .pointer (some ⟨g, 0, none⟩)), (2, .int .i64 ((q + 1 : Nat) : Int)), (8, .int .i64 ((d : Nat) : Int)), (73, .slice A x.f3.length C), (74, .int .i64 (x.f3.length : Int)), (75, .int .i64 ((i : Nat) : Int))] (pt g #[.int .i64 (left2)] 102 :: bs) a w1) (x.f3.length) ⟨0, 0, left - 1, by omega, by omega, by omega, rfl, ?_⟩ (fun m a w1 hJ => ?_)
          · exact (hs.mem_to (hs.mem.to 0 rfl).drop).cut _ ⟨rfl, rfl, rfl, rfl, rfl, rfl, trivial⟩
          · clear hs
            obtain ⟨i, d, left2, hi, hl2, hd, hinv, hs⟩ := hJ
            refine wp_seq ?_
            refine wp_region_lit ?_
            refine a_val hs rfl rfl rfl (y_cmp hs rfl rfl rfl) ?_; clear hs a; intro a hs
            refine wpList_nil (then_normal ?_)
            refine wp_seq ?_
            refine wp_cond_split (hs.ev rfl) (fun h76 => ?_) (fun h76 => ?_)
            · replace h76 := of_decide_eq_true h76
              obtain ⟨y, hy⟩ : ∃ y, x.f3[i]? = some y := ⟨_, List.getElem?_eq_getElem (by omega)⟩
              obtain ⟨g0, o, rfl, hcell⟩ := C_atG (show 0 < 6 by decide) hA (by omega)
              obtain ⟨cs, hK, hc⟩ := hcell i y hy
              obtain ⟨A0, c0, rfl, hlc, hC⟩ := k25_open hK
              have hdrop : x.f3.drop i = y :: x.f3.drop (i + 1) := by
                rw [List.drop_eq_getElem_cons (by omega)]
                rw [List.getElem?_eq_getElem (by omega)] at hy
                injection hy with hy
                rw [hy]
              refine wp_skip (then_normal ?_)
              refine wp_seq ?_
              refine wp_block ?_
              refine wp_seq ?_
              refine wp_region_lit ?_
              refine a_val hs rfl rfl rfl (y_idxB (size := 6) (off := o + i * 6) hs Tryd.underlying23 (by kernel_rfl) rfl rfl (by omega) (by omega) (by simp)) ?_; clear hs a; intro a hs
              refine a_val hs rfl rfl rfl (y_loadAgg (vs := [.int .u8 y.f0, .int .i64 y.f1, .string y.f2, .slice A0 y.f3.length c0, .int .i64 y.f4, .int .i64 y.f5]) hs Tryd.underlying25 rfl (by kernel_rfl) rfl (fun w hw k v hk => hc w hw.base k v hk)) ?_; clear hs a; intro a hs
              refine a_eff rfl (e_alloc (z := .agg #[.int .u8 0, .int .i64 0, .string ⟨#[]⟩, .slice none 0 0, .int .i64 0, .int .i64 0]) (cs := #[.int .u8 0, .int .i64 0, .string ⟨#[]⟩, .slice none 0 0, .int .i64 0, .int .i64 0]) hs rfl (by kernel_rfl) rfl ?_); clear hs a; intro gp a w hs
              refine a_eff rfl (e_store (cl := [_, _, _, _, _, _]) 0 rfl hs rfl rfl (by kernel_rfl) rfl rfl rfl ?_); clear hs a; intro a w hs
              refine wpList_nil (then_normal ?_)
              refine wp_seq ?_
              refine wp_region_lit ?_
              refine a_val hs rfl rfl rfl (y_move hs rfl) ?_; clear hs a; intro a hs
              refine a_val hs rfl rfl rfl (y_loadPt 0 rfl hs Tryd.underlying25 rfl (by kernel_rfl) rfl) ?_; clear hs a; intro a hs
              refine a_val hs rfl rfl rfl (y_move hs rfl) ?_; clear hs a; intro a hs
              refine a_val hs rfl rfl rfl (y_sub hs rfl rfl (by omega)) ?_; clear hs a; intro a hs
              replace hs := hs.say 82 rfl (congrArg (Value.int IntKind.i64) (show (((q + 1 : Nat) : Int) - 1) = ((q : Nat) : Int) by omega))
              have hfall := xexpr_left q y left2 hl2.1
              have hxle := xexpr_le q y left2
              refine a_eff rfl (e_callX Tryd.func44 rfl rfl hs rfl rfl (ih q rfl y A0 c0 g left2 _ w0 _ hC (hsm.2 y (List.mem_of_getElem? hy)) hl2 (hs.mem.to 1 rfl)) (fun e w1 ⟨he, hm⟩ => ⟨_, he, _, hm, ?_⟩)); clear hs a; intro a hs
              refine a_val hs rfl rfl rfl (y_assign hs rfl) ?_; clear hs a; intro a hs
              refine wpList_nil (then_normal ?_)
              refine wp_seq ?_
              refine wp_seq ?_
              refine wp_region_lit ?_
              refine a_val hs rfl rfl rfl (y_move hs rfl) ?_; clear hs a; intro a hs
              refine a_val hs rfl rfl rfl (y_cmp hs rfl rfl rfl) ?_; clear hs a; intro a hs
              refine wpList_nil (then_normal ?_)
              refine wp_cond_split (hs.ev rfl) (fun h85 => ?_) (fun h85 => ?_)
              · replace h85 := eq_of_beq h85
                refine wp_seq ?_
                refine wp_region_lit ?_
                refine a_val hs rfl rfl rfl (y_assign hs rfl) ?_; clear hs a; intro a hs
                refine wpList_nil (then_normal ?_)
                refine wp_ret (then_ret (in_ret (then_ret (then_ret (in_ret (then_ret ?_))))))
                have hX : xexpr (q + 1) x left = (0, (xexpr q y left2).2) := by
                  rw [xexpr, if_neg (by omega), hp]
                  show (if _ then _ else _) = _
                  rw [if_pos (by omega), ← hinv, hdrop, xexprs, if_pos (by omega)]
                refine fin_ret hs (.tmp (hs.slots _ _ rfl) .nil) ⟨?_, ?_⟩
                · rw [hX]; rfl
                · rw [hX]; exact (hs.mem.to 1 rfl).drop
              · replace h85 := ne_of_beq_false h85
                refine wp_skip (then_normal ?_)
                refine wp_region_lit ?_
                refine a_val hs rfl rfl rfl (y_move hs rfl) ?_; clear hs a; intro a hs
                refine a_val hs rfl rfl rfl (y_move hs rfl) ?_; clear hs a; intro a hs
                refine a_val hs rfl rfl rfl (y_max hs rfl rfl) ?_; clear hs a; intro a hs
                refine a_val hs rfl rfl rfl (y_assign hs rfl) ?_; clear hs a; intro a hs
                refine wpList_nil (in_normal (then_normal ?_))
                refine wp_region_lit ?_
                refine a_val hs rfl rfl rfl (y_add hs rfl rfl (by omega)) ?_; clear hs a; intro a hs
                refine a_val hs rfl rfl rfl (y_move hs rfl) ?_; clear hs a; intro a hs
                refine wpList_nil (then_normal ?_)
                have hf2 := hfall.2.2 (by omega)
                have hmx : (if ((d : Nat) : Int) < (((xexpr q y left2).1 : Nat) : Int) then (((xexpr q y left2).1 : Nat) : Int) else ((d : Nat) : Int)) = ((max d (xexpr q y left2).1 : Nat) : Int) := by split <;> omega
                replace hs := hs.say 8 rfl (congrArg (Value.int IntKind.i64) hmx)
                refine ⟨m - 1, by omega, i + 1, max d (xexpr q y left2).1, (xexpr q y left2).2, by omega, ⟨hf2, by have := hfall.2.1; omega⟩, by omega, by rw [← hinv, hdrop, xexprs, if_neg (by omega)], ?_⟩
                exact (hs.mem_to (hs.mem.to 1 rfl).drop).cut _ ⟨rfl, rfl, rfl, rfl, rfl, rfl, trivial⟩
            · replace h76 := of_decide_eq_false h76
              refine wp_exit (then_exit (then_exit (in_here (then_normal ?_))))
              refine wp_seq ?_
              refine wp_region_lit ?_
              refine a_val hs rfl rfl rfl (y_move hs rfl) ?_; clear hs a; intro a hs
              refine a_val hs rfl rfl rfl (y_add hs rfl rfl (by omega)) ?_; clear hs a; intro a hs
              refine a_val hs rfl rfl rfl (y_assign hs rfl) ?_; clear hs a; intro a hs
              refine wpList_nil (then_normal ?_)
              refine wp_ret ?_
              have hX : xexpr (q + 1) x left = (d + 1, left2) := by
                rw [xexpr, if_neg (by omega), hp]
                show (if _ then _ else _) = _
                rw [if_pos (by omega), ← hinv, List.drop_eq_nil_of_le (by omega), xexprs]
              refine fin_ret hs (.tmp (hs.slots _ _ rfl) .nil) ⟨?_, ?_⟩
              · rw [hX]; rfl
              · rw [hX]; exact hs.mem
theorem walk_expr : ∀ n : Nat, n ≤ 1000 → WalkOk n := fun n => by
  induction n using Nat.strongRecOn with
  | _ n ih => exact fun hn x A C g left bs w0 w hA hsm hl h => walk_expr_step n hn (fun q hq => ih q (by omega) (by omega)) x A C g left bs w0 w hA hsm hl h
set_option maxRecDepth 100000 in
theorem tree_all (v0 : World) :
    Calls Tryd.prog 43 #[] v0 fun e w' => ∃ ga, e = .returned (.pointer (some ⟨ga, 0, none⟩)) ∧ H v0 [pt ga #[.int .i64 8192] 102] w' := by
  refine calls_enter (N := 3) (n := 3) (args := []) Tryd.func43 rfl rfl rfl (H.init v0) (fun a hs => ?_)
  refine wp_seq ?_
  refine wp_region_lit ?_
  refine a_val hs rfl rfl rfl (y_assign hs rfl) ?_; clear hs a; intro a hs
  refine wpList_nil (then_normal ?_)
  refine wp_seq ?_
  refine wp_region_lit ?_
  refine a_val hs rfl rfl rfl (y_struct (zc := #[.int .i64 0]) (pl := [(0, 1)]) (cl := [_]) hs (by kernel_rfl) rfl (by rfl) rfl) ?_; clear hs a; intro a hs
  refine a_eff rfl (e_box (cs := #[_]) hs rfl rfl rfl ?_); clear hs a; intro ga a w hs
  refine a_val hs rfl rfl rfl (y_assign hs rfl) ?_; clear hs a; intro a hs
  refine wpList_nil (then_normal ?_)
  refine wp_ret ?_
  refine fin_ret hs (.tmp (hs.slots _ _ rfl) .nil) ⟨ga, rfl, hs.mem⟩
/-- How deep an expression is; 0: it may not be. -/
def deepX (x : XE) : Nat := (xexpr 16 x 8192).1
set_option maxRecDepth 100000 in
theorem tree_Deep (x : XE) (A : Option Addr) (C : Nat) (v0 : World) (hA : Kd.C k25 v0 A x.f3.length x.f3) (hsm : smallX 16 x) :
    Calls Tryd.prog 20 #[.agg #[.int .u8 x.f0, .int .i64 x.f1, .string x.f2, .slice A x.f3.length C, .int .i64 x.f4, .int .i64 x.f5]] v0 fun e w' => e = .returned (.int .i64 ((deepX x : Nat) : Int)) ∧ Below v0.heap.size v0 w' := by
  refine calls_enter (N := 6) (n := 5) (args := [.agg #[.int .u8 x.f0, .int .i64 x.f1, .string x.f2, .slice A x.f3.length C, .int .i64 x.f4, .int .i64 x.f5]]) Tryd.func20 rfl rfl rfl (H.init v0) (fun a hs => ?_)
  refine wp_seq ?_
  refine wp_region_lit ?_
  refine a_eff rfl (e_box (cs := #[_, _, _, _, _, _]) hs rfl rfl rfl ?_); clear hs a; intro gx a w hs
  refine a_val hs rfl rfl rfl (y_assign hs rfl) ?_; clear hs a; intro a hs
  refine wpList_nil (then_normal ?_)
  refine wp_seq ?_
  refine b_enter [0] (by kernel_rfl) hs #[false, false, false, false] (by rfl) 4 (by rfl) ?_; clear hs; intro w hs
  refine b_take 1 rfl #[false, true, false, false] rfl (by kernel_rfl) hs ((hs.mem.first 1)) rfl rfl rfl (fun _ _ _ h => h) (y_loadPt 0 rfl hs Tryd.underlying25 rfl (by kernel_rfl) rfl) ?_; clear hs a; intro a hs
  refine b_eff 0 (by kernel_rfl) rfl #[true, true, false, false] rfl hs rfl (e_callX Tryd.func43 rfl rfl hs rfl rfl (tree_all _) (fun e w1 ⟨ga, he, hm⟩ => ⟨_, he, _, hs.mem.more hm, ?_⟩)); clear hs a; intro a hs
  refine ⟨((hs.mem.to 1 rfl).first 1), ?_⟩
  refine b_eff 2 (by kernel_rfl) rfl #[true, true, true, false] rfl hs rfl (e_callX Tryd.func44 rfl rfl hs rfl rfl (walk_expr 16 (by decide) x A C ga 8192 _ v0 _ hA hsm (by omega) hs.mem) (fun e w1 ⟨he, hm⟩ => ⟨_, he, _, hm, ?_⟩)); clear hs a; intro a hs
  refine ⟨((hs.mem.to 1 rfl).first 1), ?_⟩
  refine b_take 3 rfl #[true, true, true, true] rfl (by kernel_rfl) hs (((hs.mem.to 1 rfl).first 1)) rfl rfl rfl (fun _ _ _ h => h) (y_assign hs rfl) ?_; clear hs a; intro a hs
  refine b_done (by kernel_rfl) (then_normal ?_)
  refine wp_ret ?_
  refine fin_ret hs (.tmp (hs.slots _ _ rfl) .nil) ⟨rfl, hs.mem.base⟩
set_option maxRecDepth 100000 in
theorem tree_MayExpr (x : XE) (A : Option Addr) (C : Nat) (v0 : World) (hA : Kd.C k25 v0 A x.f3.length x.f3) (hsm : smallX 16 x) :
    Calls Tryd.prog 11 #[.agg #[.int .u8 x.f0, .int .i64 x.f1, .string x.f2, .slice A x.f3.length C, .int .i64 x.f4, .int .i64 x.f5]] v0 fun e w' => e = .returned (.bool (decide (0 < deepX x))) ∧ Below v0.heap.size v0 w' := by
  refine calls_enter (N := 6) (n := 5) (args := [.agg #[.int .u8 x.f0, .int .i64 x.f1, .string x.f2, .slice A x.f3.length C, .int .i64 x.f4, .int .i64 x.f5]]) Tryd.func11 rfl rfl rfl (H.init v0) (fun a hs => ?_)
  refine wp_seq ?_
  refine wp_region_lit ?_
  refine a_eff rfl (e_box (cs := #[_, _, _, _, _, _]) hs rfl rfl rfl ?_); clear hs a; intro gx a w hs
  refine a_val hs rfl rfl rfl (y_assign hs rfl) ?_; clear hs a; intro a hs
  refine wpList_nil (then_normal ?_)
  refine wp_seq ?_
  refine wp_region_lit ?_
  refine a_val hs rfl rfl rfl (y_loadPt 0 rfl hs Tryd.underlying25 rfl (by kernel_rfl) rfl) ?_; clear hs a; intro a hs
  refine a_eff rfl (e_callB Tryd.func20 rfl rfl hs rfl rfl (tree_Deep x A C _ (Kd.C_below hA hs.mem.base) hsm) ?_); clear hs a; intro a w hs
  refine a_val hs rfl rfl rfl (y_cmp (b := decide (0 < deepX x)) hs rfl rfl (congrArg some (decide_eq_decide.2 (by omega)))) ?_; clear hs a; intro a hs
  refine a_val hs rfl rfl rfl (y_assign hs rfl) ?_; clear hs a; intro a hs
  refine wpList_nil (then_normal ?_)
  refine wp_ret ?_
  refine fin_ret hs (.tmp (hs.slots _ _ rfl) .nil) ⟨rfl, hs.mem.base⟩
end Go.Proofs.YtibaidddhmdafaaDoor.E
end
section
namespace Go.Proofs.YtibaidddhmdafaaDoor.E
open Go Go.RowKit Go.Proofs.YtibaidddhmdafaaDoorW.PrintWords Go.Proofs.YtibaidddhmdafaaDoorW.PrintLast Go.Proofs.YtibaidddhmdafaaDoorW.PrintMore Go.Proofs.YtibaidddhmdafaaDoor.PA
set_option linter.unusedVariables false
set_option linter.unusedSimpArgs false
set_option maxRecDepth 100000 in
theorem index_E (g fid : Nat) (fn : Func) (caps : List Value) (st : S25 → Int → Bool × Int) (A : Option Addr) (c : Nat) (l : List S25) (left : Int) (bs : List Res) (w0 w : World) (hfn : Tryd.prog.funcs[fid]? = some fn) (hnm : (fn.name == "runtime.NumGoroutine") = false) (hbd : fn.body.isNone = false) (hA : Kd.C k25 w0 A l.length l) (hf : ∀ p ∈ l, ∀ (cs : List Value) (lf : Int) (w1 : World), k25.K w0 p cs → cs.length = 6 → 0 ≤ lf ∧ lf ≤ 8192 → H w0 (pt g #[.int .i64 (lf)] 102 :: bs) w1 → Calls Tryd.prog fid (.agg cs.toArray :: caps).toArray w1 fun e w' => e = .returned (.bool (!(st p lf).1)) ∧ H w0 (pt g #[.int .i64 ((st p lf).2)] 102 :: bs) w') (hst : ∀ p ∈ l, ∀ lf, 0 ≤ lf → fallsB (st p lf) lf) (hl : 0 ≤ left ∧ left ≤ 8192) (h : H w0 (pt g #[.int .i64 (left)] 102 :: bs) w) :
    Calls Tryd.prog 109 #[.slice A l.length c, .func (.func fid) #[] caps.toArray] w fun e w' => ∃ k : Int, e = .returned (.int .i64 k) ∧ -1 ≤ k ∧ (k = -1 ↔ (xlist st l left).1 = true) ∧ H w0 (pt g #[.int .i64 ((xlist st l left).2)] 102 :: bs) w' := by
  refine calls_enter (N := 19) (n := 17) (args := [.slice A l.length c, .func (.func fid) #[] caps.toArray]) Tryd.func109 rfl rfl rfl (h) (fun a hs => ?_)
  have hcl := C_len hA
  refine wp_seq ?_
  refine wp_region_lit ?_
  refine a_val hs rfl rfl rfl (y_assign hs rfl) ?_; clear hs a; intro a hs
  refine wpList_nil (then_normal ?_)
  refine wp_seq ?_
  refine wp_seq ?_
  refine wp_region_lit ?_
  refine a_val hs rfl rfl rfl (y_move hs rfl) ?_; clear hs a; intro a hs
  refine a_val hs rfl rfl rfl (y_lenL hs Tryd.underlying23 rfl) ?_; clear hs a; intro a hs
  refine a_val hs rfl rfl rfl (y_move hs rfl) ?_; clear hs a; intro a hs
  refine wpList_nil (then_normal ?_)
  refine wp_block ?_
  refine wp_loopN (fun m a w1 => ∃ (i : Nat) (lf : Int), (i + m = l.length) ∧ (0 ≤ lf ∧ lf ≤ 8192) ∧ (xlist st (l.drop i) lf = xlist st l left) ∧ St 19 w0 [(0, .slice A l.length c), (1, .func (.func fid) #[] caps.toArray), (7, .int .i64 (l.length : Int)), (8, .int .i64 ((i : Nat) : Int))] (pt g #[.int .i64 (lf)] 102 :: bs) a w1) (l.length) ⟨0, left, by omega, hl, rfl, ?_⟩ (fun m a w1 hJ => ?_)
  · exact (hs.mem_to hs.mem).cut _ ⟨rfl, rfl, rfl, rfl, trivial⟩
  · clear hs
    obtain ⟨i, lf, hi, hlf, hinv, hs⟩ := hJ
    refine wp_seq ?_
    refine wp_region_lit ?_
    refine a_val hs rfl rfl rfl (y_cmp hs rfl rfl rfl) ?_; clear hs a; intro a hs
    refine wpList_nil (then_normal ?_)
    refine wp_seq ?_
    refine wp_cond_split (hs.ev rfl) (fun h9 => ?_) (fun h9 => ?_)
    · replace h9 := of_decide_eq_true h9
      obtain ⟨p, hp⟩ : ∃ p, l[i]? = some p := ⟨_, List.getElem?_eq_getElem (by omega)⟩
      obtain ⟨g0, o, rfl, hcell⟩ := C_atH (show 0 < 6 by decide) hA (by omega)
      obtain ⟨cs, hK, hlen, hc⟩ := hcell i p hp
      replace hlen : cs.length = 6 := hlen
      have hfl := hst p (List.mem_of_getElem? hp) lf hlf.1
      have hdrop : l.drop i = p :: l.drop (i + 1) := by
        rw [List.drop_eq_getElem_cons (by omega)]
        rw [List.getElem?_eq_getElem (by omega)] at hp
        injection hp with hp
        rw [hp]
      refine wp_skip (then_normal ?_)
      refine wp_seq ?_
      refine wp_block ?_
      refine wp_seq ?_
      refine wp_region_lit ?_
      refine a_val hs rfl rfl rfl (y_move hs rfl) ?_; clear hs a; intro a hs
      refine a_val hs rfl rfl rfl (y_assign hs rfl) ?_; clear hs a; intro a hs
      refine wpList_nil (then_normal ?_)
      refine wp_seq ?_
      refine wp_region_lit ?_
      refine a_val hs rfl rfl rfl (y_move hs rfl) ?_; clear hs a; intro a hs
      refine a_val hs rfl rfl rfl (y_move hs rfl) ?_; clear hs a; intro a hs
      refine a_val hs rfl rfl rfl (y_move hs rfl) ?_; clear hs a; intro a hs
      refine a_val hs rfl rfl rfl (y_idxB (size := 6) (off := o + i * 6) hs Tryd.underlying23 (by kernel_rfl) rfl rfl (by omega) (by omega) (by simp)) ?_; clear hs a; intro a hs
      refine a_val hs rfl rfl rfl (y_loadAgg (vs := cs) hs Tryd.underlying24 rfl (by rw [hlen]; kernel_rfl) rfl (fun w hw k v hk => hc w hw.base k v hk)) ?_; clear hs a; intro a hs
      refine a_eff rfl (e_callF hfn hnm hbd hs rfl rfl rfl (hf p (List.mem_of_getElem? hp) cs lf _ hK hlen hlf hs.mem) (fun e w1 ⟨he, hm⟩ => ⟨_, he, _, hm, ?_⟩)); clear hs a; intro a hs
      refine wpList_nil (then_normal ?_)
      refine wp_cond_split (hs.ev rfl) (fun h16 => ?_) (fun h16 => ?_)
      · have hX : xlist st l left = (false, (st p lf).2) := by rw [← hinv, hdrop, xlist, if_neg (by rw [Bool.not_eq_true', ] at h16; rw [h16]; exact Bool.false_ne_true)]
        refine wp_seq ?_
        refine wp_region_lit ?_
        refine a_val hs rfl rfl rfl (y_move hs rfl) ?_; clear hs a; intro a hs
        refine a_val hs rfl rfl rfl (y_assign hs rfl) ?_; clear hs a; intro a hs
        refine wpList_nil (then_normal ?_)
        refine wp_ret (in_ret (then_ret (then_ret (in_ret (then_ret ?_)))))
        refine fin_ret hs (.tmp (hs.slots _ _ rfl) .nil) ⟨_, rfl, ?_, ?_, ?_⟩
        · omega
        · rw [hX]; constructor
          · intro h; first | rfl | (exfalso; omega)
          · intro h; first | rfl | cases h
        · rw [hX]; exact hs.mem
      · have h1 : (st p lf).1 = true := by rw [Bool.not_eq_false'] at h16; exact h16
        refine wp_skip (in_normal (then_normal ?_))
        refine wp_region_lit ?_
        refine a_val hs rfl rfl rfl (y_add hs rfl rfl (by omega)) ?_; clear hs a; intro a hs
        refine a_val hs rfl rfl rfl (y_move hs rfl) ?_; clear hs a; intro a hs
        refine wpList_nil (then_normal ?_)
        refine ⟨m - 1, by omega, i + 1, (st p lf).2, by omega, ⟨hfl.2.2 h1, by have := hfl.2.1; omega⟩, by rw [← hinv, hdrop, xlist, if_pos h1], ?_⟩
        exact (hs.mem_to hs.mem).cut _ ⟨rfl, rfl, rfl, rfl, trivial⟩
    · replace h9 := of_decide_eq_false h9
      have hX : xlist st l left = (true, lf) := by rw [← hinv, List.drop_eq_nil_of_le (by omega), xlist]
      refine wp_exit (then_exit (then_exit (in_here (then_normal ?_))))
      refine wp_seq ?_
      refine wp_region_lit ?_
      refine a_val hs rfl rfl rfl (y_assign hs rfl) ?_; clear hs a; intro a hs
      refine wpList_nil (then_normal ?_)
      refine wp_ret ?_
      refine fin_ret hs (.tmp (hs.slots _ _ rfl) .nil) ⟨_, rfl, ?_, ?_, ?_⟩
      · omega
      · rw [hX]; constructor
        · intro h; first | rfl | (exfalso; omega)
        · intro h; first | rfl | cases h
      · rw [hX]; exact hs.mem
set_option maxRecDepth 100000 in
theorem contains_E (g fid : Nat) (fn : Func) (caps : List Value) (st : S25 → Int → Bool × Int) (A : Option Addr) (c : Nat) (l : List S25) (left : Int) (bs : List Res) (w0 w : World) (hfn : Tryd.prog.funcs[fid]? = some fn) (hnm : (fn.name == "runtime.NumGoroutine") = false) (hbd : fn.body.isNone = false) (hA : Kd.C k25 w0 A l.length l) (hf : ∀ p ∈ l, ∀ (cs : List Value) (lf : Int) (w1 : World), k25.K w0 p cs → cs.length = 6 → 0 ≤ lf ∧ lf ≤ 8192 → H w0 (pt g #[.int .i64 (lf)] 102 :: bs) w1 → Calls Tryd.prog fid (.agg cs.toArray :: caps).toArray w1 fun e w' => e = .returned (.bool (!(st p lf).1)) ∧ H w0 (pt g #[.int .i64 ((st p lf).2)] 102 :: bs) w') (hst : ∀ p ∈ l, ∀ lf, 0 ≤ lf → fallsB (st p lf) lf) (hl : 0 ≤ left ∧ left ≤ 8192) (h : H w0 (pt g #[.int .i64 (left)] 102 :: bs) w) :
    Calls Tryd.prog 100 #[.slice A l.length c, .func (.func fid) #[] caps.toArray] w fun e w' => e = .returned (.bool (!(xlist st l left).1)) ∧ H w0 (pt g #[.int .i64 ((xlist st l left).2)] 102 :: bs) w' := by
  refine calls_enter (N := 9) (n := 7) (args := [.slice A l.length c, .func (.func fid) #[] caps.toArray]) Tryd.func100 rfl rfl rfl (h) (fun a hs => ?_)
  refine wp_seq ?_
  refine wp_region_lit ?_
  refine a_val hs rfl rfl rfl (y_assign hs rfl) ?_; clear hs a; intro a hs
  refine wpList_nil (then_normal ?_)
  refine wp_seq ?_
  refine wp_region_lit ?_
  refine a_val hs rfl rfl rfl (y_move hs rfl) ?_; clear hs a; intro a hs
  refine a_val hs rfl rfl rfl (y_move hs rfl) ?_; clear hs a; intro a hs
  refine a_eff rfl (e_callX Tryd.func109 rfl rfl hs rfl rfl (index_E g fid fn caps st A c l left _ w0 _ hfn hnm hbd hA hf hst hl hs.mem) (fun e w1 ⟨k, he, hk1, hk2, hm⟩ => ⟨_, he, _, hm, ?_⟩)); clear hs a; intro a hs
  refine a_val hs rfl rfl rfl (y_cmp (b := !(xlist st l left).1) hs rfl rfl (congrArg some (by cases hb : (xlist st l left).1 with | true => exact decide_eq_false (by have := hk2.2 hb; omega) | false => exact decide_eq_true (by have hk3 : ¬ k = -1 := fun h => Bool.false_ne_true (hb.symm.trans (hk2.1 h)); omega)))) ?_; clear hs a; intro a hs
  refine a_val hs rfl rfl rfl (y_assign hs rfl) ?_; clear hs a; intro a hs
  refine wpList_nil (then_normal ?_)
  refine wp_ret ?_
  refine fin_ret hs (.tmp (hs.slots _ _ rfl) .nil) ⟨rfl, hs.mem⟩
set_option maxRecDepth 100000 in
theorem index_S (g fid : Nat) (fn : Func) (caps : List Value) (st : S42 → Int → Bool × Int) (A : Option Addr) (c : Nat) (l : List S42) (left : Int) (bs : List Res) (w0 w : World) (hfn : Tryd.prog.funcs[fid]? = some fn) (hnm : (fn.name == "runtime.NumGoroutine") = false) (hbd : fn.body.isNone = false) (hA : Kd.C k42 w0 A l.length l) (hf : ∀ p ∈ l, ∀ (cs : List Value) (lf : Int) (w1 : World), k42.K w0 p cs → cs.length = 7 → 0 ≤ lf ∧ lf ≤ 8192 → H w0 (pt g #[.int .i64 (lf)] 102 :: bs) w1 → Calls Tryd.prog fid (.agg cs.toArray :: caps).toArray w1 fun e w' => e = .returned (.bool (!(st p lf).1)) ∧ H w0 (pt g #[.int .i64 ((st p lf).2)] 102 :: bs) w') (hst : ∀ p ∈ l, ∀ lf, 0 ≤ lf → fallsB (st p lf) lf) (hl : 0 ≤ left ∧ left ≤ 8192) (h : H w0 (pt g #[.int .i64 (left)] 102 :: bs) w) :
    Calls Tryd.prog 102 #[.slice A l.length c, .func (.func fid) #[] caps.toArray] w fun e w' => ∃ k : Int, e = .returned (.int .i64 k) ∧ -1 ≤ k ∧ (k = -1 ↔ (xlist st l left).1 = true) ∧ H w0 (pt g #[.int .i64 ((xlist st l left).2)] 102 :: bs) w' := by
  refine calls_enter (N := 19) (n := 17) (args := [.slice A l.length c, .func (.func fid) #[] caps.toArray]) Tryd.func102 rfl rfl rfl (h) (fun a hs => ?_)
  have hcl := C_len hA
  refine wp_seq ?_
  refine wp_region_lit ?_
  refine a_val hs rfl rfl rfl (y_assign hs rfl) ?_; clear hs a; intro a hs
  refine wpList_nil (then_normal ?_)
  refine wp_seq ?_
  refine wp_seq ?_
  refine wp_region_lit ?_
  refine a_val hs rfl rfl rfl (y_move hs rfl) ?_; clear hs a; intro a hs
  refine a_val hs rfl rfl rfl (y_lenL hs Tryd.underlying39 rfl) ?_; clear hs a; intro a hs
  refine a_val hs rfl rfl rfl (y_move hs rfl) ?_; clear hs a; intro a hs
  refine wpList_nil (then_normal ?_)
  refine wp_block ?_
  refine wp_loopN (fun m a w1 => ∃ (i : Nat) (lf : Int), (i + m = l.length) ∧ (0 ≤ lf ∧ lf ≤ 8192) ∧ (xlist st (l.drop i) lf = xlist st l left) ∧ St 19 w0 [(0, .slice A l.length c), (1, .func (.func fid) #[] caps.toArray), (7, .int .i64 (l.length : Int)), (8, .int .i64 ((i : Nat) : Int))] (pt g #[.int .i64 (lf)] 102 :: bs) a w1) (l.length) ⟨0, left, by omega, hl, rfl, ?_⟩ (fun m a w1 hJ => ?_)
  · exact (hs.mem_to hs.mem).cut _ ⟨rfl, rfl, rfl, rfl, trivial⟩
  · clear hs
    obtain ⟨i, lf, hi, hlf, hinv, hs⟩ := hJ
    refine wp_seq ?_
    refine wp_region_lit ?_
    refine a_val hs rfl rfl rfl (y_cmp hs rfl rfl rfl) ?_; clear hs a; intro a hs
    refine wpList_nil (then_normal ?_)
    refine wp_seq ?_
    refine wp_cond_split (hs.ev rfl) (fun h9 => ?_) (fun h9 => ?_)
    · replace h9 := of_decide_eq_true h9
      obtain ⟨p, hp⟩ : ∃ p, l[i]? = some p := ⟨_, List.getElem?_eq_getElem (by omega)⟩
      obtain ⟨g0, o, rfl, hcell⟩ := C_atH (show 0 < 7 by decide) hA (by omega)
      obtain ⟨cs, hK, hlen, hc⟩ := hcell i p hp
      replace hlen : cs.length = 7 := hlen
      have hfl := hst p (List.mem_of_getElem? hp) lf hlf.1
      have hdrop : l.drop i = p :: l.drop (i + 1) := by
        rw [List.drop_eq_getElem_cons (by omega)]
        rw [List.getElem?_eq_getElem (by omega)] at hp
        injection hp with hp
        rw [hp]
      refine wp_skip (then_normal ?_)
      refine wp_seq ?_
      refine wp_block ?_
      refine wp_seq ?_
      refine wp_region_lit ?_
      refine a_val hs rfl rfl rfl (y_move hs rfl) ?_; clear hs a; intro a hs
      refine a_val hs rfl rfl rfl (y_assign hs rfl) ?_; clear hs a; intro a hs
      refine wpList_nil (then_normal ?_)
      refine wp_seq ?_
      refine wp_region_lit ?_
      refine a_val hs rfl rfl rfl (y_move hs rfl) ?_; clear hs a; intro a hs
      refine a_val hs rfl rfl rfl (y_move hs rfl) ?_; clear hs a; intro a hs
      refine a_val hs rfl rfl rfl (y_move hs rfl) ?_; clear hs a; intro a hs
      refine a_val hs rfl rfl rfl (y_idxB (size := 7) (off := o + i * 7) hs Tryd.underlying39 (by kernel_rfl) rfl rfl (by omega) (by omega) (by simp)) ?_; clear hs a; intro a hs
      refine a_val hs rfl rfl rfl (y_loadAgg (vs := cs) hs Tryd.underlying41 rfl (by rw [hlen]; kernel_rfl) rfl (fun w hw k v hk => hc w hw.base k v hk)) ?_; clear hs a; intro a hs
      refine a_eff rfl (e_callF hfn hnm hbd hs rfl rfl rfl (hf p (List.mem_of_getElem? hp) cs lf _ hK hlen hlf hs.mem) (fun e w1 ⟨he, hm⟩ => ⟨_, he, _, hm, ?_⟩)); clear hs a; intro a hs
      refine wpList_nil (then_normal ?_)
      refine wp_cond_split (hs.ev rfl) (fun h16 => ?_) (fun h16 => ?_)
      · have hX : xlist st l left = (false, (st p lf).2) := by rw [← hinv, hdrop, xlist, if_neg (by rw [Bool.not_eq_true', ] at h16; rw [h16]; exact Bool.false_ne_true)]
        refine wp_seq ?_
        refine wp_region_lit ?_
        refine a_val hs rfl rfl rfl (y_move hs rfl) ?_; clear hs a; intro a hs
        refine a_val hs rfl rfl rfl (y_assign hs rfl) ?_; clear hs a; intro a hs
        refine wpList_nil (then_normal ?_)
        refine wp_ret (in_ret (then_ret (then_ret (in_ret (then_ret ?_)))))
        refine fin_ret hs (.tmp (hs.slots _ _ rfl) .nil) ⟨_, rfl, ?_, ?_, ?_⟩
        · omega
        · rw [hX]; constructor
          · intro h; first | rfl | (exfalso; omega)
          · intro h; first | rfl | cases h
        · rw [hX]; exact hs.mem
      · have h1 : (st p lf).1 = true := by rw [Bool.not_eq_false'] at h16; exact h16
        refine wp_skip (in_normal (then_normal ?_))
        refine wp_region_lit ?_
        refine a_val hs rfl rfl rfl (y_add hs rfl rfl (by omega)) ?_; clear hs a; intro a hs
        refine a_val hs rfl rfl rfl (y_move hs rfl) ?_; clear hs a; intro a hs
        refine wpList_nil (then_normal ?_)
        refine ⟨m - 1, by omega, i + 1, (st p lf).2, by omega, ⟨hfl.2.2 h1, by have := hfl.2.1; omega⟩, by rw [← hinv, hdrop, xlist, if_pos h1], ?_⟩
        exact (hs.mem_to hs.mem).cut _ ⟨rfl, rfl, rfl, rfl, trivial⟩
    · replace h9 := of_decide_eq_false h9
      have hX : xlist st l left = (true, lf) := by rw [← hinv, List.drop_eq_nil_of_le (by omega), xlist]
      refine wp_exit (then_exit (then_exit (in_here (then_normal ?_))))
      refine wp_seq ?_
      refine wp_region_lit ?_
      refine a_val hs rfl rfl rfl (y_assign hs rfl) ?_; clear hs a; intro a hs
      refine wpList_nil (then_normal ?_)
      refine wp_ret ?_
      refine fin_ret hs (.tmp (hs.slots _ _ rfl) .nil) ⟨_, rfl, ?_, ?_, ?_⟩
      · omega
      · rw [hX]; constructor
        · intro h; first | rfl | (exfalso; omega)
        · intro h; first | rfl | cases h
      · rw [hX]; exact hs.mem
set_option maxRecDepth 100000 in
theorem contains_S (g fid : Nat) (fn : Func) (caps : List Value) (st : S42 → Int → Bool × Int) (A : Option Addr) (c : Nat) (l : List S42) (left : Int) (bs : List Res) (w0 w : World) (hfn : Tryd.prog.funcs[fid]? = some fn) (hnm : (fn.name == "runtime.NumGoroutine") = false) (hbd : fn.body.isNone = false) (hA : Kd.C k42 w0 A l.length l) (hf : ∀ p ∈ l, ∀ (cs : List Value) (lf : Int) (w1 : World), k42.K w0 p cs → cs.length = 7 → 0 ≤ lf ∧ lf ≤ 8192 → H w0 (pt g #[.int .i64 (lf)] 102 :: bs) w1 → Calls Tryd.prog fid (.agg cs.toArray :: caps).toArray w1 fun e w' => e = .returned (.bool (!(st p lf).1)) ∧ H w0 (pt g #[.int .i64 ((st p lf).2)] 102 :: bs) w') (hst : ∀ p ∈ l, ∀ lf, 0 ≤ lf → fallsB (st p lf) lf) (hl : 0 ≤ left ∧ left ≤ 8192) (h : H w0 (pt g #[.int .i64 (left)] 102 :: bs) w) :
    Calls Tryd.prog 78 #[.slice A l.length c, .func (.func fid) #[] caps.toArray] w fun e w' => e = .returned (.bool (!(xlist st l left).1)) ∧ H w0 (pt g #[.int .i64 ((xlist st l left).2)] 102 :: bs) w' := by
  refine calls_enter (N := 9) (n := 7) (args := [.slice A l.length c, .func (.func fid) #[] caps.toArray]) Tryd.func78 rfl rfl rfl (h) (fun a hs => ?_)
  refine wp_seq ?_
  refine wp_region_lit ?_
  refine a_val hs rfl rfl rfl (y_assign hs rfl) ?_; clear hs a; intro a hs
  refine wpList_nil (then_normal ?_)
  refine wp_seq ?_
  refine wp_region_lit ?_
  refine a_val hs rfl rfl rfl (y_move hs rfl) ?_; clear hs a; intro a hs
  refine a_val hs rfl rfl rfl (y_move hs rfl) ?_; clear hs a; intro a hs
  refine a_eff rfl (e_callX Tryd.func102 rfl rfl hs rfl rfl (index_S g fid fn caps st A c l left _ w0 _ hfn hnm hbd hA hf hst hl hs.mem) (fun e w1 ⟨k, he, hk1, hk2, hm⟩ => ⟨_, he, _, hm, ?_⟩)); clear hs a; intro a hs
  refine a_val hs rfl rfl rfl (y_cmp (b := !(xlist st l left).1) hs rfl rfl (congrArg some (by cases hb : (xlist st l left).1 with | true => exact decide_eq_false (by have := hk2.2 hb; omega) | false => exact decide_eq_true (by have hk3 : ¬ k = -1 := fun h => Bool.false_ne_true (hb.symm.trans (hk2.1 h)); omega)))) ?_; clear hs a; intro a hs
  refine a_val hs rfl rfl rfl (y_assign hs rfl) ?_; clear hs a; intro a hs
  refine wpList_nil (then_normal ?_)
  refine wp_ret ?_
  refine fin_ret hs (.tmp (hs.slots _ _ rfl) .nil) ⟨rfl, hs.mem⟩
set_option maxRecDepth 100000 in
theorem index_I (g fid : Nat) (fn : Func) (caps : List Value) (st : S45 → Int → Bool × Int) (A : Option Addr) (c : Nat) (l : List S45) (left : Int) (bs : List Res) (w0 w : World) (hfn : Tryd.prog.funcs[fid]? = some fn) (hnm : (fn.name == "runtime.NumGoroutine") = false) (hbd : fn.body.isNone = false) (hA : Kd.C k45 w0 A l.length l) (hf : ∀ p ∈ l, ∀ (cs : List Value) (lf : Int) (w1 : World), k45.K w0 p cs → cs.length = 19 → 0 ≤ lf ∧ lf ≤ 8192 → H w0 (pt g #[.int .i64 (lf)] 102 :: bs) w1 → Calls Tryd.prog fid (.agg cs.toArray :: caps).toArray w1 fun e w' => e = .returned (.bool (!(st p lf).1)) ∧ H w0 (pt g #[.int .i64 ((st p lf).2)] 102 :: bs) w') (hst : ∀ p ∈ l, ∀ lf, 0 ≤ lf → fallsB (st p lf) lf) (hl : 0 ≤ left ∧ left ≤ 8192) (h : H w0 (pt g #[.int .i64 (left)] 102 :: bs) w) :
    Calls Tryd.prog 80 #[.slice A l.length c, .func (.func fid) #[] caps.toArray] w fun e w' => ∃ k : Int, e = .returned (.int .i64 k) ∧ -1 ≤ k ∧ (k = -1 ↔ (xlist st l left).1 = true) ∧ H w0 (pt g #[.int .i64 ((xlist st l left).2)] 102 :: bs) w' := by
  refine calls_enter (N := 19) (n := 17) (args := [.slice A l.length c, .func (.func fid) #[] caps.toArray]) Tryd.func80 rfl rfl rfl (h) (fun a hs => ?_)
  have hcl := C_len hA
  refine wp_seq ?_
  refine wp_region_lit ?_
  refine a_val hs rfl rfl rfl (y_assign hs rfl) ?_; clear hs a; intro a hs
  refine wpList_nil (then_normal ?_)
  refine wp_seq ?_
  refine wp_seq ?_
  refine wp_region_lit ?_
  refine a_val hs rfl rfl rfl (y_move hs rfl) ?_; clear hs a; intro a hs
  refine a_val hs rfl rfl rfl (y_lenL hs Tryd.underlying32 rfl) ?_; clear hs a; intro a hs
  refine a_val hs rfl rfl rfl (y_move hs rfl) ?_; clear hs a; intro a hs
  refine wpList_nil (then_normal ?_)
  refine wp_block ?_
  refine wp_loopN (fun m a w1 => ∃ (i : Nat) (lf : Int), (i + m = l.length) ∧ (0 ≤ lf ∧ lf ≤ 8192) ∧ (xlist st (l.drop i) lf = xlist st l left) ∧ St 19 w0 [(0, .slice A l.length c), (1, .func (.func fid) #[] caps.toArray), (7, .int .i64 (l.length : Int)), (8, .int .i64 ((i : Nat) : Int))] (pt g #[.int .i64 (lf)] 102 :: bs) a w1) (l.length) ⟨0, left, by omega, hl, rfl, ?_⟩ (fun m a w1 hJ => ?_)
  · exact (hs.mem_to hs.mem).cut _ ⟨rfl, rfl, rfl, rfl, trivial⟩
  · clear hs
    obtain ⟨i, lf, hi, hlf, hinv, hs⟩ := hJ
    refine wp_seq ?_
    refine wp_region_lit ?_
    refine a_val hs rfl rfl rfl (y_cmp hs rfl rfl rfl) ?_; clear hs a; intro a hs
    refine wpList_nil (then_normal ?_)
    refine wp_seq ?_
    refine wp_cond_split (hs.ev rfl) (fun h9 => ?_) (fun h9 => ?_)
    · replace h9 := of_decide_eq_true h9
      obtain ⟨p, hp⟩ : ∃ p, l[i]? = some p := ⟨_, List.getElem?_eq_getElem (by omega)⟩
      obtain ⟨g0, o, rfl, hcell⟩ := C_atH (show 0 < 19 by decide) hA (by omega)
      obtain ⟨cs, hK, hlen, hc⟩ := hcell i p hp
      replace hlen : cs.length = 19 := hlen
      have hfl := hst p (List.mem_of_getElem? hp) lf hlf.1
      have hdrop : l.drop i = p :: l.drop (i + 1) := by
        rw [List.drop_eq_getElem_cons (by omega)]
        rw [List.getElem?_eq_getElem (by omega)] at hp
        injection hp with hp
        rw [hp]
      refine wp_skip (then_normal ?_)
      refine wp_seq ?_
      refine wp_block ?_
      refine wp_seq ?_
      refine wp_region_lit ?_
      refine a_val hs rfl rfl rfl (y_move hs rfl) ?_; clear hs a; intro a hs
      refine a_val hs rfl rfl rfl (y_assign hs rfl) ?_; clear hs a; intro a hs
      refine wpList_nil (then_normal ?_)
      refine wp_seq ?_
      refine wp_region_lit ?_
      refine a_val hs rfl rfl rfl (y_move hs rfl) ?_; clear hs a; intro a hs
      refine a_val hs rfl rfl rfl (y_move hs rfl) ?_; clear hs a; intro a hs
      refine a_val hs rfl rfl rfl (y_move hs rfl) ?_; clear hs a; intro a hs
      refine a_val hs rfl rfl rfl (y_idxB (size := 19) (off := o + i * 19) hs Tryd.underlying32 (by kernel_rfl) rfl rfl (by omega) (by omega) (by simp)) ?_; clear hs a; intro a hs
      refine a_val hs rfl rfl rfl (y_loadAgg (vs := cs) hs Tryd.underlying44 rfl (by rw [hlen]; kernel_rfl) rfl (fun w hw k v hk => hc w hw.base k v hk)) ?_; clear hs a; intro a hs
      refine a_eff rfl (e_callF hfn hnm hbd hs rfl rfl rfl (hf p (List.mem_of_getElem? hp) cs lf _ hK hlen hlf hs.mem) (fun e w1 ⟨he, hm⟩ => ⟨_, he, _, hm, ?_⟩)); clear hs a; intro a hs
      refine wpList_nil (then_normal ?_)
      refine wp_cond_split (hs.ev rfl) (fun h16 => ?_) (fun h16 => ?_)
      · have hX : xlist st l left = (false, (st p lf).2) := by rw [← hinv, hdrop, xlist, if_neg (by rw [Bool.not_eq_true', ] at h16; rw [h16]; exact Bool.false_ne_true)]
        refine wp_seq ?_
        refine wp_region_lit ?_
        refine a_val hs rfl rfl rfl (y_move hs rfl) ?_; clear hs a; intro a hs
        refine a_val hs rfl rfl rfl (y_assign hs rfl) ?_; clear hs a; intro a hs
        refine wpList_nil (then_normal ?_)
        refine wp_ret (in_ret (then_ret (then_ret (in_ret (then_ret ?_)))))
        refine fin_ret hs (.tmp (hs.slots _ _ rfl) .nil) ⟨_, rfl, ?_, ?_, ?_⟩
        · omega
        · rw [hX]; constructor
          · intro h; first | rfl | (exfalso; omega)
          · intro h; first | rfl | cases h
        · rw [hX]; exact hs.mem
      · have h1 : (st p lf).1 = true := by rw [Bool.not_eq_false'] at h16; exact h16
        refine wp_skip (in_normal (then_normal ?_))
        refine wp_region_lit ?_
        refine a_val hs rfl rfl rfl (y_add hs rfl rfl (by omega)) ?_; clear hs a; intro a hs
        refine a_val hs rfl rfl rfl (y_move hs rfl) ?_; clear hs a; intro a hs
        refine wpList_nil (then_normal ?_)
        refine ⟨m - 1, by omega, i + 1, (st p lf).2, by omega, ⟨hfl.2.2 h1, by have := hfl.2.1; omega⟩, by rw [← hinv, hdrop, xlist, if_pos h1], ?_⟩
        exact (hs.mem_to hs.mem).cut _ ⟨rfl, rfl, rfl, rfl, trivial⟩
    · replace h9 := of_decide_eq_false h9
      have hX : xlist st l left = (true, lf) := by rw [← hinv, List.drop_eq_nil_of_le (by omega), xlist]
      refine wp_exit (then_exit (then_exit (in_here (then_normal ?_))))
      refine wp_seq ?_
      refine wp_region_lit ?_
      refine a_val hs rfl rfl rfl (y_assign hs rfl) ?_; clear hs a; intro a hs
      refine wpList_nil (then_normal ?_)
      refine wp_ret ?_
      refine fin_ret hs (.tmp (hs.slots _ _ rfl) .nil) ⟨_, rfl, ?_, ?_, ?_⟩
      · omega
      · rw [hX]; constructor
        · intro h; first | rfl | (exfalso; omega)
        · intro h; first | rfl | cases h
      · rw [hX]; exact hs.mem
set_option maxRecDepth 100000 in
theorem contains_I (g fid : Nat) (fn : Func) (caps : List Value) (st : S45 → Int → Bool × Int) (A : Option Addr) (c : Nat) (l : List S45) (left : Int) (bs : List Res) (w0 w : World) (hfn : Tryd.prog.funcs[fid]? = some fn) (hnm : (fn.name == "runtime.NumGoroutine") = false) (hbd : fn.body.isNone = false) (hA : Kd.C k45 w0 A l.length l) (hf : ∀ p ∈ l, ∀ (cs : List Value) (lf : Int) (w1 : World), k45.K w0 p cs → cs.length = 19 → 0 ≤ lf ∧ lf ≤ 8192 → H w0 (pt g #[.int .i64 (lf)] 102 :: bs) w1 → Calls Tryd.prog fid (.agg cs.toArray :: caps).toArray w1 fun e w' => e = .returned (.bool (!(st p lf).1)) ∧ H w0 (pt g #[.int .i64 ((st p lf).2)] 102 :: bs) w') (hst : ∀ p ∈ l, ∀ lf, 0 ≤ lf → fallsB (st p lf) lf) (hl : 0 ≤ left ∧ left ≤ 8192) (h : H w0 (pt g #[.int .i64 (left)] 102 :: bs) w) :
    Calls Tryd.prog 47 #[.slice A l.length c, .func (.func fid) #[] caps.toArray] w fun e w' => e = .returned (.bool (!(xlist st l left).1)) ∧ H w0 (pt g #[.int .i64 ((xlist st l left).2)] 102 :: bs) w' := by
  refine calls_enter (N := 9) (n := 7) (args := [.slice A l.length c, .func (.func fid) #[] caps.toArray]) Tryd.func47 rfl rfl rfl (h) (fun a hs => ?_)
  refine wp_seq ?_
  refine wp_region_lit ?_
  refine a_val hs rfl rfl rfl (y_assign hs rfl) ?_; clear hs a; intro a hs
  refine wpList_nil (then_normal ?_)
  refine wp_seq ?_
  refine wp_region_lit ?_
  refine a_val hs rfl rfl rfl (y_move hs rfl) ?_; clear hs a; intro a hs
  refine a_val hs rfl rfl rfl (y_move hs rfl) ?_; clear hs a; intro a hs
  refine a_eff rfl (e_callX Tryd.func80 rfl rfl hs rfl rfl (index_I g fid fn caps st A c l left _ w0 _ hfn hnm hbd hA hf hst hl hs.mem) (fun e w1 ⟨k, he, hk1, hk2, hm⟩ => ⟨_, he, _, hm, ?_⟩)); clear hs a; intro a hs
  refine a_val hs rfl rfl rfl (y_cmp (b := !(xlist st l left).1) hs rfl rfl (congrArg some (by cases hb : (xlist st l left).1 with | true => exact decide_eq_false (by have := hk2.2 hb; omega) | false => exact decide_eq_true (by have hk3 : ¬ k = -1 := fun h => Bool.false_ne_true (hb.symm.trans (hk2.1 h)); omega)))) ?_; clear hs a; intro a hs
  refine a_val hs rfl rfl rfl (y_assign hs rfl) ?_; clear hs a; intro a hs
  refine wpList_nil (then_normal ?_)
  refine wp_ret ?_
  refine fin_ret hs (.tmp (hs.slots _ _ rfl) .nil) ⟨rfl, hs.mem⟩
/-- The search over expressions. -/
def stE (x : XE) (left : Int) : Bool × Int := (decide (0 < (xexpr 16 x left).1), (xexpr 16 x left).2)
theorem stE_falls (x : XE) (lf : Int) (h : 0 ≤ lf) : fallsB (stE x lf) lf := by
  obtain ⟨a, b, c⟩ := xexpr_left 16 x lf h
  exact ⟨a, b, fun h => c (by have := of_decide_eq_true h; omega)⟩
set_option maxRecDepth 100000 in
theorem exprs_one (g gc : Nat) (x : XE) (A : Option Addr) (C : Nat) (lf : Int) (bs : List Res) (w0 w : World) (hA : Kd.C k25 w0 A x.f3.length x.f3) (hsm : smallX 16 x) (hlf : 0 ≤ lf ∧ lf ≤ 8192) (h : H w0 (pt g #[.int .i64 (lf)] 102 :: pt gc #[.pointer (some ⟨g, 0, none⟩)] 72 :: bs) w) :
    Calls Tryd.prog 101 #[.agg #[.int .u8 x.f0, .int .i64 x.f1, .string x.f2, .slice A x.f3.length C, .int .i64 x.f4, .int .i64 x.f5], .pointer (some ⟨gc, 0, none⟩)] w fun e w' => e = .returned (.bool (!(stE x lf).1)) ∧ H w0 (pt g #[.int .i64 ((stE x lf).2)] 102 :: pt gc #[.pointer (some ⟨g, 0, none⟩)] 72 :: bs) w' := by
  refine calls_enter (N := 8) (n := 6) (args := [.agg #[.int .u8 x.f0, .int .i64 x.f1, .string x.f2, .slice A x.f3.length C, .int .i64 x.f4, .int .i64 x.f5], .pointer (some ⟨gc, 0, none⟩)]) Tryd.func101 rfl rfl rfl (h) (fun a hs => ?_)
  refine wp_seq ?_
  refine wp_region_lit ?_
  refine a_eff rfl (e_box (cs := #[_, _, _, _, _, _]) hs rfl rfl rfl ?_); clear hs a; intro gx a w hs
  refine a_val hs rfl rfl rfl (y_assign hs rfl) ?_; clear hs a; intro a hs
  refine wpList_nil (then_normal ?_)
  refine wp_seq ?_
  refine wp_region_lit ?_
  refine a_val hs rfl rfl rfl (y_load hs Tryd.underlying72 rfl rfl (fun w hw => (hw.to 2 rfl).cellV rfl)) ?_; clear hs a; intro a hs
  refine a_val hs rfl rfl rfl (y_loadPt 0 rfl hs Tryd.underlying25 rfl (by kernel_rfl) rfl) ?_; clear hs a; intro a hs
  refine a_eff rfl (e_callX Tryd.func44 rfl rfl hs rfl rfl (walk_expr 16 (by decide) x A C g lf _ w0 _ hA hsm hlf (hs.mem.to 1 rfl)) (fun e w1 ⟨he, hm⟩ => ⟨_, he, _, hm, ?_⟩)); clear hs a; intro a hs
  refine a_val hs rfl rfl rfl (y_cmp (b := !(stE x lf).1) hs rfl rfl (congrArg some (if h : 0 < (xexpr 16 x lf).1 then (by unfold stE; rw [decide_eq_true h]; exact beq_eq_false_iff_ne.2 (by omega)) else (by unfold stE; rw [decide_eq_false h]; exact beq_iff_eq.2 (by omega))))) ?_; clear hs a; intro a hs
  refine a_val hs rfl rfl rfl (y_assign hs rfl) ?_; clear hs a; intro a hs
  refine wpList_nil (then_normal ?_)
  refine wp_ret ?_
  refine fin_ret hs (.tmp (hs.slots _ _ rfl) .nil) ⟨rfl, (((hs.mem.to 1 rfl).drop.to 1 rfl).to 1 rfl)⟩
set_option maxRecDepth 100000 in
theorem walk_exprs (g : Nat) (A : Option Addr) (c : Nat) (l : List XE) (left : Int) (bs : List Res) (w0 w : World) (hA : Kd.C k25 w0 A l.length l) (hsm : ∀ p ∈ l, smallX 16 p) (hl : 0 ≤ left ∧ left ≤ 8192) (h : H w0 (pt g #[.int .i64 (left)] 102 :: bs) w) :
    Calls Tryd.prog 77 #[.pointer (some ⟨g, 0, none⟩), .slice A l.length c] w fun e w' => e = .returned (.bool (xlist stE l left).1) ∧ H w0 (pt g #[.int .i64 ((xlist stE l left).2)] 102 :: bs) w' := by
  refine calls_enter (N := 9) (n := 7) (args := [.pointer (some ⟨g, 0, none⟩), .slice A l.length c]) Tryd.func77 rfl rfl rfl (h) (fun a hs => ?_)
  refine wp_seq ?_
  refine wp_region_lit ?_
  refine a_eff rfl (e_box (cs := #[_]) hs rfl rfl rfl ?_); clear hs a; intro gc a w hs
  refine a_val hs rfl rfl rfl (y_assign hs rfl) ?_; clear hs a; intro a hs
  refine wpList_nil (then_normal ?_)
  refine wp_seq ?_
  refine wp_region_lit ?_
  refine a_val hs rfl rfl rfl (y_move hs rfl) ?_; clear hs a; intro a hs
  refine a_val hs rfl rfl rfl (y_func hs rfl rfl) ?_; clear hs a; intro a hs
  refine a_eff rfl (e_callX Tryd.func100 rfl rfl hs rfl rfl (contains_E g 101 _ [.pointer (some ⟨gc, 0, none⟩)] stE A c l left (pt gc #[.pointer (some ⟨g, 0, none⟩)] 72 :: bs) w0 _ Tryd.func101 rfl rfl hA (fun p hp cs lf w1 hK hlen hlf h => by obtain ⟨A0, c0, rfl, hlc, hC⟩ := k25_open hK; exact exprs_one g gc p A0 c0 lf bs w0 w1 hC (hsm p hp) hlf h) (fun p hp lf h => stE_falls p lf h) hl (hs.mem.to 1 rfl)) (fun e w1 ⟨he, hm⟩ => ⟨_, he, _, hm, ?_⟩)); clear hs a; intro a hs
  refine a_val hs rfl rfl rfl (y_not hs rfl) ?_; clear hs a; intro a hs
  refine a_val hs rfl rfl rfl (y_assign hs rfl) ?_; clear hs a; intro a hs
  refine wpList_nil (then_normal ?_)
  refine wp_ret ?_
  refine fin_ret hs (.tmp (hs.slots _ _ rfl) .nil) ⟨?_, (hs.mem.to 1 rfl).drop⟩
  show _ = Ending.returned (.bool _); simp [tell]
end Go.Proofs.YtibaidddhmdafaaDoor.E
end
section
namespace Go.Proofs.YtibaidddhmdafaaDoor.E
open Go Go.RowKit Go.Proofs.YtibaidddhmdafaaDoorW.PrintWords Go.Proofs.YtibaidddhmdafaaDoorW.PrintLast Go.Proofs.YtibaidddhmdafaaDoorW.PrintMore Go.Proofs.YtibaidddhmdafaaDoor.PA
set_option linter.unusedVariables false
set_option linter.unusedSimpArgs false
abbrev XS := S42
abbrev XI := S45
/-- A matrix's rows. -/
def stR (r : List XE) (left : Int) : Bool × Int := if 1 ≤ r.length ∧ r.length ≤ 64 then xlist stE r left else (false, left)
def rowsF (l : List (List XE)) (left : Int) : Bool × Int := if 1 ≤ l.length ∧ l.length ≤ 64 then xlist stR l left else (false, left)
theorem stR_falls (r : List XE) (lf : Int) (h : 0 ≤ lf) : fallsB (stR r lf) lf := by
  unfold stR
  split
  · exact xlist_left r lf (fun p _ l h => stE_falls p l h) h
  · exact ⟨by show -1 ≤ lf; omega, Int.le_refl _, fun h => by cases h⟩
theorem rowsF_falls (l : List (List XE)) (lf : Int) (h : 0 ≤ lf) : fallsB (rowsF l lf) lf := by
  unfold rowsF
  split
  · exact xlist_left l lf (fun p _ l h => stR_falls p l h) h
  · exact ⟨by show -1 ≤ lf; omega, Int.le_refl _, fun h => by cases h⟩
/-- What a shape of its kind has: a name, so many arguments, so many parts, rows. -/
def shapeParts (k : Int) : Option (Bool × Nat × Nat × Bool) :=
  if k = 1 then some (true, 0, 0, false) else if k = 2 ∨ k = 3 then some (false, 2, 0, false) else if k = 4 ∨ k = 5 then some (false, 3, 0, false)
  else if k = 6 ∨ k = 7 then some (false, 0, 2, false) else if k = 8 then some (false, 0, 0, true) else none
/-- Is a shape's head well? -/
def headS (s : XS) : Prop := ∃ nm a p r, shapeParts s.f0 = some (nm, a, p, r) ∧ nameOk s.f1 = nm ∧ (nm = false → s.f1.size = 0) ∧ s.f2.length = a ∧ s.f3.length = p ∧ (r = false → s.f4.length = 0)
def rowsS (s : XS) (left : Int) : Bool × Int := if s.f0 = 8 then rowsF s.f4 left else (true, left)
theorem rowsS_falls (s : XS) (lf : Int) (h : 0 ≤ lf) : fallsB (rowsS s lf) lf := by
  unfold rowsS
  split
  · exact rowsF_falls _ _ h
  · exact ⟨by show -1 ≤ lf; omega, Int.le_refl _, fun _ => h⟩
open Classical in
noncomputable def xshape : Nat → XS → Int → Bool × Int
  | 0, _, left => (false, left)
  | n + 1, s, left => if left - 1 < 0 then (false, left - 1) else if headS s then
      (if (rowsS s (left - 1)).1 = true then
        (if (xlist stE s.f2 (rowsS s (left - 1)).2).1 = true then
          xlist (xshape n) s.f3 (xlist stE s.f2 (rowsS s (left - 1)).2).2
        else xlist stE s.f2 (rowsS s (left - 1)).2)
      else rowsS s (left - 1))
    else (false, left - 1)
theorem xshape_falls : ∀ (n : Nat) (s : XS) (lf : Int), 0 ≤ lf → fallsB (xshape n s lf) lf
  | 0, _, lf, h => ⟨by show -1 ≤ lf; omega, Int.le_refl _, fun h => by cases h⟩
  | n + 1, s, lf, h => by
    have h0 : fallsB (false, lf - 1) lf := ⟨by show -1 ≤ lf - 1; omega, by show lf - 1 ≤ lf; omega, fun h => by cases h⟩
    rw [xshape]
    split
    · exact h0
    · split
      · have h1 := rowsS_falls s (lf - 1) (by omega)
        split
        · rename_i c1
          have h2 := xlist_left s.f2 _ (fun p _ l h => stE_falls p l h) (h1.2.2 c1)
          split
          · rename_i c2
            have h3 := xlist_left s.f3 _ (fun p _ l h => xshape_falls n p l h) (h2.2.2 c2)
            exact ⟨h3.1, by have := h1.2.1; have := h2.2.1; have := h3.2.1; omega, h3.2.2⟩
          · exact ⟨h2.1, by have := h1.2.1; have := h2.2.1; omega, h2.2.2⟩
        · exact ⟨h1.1, by have := h1.2.1; omega, h1.2.2⟩
      · exact h0
def smallS : Nat → XS → Prop
  | 0, _ => True
  | n + 1, s => s.f1.size ≤ 9223372036854775807 ∧ (∀ p ∈ s.f2, smallX 16 p) ∧ (∀ p ∈ s.f3, smallS n p) ∧ ∀ r ∈ s.f4, ∀ p ∈ r, smallX 16 p
end Go.Proofs.YtibaidddhmdafaaDoor.E
end
section
namespace Go.Proofs.YtibaidddhmdafaaDoor.E
open Go Go.RowKit Go.Proofs.YtibaidddhmdafaaDoorW.PrintWords Go.Proofs.YtibaidddhmdafaaDoorW.PrintLast Go.Proofs.YtibaidddhmdafaaDoorW.PrintMore Go.Proofs.YtibaidddhmdafaaDoor.PA
set_option linter.unusedVariables false
set_option linter.unusedSimpArgs false
set_option maxRecDepth 100000 in
theorem w_say (g ga : Nat) (l : List ByteArray) (toks : List XT) (A1 : Option Addr) (c1 c : Nat) (ta : TypeId) (bs : List Res) (w0 w : World) (hz : ∀ s ∈ l, s.size ≤ 9223372036854775807) (ht : toks.length + l.length ≤ 1000000) (h : H w0 (pt g #[.slice A1 (toks).length c1] 90 :: row 94 5 (.slice A1 (toks).length c1) (toks).length ((toks).flatMap tokC) :: pt ga (l.map Value.string).toArray ta :: bs) w) :
    Calls Tryd.prog 65 #[.pointer (some ⟨g, 0, none⟩), .slice (some ⟨ga, 0, none⟩) l.length c] w fun e w' => ∃ A2 c2, e = .returned (.tuple #[]) ∧ H w0 (pt g #[.slice A2 (toks ++ l.map sayT).length c2] 90 :: row 94 5 (.slice A2 (toks ++ l.map sayT).length c2) (toks ++ l.map sayT).length ((toks ++ l.map sayT).flatMap tokC) :: pt ga (l.map Value.string).toArray ta :: bs) w' := by
  refine calls_enter (N := 34) (n := 32) (args := [.pointer (some ⟨g, 0, none⟩), .slice (some ⟨ga, 0, none⟩) l.length c]) Tryd.func65 rfl rfl rfl (h) (fun a hs => ?_)
  refine wp_seq ?_
  refine wp_region_lit ?_
  refine a_val hs rfl rfl rfl (y_move hs rfl) ?_; clear hs a; intro a hs
  refine a_val hs rfl rfl rfl (y_lenL hs Tryd.underlying116 rfl) ?_; clear hs a; intro a hs
  refine a_val hs rfl rfl rfl (y_move hs rfl) ?_; clear hs a; intro a hs
  refine wpList_nil (then_normal ?_)
  refine wp_block ?_
  refine wp_loopN (fun m a w1 => ∃ (i : Nat) (A2 : Option Addr) (c2 : Nat), (i + m = l.length) ∧ St 34 w0 [(0, .pointer (some ⟨g, 0, none⟩)), (7, .slice (some ⟨ga, 0, none⟩) l.length c), (8, .int .i64 (l.length : Int)), (9, .int .i64 ((i : Nat) : Int))] (pt g #[.slice A2 (toks ++ (l.take i).map sayT).length c2] 90 :: row 94 5 (.slice A2 (toks ++ (l.take i).map sayT).length c2) (toks ++ (l.take i).map sayT).length ((toks ++ (l.take i).map sayT).flatMap tokC) :: pt ga (l.map Value.string).toArray ta :: bs) a w1) (l.length) ⟨0, A1, c1, by omega, ?_⟩ (fun m a w1 hJ => ?_)
  · rw [show toks = toks ++ (l.take 0).map sayT by simp] at hs
    exact (hs.mem_to (((hs.mem.to 2 rfl).to 2 rfl).to 2 rfl)).cut _ ⟨rfl, rfl, rfl, rfl, trivial⟩
  · clear hs
    obtain ⟨i, A2, c2, hi, hs⟩ := hJ
    refine wp_seq ?_
    refine wp_region_lit ?_
    refine a_val hs rfl rfl rfl (y_cmp hs rfl rfl rfl) ?_; clear hs a; intro a hs
    refine wpList_nil (then_normal ?_)
    refine wp_seq ?_
    refine wp_cond_split (hs.ev rfl) (fun h10 => ?_) (fun h10 => ?_)
    · replace h10 := of_decide_eq_true h10
      obtain ⟨s, hsi⟩ : ∃ s, l[i]? = some s := ⟨_, List.getElem?_eq_getElem (by omega)⟩
      have hsz := hz s (List.mem_of_getElem? hsi)
      have hla : (toks ++ (l.take i).map sayT).length ≤ 1000000 := by rw [List.length_append, List.length_map, List.length_take]; omega
      refine wp_skip (then_normal ?_)
      refine wp_seq ?_
      refine wp_block ?_
      refine wp_seq ?_
      refine wp_region_lit ?_
      refine a_val hs rfl rfl rfl (y_idxB (size := 1) (off := 0 + i * 1) hs Tryd.underlying116 (by kernel_rfl) rfl rfl (by omega) (by omega) (by simp)) ?_; clear hs a; intro a hs
      refine a_val hs rfl rfl rfl (y_load (v := .string s) hs Tryd.underlying9 rfl rfl (fun w hw => ((hw.to 2 rfl).cell).trans (by simp [hsi]))) ?_; clear hs a; intro a hs
      refine a_val hs rfl rfl rfl (y_assign hs rfl) ?_; clear hs a; intro a hs
      refine wpList_nil (then_normal ?_)
      refine wp_seq ?_
      refine wp_region_lit ?_
      refine a_val hs rfl rfl rfl (y_move hs rfl) ?_; clear hs a; intro a hs
      refine a_val hs rfl rfl rfl (y_struct (zc := #[.int .u8 0, .string ⟨#[]⟩, .int .i64 0, .int .i64 0, .int .i64 0]) (pl := [(0, 1), (1, 1), (2, 1), (3, 1), (4, 1)]) (cl := [_, _, .int .i64 0, .int .i64 0, .int .i64 0]) hs (by kernel_rfl) rfl (by rfl) rfl) ?_; clear hs a; intro a hs
      refine a_eff rfl (e_alloc (z := .agg #[.int .u8 0, .string ⟨#[]⟩, .int .i64 0, .int .i64 0, .int .i64 0]) (cs := #[.int .u8 0, .string ⟨#[]⟩, .int .i64 0, .int .i64 0, .int .i64 0]) hs rfl (by kernel_rfl) rfl ?_); clear hs a; intro gt a w hs
      refine a_eff rfl (e_store (cl := [_, _, _, _, _]) 0 rfl hs rfl rfl (by kernel_rfl) rfl rfl rfl ?_); clear hs a; intro a w hs
      refine wpList_nil (then_normal ?_)
      refine wp_seq ?_
      refine wp_seq ?_
      refine wp_region_lit ?_
      refine a_val hs rfl rfl rfl (y_loadPt 0 rfl hs Tryd.underlying94 rfl (by kernel_rfl) rfl) ?_; clear hs a; intro a hs
      refine a_eff rfl (e_callB Tryd.func90 rfl rfl hs rfl rfl (token_May.calls (s.size + 3) 2 s 0 0 0 (mayB (tk 2 s)) _ (may_prog (tk 2 s) hsz)) ?_); clear hs a; intro a w hs
      refine a_val hs rfl rfl rfl (y_not hs rfl) ?_; clear hs a; intro a hs
      refine wpList_nil (then_normal ?_)
      refine wp_cond_split (hs.ev rfl) (fun h17 => ?_) (fun h17 => ?_)
      · replace h17 := (not_t h17)
        refine wp_region_lit ?_
        refine a_val hs rfl rfl rfl (y_faddr (k' := 0) 0 hs (by kernel_rfl) rfl rfl) ?_; clear hs a; intro a hs
        refine a_eff rfl (e_store (cl := [_, _, _, _, _]) 0 rfl hs rfl rfl (by kernel_rfl) rfl rfl rfl ?_); clear hs a; intro a w hs
        refine wpList_nil (then_normal ?_)
        refine wp_seq ?_
        refine wp_seq ?_
        refine wp_region_lit ?_
        refine a_val hs rfl rfl rfl (y_loadPt 0 rfl hs Tryd.underlying94 rfl (by kernel_rfl) rfl) ?_; clear hs a; intro a hs
        refine a_eff rfl (e_callB Tryd.func90 rfl rfl hs rfl rfl (token_May.calls (s.size + 3) 1 s 0 0 0 (mayB (tk 1 s)) _ (may_prog (tk 1 s) hsz)) ?_); clear hs a; intro a w hs
        refine a_val hs rfl rfl rfl (y_not hs rfl) ?_; clear hs a; intro a hs
        refine wpList_nil (then_normal ?_)
        refine wp_cond_split (hs.ev rfl) (fun h21 => ?_) (fun h21 => ?_)
        · replace h21 := (not_t h21)
          have hT : sayT s = tk 4 s := by unfold sayT; rw [if_neg (by rw [h17]; exact Bool.false_ne_true), if_neg (by rw [h21]; exact Bool.false_ne_true)]
          refine wp_region_lit ?_
          refine a_val hs rfl rfl rfl (y_faddr (k' := 0) 0 hs (by kernel_rfl) rfl rfl) ?_; clear hs a; intro a hs
          refine a_eff rfl (e_store (cl := [_, _, _, _, _]) 0 rfl hs rfl rfl (by kernel_rfl) rfl rfl rfl ?_); clear hs a; intro a w hs
          refine wpList_nil (then_normal ?_)
          refine b_enter [0, 3] (by kernel_rfl) hs #[false, false, false, false, false, false, false, false, false, false, false] (by rfl) 11 (by rfl) ?_; clear hs; intro w hs
          refine b_take 0 rfl #[true, false, false, false, false, false, false, false, false, false, false] rfl (by kernel_rfl) hs ((((hs.mem.to 3 rfl).to 1 rfl).first 2)) rfl rfl rfl (fun _ _ _ h => h) (y_move hs rfl) ?_; clear hs a; intro a hs
          refine b_take 1 rfl #[true, true, false, false, false, false, false, false, false, false, false] rfl (by kernel_rfl) hs ((((hs.mem.to 3 rfl).to 1 rfl).first 2)) rfl rfl rfl (fun _ _ _ h => h) (y_move hs rfl) ?_; clear hs a; intro a hs
          refine b_take 2 rfl #[true, true, true, false, false, false, false, false, false, false, false] rfl (by kernel_rfl) hs ((((hs.mem.to 3 rfl).to 1 rfl).first 2)) rfl rfl rfl (fun _ _ _ h => h) (y_nilchk hs rfl) ?_; clear hs a; intro a hs
          refine b_take 3 rfl #[true, true, true, true, false, false, false, false, false, false, false] rfl (by kernel_rfl) hs ((((hs.mem.to 3 rfl).to 1 rfl).first 2)) rfl rfl rfl (fun _ _ _ h => h) (y_faddr (k' := 0) 0 hs (by kernel_rfl) rfl rfl) ?_; clear hs a; intro a hs
          refine b_take 5 rfl #[true, true, true, true, false, true, false, false, false, false, false] rfl (by kernel_rfl) hs ((((hs.mem.to 3 rfl).to 1 rfl).first 2)) rfl rfl rfl (fun _ _ _ h => h) (y_loadPt 0 rfl hs Tryd.underlying94 rfl (by kernel_rfl) rfl) ?_; clear hs a; intro a hs
          refine b_eff2 4 6 (by kernel_rfl) rfl rfl #[true, true, true, true, true, true, false, false, false, false, false] #[true, true, true, true, false, true, true, false, false, false, false] rfl rfl hs rfl rfl (e_yield hs rfl rfl (y_load hs Tryd.underlying88 rfl rfl (fun w hw => (hw.to 1 rfl).cellV rfl)) ?_) (e_bslice (z := .agg #[.int .u8 0, .string ⟨#[]⟩, .int .i64 0, .int .i64 0, .int .i64 0]) (size := 5) (zc := #[.int .u8 0, .string ⟨#[]⟩, .int .i64 0, .int .i64 0, .int .i64 0]) (cl := [_, _, _, _, _]) hs rfl Tryd.underlying88 (by kernel_rfl) rfl rfl rfl (by kernel_rfl) (by rfl) rfl ?_)
          · clear hs a; intro a hs
            refine ⟨(((hs.mem.to 3 rfl).to 1 rfl).first 2), ?_⟩
            refine b_eff 6 (by kernel_rfl) rfl #[true, true, true, true, true, true, true, false, false, false, false] rfl hs rfl (e_bslice (z := .agg #[.int .u8 0, .string ⟨#[]⟩, .int .i64 0, .int .i64 0, .int .i64 0]) (size := 5) (zc := #[.int .u8 0, .string ⟨#[]⟩, .int .i64 0, .int .i64 0, .int .i64 0]) (cl := [_, _, _, _, _]) hs rfl Tryd.underlying88 (by kernel_rfl) rfl rfl rfl (by kernel_rfl) (by rfl) rfl ?_); clear hs a; intro gk a w hs
            refine ⟨(((hs.mem.to 4 rfl).to 2 rfl).first 2), ?_⟩
            refine b_eff 7 (by kernel_rfl) rfl #[true, true, true, true, true, true, true, true, false, false, false] rfl hs rfl (e_appL (z := .agg #[.int .u8 0, .string ⟨#[]⟩, .int .i64 0, .int .i64 0, .int .i64 0]) (size := 5) (bytes := 48) tokC (toks ++ (l.take i).map sayT) ([tk 4 s]) 3 rfl 0 rfl hs rfl Tryd.underlying88 (by kernel_rfl) rfl rfl tokC_len rfl rfl rfl rfl (oneT _) (by unfold maxLen; simp only [List.length_cons, List.length_nil]; omega) (by simp only [List.length_cons, List.length_nil]; omega) ?_); clear hs a; intro A3 c3 a w hs
            refine ⟨(((hs.mem.to 4 rfl).to 3 rfl).first 2), ?_⟩
            refine b_take 8 rfl #[true, true, true, true, true, true, true, true, true, false, false] rfl (by kernel_rfl) hs ((((hs.mem.to 4 rfl).to 3 rfl).first 2)) rfl rfl rfl (fun _ _ _ h => h) (y_nilchk hs rfl) ?_; clear hs a; intro a hs
            refine b_take 9 rfl #[true, true, true, true, true, true, true, true, true, true, false] rfl (by kernel_rfl) hs ((((hs.mem.to 4 rfl).to 3 rfl).first 2)) rfl rfl rfl (fun _ _ _ h => h) (y_faddr (k' := 0) 0 hs (by kernel_rfl) rfl rfl) ?_; clear hs a; intro a hs
            refine b_eff 10 (by kernel_rfl) rfl #[true, true, true, true, true, true, true, true, true, true, true] rfl hs rfl (e_store (cl := [_]) 3 rfl hs rfl rfl (by kernel_rfl) rfl rfl rfl ?_); clear hs a; intro a w hs
            refine ⟨(((hs.mem.to 4 rfl).to 4 rfl).first 2), ?_⟩
            refine b_done (by kernel_rfl) (in_normal (then_normal ?_))
            refine wp_region_lit ?_
            refine a_val hs rfl rfl rfl (y_add hs rfl rfl (by omega)) ?_; clear hs a; intro a hs
            refine a_val hs rfl rfl rfl (y_move hs rfl) ?_; clear hs a; intro a hs
            refine wpList_nil (then_normal ?_)
            have hacc : (toks ++ (l.take i).map sayT) ++ [tk 4 s] = toks ++ (l.take (i + 1)).map sayT := by rw [List.take_add_one, hsi, List.map_append, List.append_assoc, ← hT]; rfl
            rw [hacc] at hs
            refine ⟨m - 1, by omega, i + 1, A3, c3, by omega, ?_⟩
            exact (hs.mem_to (((((hs.mem.to 2 rfl).drop.to 2 rfl).drop.to 2 rfl).to 2 rfl).to 2 rfl)).cut _ ⟨rfl, rfl, rfl, rfl, trivial⟩
          · clear hs a; intro gk a w hs
            refine ⟨(((hs.mem.to 4 rfl).to 2 rfl).first 2), ?_⟩
            refine b_eff 4 (by kernel_rfl) rfl #[true, true, true, true, true, true, true, false, false, false, false] rfl hs rfl (e_yield hs rfl rfl (y_load hs Tryd.underlying88 rfl rfl (fun w hw => (hw.to 2 rfl).cellV rfl)) ?_); clear hs a; intro a hs
            refine ⟨(((hs.mem.to 4 rfl).to 2 rfl).first 2), ?_⟩
            refine b_eff 7 (by kernel_rfl) rfl #[true, true, true, true, true, true, true, true, false, false, false] rfl hs rfl (e_appL (z := .agg #[.int .u8 0, .string ⟨#[]⟩, .int .i64 0, .int .i64 0, .int .i64 0]) (size := 5) (bytes := 48) tokC (toks ++ (l.take i).map sayT) ([tk 4 s]) 3 rfl 0 rfl hs rfl Tryd.underlying88 (by kernel_rfl) rfl rfl tokC_len rfl rfl rfl rfl (oneT _) (by unfold maxLen; simp only [List.length_cons, List.length_nil]; omega) (by simp only [List.length_cons, List.length_nil]; omega) ?_); clear hs a; intro A3 c3 a w hs
            refine ⟨(((hs.mem.to 4 rfl).to 3 rfl).first 2), ?_⟩
            refine b_take 8 rfl #[true, true, true, true, true, true, true, true, true, false, false] rfl (by kernel_rfl) hs ((((hs.mem.to 4 rfl).to 3 rfl).first 2)) rfl rfl rfl (fun _ _ _ h => h) (y_nilchk hs rfl) ?_; clear hs a; intro a hs
            refine b_take 9 rfl #[true, true, true, true, true, true, true, true, true, true, false] rfl (by kernel_rfl) hs ((((hs.mem.to 4 rfl).to 3 rfl).first 2)) rfl rfl rfl (fun _ _ _ h => h) (y_faddr (k' := 0) 0 hs (by kernel_rfl) rfl rfl) ?_; clear hs a; intro a hs
            refine b_eff 10 (by kernel_rfl) rfl #[true, true, true, true, true, true, true, true, true, true, true] rfl hs rfl (e_store (cl := [_]) 3 rfl hs rfl rfl (by kernel_rfl) rfl rfl rfl ?_); clear hs a; intro a w hs
            refine ⟨(((hs.mem.to 4 rfl).to 4 rfl).first 2), ?_⟩
            refine b_done (by kernel_rfl) (in_normal (then_normal ?_))
            refine wp_region_lit ?_
            refine a_val hs rfl rfl rfl (y_add hs rfl rfl (by omega)) ?_; clear hs a; intro a hs
            refine a_val hs rfl rfl rfl (y_move hs rfl) ?_; clear hs a; intro a hs
            refine wpList_nil (then_normal ?_)
            have hacc : (toks ++ (l.take i).map sayT) ++ [tk 4 s] = toks ++ (l.take (i + 1)).map sayT := by rw [List.take_add_one, hsi, List.map_append, List.append_assoc, ← hT]; rfl
            rw [hacc] at hs
            refine ⟨m - 1, by omega, i + 1, A3, c3, by omega, ?_⟩
            exact (hs.mem_to (((((hs.mem.to 2 rfl).drop.to 2 rfl).drop.to 2 rfl).to 2 rfl).to 2 rfl)).cut _ ⟨rfl, rfl, rfl, rfl, trivial⟩
        · replace h21 := (not_f h21)
          have hT : sayT s = tk 1 s := by unfold sayT; rw [if_neg (by rw [h17]; exact Bool.false_ne_true), if_pos h21]
          refine wp_skip (then_normal ?_)
          refine b_enter [0, 3] (by kernel_rfl) hs #[false, false, false, false, false, false, false, false, false, false, false] (by rfl) 11 (by rfl) ?_; clear hs; intro w hs
          refine b_take 0 rfl #[true, false, false, false, false, false, false, false, false, false, false] rfl (by kernel_rfl) hs ((((hs.mem.to 3 rfl).to 1 rfl).first 2)) rfl rfl rfl (fun _ _ _ h => h) (y_move hs rfl) ?_; clear hs a; intro a hs
          refine b_take 1 rfl #[true, true, false, false, false, false, false, false, false, false, false] rfl (by kernel_rfl) hs ((((hs.mem.to 3 rfl).to 1 rfl).first 2)) rfl rfl rfl (fun _ _ _ h => h) (y_move hs rfl) ?_; clear hs a; intro a hs
          refine b_take 2 rfl #[true, true, true, false, false, false, false, false, false, false, false] rfl (by kernel_rfl) hs ((((hs.mem.to 3 rfl).to 1 rfl).first 2)) rfl rfl rfl (fun _ _ _ h => h) (y_nilchk hs rfl) ?_; clear hs a; intro a hs
          refine b_take 3 rfl #[true, true, true, true, false, false, false, false, false, false, false] rfl (by kernel_rfl) hs ((((hs.mem.to 3 rfl).to 1 rfl).first 2)) rfl rfl rfl (fun _ _ _ h => h) (y_faddr (k' := 0) 0 hs (by kernel_rfl) rfl rfl) ?_; clear hs a; intro a hs
          refine b_take 5 rfl #[true, true, true, true, false, true, false, false, false, false, false] rfl (by kernel_rfl) hs ((((hs.mem.to 3 rfl).to 1 rfl).first 2)) rfl rfl rfl (fun _ _ _ h => h) (y_loadPt 0 rfl hs Tryd.underlying94 rfl (by kernel_rfl) rfl) ?_; clear hs a; intro a hs
          refine b_eff2 4 6 (by kernel_rfl) rfl rfl #[true, true, true, true, true, true, false, false, false, false, false] #[true, true, true, true, false, true, true, false, false, false, false] rfl rfl hs rfl rfl (e_yield hs rfl rfl (y_load hs Tryd.underlying88 rfl rfl (fun w hw => (hw.to 1 rfl).cellV rfl)) ?_) (e_bslice (z := .agg #[.int .u8 0, .string ⟨#[]⟩, .int .i64 0, .int .i64 0, .int .i64 0]) (size := 5) (zc := #[.int .u8 0, .string ⟨#[]⟩, .int .i64 0, .int .i64 0, .int .i64 0]) (cl := [_, _, _, _, _]) hs rfl Tryd.underlying88 (by kernel_rfl) rfl rfl rfl (by kernel_rfl) (by rfl) rfl ?_)
          · clear hs a; intro a hs
            refine ⟨(((hs.mem.to 3 rfl).to 1 rfl).first 2), ?_⟩
            refine b_eff 6 (by kernel_rfl) rfl #[true, true, true, true, true, true, true, false, false, false, false] rfl hs rfl (e_bslice (z := .agg #[.int .u8 0, .string ⟨#[]⟩, .int .i64 0, .int .i64 0, .int .i64 0]) (size := 5) (zc := #[.int .u8 0, .string ⟨#[]⟩, .int .i64 0, .int .i64 0, .int .i64 0]) (cl := [_, _, _, _, _]) hs rfl Tryd.underlying88 (by kernel_rfl) rfl rfl rfl (by kernel_rfl) (by rfl) rfl ?_); clear hs a; intro gk a w hs
            refine ⟨(((hs.mem.to 4 rfl).to 2 rfl).first 2), ?_⟩
            refine b_eff 7 (by kernel_rfl) rfl #[true, true, true, true, true, true, true, true, false, false, false] rfl hs rfl (e_appL (z := .agg #[.int .u8 0, .string ⟨#[]⟩, .int .i64 0, .int .i64 0, .int .i64 0]) (size := 5) (bytes := 48) tokC (toks ++ (l.take i).map sayT) ([tk 1 s]) 3 rfl 0 rfl hs rfl Tryd.underlying88 (by kernel_rfl) rfl rfl tokC_len rfl rfl rfl rfl (oneT _) (by unfold maxLen; simp only [List.length_cons, List.length_nil]; omega) (by simp only [List.length_cons, List.length_nil]; omega) ?_); clear hs a; intro A3 c3 a w hs
            refine ⟨(((hs.mem.to 4 rfl).to 3 rfl).first 2), ?_⟩
            refine b_take 8 rfl #[true, true, true, true, true, true, true, true, true, false, false] rfl (by kernel_rfl) hs ((((hs.mem.to 4 rfl).to 3 rfl).first 2)) rfl rfl rfl (fun _ _ _ h => h) (y_nilchk hs rfl) ?_; clear hs a; intro a hs
            refine b_take 9 rfl #[true, true, true, true, true, true, true, true, true, true, false] rfl (by kernel_rfl) hs ((((hs.mem.to 4 rfl).to 3 rfl).first 2)) rfl rfl rfl (fun _ _ _ h => h) (y_faddr (k' := 0) 0 hs (by kernel_rfl) rfl rfl) ?_; clear hs a; intro a hs
            refine b_eff 10 (by kernel_rfl) rfl #[true, true, true, true, true, true, true, true, true, true, true] rfl hs rfl (e_store (cl := [_]) 3 rfl hs rfl rfl (by kernel_rfl) rfl rfl rfl ?_); clear hs a; intro a w hs
            refine ⟨(((hs.mem.to 4 rfl).to 4 rfl).first 2), ?_⟩
            refine b_done (by kernel_rfl) (in_normal (then_normal ?_))
            refine wp_region_lit ?_
            refine a_val hs rfl rfl rfl (y_add hs rfl rfl (by omega)) ?_; clear hs a; intro a hs
            refine a_val hs rfl rfl rfl (y_move hs rfl) ?_; clear hs a; intro a hs
            refine wpList_nil (then_normal ?_)
            have hacc : (toks ++ (l.take i).map sayT) ++ [tk 1 s] = toks ++ (l.take (i + 1)).map sayT := by rw [List.take_add_one, hsi, List.map_append, List.append_assoc, ← hT]; rfl
            rw [hacc] at hs
            refine ⟨m - 1, by omega, i + 1, A3, c3, by omega, ?_⟩
            exact (hs.mem_to (((((hs.mem.to 2 rfl).drop.to 2 rfl).drop.to 2 rfl).to 2 rfl).to 2 rfl)).cut _ ⟨rfl, rfl, rfl, rfl, trivial⟩
          · clear hs a; intro gk a w hs
            refine ⟨(((hs.mem.to 4 rfl).to 2 rfl).first 2), ?_⟩
            refine b_eff 4 (by kernel_rfl) rfl #[true, true, true, true, true, true, true, false, false, false, false] rfl hs rfl (e_yield hs rfl rfl (y_load hs Tryd.underlying88 rfl rfl (fun w hw => (hw.to 2 rfl).cellV rfl)) ?_); clear hs a; intro a hs
            refine ⟨(((hs.mem.to 4 rfl).to 2 rfl).first 2), ?_⟩
            refine b_eff 7 (by kernel_rfl) rfl #[true, true, true, true, true, true, true, true, false, false, false] rfl hs rfl (e_appL (z := .agg #[.int .u8 0, .string ⟨#[]⟩, .int .i64 0, .int .i64 0, .int .i64 0]) (size := 5) (bytes := 48) tokC (toks ++ (l.take i).map sayT) ([tk 1 s]) 3 rfl 0 rfl hs rfl Tryd.underlying88 (by kernel_rfl) rfl rfl tokC_len rfl rfl rfl rfl (oneT _) (by unfold maxLen; simp only [List.length_cons, List.length_nil]; omega) (by simp only [List.length_cons, List.length_nil]; omega) ?_); clear hs a; intro A3 c3 a w hs
            refine ⟨(((hs.mem.to 4 rfl).to 3 rfl).first 2), ?_⟩
            refine b_take 8 rfl #[true, true, true, true, true, true, true, true, true, false, false] rfl (by kernel_rfl) hs ((((hs.mem.to 4 rfl).to 3 rfl).first 2)) rfl rfl rfl (fun _ _ _ h => h) (y_nilchk hs rfl) ?_; clear hs a; intro a hs
            refine b_take 9 rfl #[true, true, true, true, true, true, true, true, true, true, false] rfl (by kernel_rfl) hs ((((hs.mem.to 4 rfl).to 3 rfl).first 2)) rfl rfl rfl (fun _ _ _ h => h) (y_faddr (k' := 0) 0 hs (by kernel_rfl) rfl rfl) ?_; clear hs a; intro a hs
            refine b_eff 10 (by kernel_rfl) rfl #[true, true, true, true, true, true, true, true, true, true, true] rfl hs rfl (e_store (cl := [_]) 3 rfl hs rfl rfl (by kernel_rfl) rfl rfl rfl ?_); clear hs a; intro a w hs
            refine ⟨(((hs.mem.to 4 rfl).to 4 rfl).first 2), ?_⟩
            refine b_done (by kernel_rfl) (in_normal (then_normal ?_))
            refine wp_region_lit ?_
            refine a_val hs rfl rfl rfl (y_add hs rfl rfl (by omega)) ?_; clear hs a; intro a hs
            refine a_val hs rfl rfl rfl (y_move hs rfl) ?_; clear hs a; intro a hs
            refine wpList_nil (then_normal ?_)
            have hacc : (toks ++ (l.take i).map sayT) ++ [tk 1 s] = toks ++ (l.take (i + 1)).map sayT := by rw [List.take_add_one, hsi, List.map_append, List.append_assoc, ← hT]; rfl
            rw [hacc] at hs
            refine ⟨m - 1, by omega, i + 1, A3, c3, by omega, ?_⟩
            exact (hs.mem_to (((((hs.mem.to 2 rfl).drop.to 2 rfl).drop.to 2 rfl).to 2 rfl).to 2 rfl)).cut _ ⟨rfl, rfl, rfl, rfl, trivial⟩
      · replace h17 := (not_f h17)
        have hT : sayT s = tk 2 s := by unfold sayT; rw [if_pos h17]
        refine wp_skip (then_normal ?_)
        refine wp_seq ?_
        refine wp_seq ?_
        refine wp_region_lit ?_
        refine a_val hs rfl rfl rfl (y_loadPt 0 rfl hs Tryd.underlying94 rfl (by kernel_rfl) rfl) ?_; clear hs a; intro a hs
        refine a_eff rfl (e_callB Tryd.func90 rfl rfl hs rfl rfl (token_May.calls (s.size + 3) 2 s 0 0 0 true _ ((may_prog (tk 2 s) hsz).trans (congrArg some h17))) ?_); clear hs a; intro a w hs
        refine a_val hs rfl rfl rfl (y_not hs rfl) ?_; clear hs a; intro a hs
        refine wpList_nil (then_normal ?_)
        refine wp_cond_false (hs.ev rfl) ?_
        refine wp_skip (then_normal ?_)
        refine b_enter [0, 3] (by kernel_rfl) hs #[false, false, false, false, false, false, false, false, false, false, false] (by rfl) 11 (by rfl) ?_; clear hs; intro w hs
        refine b_take 0 rfl #[true, false, false, false, false, false, false, false, false, false, false] rfl (by kernel_rfl) hs ((((hs.mem.to 3 rfl).to 1 rfl).first 2)) rfl rfl rfl (fun _ _ _ h => h) (y_move hs rfl) ?_; clear hs a; intro a hs
        refine b_take 1 rfl #[true, true, false, false, false, false, false, false, false, false, false] rfl (by kernel_rfl) hs ((((hs.mem.to 3 rfl).to 1 rfl).first 2)) rfl rfl rfl (fun _ _ _ h => h) (y_move hs rfl) ?_; clear hs a; intro a hs
        refine b_take 2 rfl #[true, true, true, false, false, false, false, false, false, false, false] rfl (by kernel_rfl) hs ((((hs.mem.to 3 rfl).to 1 rfl).first 2)) rfl rfl rfl (fun _ _ _ h => h) (y_nilchk hs rfl) ?_; clear hs a; intro a hs
        refine b_take 3 rfl #[true, true, true, true, false, false, false, false, false, false, false] rfl (by kernel_rfl) hs ((((hs.mem.to 3 rfl).to 1 rfl).first 2)) rfl rfl rfl (fun _ _ _ h => h) (y_faddr (k' := 0) 0 hs (by kernel_rfl) rfl rfl) ?_; clear hs a; intro a hs
        refine b_take 5 rfl #[true, true, true, true, false, true, false, false, false, false, false] rfl (by kernel_rfl) hs ((((hs.mem.to 3 rfl).to 1 rfl).first 2)) rfl rfl rfl (fun _ _ _ h => h) (y_loadPt 0 rfl hs Tryd.underlying94 rfl (by kernel_rfl) rfl) ?_; clear hs a; intro a hs
        refine b_eff2 4 6 (by kernel_rfl) rfl rfl #[true, true, true, true, true, true, false, false, false, false, false] #[true, true, true, true, false, true, true, false, false, false, false] rfl rfl hs rfl rfl (e_yield hs rfl rfl (y_load hs Tryd.underlying88 rfl rfl (fun w hw => (hw.to 1 rfl).cellV rfl)) ?_) (e_bslice (z := .agg #[.int .u8 0, .string ⟨#[]⟩, .int .i64 0, .int .i64 0, .int .i64 0]) (size := 5) (zc := #[.int .u8 0, .string ⟨#[]⟩, .int .i64 0, .int .i64 0, .int .i64 0]) (cl := [_, _, _, _, _]) hs rfl Tryd.underlying88 (by kernel_rfl) rfl rfl rfl (by kernel_rfl) (by rfl) rfl ?_)
        · clear hs a; intro a hs
          refine ⟨(((hs.mem.to 3 rfl).to 1 rfl).first 2), ?_⟩
          refine b_eff 6 (by kernel_rfl) rfl #[true, true, true, true, true, true, true, false, false, false, false] rfl hs rfl (e_bslice (z := .agg #[.int .u8 0, .string ⟨#[]⟩, .int .i64 0, .int .i64 0, .int .i64 0]) (size := 5) (zc := #[.int .u8 0, .string ⟨#[]⟩, .int .i64 0, .int .i64 0, .int .i64 0]) (cl := [_, _, _, _, _]) hs rfl Tryd.underlying88 (by kernel_rfl) rfl rfl rfl (by kernel_rfl) (by rfl) rfl ?_); clear hs a; intro gk a w hs
          refine ⟨(((hs.mem.to 4 rfl).to 2 rfl).first 2), ?_⟩
          refine b_eff 7 (by kernel_rfl) rfl #[true, true, true, true, true, true, true, true, false, false, false] rfl hs rfl (e_appL (z := .agg #[.int .u8 0, .string ⟨#[]⟩, .int .i64 0, .int .i64 0, .int .i64 0]) (size := 5) (bytes := 48) tokC (toks ++ (l.take i).map sayT) ([tk 2 s]) 3 rfl 0 rfl hs rfl Tryd.underlying88 (by kernel_rfl) rfl rfl tokC_len rfl rfl rfl rfl (oneT _) (by unfold maxLen; simp only [List.length_cons, List.length_nil]; omega) (by simp only [List.length_cons, List.length_nil]; omega) ?_); clear hs a; intro A3 c3 a w hs
          refine ⟨(((hs.mem.to 4 rfl).to 3 rfl).first 2), ?_⟩
          refine b_take 8 rfl #[true, true, true, true, true, true, true, true, true, false, false] rfl (by kernel_rfl) hs ((((hs.mem.to 4 rfl).to 3 rfl).first 2)) rfl rfl rfl (fun _ _ _ h => h) (y_nilchk hs rfl) ?_; clear hs a; intro a hs
          refine b_take 9 rfl #[true, true, true, true, true, true, true, true, true, true, false] rfl (by kernel_rfl) hs ((((hs.mem.to 4 rfl).to 3 rfl).first 2)) rfl rfl rfl (fun _ _ _ h => h) (y_faddr (k' := 0) 0 hs (by kernel_rfl) rfl rfl) ?_; clear hs a; intro a hs
          refine b_eff 10 (by kernel_rfl) rfl #[true, true, true, true, true, true, true, true, true, true, true] rfl hs rfl (e_store (cl := [_]) 3 rfl hs rfl rfl (by kernel_rfl) rfl rfl rfl ?_); clear hs a; intro a w hs
          refine ⟨(((hs.mem.to 4 rfl).to 4 rfl).first 2), ?_⟩
          refine b_done (by kernel_rfl) (in_normal (then_normal ?_))
          refine wp_region_lit ?_
          refine a_val hs rfl rfl rfl (y_add hs rfl rfl (by omega)) ?_; clear hs a; intro a hs
          refine a_val hs rfl rfl rfl (y_move hs rfl) ?_; clear hs a; intro a hs
          refine wpList_nil (then_normal ?_)
          have hacc : (toks ++ (l.take i).map sayT) ++ [tk 2 s] = toks ++ (l.take (i + 1)).map sayT := by rw [List.take_add_one, hsi, List.map_append, List.append_assoc, ← hT]; rfl
          rw [hacc] at hs
          refine ⟨m - 1, by omega, i + 1, A3, c3, by omega, ?_⟩
          exact (hs.mem_to (((((hs.mem.to 2 rfl).drop.to 2 rfl).drop.to 2 rfl).to 2 rfl).to 2 rfl)).cut _ ⟨rfl, rfl, rfl, rfl, trivial⟩
        · clear hs a; intro gk a w hs
          refine ⟨(((hs.mem.to 4 rfl).to 2 rfl).first 2), ?_⟩
          refine b_eff 4 (by kernel_rfl) rfl #[true, true, true, true, true, true, true, false, false, false, false] rfl hs rfl (e_yield hs rfl rfl (y_load hs Tryd.underlying88 rfl rfl (fun w hw => (hw.to 2 rfl).cellV rfl)) ?_); clear hs a; intro a hs
          refine ⟨(((hs.mem.to 4 rfl).to 2 rfl).first 2), ?_⟩
          refine b_eff 7 (by kernel_rfl) rfl #[true, true, true, true, true, true, true, true, false, false, false] rfl hs rfl (e_appL (z := .agg #[.int .u8 0, .string ⟨#[]⟩, .int .i64 0, .int .i64 0, .int .i64 0]) (size := 5) (bytes := 48) tokC (toks ++ (l.take i).map sayT) ([tk 2 s]) 3 rfl 0 rfl hs rfl Tryd.underlying88 (by kernel_rfl) rfl rfl tokC_len rfl rfl rfl rfl (oneT _) (by unfold maxLen; simp only [List.length_cons, List.length_nil]; omega) (by simp only [List.length_cons, List.length_nil]; omega) ?_); clear hs a; intro A3 c3 a w hs
          refine ⟨(((hs.mem.to 4 rfl).to 3 rfl).first 2), ?_⟩
          refine b_take 8 rfl #[true, true, true, true, true, true, true, true, true, false, false] rfl (by kernel_rfl) hs ((((hs.mem.to 4 rfl).to 3 rfl).first 2)) rfl rfl rfl (fun _ _ _ h => h) (y_nilchk hs rfl) ?_; clear hs a; intro a hs
          refine b_take 9 rfl #[true, true, true, true, true, true, true, true, true, true, false] rfl (by kernel_rfl) hs ((((hs.mem.to 4 rfl).to 3 rfl).first 2)) rfl rfl rfl (fun _ _ _ h => h) (y_faddr (k' := 0) 0 hs (by kernel_rfl) rfl rfl) ?_; clear hs a; intro a hs
          refine b_eff 10 (by kernel_rfl) rfl #[true, true, true, true, true, true, true, true, true, true, true] rfl hs rfl (e_store (cl := [_]) 3 rfl hs rfl rfl (by kernel_rfl) rfl rfl rfl ?_); clear hs a; intro a w hs
          refine ⟨(((hs.mem.to 4 rfl).to 4 rfl).first 2), ?_⟩
          refine b_done (by kernel_rfl) (in_normal (then_normal ?_))
          refine wp_region_lit ?_
          refine a_val hs rfl rfl rfl (y_add hs rfl rfl (by omega)) ?_; clear hs a; intro a hs
          refine a_val hs rfl rfl rfl (y_move hs rfl) ?_; clear hs a; intro a hs
          refine wpList_nil (then_normal ?_)
          have hacc : (toks ++ (l.take i).map sayT) ++ [tk 2 s] = toks ++ (l.take (i + 1)).map sayT := by rw [List.take_add_one, hsi, List.map_append, List.append_assoc, ← hT]; rfl
          rw [hacc] at hs
          refine ⟨m - 1, by omega, i + 1, A3, c3, by omega, ?_⟩
          exact (hs.mem_to (((((hs.mem.to 2 rfl).drop.to 2 rfl).drop.to 2 rfl).to 2 rfl).to 2 rfl)).cut _ ⟨rfl, rfl, rfl, rfl, trivial⟩
    · replace h10 := of_decide_eq_false h10
      rw [List.take_of_length_le (by omega)] at hs
      refine wp_exit (then_exit (then_exit (in_here ?_)))
      refine fin_end hs .nil ⟨A2, c2, rfl, (((hs.mem.to 2 rfl).to 2 rfl).to 2 rfl)⟩
set_option maxRecDepth 100000 in
theorem tree_operator (k : Int) (hk : 4 ≤ k ∧ k ≤ 8) (v0 : World) :
    Calls Tryd.prog 66 #[.int .u8 k] v0 fun e w' => e = .returned (.string (opS k)) ∧ Below v0.heap.size v0 w' := by
  refine calls_enter (N := 6) (n := 5) (args := [.int .u8 k]) Tryd.func66 rfl rfl rfl (H.init v0) (fun a hs => ?_)
  refine wp_seq ?_
  refine wp_region_lit ?_
  refine a_val hs rfl rfl rfl (y_assign hs rfl) ?_; clear hs a; intro a hs
  refine wpList_nil (then_normal ?_)
  refine wp_seq ?_
  refine wp_region_lit ?_
  refine a_val hs rfl rfl rfl (y_arr (zc := #[.string ⟨#[]⟩, .string ⟨#[]⟩, .string ⟨#[]⟩, .string ⟨#[]⟩, .string ⟨#[]⟩, .string ⟨#[]⟩, .string ⟨#[]⟩, .string ⟨#[]⟩, .string ⟨#[]⟩]) (size := 1) (cl := [.string ⟨#[]⟩, .string ⟨#[]⟩, .string ⟨#[]⟩, .string ⟨#[]⟩, _, _, _, _, _]) hs (by kernel_rfl) rfl (by rfl) rfl) ?_; clear hs a; intro a hs
  refine a_val hs rfl rfl rfl (y_move hs rfl) ?_; clear hs a; intro a hs
  refine a_val hs rfl rfl rfl (y_idxArr (v := .string (opS k)) hs Tryd.underlying113 Tryd.underlying9 rfl (by kernel_rfl) rfl rfl (by omega) (by omega) (by rcases (show k = 4 ∨ k = 5 ∨ k = 6 ∨ k = 7 ∨ k = 8 by omega) with rfl | rfl | rfl | rfl | rfl <;> rfl)) ?_; clear hs a; intro a hs
  refine a_val hs rfl rfl rfl (y_assign hs rfl) ?_; clear hs a; intro a hs
  refine wpList_nil (then_normal ?_)
  refine wp_ret ?_
  refine fin_ret hs (.tmp (hs.slots _ _ rfl) .nil) ⟨?_, hs.mem.base⟩
  rfl
/-- What the writer does with an expression of a shape that may be. -/
def WrOk (n : Nat) : Prop := ∀ (x : XE) (A : Option Addr) (C g : Nat) (toks : List XT) (A1 : Option Addr) (c1 : Nat) (bs : List Res) (w0 w : World), Kd.C k25 w0 A x.f3.length x.f3 → shapeX n x → toks.length + 3 * 2 ^ n ≤ 1000000 → H w0 (pt g #[.slice A1 (toks).length c1] 90 :: row 94 5 (.slice A1 (toks).length c1) (toks).length ((toks).flatMap tokC) :: bs) w →
    Calls Tryd.prog 32 #[.pointer (some ⟨g, 0, none⟩), .agg #[.int .u8 x.f0, .int .i64 x.f1, .string x.f2, .slice A x.f3.length C, .int .i64 x.f4, .int .i64 x.f5]] w fun e w' => ∃ A2 c2, e = .returned (.tuple #[]) ∧ H w0 (pt g #[.slice A2 (toks ++ toksX n x).length c2] 90 :: row 94 5 (.slice A2 (toks ++ toksX n x).length c2) (toks ++ toksX n x).length ((toks ++ toksX n x).flatMap tokC) :: bs) w'
set_option maxRecDepth 100000 in
theorem w_expr_step (n : Nat) (hn : n ≤ 16) (ih : ∀ q, q + 1 = n → WrOk q) (x : XE) (A : Option Addr) (C g : Nat) (toks : List XT) (A1 : Option Addr) (c1 : Nat) (bs : List Res) (w0 w : World) (hA : Kd.C k25 w0 A x.f3.length x.f3) (hS : shapeX n x) (hl : toks.length + 3 * 2 ^ n ≤ 1000000) (h : H w0 (pt g #[.slice A1 (toks).length c1] 90 :: row 94 5 (.slice A1 (toks).length c1) (toks).length ((toks).flatMap tokC) :: bs) w) :
    Calls Tryd.prog 32 #[.pointer (some ⟨g, 0, none⟩), .agg #[.int .u8 x.f0, .int .i64 x.f1, .string x.f2, .slice A x.f3.length C, .int .i64 x.f4, .int .i64 x.f5]] w fun e w' => ∃ A2 c2, e = .returned (.tuple #[]) ∧ H w0 (pt g #[.slice A2 (toks ++ toksX n x).length c2] 90 :: row 94 5 (.slice A2 (toks ++ toksX n x).length c2) (toks ++ toksX n x).length ((toks ++ toksX n x).flatMap tokC) :: bs) w' := by
  refine calls_enter (N := 62) (n := 60) (args := [.pointer (some ⟨g, 0, none⟩), .agg #[.int .u8 x.f0, .int .i64 x.f1, .string x.f2, .slice A x.f3.length C, .int .i64 x.f4, .int .i64 x.f5]]) Tryd.func32 rfl rfl rfl (h) (fun a hs => ?_)
  obtain ⟨q, rfl⟩ : ∃ q, n = q + 1 := by cases n with | zero => exact hS.elim | succ q => exact ⟨q, rfl⟩
  obtain ⟨hp, hq⟩ := hS
  have hk := parts_kind hp
  have h2p : 2 ^ (q + 1) = 2 * 2 ^ q := by rw [Nat.pow_succ]; omega
  have h2q : 0 < 2 ^ q := Nat.pow_pos (by decide)
  refine wp_seq ?_
  refine wp_region_lit ?_
  refine a_eff rfl (e_box (cs := #[_, _, _, _, _, _]) hs rfl rfl rfl ?_); clear hs a; intro gx a w hs
  refine wpList_nil (then_normal ?_)
  refine wp_seq ?_
  refine wp_region_lit ?_
  refine a_val hs rfl rfl rfl (y_faddr (k' := 0) 0 hs (by kernel_rfl) rfl rfl) ?_; clear hs a; intro a hs
  refine a_val hs rfl rfl rfl (y_load hs Tryd.underlying22 rfl rfl (fun w hw => (hw.to 0 rfl).cellV rfl)) ?_; clear hs a; intro a hs
  refine wpList_nil (then_normal ?_)
  refine wp_block ?_
  refine wp_seq ?_
  refine wp_region_lit ?_
  refine a_val hs rfl rfl rfl (y_cmp hs rfl rfl rfl) ?_; clear hs a; intro a hs
  refine a_val hs rfl rfl rfl (y_assign hs rfl) ?_; clear hs a; intro a hs
  refine wpList_nil (then_normal ?_)
  refine wp_cond_split (hs.ev rfl) (fun h30 => ?_) (fun h30 => ?_)
  · replace h30 := eq_of_beq h30
    replace hk : x.f0 = 1 ∧ x.f3.length = 0 := by omega
    refine b_enter [0] (by kernel_rfl) hs #[false, false, false, false, false, false, false, false, false, false, false, false, false] (by rfl) 13 (by rfl) ?_; clear hs; intro w hs
    refine b_take 0 rfl #[true, false, false, false, false, false, false, false, false, false, false, false, false] rfl (by kernel_rfl) hs ((hs.mem.first 1)) rfl rfl rfl (fun _ _ _ h => h) (y_move hs rfl) ?_; clear hs a; intro a hs
    refine b_take 1 rfl #[true, true, false, false, false, false, false, false, false, false, false, false, false] rfl (by kernel_rfl) hs ((hs.mem.first 1)) rfl rfl rfl (fun _ _ _ h => h) (y_move hs rfl) ?_; clear hs a; intro a hs
    refine b_take 2 rfl #[true, true, true, false, false, false, false, false, false, false, false, false, false] rfl (by kernel_rfl) hs ((hs.mem.first 1)) rfl rfl rfl (fun _ _ _ h => h) (y_nilchk hs rfl) ?_; clear hs a; intro a hs
    refine b_take 3 rfl #[true, true, true, true, false, false, false, false, false, false, false, false, false] rfl (by kernel_rfl) hs ((hs.mem.first 1)) rfl rfl rfl (fun _ _ _ h => h) (y_faddr (k' := 0) 0 hs (by kernel_rfl) rfl rfl) ?_; clear hs a; intro a hs
    refine b_take 5 rfl #[true, true, true, true, false, true, false, false, false, false, false, false, false] rfl (by kernel_rfl) hs ((hs.mem.first 1)) rfl rfl rfl (fun _ _ _ h => h) (y_faddr (k' := 1) 1 hs (by kernel_rfl) rfl rfl) ?_; clear hs a; intro a hs
    refine b_take 6 rfl #[true, true, true, true, false, true, true, false, false, false, false, false, false] rfl (by kernel_rfl) hs ((hs.mem.first 1)) rfl rfl rfl (fun _ _ _ h => h) (y_load hs Tryd.underlying3 rfl rfl (fun w hw => (hw.to 0 rfl).cellV rfl)) ?_; clear hs a; intro a hs
    refine b_take 7 rfl #[true, true, true, true, false, true, true, true, false, false, false, false, false] rfl (by kernel_rfl) hs ((hs.mem.first 1)) rfl rfl rfl (fun _ _ _ h => h) (y_struct (zc := #[.int .u8 0, .string ⟨#[]⟩, .int .i64 0, .int .i64 0, .int .i64 0]) (pl := [(0, 1), (1, 1), (2, 1), (3, 1), (4, 1)]) (cl := [_, .string ⟨#[]⟩, _, .int .i64 0, .int .i64 0]) hs (by kernel_rfl) rfl (by rfl) rfl) ?_; clear hs a; intro a hs
    refine b_eff2 4 8 (by kernel_rfl) rfl rfl #[true, true, true, true, true, true, true, true, false, false, false, false, false] #[true, true, true, true, false, true, true, true, true, false, false, false, false] rfl rfl hs rfl rfl (e_yield hs rfl rfl (y_load hs Tryd.underlying88 rfl rfl (fun w hw => (hw.to 1 rfl).cellV rfl)) ?_) (e_bslice (z := .agg #[.int .u8 0, .string ⟨#[]⟩, .int .i64 0, .int .i64 0, .int .i64 0]) (size := 5) (zc := #[.int .u8 0, .string ⟨#[]⟩, .int .i64 0, .int .i64 0, .int .i64 0]) (cl := [_, _, _, _, _]) hs rfl Tryd.underlying88 (by kernel_rfl) rfl rfl rfl (by kernel_rfl) (by rfl) rfl ?_)
    · clear hs a; intro a hs
      refine ⟨(hs.mem.first 1), ?_⟩
      refine b_eff 8 (by kernel_rfl) rfl #[true, true, true, true, true, true, true, true, true, false, false, false, false] rfl hs rfl (e_bslice (z := .agg #[.int .u8 0, .string ⟨#[]⟩, .int .i64 0, .int .i64 0, .int .i64 0]) (size := 5) (zc := #[.int .u8 0, .string ⟨#[]⟩, .int .i64 0, .int .i64 0, .int .i64 0]) (cl := [_, _, _, _, _]) hs rfl Tryd.underlying88 (by kernel_rfl) rfl rfl rfl (by kernel_rfl) (by rfl) rfl ?_); clear hs a; intro gk a w hs
      refine ⟨((hs.mem.to 1 rfl).first 1), ?_⟩
      refine b_eff 9 (by kernel_rfl) rfl #[true, true, true, true, true, true, true, true, true, true, false, false, false] rfl hs rfl (e_appL (z := .agg #[.int .u8 0, .string ⟨#[]⟩, .int .i64 0, .int .i64 0, .int .i64 0]) (size := 5) (bytes := 48) tokC (toks) ([⟨3, ⟨#[]⟩, x.f1, 0, 0⟩]) 3 rfl 0 rfl hs rfl Tryd.underlying88 (by kernel_rfl) rfl rfl tokC_len rfl rfl rfl rfl (oneT _) (by unfold maxLen; simp only [List.length_cons, List.length_nil]; omega) (by simp only [List.length_cons, List.length_nil]; omega) ?_); clear hs a; intro A2 c2 a w hs
      refine ⟨((hs.mem.to 2 rfl).first 1), ?_⟩
      refine b_take 10 rfl #[true, true, true, true, true, true, true, true, true, true, true, false, false] rfl (by kernel_rfl) hs (((hs.mem.to 2 rfl).first 1)) rfl rfl rfl (fun _ _ _ h => h) (y_nilchk hs rfl) ?_; clear hs a; intro a hs
      refine b_take 11 rfl #[true, true, true, true, true, true, true, true, true, true, true, true, false] rfl (by kernel_rfl) hs (((hs.mem.to 2 rfl).first 1)) rfl rfl rfl (fun _ _ _ h => h) (y_faddr (k' := 0) 0 hs (by kernel_rfl) rfl rfl) ?_; clear hs a; intro a hs
      refine b_eff 12 (by kernel_rfl) rfl #[true, true, true, true, true, true, true, true, true, true, true, true, true] rfl hs rfl (e_store (cl := [_]) 3 rfl hs rfl rfl (by kernel_rfl) rfl rfl rfl ?_); clear hs a; intro a w hs
      refine ⟨((hs.mem.to 3 rfl).first 1), ?_⟩
      refine b_done (by kernel_rfl) (in_normal ?_)
      have hX : toks ++ toksX (q + 1) x = (toks ++ [⟨3, ⟨#[]⟩, x.f1, 0, 0⟩]) := by rw [toksX, if_pos (by omega)]
      refine fin_end hs .nil ⟨A2, c2, rfl, ?_⟩
      rw [hX]; exact ((((hs.mem.to 2 rfl).drop.to 2 rfl).drop.to 1 rfl).to 1 rfl)
    · clear hs a; intro gk a w hs
      refine ⟨((hs.mem.to 1 rfl).first 1), ?_⟩
      refine b_eff 4 (by kernel_rfl) rfl #[true, true, true, true, true, true, true, true, true, false, false, false, false] rfl hs rfl (e_yield hs rfl rfl (y_load hs Tryd.underlying88 rfl rfl (fun w hw => (hw.to 2 rfl).cellV rfl)) ?_); clear hs a; intro a hs
      refine ⟨((hs.mem.to 1 rfl).first 1), ?_⟩
      refine b_eff 9 (by kernel_rfl) rfl #[true, true, true, true, true, true, true, true, true, true, false, false, false] rfl hs rfl (e_appL (z := .agg #[.int .u8 0, .string ⟨#[]⟩, .int .i64 0, .int .i64 0, .int .i64 0]) (size := 5) (bytes := 48) tokC (toks) ([⟨3, ⟨#[]⟩, x.f1, 0, 0⟩]) 3 rfl 0 rfl hs rfl Tryd.underlying88 (by kernel_rfl) rfl rfl tokC_len rfl rfl rfl rfl (oneT _) (by unfold maxLen; simp only [List.length_cons, List.length_nil]; omega) (by simp only [List.length_cons, List.length_nil]; omega) ?_); clear hs a; intro A2 c2 a w hs
      refine ⟨((hs.mem.to 2 rfl).first 1), ?_⟩
      refine b_take 10 rfl #[true, true, true, true, true, true, true, true, true, true, true, false, false] rfl (by kernel_rfl) hs (((hs.mem.to 2 rfl).first 1)) rfl rfl rfl (fun _ _ _ h => h) (y_nilchk hs rfl) ?_; clear hs a; intro a hs
      refine b_take 11 rfl #[true, true, true, true, true, true, true, true, true, true, true, true, false] rfl (by kernel_rfl) hs (((hs.mem.to 2 rfl).first 1)) rfl rfl rfl (fun _ _ _ h => h) (y_faddr (k' := 0) 0 hs (by kernel_rfl) rfl rfl) ?_; clear hs a; intro a hs
      refine b_eff 12 (by kernel_rfl) rfl #[true, true, true, true, true, true, true, true, true, true, true, true, true] rfl hs rfl (e_store (cl := [_]) 3 rfl hs rfl rfl (by kernel_rfl) rfl rfl rfl ?_); clear hs a; intro a w hs
      refine ⟨((hs.mem.to 3 rfl).first 1), ?_⟩
      refine b_done (by kernel_rfl) (in_normal ?_)
      have hX : toks ++ toksX (q + 1) x = (toks ++ [⟨3, ⟨#[]⟩, x.f1, 0, 0⟩]) := by rw [toksX, if_pos (by omega)]
      refine fin_end hs .nil ⟨A2, c2, rfl, ?_⟩
      rw [hX]; exact ((((hs.mem.to 2 rfl).drop.to 2 rfl).drop.to 1 rfl).to 1 rfl)
  · replace h30 := ne_of_beq_false h30
    refine wp_seq ?_
    refine wp_region_lit ?_
    refine a_val hs rfl rfl rfl (y_cmp hs rfl rfl rfl) ?_; clear hs a; intro a hs
    refine a_val hs rfl rfl rfl (y_assign hs rfl) ?_; clear hs a; intro a hs
    refine wpList_nil (then_normal ?_)
    refine wp_cond_split (hs.ev rfl) (fun h44 => ?_) (fun h44 => ?_)
    · replace h44 := eq_of_beq h44
      replace hk : x.f0 = 2 ∧ x.f3.length = 0 ∧ nameOk x.f2 = true := by rcases hk with h | h | h | h <;> first | exact h | omega
      refine wp_region_lit ?_
      refine a_val hs rfl rfl rfl (y_move hs rfl) ?_; clear hs a; intro a hs
      refine a_val hs rfl rfl rfl (y_faddr (k' := 2) 2 hs (by kernel_rfl) rfl rfl) ?_; clear hs a; intro a hs
      refine a_val hs rfl rfl rfl (y_load hs Tryd.underlying9 rfl rfl (fun w hw => (hw.to 0 rfl).cellV rfl)) ?_; clear hs a; intro a hs
      refine a_eff rfl (e_bslice (z := .string ⟨#[]⟩) (size := 1) (zc := #[.string ⟨#[]⟩]) (cl := [_]) hs rfl Tryd.underlying116 (by kernel_rfl) rfl rfl rfl (by kernel_rfl) (by rfl) rfl ?_); clear hs a; intro g1 a w hs
      refine a_eff rfl (e_callX Tryd.func65 rfl rfl hs rfl rfl (w_say g g1 [x.f2] (toks) _ _ 1 _ _ w0 _ (fun t ht => by rw [List.mem_singleton] at ht; subst ht; have := nameOk_size hk.2.2; omega) (by simp only [List.length_cons, List.length_append, List.length_nil]; omega) ((hs.mem.to 3 rfl).to 3 rfl)) (fun e w1 ⟨A2, c2, he, hm⟩ => ⟨_, he, _, hm, ?_⟩)); clear hs a; intro a hs
      refine wpList_nil (in_normal ?_)
      have hX : toks ++ toksX (q + 1) x = (toks ++ [sayT (x.f2)]) := by rw [toksX, if_neg (by omega), if_pos (by omega)]
      refine fin_end hs .nil ⟨A2, c2, rfl, ?_⟩
      rw [hX]; exact ((((hs.mem.to 2 rfl).drop.to 2 rfl).drop.to 1 rfl).to 1 rfl)
    · replace h44 := ne_of_beq_false h44
      refine wp_seq ?_
      refine wp_region_lit ?_
      refine a_val hs rfl rfl rfl (y_cmp hs rfl rfl rfl) ?_; clear hs a; intro a hs
      refine a_val hs rfl rfl rfl (y_assign hs rfl) ?_; clear hs a; intro a hs
      refine wpList_nil (then_normal ?_)
      refine wp_cond_split (hs.ev rfl) (fun h51 => ?_) (fun h51 => ?_)
      · replace h51 := eq_of_beq h51
        replace hk : x.f0 = 3 ∧ x.f3.length = 1 := by omega
        obtain ⟨g0, o, rfl, hcell⟩ := C_atG (show 0 < 6 by decide) hA (by omega)
        obtain ⟨cs0, hK0, hc0⟩ := hcell 0 (part x 0) (part_mem (by omega)).1
        obtain ⟨D0, d0, rfl, hlc0, hC0⟩ := k25_open hK0
        have htl0 := toks_len q (part x 0)
        refine wp_seq ?_
        refine wp_region_lit ?_
        refine a_val hs rfl rfl rfl (y_move hs rfl) ?_; clear hs a; intro a hs
        refine a_eff rfl (e_bslice (z := .string ⟨#[]⟩) (size := 1) (zc := #[.string ⟨#[]⟩]) (cl := [_]) hs rfl Tryd.underlying116 (by kernel_rfl) rfl rfl rfl (by kernel_rfl) (by rfl) rfl ?_); clear hs a; intro g1 a w hs
        refine a_eff rfl (e_callX Tryd.func65 rfl rfl hs rfl rfl (w_say g g1 [⟨#[45]⟩] (toks) _ _ 1 _ _ w0 _ (fun t ht => by rw [List.mem_singleton] at ht; subst ht; decide) (by simp only [List.length_cons, List.length_append, List.length_nil]; omega) ((hs.mem.to 3 rfl).to 3 rfl)) (fun e w1 ⟨A2, c2, he, hm⟩ => ⟨_, he, _, hm, ?_⟩)); clear hs a; intro a hs
        refine wpList_nil (then_normal ?_)
        refine wp_region_lit ?_
        refine a_val hs rfl rfl rfl (y_move hs rfl) ?_; clear hs a; intro a hs
        refine a_val hs rfl rfl rfl (y_faddr (k' := 3) 3 hs (by kernel_rfl) rfl rfl) ?_; clear hs a; intro a hs
        refine a_val hs rfl rfl rfl (y_load hs Tryd.underlying23 rfl rfl (fun w hw => (hw.to 3 rfl).cellV rfl)) ?_; clear hs a; intro a hs
        refine a_val hs rfl rfl rfl (y_idxB (size := 6) (off := o + 0 * 6) hs Tryd.underlying23 (by kernel_rfl) rfl rfl (by omega) (by omega) (by simp)) ?_; clear hs a; intro a hs
        refine a_val hs rfl rfl rfl (y_loadAgg (vs := [.int .u8 (part x 0).f0, .int .i64 (part x 0).f1, .string (part x 0).f2, .slice D0 (part x 0).f3.length d0, .int .i64 (part x 0).f4, .int .i64 (part x 0).f5]) hs Tryd.underlying25 rfl (by kernel_rfl) rfl (fun w hw k v hk => hc0 w hw.base k v hk)) ?_; clear hs a; intro a hs
        refine a_eff rfl (e_callX Tryd.func32 rfl rfl hs rfl rfl (ih q rfl (part x 0) D0 d0 g ((toks ++ [sayT (⟨#[45]⟩)])) _ _ _ w0 _ hC0 (hq _ (part_mem (by omega)).2) (by simp only [List.length_cons, List.length_append, List.length_nil]; omega) ((hs.mem.to 1 rfl).to 1 rfl)) (fun e w1 ⟨A3, c3, he, hm⟩ => ⟨_, he, _, hm, ?_⟩)); clear hs a; intro a hs
        refine wpList_nil (in_normal ?_)
        have hX : toks ++ toksX (q + 1) x = ((toks ++ [sayT (⟨#[45]⟩)]) ++ toksX q (part x 0)) := by rw [toksX, if_neg (by omega), if_neg (by omega), if_pos (by omega)]; simp only [List.append_assoc, List.cons_append, List.nil_append]
        refine fin_end hs .nil ⟨A3, c3, rfl, ?_⟩
        rw [hX]; exact ((((hs.mem.to 2 rfl).drop.to 2 rfl).drop.to 1 rfl).to 1 rfl)
      · replace h51 := ne_of_beq_false h51
        replace hk : 4 ≤ x.f0 ∧ x.f0 ≤ 8 ∧ x.f3.length = 2 := by omega
        obtain ⟨g0, o, rfl, hcell⟩ := C_atG (show 0 < 6 by decide) hA (by omega)
        obtain ⟨cs0, hK0, hc0⟩ := hcell 0 (part x 0) (part_mem (by omega)).1
        obtain ⟨D0, d0, rfl, hlc0, hC0⟩ := k25_open hK0
        have htl0 := toks_len q (part x 0)
        obtain ⟨cs1, hK1, hc1⟩ := hcell 1 (part x 1) (part_mem (by omega)).1
        obtain ⟨D1, d1, rfl, hlc1, hC1⟩ := k25_open hK1
        have htl1 := toks_len q (part x 1)
        refine wp_seq ?_
        refine wp_region_lit ?_
        refine a_val hs rfl rfl rfl (y_move hs rfl) ?_; clear hs a; intro a hs
        refine a_eff rfl (e_bslice (z := .string ⟨#[]⟩) (size := 1) (zc := #[.string ⟨#[]⟩]) (cl := [_]) hs rfl Tryd.underlying116 (by kernel_rfl) rfl rfl rfl (by kernel_rfl) (by rfl) rfl ?_); clear hs a; intro g1 a w hs
        refine a_eff rfl (e_callX Tryd.func65 rfl rfl hs rfl rfl (w_say g g1 [⟨#[40]⟩] (toks) _ _ 1 _ _ w0 _ (fun t ht => by rw [List.mem_singleton] at ht; subst ht; decide) (by simp only [List.length_cons, List.length_append, List.length_nil]; omega) ((hs.mem.to 3 rfl).to 3 rfl)) (fun e w1 ⟨A2, c2, he, hm⟩ => ⟨_, he, _, hm, ?_⟩)); clear hs a; intro a hs
        refine wpList_nil (then_normal ?_)
        refine wp_seq ?_
        refine wp_region_lit ?_
        refine a_val hs rfl rfl rfl (y_move hs rfl) ?_; clear hs a; intro a hs
        refine a_val hs rfl rfl rfl (y_faddr (k' := 3) 3 hs (by kernel_rfl) rfl rfl) ?_; clear hs a; intro a hs
        refine a_val hs rfl rfl rfl (y_load hs Tryd.underlying23 rfl rfl (fun w hw => (hw.to 3 rfl).cellV rfl)) ?_; clear hs a; intro a hs
        refine a_val hs rfl rfl rfl (y_idxB (size := 6) (off := o + 0 * 6) hs Tryd.underlying23 (by kernel_rfl) rfl rfl (by omega) (by omega) (by simp)) ?_; clear hs a; intro a hs
        refine a_val hs rfl rfl rfl (y_loadAgg (vs := [.int .u8 (part x 0).f0, .int .i64 (part x 0).f1, .string (part x 0).f2, .slice D0 (part x 0).f3.length d0, .int .i64 (part x 0).f4, .int .i64 (part x 0).f5]) hs Tryd.underlying25 rfl (by kernel_rfl) rfl (fun w hw k v hk => hc0 w hw.base k v hk)) ?_; clear hs a; intro a hs
        refine a_eff rfl (e_callX Tryd.func32 rfl rfl hs rfl rfl (ih q rfl (part x 0) D0 d0 g ((toks ++ [sayT (⟨#[40]⟩)])) _ _ _ w0 _ hC0 (hq _ (part_mem (by omega)).2) (by simp only [List.length_cons, List.length_append, List.length_nil]; omega) ((hs.mem.to 1 rfl).to 1 rfl)) (fun e w1 ⟨A3, c3, he, hm⟩ => ⟨_, he, _, hm, ?_⟩)); clear hs a; intro a hs
        refine wpList_nil (then_normal ?_)
        refine wp_seq ?_
        refine wp_region_lit ?_
        refine a_val hs rfl rfl rfl (y_move hs rfl) ?_; clear hs a; intro a hs
        refine a_val hs rfl rfl rfl (y_faddr (k' := 0) 0 hs (by kernel_rfl) rfl rfl) ?_; clear hs a; intro a hs
        refine a_val hs rfl rfl rfl (y_load hs Tryd.underlying22 rfl rfl (fun w hw => (hw.to 3 rfl).cellV rfl)) ?_; clear hs a; intro a hs
        refine a_eff rfl (e_callB Tryd.func66 rfl rfl hs rfl rfl (tree_operator x.f0 (by omega) _) ?_); clear hs a; intro a w hs
        refine a_eff rfl (e_bslice (z := .string ⟨#[]⟩) (size := 1) (zc := #[.string ⟨#[]⟩]) (cl := [_]) hs rfl Tryd.underlying116 (by kernel_rfl) rfl rfl rfl (by kernel_rfl) (by rfl) rfl ?_); clear hs a; intro g2 a w hs
        refine a_eff rfl (e_callX Tryd.func65 rfl rfl hs rfl rfl (w_say g g2 [opS x.f0] (((toks ++ [sayT (⟨#[40]⟩)]) ++ toksX q (part x 0))) _ _ 1 _ _ w0 _ (fun t ht => by rw [List.mem_singleton] at ht; subst ht; rw [opS_size]; decide) (by simp only [List.length_cons, List.length_append, List.length_nil]; omega) ((hs.mem.to 2 rfl).to 2 rfl)) (fun e w1 ⟨A4, c4, he, hm⟩ => ⟨_, he, _, hm, ?_⟩)); clear hs a; intro a hs
        refine wpList_nil (then_normal ?_)
        refine wp_seq ?_
        refine wp_region_lit ?_
        refine a_val hs rfl rfl rfl (y_move hs rfl) ?_; clear hs a; intro a hs
        refine a_val hs rfl rfl rfl (y_faddr (k' := 3) 3 hs (by kernel_rfl) rfl rfl) ?_; clear hs a; intro a hs
        refine a_val hs rfl rfl rfl (y_load hs Tryd.underlying23 rfl rfl (fun w hw => (hw.to 4 rfl).cellV rfl)) ?_; clear hs a; intro a hs
        refine a_val hs rfl rfl rfl (y_idxB (size := 6) (off := o + 1 * 6) hs Tryd.underlying23 (by kernel_rfl) rfl rfl (by omega) (by omega) (by simp)) ?_; clear hs a; intro a hs
        refine a_val hs rfl rfl rfl (y_loadAgg (vs := [.int .u8 (part x 1).f0, .int .i64 (part x 1).f1, .string (part x 1).f2, .slice D1 (part x 1).f3.length d1, .int .i64 (part x 1).f4, .int .i64 (part x 1).f5]) hs Tryd.underlying25 rfl (by kernel_rfl) rfl (fun w hw k v hk => hc1 w hw.base k v hk)) ?_; clear hs a; intro a hs
        refine a_eff rfl (e_callX Tryd.func32 rfl rfl hs rfl rfl (ih q rfl (part x 1) D1 d1 g ((((toks ++ [sayT (⟨#[40]⟩)]) ++ toksX q (part x 0)) ++ [sayT (opS x.f0)])) _ _ _ w0 _ hC1 (hq _ (part_mem (by omega)).2) (by simp only [List.length_cons, List.length_append, List.length_nil]; omega) ((hs.mem.to 1 rfl).to 1 rfl)) (fun e w1 ⟨A5, c5, he, hm⟩ => ⟨_, he, _, hm, ?_⟩)); clear hs a; intro a hs
        refine wpList_nil (then_normal ?_)
        refine wp_region_lit ?_
        refine a_val hs rfl rfl rfl (y_move hs rfl) ?_; clear hs a; intro a hs
        refine a_eff rfl (e_bslice (z := .string ⟨#[]⟩) (size := 1) (zc := #[.string ⟨#[]⟩]) (cl := [_]) hs rfl Tryd.underlying116 (by kernel_rfl) rfl rfl rfl (by kernel_rfl) (by rfl) rfl ?_); clear hs a; intro g3 a w hs
        refine a_eff rfl (e_callX Tryd.func65 rfl rfl hs rfl rfl (w_say g g3 [⟨#[41]⟩] (((((toks ++ [sayT (⟨#[40]⟩)]) ++ toksX q (part x 0)) ++ [sayT (opS x.f0)]) ++ toksX q (part x 1))) _ _ 1 _ _ w0 _ (fun t ht => by rw [List.mem_singleton] at ht; subst ht; decide) (by simp only [List.length_cons, List.length_append, List.length_nil]; omega) ((hs.mem.to 2 rfl).to 2 rfl)) (fun e w1 ⟨A6, c6, he, hm⟩ => ⟨_, he, _, hm, ?_⟩)); clear hs a; intro a hs
        refine wpList_nil (in_normal ?_)
        have hX : toks ++ toksX (q + 1) x = (((((toks ++ [sayT (⟨#[40]⟩)]) ++ toksX q (part x 0)) ++ [sayT (opS x.f0)]) ++ toksX q (part x 1)) ++ [sayT (⟨#[41]⟩)]) := by rw [toksX, if_neg (by omega), if_neg (by omega), if_neg (by omega)]; simp only [List.append_assoc, List.cons_append, List.nil_append]
        refine fin_end hs .nil ⟨A6, c6, rfl, ?_⟩
        rw [hX]; exact ((((((hs.mem.to 2 rfl).drop.to 2 rfl).drop.to 2 rfl).drop.to 2 rfl).drop.to 1 rfl).to 1 rfl)
theorem w_expr : ∀ n : Nat, n ≤ 16 → WrOk n := fun n => by
  induction n using Nat.strongRecOn with
  | _ n ih => exact fun hn x A C g toks A1 c1 bs w0 w hA hS hl h => w_expr_step n hn (fun q hq => ih q (by omega) (by omega)) x A C g toks A1 c1 bs w0 w hA hS hl h
end Go.Proofs.YtibaidddhmdafaaDoor.E
end
section
namespace Go.Proofs.YtibaidddhmdafaaDoor.E
open Go Go.RowKit Go.Proofs.YtibaidddhmdafaaDoorW.PrintWords Go.Proofs.YtibaidddhmdafaaDoorW.PrintLast Go.Proofs.YtibaidddhmdafaaDoorW.PrintMore Go.Proofs.YtibaidddhmdafaaDoor.PA
set_option linter.unusedVariables false
set_option linter.unusedSimpArgs false
set_option maxRecDepth 100000 in
theorem expr_put (g gx : Nat) (x : XE) (A : Option Addr) (C : Nat) (bs : List Res) (w0 w : World) (hA : Kd.C k25 w0 A x.f3.length x.f3) (hS : shapeX 16 x) (h : H w0 (pt g #[.slice none 0 0] 90 :: row 94 5 (.slice none 0 0) 0 [] :: pt gx #[.int .u8 x.f0, .int .i64 x.f1, .string x.f2, .slice A x.f3.length C, .int .i64 x.f4, .int .i64 x.f5] 25 :: bs) w) :
    Calls Tryd.prog 31 #[.pointer (some ⟨g, 0, none⟩), .pointer (some ⟨gx, 0, none⟩)] w fun e w' => ∃ A2 c2, e = .returned (.tuple #[]) ∧ H w0 (pt g #[.slice A2 (toksX 16 x).length c2] 90 :: row 94 5 (.slice A2 (toksX 16 x).length c2) (toksX 16 x).length ((toksX 16 x).flatMap tokC) :: pt gx #[.int .u8 x.f0, .int .i64 x.f1, .string x.f2, .slice A x.f3.length C, .int .i64 x.f4, .int .i64 x.f5] 25 :: bs) w' := by
  refine calls_enter (N := 6) (n := 4) (args := [.pointer (some ⟨g, 0, none⟩), .pointer (some ⟨gx, 0, none⟩)]) Tryd.func31 rfl rfl rfl (h) (fun a hs => ?_)
  refine wp_region_lit ?_
  refine a_val hs rfl rfl rfl (y_move hs rfl) ?_; clear hs a; intro a hs
  refine a_val hs rfl rfl rfl (y_loadPt 2 rfl hs Tryd.underlying25 rfl (by kernel_rfl) rfl) ?_; clear hs a; intro a hs
  refine a_eff rfl (e_callX Tryd.func32 rfl rfl hs rfl rfl (w_expr 16 (by decide) x A C g [] none 0 _ w0 _ hA hS (by decide) ((hs.mem.to 1 rfl).to 1 rfl)) (fun e w1 ⟨A2, c2, he, hm⟩ => ⟨_, he, _, hm, ?_⟩)); clear hs a; intro a hs
  refine wpList_nil ?_
  refine fin_end hs .nil ⟨A2, c2, rfl, (((hs.mem.to 2 rfl).to 2 rfl).to 2 rfl)⟩
set_option maxRecDepth 100000 in
theorem text_expr (gx : Nat) (x : XE) (A : Option Addr) (C : Nat) (bs : List Res) (w0 w : World) (hA : Kd.C k25 w0 A x.f3.length x.f3) (hS : shapeX 16 x) (hP : Pow10 w0) (h : H w0 (pt gx #[.int .u8 x.f0, .int .i64 x.f1, .string x.f2, .slice A x.f3.length C, .int .i64 x.f4, .int .i64 x.f5] 25 :: bs) w) :
    Calls Tryd.prog 30 #[.func (.func 31) #[] #[.pointer (some ⟨gx, 0, none⟩)]] w fun e w' => e = .returned (.tuple #[.string (joinF (toksX 16 x)).1, .int .i64 (joinF (toksX 16 x)).2]) ∧ H w0 (pt gx #[.int .u8 x.f0, .int .i64 x.f1, .string x.f2, .slice A x.f3.length C, .int .i64 x.f4, .int .i64 x.f5] 25 :: bs) w' := by
  refine calls_enter (N := 12) (n := 11) (args := [.func (.func 31) #[] #[.pointer (some ⟨gx, 0, none⟩)]]) Tryd.func30 rfl rfl rfl (h) (fun a hs => ?_)
  refine wp_seq ?_
  refine wp_region_lit ?_
  refine a_val hs rfl rfl rfl (y_assign hs rfl) ?_; clear hs a; intro a hs
  refine a_val hs rfl rfl rfl (y_assign hs rfl) ?_; clear hs a; intro a hs
  refine wpList_nil (then_normal ?_)
  refine wp_seq ?_
  refine wp_region_lit ?_
  refine a_eff rfl (e_alloc (z := .agg #[.slice none 0 0]) (cs := #[.slice none 0 0]) hs rfl (by kernel_rfl) rfl ?_); clear hs a; intro gw a w hs
  refine wpList_nil (then_normal ?_)
  refine wp_seq ?_
  refine wp_region_lit ?_
  refine a_val hs rfl rfl rfl (y_move hs rfl) ?_; clear hs a; intro a hs
  refine a_eff rfl (e_callF Tryd.func31 rfl rfl hs rfl rfl rfl (expr_put gw gx x A C _ w0 _ hA hS ((hs.mem.nilRow 94 5).to 1 rfl)) (fun e w1 ⟨A2, c2, he, hm⟩ => ⟨_, he, _, hm, ?_⟩)); clear hs a; intro a hs
  refine wpList_nil (then_normal ?_)
  refine wp_seq ?_
  refine wp_region_lit ?_
  refine a_val hs rfl rfl rfl (y_faddr (k' := 0) 0 hs (by kernel_rfl) rfl rfl) ?_; clear hs a; intro a hs
  refine a_val hs rfl rfl rfl (y_load hs Tryd.underlying88 rfl rfl (fun w hw => (hw.to 0 rfl).cellV rfl)) ?_; clear hs a; intro a hs
  have htl := toks_len 16 x
  refine a_eff rfl (e_callB Tryd.func64 rfl rfl hs rfl rfl (token_Join A2 c2 (toksX 16 x) _ ((hs.mem.to 1 rfl).rowC tokC_K tokC_len rfl rfl (by omega)).1 (by omega) (toks_size 16 x hS) (varKeep hs.mem.base hP)) ?_); clear hs a; intro a w hs
  refine a_val hs rfl rfl rfl (y_extract hs rfl rfl) ?_; clear hs a; intro a hs
  refine a_val hs rfl rfl rfl (y_extract hs rfl rfl) ?_; clear hs a; intro a hs
  refine a_val hs rfl rfl rfl (y_assign hs rfl) ?_; clear hs a; intro a hs
  refine a_val hs rfl rfl rfl (y_assign hs rfl) ?_; clear hs a; intro a hs
  refine wpList_nil (then_normal ?_)
  refine wp_ret ?_
  refine fin_ret hs (.tmp (hs.slots _ _ rfl) (.tmp (hs.slots _ _ rfl) .nil)) ⟨rfl, ((hs.mem.to 0 rfl).drop.to 0 rfl).drop⟩
/-- An expression's text, or the error. -/
def textX (x : XE) : ByteArray × Int := if deepX x = 0 then (⟨#[]⟩, 2) else joinF (toksX 16 x)
set_option maxRecDepth 100000 in
theorem tree_ExprText (x : XE) (A : Option Addr) (C : Nat) (v0 : World) (hA : Kd.C k25 v0 A x.f3.length x.f3) (hsm : smallX 16 x) (hP : Pow10 v0) :
    Calls Tryd.prog 10 #[.agg #[.int .u8 x.f0, .int .i64 x.f1, .string x.f2, .slice A x.f3.length C, .int .i64 x.f4, .int .i64 x.f5]] v0 fun e w' => e = .returned (.tuple #[.string (textX x).1, .int .i64 (textX x).2]) ∧ Below v0.heap.size v0 w' := by
  refine calls_enter (N := 11) (n := 10) (args := [.agg #[.int .u8 x.f0, .int .i64 x.f1, .string x.f2, .slice A x.f3.length C, .int .i64 x.f4, .int .i64 x.f5]]) Tryd.func10 rfl rfl rfl (H.init v0) (fun a hs => ?_)
  refine wp_seq ?_
  refine wp_region_lit ?_
  refine a_eff rfl (e_box (cs := #[_, _, _, _, _, _]) hs rfl rfl rfl ?_); clear hs a; intro gx a w hs
  refine a_val hs rfl rfl rfl (y_assign hs rfl) ?_; clear hs a; intro a hs
  refine a_val hs rfl rfl rfl (y_assign hs rfl) ?_; clear hs a; intro a hs
  refine wpList_nil (then_normal ?_)
  refine wp_seq ?_
  refine wp_seq ?_
  refine wp_region_lit ?_
  refine a_val hs rfl rfl rfl (y_loadPt 0 rfl hs Tryd.underlying25 rfl (by kernel_rfl) rfl) ?_; clear hs a; intro a hs
  refine a_eff rfl (e_callB Tryd.func11 rfl rfl hs rfl rfl (tree_MayExpr x A C _ (Kd.C_below hA hs.mem.base) hsm) ?_); clear hs a; intro a w hs
  refine a_val hs rfl rfl rfl (y_not hs rfl) ?_; clear hs a; intro a hs
  refine wpList_nil (then_normal ?_)
  refine wp_cond_split (hs.ev rfl) (fun h6 => ?_) (fun h6 => ?_)
  · replace h6 := of_decide_eq_false (not_t h6)
    refine wp_seq ?_
    refine wp_region_lit ?_
    refine a_val hs rfl rfl rfl (y_assign hs rfl) ?_; clear hs a; intro a hs
    refine a_val hs rfl rfl rfl (y_assign hs rfl) ?_; clear hs a; intro a hs
    refine wpList_nil (then_normal ?_)
    refine wp_ret (then_ret ?_)
    refine fin_ret hs (.tmp (hs.slots _ _ rfl) (.tmp (hs.slots _ _ rfl) .nil)) ⟨?_, hs.mem.base⟩
    unfold textX; rw [if_pos (by omega)]; rfl
  · replace h6 := of_decide_eq_true (not_f h6)
    refine wp_skip (then_normal ?_)
    refine wp_seq ?_
    refine wp_region_lit ?_
    refine a_val hs rfl rfl rfl (y_func hs rfl rfl) ?_; clear hs a; intro a hs
    refine a_eff rfl (e_callX Tryd.func30 rfl rfl hs rfl rfl (text_expr gx x A C _ v0 _ hA (shape_of 16 x 8192 (by unfold deepX at h6; omega)) hP hs.mem) (fun e w1 ⟨he, hm⟩ => ⟨_, he, _, hm, ?_⟩)); clear hs a; intro a hs
    refine a_val hs rfl rfl rfl (y_extract hs rfl rfl) ?_; clear hs a; intro a hs
    refine a_val hs rfl rfl rfl (y_extract hs rfl rfl) ?_; clear hs a; intro a hs
    refine a_val hs rfl rfl rfl (y_assign hs rfl) ?_; clear hs a; intro a hs
    refine a_val hs rfl rfl rfl (y_assign hs rfl) ?_; clear hs a; intro a hs
    refine wpList_nil (then_normal ?_)
    refine wp_ret ?_
    refine fin_ret hs (.tmp (hs.slots _ _ rfl) (.tmp (hs.slots _ _ rfl) .nil)) ⟨?_, hs.mem.base⟩
    unfold textX; rw [if_neg (by omega)]; rfl
end Go.Proofs.YtibaidddhmdafaaDoor.E
end
section
namespace Go.Proofs.YtibaidddhmdafaaDoor.E
open Go Go.RowKit Go.Proofs.YtibaidddhmdafaaDoorW.PrintWords Go.Proofs.YtibaidddhmdafaaDoorW.PrintLast Go.Proofs.YtibaidddhmdafaaDoorW.PrintMore Go.Proofs.YtibaidddhmdafaaDoor.PA
set_option linter.unusedVariables false
set_option linter.unusedSimpArgs false
def anchOne : XE := ⟨1, 1, ⟨#[]⟩, [], 0, 0⟩
def anchA : XE := ⟨2, 0, ⟨#[97]⟩, [], 0, 0⟩
def anchX : XE := ⟨4, 0, ⟨#[]⟩, [anchOne, anchA], 0, 0⟩
def zeroX : XE := ⟨0, 0, ⟨#[]⟩, [], 0, 0⟩
theorem small_leaf (n : Nat) (a b : Int) (s : ByteArray) (h : s.size ≤ 9223372036854775807) : smallX n ⟨a, b, s, [], 0, 0⟩ := by
  cases n with
  | zero => trivial
  | succ n => exact ⟨h, fun p hp => absurd hp (by simp)⟩
theorem anch_small : smallX 16 anchX := by
  refine ⟨by decide, fun p hp => ?_⟩
  rcases List.mem_cons.1 hp with rfl | hp
  · exact small_leaf _ _ _ _ (by decide)
  · rw [List.mem_singleton] at hp; subst hp; exact small_leaf _ _ _ _ (by decide)
theorem anch_text : textX anchX = (⟨#[40, 32, 49, 32, 43, 32, 97, 32, 41]⟩, 0) := by kernel_rfl
theorem zero_deep : decide (0 < deepX zeroX) = false := by kernel_rfl
theorem anch_C (g : Nat) (bs : List Res) (w0 w : World) (h : H w0 (pt g #[.int .u8 1, .int .i64 1, .string ⟨#[]⟩, .slice none 0 0, .int .i64 0, .int .i64 0, .int .u8 2, .int .i64 0, .string ⟨#[97]⟩, .slice none 0 0, .int .i64 0, .int .i64 0] 25 :: bs) w) : Kd.C k25 w (some ⟨g, 0, none⟩) 2 [anchOne, anchA] := by
  refine h.ptCG (l := [anchOne, anchA]) (by decide) (fun i => if i = 0 then [.int .u8 anchOne.f0, .int .i64 anchOne.f1, .string anchOne.f2, .slice none anchOne.f3.length 0, .int .i64 anchOne.f4, .int .i64 anchOne.f5] else [.int .u8 anchA.f0, .int .i64 anchA.f1, .string anchA.f2, .slice none anchA.f3.length 0, .int .i64 anchA.f4, .int .i64 anchA.f5]) (fun i x hi => ?_)
  match i, hi with
  | 0, hi =>
    obtain rfl := Option.some.inj hi
    refine ⟨k25_mk _ _ (Nat.le_refl 0) (nilC _ _), rfl, fun j v hj => ?_⟩
    match j, hj with
    | 0, hj | 1, hj | 2, hj | 3, hj | 4, hj | 5, hj => exact hj
  | 1, hi =>
    obtain rfl := Option.some.inj hi
    refine ⟨k25_mk _ _ (Nat.le_refl 0) (nilC _ _), rfl, fun j v hj => ?_⟩
    match j, hj with
    | 0, hj | 1, hj | 2, hj | 3, hj | 4, hj | 5, hj => exact hj
set_option maxRecDepth 100000 in
theorem law_anchored (v0 : World) (hP : Pow10 v0) :
    Calls Tryd.prog 12 #[] v0 fun e w' => e = .returned (.bool true) ∧ Below v0.heap.size v0 w' := by
  refine calls_enter (N := 24) (n := 24) (args := []) Tryd.func12 rfl rfl rfl (H.init v0) (fun a hs => ?_)
  refine wp_seq ?_
  refine wp_region_lit ?_
  refine a_val hs rfl rfl rfl (y_assign hs rfl) ?_; clear hs a; intro a hs
  refine wpList_nil (then_normal ?_)
  refine wp_seq ?_
  refine wp_region_lit ?_
  refine a_val hs rfl rfl rfl (y_struct (zc := #[.int .u8 0, .int .i64 0, .string ⟨#[]⟩, .slice none 0 0, .int .i64 0, .int .i64 0]) (pl := [(0, 1), (1, 1), (2, 1), (3, 1), (4, 1), (5, 1)]) (cl := [_, _, .string ⟨#[]⟩, .slice none 0 0, .int .i64 0, .int .i64 0]) hs (by kernel_rfl) rfl (by rfl) rfl) ?_; clear hs a; intro a hs
  refine a_eff rfl (e_alloc (z := .agg #[.int .u8 0, .int .i64 0, .string ⟨#[]⟩, .slice none 0 0, .int .i64 0, .int .i64 0]) (cs := #[.int .u8 0, .int .i64 0, .string ⟨#[]⟩, .slice none 0 0, .int .i64 0, .int .i64 0]) hs rfl (by kernel_rfl) rfl ?_); clear hs a; intro g1 a w hs
  refine a_eff rfl (e_store (cl := [_, _, _, _, _, _]) 0 rfl hs rfl rfl (by kernel_rfl) rfl rfl rfl ?_); clear hs a; intro a w hs
  refine wpList_nil (then_normal ?_)
  refine wp_seq ?_
  refine wp_region_lit ?_
  refine a_val hs rfl rfl rfl (y_loadPt 0 rfl hs Tryd.underlying25 rfl (by kernel_rfl) rfl) ?_; clear hs a; intro a hs
  refine a_val hs rfl rfl rfl (y_struct (zc := #[.int .u8 0, .int .i64 0, .string ⟨#[]⟩, .slice none 0 0, .int .i64 0, .int .i64 0]) (pl := [(0, 1), (1, 1), (2, 1), (3, 1), (4, 1), (5, 1)]) (cl := [_, .int .i64 0, _, .slice none 0 0, .int .i64 0, .int .i64 0]) hs (by kernel_rfl) rfl (by rfl) rfl) ?_; clear hs a; intro a hs
  refine a_eff rfl (e_bslice (z := .agg #[.int .u8 0, .int .i64 0, .string ⟨#[]⟩, .slice none 0 0, .int .i64 0, .int .i64 0]) (size := 6) (zc := #[.int .u8 0, .int .i64 0, .string ⟨#[]⟩, .slice none 0 0, .int .i64 0, .int .i64 0, .int .u8 0, .int .i64 0, .string ⟨#[]⟩, .slice none 0 0, .int .i64 0, .int .i64 0]) (cl := [_, _, _, _, _, _, _, _, _, _, _, _]) hs rfl Tryd.underlying23 (by kernel_rfl) rfl rfl rfl (by kernel_rfl) (by rfl) rfl ?_); clear hs a; intro gl a w hs
  refine a_val hs rfl rfl rfl (y_struct (zc := #[.int .u8 0, .int .i64 0, .string ⟨#[]⟩, .slice none 0 0, .int .i64 0, .int .i64 0]) (pl := [(0, 1), (1, 1), (2, 1), (3, 1), (4, 1), (5, 1)]) (cl := [_, .int .i64 0, .string ⟨#[]⟩, _, .int .i64 0, .int .i64 0]) hs (by kernel_rfl) rfl (by rfl) rfl) ?_; clear hs a; intro a hs
  refine a_eff rfl (e_callB Tryd.func10 rfl rfl hs rfl rfl (by have h := tree_ExprText anchX (some ⟨gl, 0, none⟩) 2 _ (anch_C gl _ _ _ hs.mem) anch_small (varKeep hs.mem.base hP); rw [anch_text] at h; exact h) ?_); clear hs a; intro a w hs
  refine a_val hs rfl rfl rfl (y_move hs rfl) ?_; clear hs a; intro a hs
  refine a_val hs rfl rfl rfl (y_extract hs rfl rfl) ?_; clear hs a; intro a hs
  refine a_val hs rfl rfl rfl (y_extract hs rfl rfl) ?_; clear hs a; intro a hs
  refine a_val hs rfl rfl rfl (y_assign hs rfl) ?_; clear hs a; intro a hs
  refine a_val hs rfl rfl rfl (y_assign hs rfl) ?_; clear hs a; intro a hs
  refine wpList_nil (then_normal ?_)
  refine wp_seq ?_
  refine wp_region_lit ?_
  refine a_val hs rfl rfl rfl (y_move hs rfl) ?_; clear hs a; intro a hs
  refine a_val hs rfl rfl rfl (y_cmp (b := true) hs rfl rfl rfl) ?_; clear hs a; intro a hs
  refine a_val hs rfl rfl rfl (y_move hs rfl) ?_; clear hs a; intro a hs
  refine a_valG hs rfl rfl rfl (y_move hs rfl) ?_; clear hs a; intro a hs
  refine a_valG hs rfl rfl rfl (y_seqB (b := true) hs rfl rfl (by decide +kernel)) ?_; clear hs a; intro a hs
  refine a_val hs rfl rfl rfl (y_pickT hs rfl rfl rfl) ?_; clear hs a; intro a hs
  refine a_val hs rfl rfl rfl (y_move hs rfl) ?_; clear hs a; intro a hs
  refine a_valG hs rfl rfl rfl (y_struct (zc := #[.int .u8 0, .int .i64 0, .string ⟨#[]⟩, .slice none 0 0, .int .i64 0, .int .i64 0]) (pl := [(0, 1), (1, 1), (2, 1), (3, 1), (4, 1), (5, 1)]) (cl := [.int .u8 0, .int .i64 0, .string ⟨#[]⟩, .slice none 0 0, .int .i64 0, .int .i64 0]) hs (by kernel_rfl) rfl (by rfl) rfl) ?_; clear hs a; intro a hs
  refine a_effG hs rfl (e_callB Tryd.func11 rfl rfl hs rfl rfl (by have h := tree_MayExpr zeroX none 0 w (nilC _ w) (small_leaf _ _ _ _ (by decide)); rw [zero_deep] at h; exact h) ?_); clear hs a; intro a w hs
  refine a_valG hs rfl rfl rfl (y_not hs rfl) ?_; clear hs a; intro a hs
  refine a_val hs rfl rfl rfl (y_pickT hs rfl rfl rfl) ?_; clear hs a; intro a hs
  refine a_val hs rfl rfl rfl (y_assign hs rfl) ?_; clear hs a; intro a hs
  refine wpList_nil (then_normal ?_)
  refine wp_ret ?_
  refine fin_ret hs (.tmp (hs.slots _ _ rfl) .nil) ⟨rfl, hs.mem.base⟩
end Go.Proofs.YtibaidddhmdafaaDoor.E
end
