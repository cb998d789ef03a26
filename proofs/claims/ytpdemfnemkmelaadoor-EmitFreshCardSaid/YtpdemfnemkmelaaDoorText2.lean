/- emit.Text: a program's lines. Conditions: strconv's and math/bits' tables stand in their variables. -/
import Derived.Test.YtpdemfnemkmelaaDoorText
namespace Go.Proofs.YtpdemfnemkmelaaDoor.E
open Go Go.RowKit Go.Proofs.YtpdemfnemkmelaaDoorW.PrintWords Go.Proofs.YtpdemfnemkmelaaDoorW.PrintLast Go.Proofs.YtpdemfnemkmelaaDoorW.PrintMore Go.Proofs.YtpdemfnemkmelaaDoor.PA Go.Proofs.YtpdemfnemkmelaaDoor.Num
set_option linter.unusedVariables false
set_option linter.unusedSimpArgs false
theorem builder_put (gb : Nat) (p : Option Addr) (hp : p = none ∨ p = some ⟨gb, 0, none⟩) (A : Option Addr) (c : Nat) (acc s : ByteArray) (hn : acc.size + s.size ≤ 100000000) (bs : List Res) (w0 w : World) (h : H w0 (pt gb #[.pointer p, .slice A (acc).size c] 63 :: row 5 1 (.slice A (acc).size c) (acc).size (Lib.strCells (acc)) :: bs) w) :
    Calls Tryd.prog 29 #[.pointer (some ⟨gb, 0, none⟩), .string s] w fun e w' => ∃ A' c', e = .returned (.tuple #[.int .i64 (s.size : Int), .nilIface]) ∧ H w0 (pt gb #[.pointer (some ⟨gb, 0, none⟩), .slice A' (acc ++ s).size c'] 63 :: row 5 1 (.slice A' (acc ++ s).size c') (acc ++ s).size (Lib.strCells (acc ++ s)) :: bs) w' := by
  have h1 := builder_WriteString gb p hp A acc.size c (Lib.strCells acc) s hn bs w0 w h
  have e : Lib.strCells (acc ++ s) = Lib.strCells acc ++ Lib.strCells s := by simp [Lib.strCells, ByteArray.data_append]
  rw [e, ByteArray.size_append]
  exact h1
/-- A step's line; a program's text. -/
def headB (regs outs : Int) (r : Nat) : ByteArray := lineB ⟨#[112, 114, 111, 103, 114, 97, 109]⟩ ([regs, outs] ++ bitsL r)
def slineB (s : Stp) : ByteArray := lineB (wordS s.f0) (fieldsL s)
def textB (l : List Stp) (regs outs : Int) (r : Nat) : ByteArray := l.foldl (fun b s => b ++ slineB s) (headB regs outs r)
theorem text_snoc {l : List Stp} {i : Nat} {s : Stp} (h : l[i]? = some s) (b : ByteArray) : (l.take i).foldl (fun b s => b ++ slineB s) b ++ slineB s = (l.take (i + 1)).foldl (fun b s => b ++ slineB s) b := by
  rw [List.take_add_one, h, List.foldl_append]; rfl
theorem wordS_size (k : Int) : (wordS k).size ≤ 5 := by
  unfold wordS
  split
  · decide
  · split
    · decide
    · split
      · decide
      · split <;> decide
theorem fieldsL_mem {s : Stp} (h : okStep s = true) (h3 : 0 ≤ s.f3 ∧ s.f3 ≤ 255) : ∀ n ∈ fieldsL s, 0 ≤ n ∧ n ≤ 255 := fun n hn => by
  have h1 := okStep_yes h
  unfold fieldsL at hn
  have := List.mem_of_mem_take hn
  simp only [List.mem_cons, List.not_mem_nil, or_false] at this
  omega
theorem slineB_size {s : Stp} (h : okStep s = true) (h3 : 0 ≤ s.f3 ∧ s.f3 ≤ 255) : (slineB s).size ≤ 100 := by
  have h1 := joinN_size (wordS s.f0) (fieldsL s) (fun n hn => by have := fieldsL_mem h h3 n hn; omega)
  have h2 := wordS_size s.f0
  have h4 := fldN_le s.f0
  rw [fieldsL_len] at h1
  unfold slineB lineB
  rw [ByteArray.size_append, show (⟨#[10]⟩ : ByteArray).size = 1 from rfl]
  omega
theorem headB_mem {regs outs : Int} {r : Nat} (h : 0 ≤ regs ∧ regs ≤ 256 ∧ 0 ≤ outs ∧ outs ≤ 64) : ∀ n ∈ [regs, outs] ++ bitsL r, -9223372036854775808 ≤ n ∧ n ≤ 9223372036854775807 := fun n hn => by
  rcases List.mem_append.1 hn with hn | hn
  · simp only [List.mem_cons, List.not_mem_nil, or_false] at hn; omega
  · have := bitsL_mem hn; omega
theorem headB_size {regs outs : Int} {r : Nat} (h : 0 ≤ regs ∧ regs ≤ 256 ∧ 0 ≤ outs ∧ outs ≤ 64) : (headB regs outs r).size ≤ 2000 := by
  have h1 := joinN_size ⟨#[112, 114, 111, 103, 114, 97, 109]⟩ ([regs, outs] ++ bitsL r) (headB_mem h)
  have h2 := bitsL_len r
  unfold headB lineB
  rw [ByteArray.size_append, show (⟨#[10]⟩ : ByteArray).size = 1 from rfl]
  rw [show (⟨#[112, 114, 111, 103, 114, 97, 109]⟩ : ByteArray).size = 7 from rfl, List.length_append, List.length_cons, List.length_cons, List.length_nil] at h1
  omega
theorem text_size {l : List Stp} {regs outs : Int} {r : Nat} (h : 0 ≤ regs ∧ regs ≤ 256 ∧ 0 ≤ outs ∧ outs ≤ 64) (hl : ∀ s ∈ l, okStep s = true ∧ 0 ≤ s.f3 ∧ s.f3 ≤ 255) : ∀ (i : Nat), i ≤ l.length → ((l.take i).foldl (fun b s => b ++ slineB s) (headB regs outs r)).size ≤ 2000 + 100 * i := by
  intro i
  induction i with
  | zero => intro _; have := headB_size (r := r) h; simpa using this
  | succ i ih =>
    intro hi
    have hs := List.getElem?_eq_getElem (l := l) (i := i) (by omega)
    rw [← text_snoc hs, ByteArray.size_append]
    have := ih (by omega)
    obtain ⟨h1, h2⟩ := hl _ (List.mem_of_getElem? hs)
    have := slineB_size h1 h2
    omega

/-- What Text answers. -/
def textA (l : List Stp) (regs outs : Int) (r : Nat) : Value := if okProg l regs outs then .tuple #[.string (textB l regs outs r), .int .i64 0] else .tuple #[.string ⟨#[]⟩, .int .i64 2]
theorem line_of_all {s : Stp} (hst : okStep s = true) (h3 : 0 ≤ s.f3 ∧ s.f3 ≤ 255) {w0 w : World} {ga : Nat} {bs : List Res} (h : H w0 (pt ga #[.int .i64 s.f1, .int .i64 s.f2, .int .i64 s.f3] 3 :: bs) w) (hP : Pow10 w) :
    Calls Tryd.prog 30 #[.string (wordS s.f0), .slice (some ⟨ga, 0, none⟩) (fldN s.f0) 3] w fun e w' => e = .returned (.string (slineB s)) ∧ Below w.heap.size w w' := by
  have hl := fieldsL_len s
  have h4 := fldN_le s.f0
  have hz := wordS_size s.f0
  have h1 := emit_line (wordS s.f0) (some ⟨ga, 0, none⟩) 3 (fieldsL s) w (h.ptC (d := Kd.int .i64) (enc := encI) (n := fldN s.f0) (fun _ _ => rfl) encI_len (by omega) (by rw [fieldsL, flatI, List.map_take]; rfl)) (fun n hn => by have := fieldsL_mem hst h3 n hn; omega) (by omega) hP
  rw [hl] at h1
  exact h1

set_option maxRecDepth 100000 in
theorem emit_Text (A : Option Addr) (c : Nat) (l : List Stp) (regs outs : Int) (r : Nat) (hr : r < 2 ^ 64) (v0 : World) (hA : Kd.C k47 v0 A l.length l) (hg : ∀ s ∈ l, 0 ≤ s.f0 ∧ 0 ≤ s.f3 ∧ s.f3 ≤ 255) (hP : Pow10 v0) (hD : DB v0) :
    Calls Tryd.prog 11 #[.agg #[.slice A l.length c, .int .i64 regs, .int .i64 outs, .int .u64 (r : Int)]] v0 fun e w' => e = .returned (textA l regs outs r) ∧ Below v0.heap.size v0 w' := by
  refine calls_enter (N := 37) (n := 36) (args := [.agg #[.slice A l.length c, .int .i64 regs, .int .i64 outs, .int .u64 (r : Int)]]) Tryd.func11 rfl rfl rfl (H.init v0) (fun a hs => ?_)
  refine wp_seq ?_
  refine wp_region_lit ?_
  refine a_eff rfl (e_box (cs := #[_, _, _, _]) hs rfl rfl rfl ?_); clear hs a; intro gp a w hs
  refine a_val hs rfl rfl rfl (y_assign hs rfl) ?_; clear hs a; intro a hs
  refine a_val hs rfl rfl rfl (y_assign hs rfl) ?_; clear hs a; intro a hs
  refine wpList_nil (then_normal ?_)
  refine wp_seq ?_
  refine wp_seq ?_
  refine wp_region_lit ?_
  refine a_val hs rfl rfl rfl (y_loadPt 0 rfl hs Tryd.underlying26 rfl (by kernel_rfl) rfl) ?_; clear hs a; intro a hs
  refine a_eff rfl (e_callB Tryd.func25 rfl rfl hs rfl rfl (emit_may A c l regs outs (r : Int) _ (Kd.C_below hA hs.mem.base) hg) ?_); clear hs a; intro a w hs
  refine a_val hs rfl rfl rfl (y_not hs rfl) ?_; clear hs a; intro a hs
  refine wpList_nil (then_normal ?_)
  refine wp_cond_split (hs.ev rfl) (fun h9 => ?_) (fun h9 => ?_)
  · replace h9 := (not_t h9)
    have hok := h9
    refine wp_seq ?_
    refine wp_region_lit ?_
    refine a_val hs rfl rfl rfl (y_assign hs rfl) ?_; clear hs a; intro a hs
    refine a_val hs rfl rfl rfl (y_assign hs rfl) ?_; clear hs a; intro a hs
    refine wpList_nil (then_normal ?_)
    refine wp_ret (then_ret ?_)
    refine fin_ret hs (.tmp (hs.slots _ _ rfl) (.tmp (hs.slots _ _ rfl) .nil)) (And.intro ?_ hs.mem.base)
    unfold textA; rw [hok]; rfl
  · replace h9 := (not_f h9)
    have hok' := h9
    obtain ⟨hok, hall⟩ := okProg_yes h9
    refine wp_skip (then_normal ?_)
    refine wp_seq ?_
    refine wp_region_lit ?_
    refine a_eff rfl (e_alloc (z := .agg #[.pointer none, .slice none 0 0]) (cs := #[.pointer none, .slice none 0 0]) hs rfl (by kernel_rfl) rfl ?_); clear hs a; intro gb a w hs
    refine wpList_nil (then_normal ?_)
    refine wp_seq ?_
    replace hs := hs.mem_to ((hs.mem.nilRow 5 1).to 1 rfl)
    refine b_enter [2] (by kernel_rfl) hs #[false, false, false, false, false, false, false, false, false, false, false] (by rfl) 11 (by rfl) ?_; clear hs; intro w hs
    refine b_take 0 rfl #[true, false, false, false, false, false, false, false, false, false, false] rfl (by kernel_rfl) hs (((hs.mem.to 2 rfl).first 1)) rfl rfl rfl (fun _ _ _ h => h) (y_faddr (k' := 1) 1 hs (by kernel_rfl) rfl rfl) ?_; clear hs a; intro a hs
    refine b_take 1 rfl #[true, true, false, false, false, false, false, false, false, false, false] rfl (by kernel_rfl) hs (((hs.mem.to 2 rfl).first 1)) rfl rfl rfl (fun _ _ _ h => h) (y_load hs Tryd.underlying3 rfl rfl (fun w hw => (hw.to 0 rfl).cellV rfl)) ?_; clear hs a; intro a hs
    refine b_take 2 rfl #[true, true, true, false, false, false, false, false, false, false, false] rfl (by kernel_rfl) hs (((hs.mem.to 2 rfl).first 1)) rfl rfl rfl (fun _ _ _ h => h) (y_faddr (k' := 2) 2 hs (by kernel_rfl) rfl rfl) ?_; clear hs a; intro a hs
    refine b_take 3 rfl #[true, true, true, true, false, false, false, false, false, false, false] rfl (by kernel_rfl) hs (((hs.mem.to 2 rfl).first 1)) rfl rfl rfl (fun _ _ _ h => h) (y_load hs Tryd.underlying3 rfl rfl (fun w hw => (hw.to 0 rfl).cellV rfl)) ?_; clear hs a; intro a hs
    refine b_take 5 rfl #[true, true, true, true, false, true, false, false, false, false, false] rfl (by kernel_rfl) hs (((hs.mem.to 2 rfl).first 1)) rfl rfl rfl (fun _ _ _ h => h) (y_faddr (k' := 3) 3 hs (by kernel_rfl) rfl rfl) ?_; clear hs a; intro a hs
    refine b_take 6 rfl #[true, true, true, true, false, true, true, false, false, false, false] rfl (by kernel_rfl) hs (((hs.mem.to 2 rfl).first 1)) rfl rfl rfl (fun _ _ _ h => h) (y_load hs Tryd.underlying24 rfl rfl (fun w hw => (hw.to 0 rfl).cellV rfl)) ?_; clear hs a; intro a hs
    refine b_eff2 4 7 (by kernel_rfl) rfl rfl #[true, true, true, true, true, true, true, false, false, false, false] #[true, true, true, true, false, true, true, true, false, false, false] rfl rfl hs rfl rfl (e_bslice (z := .int .i64 0) (size := 1) (zc := #[.int .i64 0, .int .i64 0]) (cl := [_, _]) hs rfl Tryd.underlying59 (by kernel_rfl) rfl rfl rfl (by kernel_rfl) (by rfl) rfl ?_) (e_callX Tryd.func31 rfl rfl hs rfl rfl (subset_List r hr _ (varKeep hs.mem.base hD)) (fun e w1 ⟨B1, b1, he, hm⟩ => ⟨_, he, _, hs.mem.more hm, ?_⟩))
    · clear hs a; intro gl a w hs
      refine ⟨((hs.mem.to 3 rfl).first 1), ?_⟩
      refine b_eff 7 (by kernel_rfl) rfl #[true, true, true, true, true, true, true, true, false, false, false] rfl hs rfl (e_callX Tryd.func31 rfl rfl hs rfl rfl (subset_List r hr _ (varKeep hs.mem.base hD)) (fun e w1 ⟨B1, b1, he, hm⟩ => ⟨_, he, _, hs.mem.more hm, ?_⟩)); clear hs a; intro a hs
      refine ⟨((hs.mem.to 4 rfl).first 1), ?_⟩
      replace hs := hs.mem_to ((hs.mem.to 1 rfl).ptRow 1 2 2 (xs := [regs, outs].flatMap encI) rfl (by decide) (by decide) rfl)
      have hbl := bitsL_len r
      refine b_eff 8 (by kernel_rfl) rfl #[true, true, true, true, true, true, true, true, true, false, false] rfl hs rfl (e_appR0 (z := .int .i64 0) (size := 1) (bytes := 8) encI [regs, outs] (bitsL r) 0 rfl 1 rfl hs rfl Tryd.underlying59 (by kernel_rfl) rfl rfl (fun _ => rfl) rfl rfl (oneI _) (by unfold maxLen; simp only [List.length_cons, List.length_nil]; omega) (by simp only [List.length_cons, List.length_nil]; omega) ?_); clear hs a; intro B2 b2 a w hs
      refine ⟨((hs.mem.to 4 rfl).first 1), ?_⟩
      refine b_eff 9 (by kernel_rfl) rfl #[true, true, true, true, true, true, true, true, true, true, false] rfl hs rfl (e_callB Tryd.func30 rfl rfl hs rfl rfl (emit_line ⟨#[112, 114, 111, 103, 114, 97, 109]⟩ B2 b2 ([regs, outs] ++ bitsL r) _ ((hs.mem.to 0 rfl).rowC (d := Kd.int .i64) (fun _ _ => rfl) encI_len rfl rfl (by rw [List.length_append, List.length_cons, List.length_cons, List.length_nil]; omega)).1 (headB_mem (by omega)) (by rw [show (⟨#[112, 114, 111, 103, 114, 97, 109]⟩ : ByteArray).size = 7 from rfl, List.length_append, List.length_cons, List.length_cons, List.length_nil]; omega) (varKeep hs.mem.base hP)) ?_); clear hs a; intro a w hs
      refine ⟨((hs.mem.to 4 rfl).first 1), ?_⟩
      refine b_eff 10 (by kernel_rfl) rfl #[true, true, true, true, true, true, true, true, true, true, true] rfl hs rfl (e_callX Tryd.func29 rfl rfl hs rfl rfl (builder_put gb none (.inl rfl) none 0 (⟨#[]⟩ : ByteArray) (headB regs outs r) (by have := headB_size (r := r) (regs := regs) (outs := outs) (by omega); rw [show (⟨#[]⟩ : ByteArray).size = 0 from rfl]; omega) _ v0 _ ((hs.mem.to 3 rfl).to 3 rfl)) (fun e w1 ⟨A1, c1, he, hm⟩ => ⟨_, he, _, hm, ?_⟩)); clear hs a; intro a hs
      refine ⟨((hs.mem.to 4 rfl).first 1), ?_⟩
      refine b_done (by kernel_rfl) (then_normal ?_)
      refine wp_seq ?_
      refine wp_seq ?_
      refine wp_region_lit ?_
      refine a_val hs rfl rfl rfl (y_faddr (k' := 0) 0 hs (by kernel_rfl) rfl rfl) ?_; clear hs a; intro a hs
      refine a_val hs rfl rfl rfl (y_load hs Tryd.underlying22 rfl rfl (fun w hw => (hw.to 4 rfl).cellV rfl)) ?_; clear hs a; intro a hs
      refine a_val hs rfl rfl rfl (y_lenL hs Tryd.underlying22 rfl) ?_; clear hs a; intro a hs
      refine a_val hs rfl rfl rfl (y_move hs rfl) ?_; clear hs a; intro a hs
      refine wpList_nil (then_normal ?_)
      refine wp_block ?_
      refine wp_loopN (fun m a w1 => ∃ (i : Nat) (A2 : Option Addr) (c2 : Nat), (i + m = l.length) ∧ St 37 v0 [(4, .pointer (some ⟨gb, 0, none⟩)), (22, .slice A l.length c), (23, .int .i64 (l.length : Int)), (24, .int .i64 ((i : Nat) : Int))] [pt gb #[.pointer (some ⟨gb, 0, none⟩), .slice A2 ((l.take i).foldl (fun b s => b ++ slineB s) (headB regs outs r)).size c2] 63, row 5 1 (.slice A2 ((l.take i).foldl (fun b s => b ++ slineB s) (headB regs outs r)).size c2) ((l.take i).foldl (fun b s => b ++ slineB s) (headB regs outs r)).size (Lib.strCells ((l.take i).foldl (fun b s => b ++ slineB s) (headB regs outs r)))] a w1) (l.length) ⟨0, A1, c1, by omega, ?_⟩ (fun m a w1 hJ => ?_)
      · have e0 : (⟨#[]⟩ : ByteArray) ++ headB regs outs r = (l.take 0).foldl (fun b s => b ++ slineB s) (headB regs outs r) := ByteArray.empty_append
        rw [e0] at hs
        exact (hs.mem_to (((((hs.mem.to 2 rfl).drop.to 2 rfl).drop.to 2 rfl).drop.to 1 rfl).to 1 rfl)).cut _ ⟨rfl, rfl, rfl, rfl, trivial⟩
      · clear hs
        obtain ⟨i, A2, c2, hi, hs⟩ := hJ
        refine wp_seq ?_
        refine wp_region_lit ?_
        refine a_val hs rfl rfl rfl (y_cmp hs rfl rfl rfl) ?_; clear hs a; intro a hs
        refine wpList_nil (then_normal ?_)
        refine wp_seq ?_
        refine wp_cond_split (hs.ev rfl) (fun h25 => ?_) (fun h25 => ?_)
        · replace h25 := of_decide_eq_true h25
          obtain ⟨s, hsi⟩ : ∃ s, l[i]? = some s := ⟨_, List.getElem?_eq_getElem (by omega)⟩
          obtain ⟨g0, o, rfl, hcell⟩ := C_at encS_K encS_len (by decide) hA (by omega)
          have hs0 := hg s (List.mem_of_getElem? hsi)
          have hst := hall s (List.mem_of_getElem? hsi)
          have hst1 := okStep_yes hst
          have hts := text_size (r := r) (regs := regs) (outs := outs) (by omega) (fun s hs => ⟨hall s hs, (hg s hs).2⟩) i (by omega)
          have hls := slineB_size hst (by omega)
          refine wp_skip (then_normal ?_)
          refine wp_seq ?_
          refine wp_block ?_
          refine wp_seq ?_
          refine wp_region_lit ?_
          refine a_val hs rfl rfl rfl (y_idxB (size := 4) (off := o + i * 4) hs Tryd.underlying22 (by kernel_rfl) rfl rfl (by omega) (by omega) (by simp)) ?_; clear hs a; intro a hs
          refine a_val hs rfl rfl rfl (y_loadAgg (vs := encS s) hs Tryd.underlying47 rfl (by kernel_rfl) rfl (fun w hw k v hk => hcell w hw.base i s hsi k v hk)) ?_; clear hs a; intro a hs
          refine a_eff rfl (e_alloc (z := .agg #[.int .u8 0, .int .i64 0, .int .i64 0, .int .u8 0]) (cs := #[.int .u8 0, .int .i64 0, .int .i64 0, .int .u8 0]) hs rfl (by kernel_rfl) rfl ?_); clear hs a; intro gs a w hs
          refine a_eff rfl (e_store (cl := [_, _, _, _]) 0 rfl hs rfl rfl (by kernel_rfl) rfl rfl rfl ?_); clear hs a; intro a w hs
          refine wpList_nil (then_normal ?_)
          refine b_enter [0] (by kernel_rfl) hs #[false, false, false, false, false, false, false] (by rfl) 7 (by rfl) ?_; clear hs; intro w hs
          refine b_take 0 rfl #[true, false, false, false, false, false, false] rfl (by kernel_rfl) hs ((hs.mem.first 1)) rfl rfl rfl (fun _ _ _ h => h) (y_faddr (k' := 0) 0 hs (by kernel_rfl) rfl rfl) ?_; clear hs a; intro a hs
          refine b_take 1 rfl #[true, true, false, false, false, false, false] rfl (by kernel_rfl) hs ((hs.mem.first 1)) rfl rfl rfl (fun _ _ _ h => h) (y_load hs Tryd.underlying45 rfl rfl (fun w hw => (hw.to 0 rfl).cellV rfl)) ?_; clear hs a; intro a hs
          refine b_take 3 rfl #[true, true, false, true, false, false, false] rfl (by kernel_rfl) hs ((hs.mem.first 1)) rfl rfl rfl (fun _ _ _ h => h) (y_loadPt 0 rfl hs Tryd.underlying47 rfl (by kernel_rfl) rfl) ?_; clear hs a; intro a hs
          refine b_eff 2 (by kernel_rfl) rfl #[true, true, true, true, false, false, false] rfl hs rfl (e_callB Tryd.func32 rfl rfl hs rfl rfl (emit_word s.f0 (by omega) _) ?_); clear hs a; intro a w hs
          refine ⟨(hs.mem.first 1), ?_⟩
          refine b_eff 4 (by kernel_rfl) rfl #[true, true, true, true, true, false, false] rfl hs rfl (e_callX Tryd.func28 rfl rfl hs rfl rfl (emit_all s (by omega) (by omega) _) (fun e w1 ⟨ga, he, hm⟩ => ⟨_, he, _, hs.mem.more hm, ?_⟩)); clear hs a; intro a hs
          refine ⟨((hs.mem.to 1 rfl).first 1), ?_⟩
          refine b_eff 5 (by kernel_rfl) rfl #[true, true, true, true, true, true, false] rfl hs rfl (e_callB Tryd.func30 rfl rfl hs rfl rfl (line_of_all hst (by omega) (hs.mem.to 0 rfl) (varKeep hs.mem.base hP)) ?_); clear hs a; intro a w hs
          refine ⟨((hs.mem.to 1 rfl).first 1), ?_⟩
          refine b_eff 6 (by kernel_rfl) rfl #[true, true, true, true, true, true, true] rfl hs rfl (e_callX Tryd.func29 rfl rfl hs rfl rfl (builder_put gb (some ⟨gb, 0, none⟩) (.inr rfl) A2 c2 ((l.take i).foldl (fun b s => b ++ slineB s) (headB regs outs r)) (slineB s) (by omega) _ v0 _ ((hs.mem.to 3 rfl).to 3 rfl)) (fun e w1 ⟨A3, c3, he, hm⟩ => ⟨_, he, _, hm, ?_⟩)); clear hs a; intro a hs
          refine ⟨((hs.mem.to 3 rfl).first 1), ?_⟩
          refine b_done (by kernel_rfl) (in_normal (then_normal ?_))
          refine wp_region_lit ?_
          refine a_val hs rfl rfl rfl (y_add hs rfl rfl (by omega)) ?_; clear hs a; intro a hs
          refine a_val hs rfl rfl rfl (y_move hs rfl) ?_; clear hs a; intro a hs
          refine wpList_nil (then_normal ?_)
          rw [text_snoc hsi] at hs
          refine ⟨m - 1, by omega, i + 1, A3, c3, by omega, ?_⟩
          exact (hs.mem_to ((((hs.mem.to 2 rfl).drop.to 2 rfl).drop.to 1 rfl).to 1 rfl)).cut _ ⟨rfl, rfl, rfl, rfl, trivial⟩
        · replace h25 := of_decide_eq_false h25
          refine wp_exit (then_exit (then_exit (in_here (then_normal ?_))))
          refine wp_seq ?_
          refine wp_region_lit ?_
          have e2 : (l.take i).foldl (fun b s => b ++ slineB s) (headB regs outs r) = textB l regs outs r := by rw [List.take_of_length_le (by omega)]; rfl
          rw [e2] at hs
          refine a_eff rfl (e_callX Tryd.func33 rfl rfl hs rfl rfl (builder_String gb _ (.inr rfl) A2 _ c2 (textB l regs outs r) rfl _ v0 _ ((hs.mem.to 1 rfl).to 1 rfl)) (fun e w1 ⟨he, hb⟩ => ⟨_, he, [], hs.mem.bare.onBelow hb, ?_⟩)); clear hs a; intro a hs
          refine a_val hs rfl rfl rfl (y_assign hs rfl) ?_; clear hs a; intro a hs
          refine a_val hs rfl rfl rfl (y_assign hs rfl) ?_; clear hs a; intro a hs
          refine wpList_nil (then_normal ?_)
          refine wp_ret ?_
          refine fin_ret hs (.tmp (hs.slots _ _ rfl) (.tmp (hs.slots _ _ rfl) .nil)) (And.intro ?_ hs.mem.base)
          unfold textA; rw [hok']; rfl
    · clear hs a; intro a hs
      refine ⟨((hs.mem.to 3 rfl).first 1), ?_⟩
      refine b_eff 4 (by kernel_rfl) rfl #[true, true, true, true, true, true, true, true, false, false, false] rfl hs rfl (e_bslice (z := .int .i64 0) (size := 1) (zc := #[.int .i64 0, .int .i64 0]) (cl := [_, _]) hs rfl Tryd.underlying59 (by kernel_rfl) rfl rfl rfl (by kernel_rfl) (by rfl) rfl ?_); clear hs a; intro gl a w hs
      refine ⟨((hs.mem.to 4 rfl).first 1), ?_⟩
      replace hs := hs.mem_to ((hs.mem.to 0 rfl).ptRow 1 2 2 (xs := [regs, outs].flatMap encI) rfl (by decide) (by decide) rfl)
      have hbl := bitsL_len r
      refine b_eff 8 (by kernel_rfl) rfl #[true, true, true, true, true, true, true, true, true, false, false] rfl hs rfl (e_appR0 (z := .int .i64 0) (size := 1) (bytes := 8) encI [regs, outs] (bitsL r) 0 rfl 1 rfl hs rfl Tryd.underlying59 (by kernel_rfl) rfl rfl (fun _ => rfl) rfl rfl (oneI _) (by unfold maxLen; simp only [List.length_cons, List.length_nil]; omega) (by simp only [List.length_cons, List.length_nil]; omega) ?_); clear hs a; intro B2 b2 a w hs
      refine ⟨((hs.mem.to 4 rfl).first 1), ?_⟩
      refine b_eff 9 (by kernel_rfl) rfl #[true, true, true, true, true, true, true, true, true, true, false] rfl hs rfl (e_callB Tryd.func30 rfl rfl hs rfl rfl (emit_line ⟨#[112, 114, 111, 103, 114, 97, 109]⟩ B2 b2 ([regs, outs] ++ bitsL r) _ ((hs.mem.to 0 rfl).rowC (d := Kd.int .i64) (fun _ _ => rfl) encI_len rfl rfl (by rw [List.length_append, List.length_cons, List.length_cons, List.length_nil]; omega)).1 (headB_mem (by omega)) (by rw [show (⟨#[112, 114, 111, 103, 114, 97, 109]⟩ : ByteArray).size = 7 from rfl, List.length_append, List.length_cons, List.length_cons, List.length_nil]; omega) (varKeep hs.mem.base hP)) ?_); clear hs a; intro a w hs
      refine ⟨((hs.mem.to 4 rfl).first 1), ?_⟩
      refine b_eff 10 (by kernel_rfl) rfl #[true, true, true, true, true, true, true, true, true, true, true] rfl hs rfl (e_callX Tryd.func29 rfl rfl hs rfl rfl (builder_put gb none (.inl rfl) none 0 (⟨#[]⟩ : ByteArray) (headB regs outs r) (by have := headB_size (r := r) (regs := regs) (outs := outs) (by omega); rw [show (⟨#[]⟩ : ByteArray).size = 0 from rfl]; omega) _ v0 _ ((hs.mem.to 3 rfl).to 3 rfl)) (fun e w1 ⟨A1, c1, he, hm⟩ => ⟨_, he, _, hm, ?_⟩)); clear hs a; intro a hs
      refine ⟨((hs.mem.to 4 rfl).first 1), ?_⟩
      refine b_done (by kernel_rfl) (then_normal ?_)
      refine wp_seq ?_
      refine wp_seq ?_
      refine wp_region_lit ?_
      refine a_val hs rfl rfl rfl (y_faddr (k' := 0) 0 hs (by kernel_rfl) rfl rfl) ?_; clear hs a; intro a hs
      refine a_val hs rfl rfl rfl (y_load hs Tryd.underlying22 rfl rfl (fun w hw => (hw.to 4 rfl).cellV rfl)) ?_; clear hs a; intro a hs
      refine a_val hs rfl rfl rfl (y_lenL hs Tryd.underlying22 rfl) ?_; clear hs a; intro a hs
      refine a_val hs rfl rfl rfl (y_move hs rfl) ?_; clear hs a; intro a hs
      refine wpList_nil (then_normal ?_)
      refine wp_block ?_
      refine wp_loopN (fun m a w1 => ∃ (i : Nat) (A2 : Option Addr) (c2 : Nat), (i + m = l.length) ∧ St 37 v0 [(4, .pointer (some ⟨gb, 0, none⟩)), (22, .slice A l.length c), (23, .int .i64 (l.length : Int)), (24, .int .i64 ((i : Nat) : Int))] [pt gb #[.pointer (some ⟨gb, 0, none⟩), .slice A2 ((l.take i).foldl (fun b s => b ++ slineB s) (headB regs outs r)).size c2] 63, row 5 1 (.slice A2 ((l.take i).foldl (fun b s => b ++ slineB s) (headB regs outs r)).size c2) ((l.take i).foldl (fun b s => b ++ slineB s) (headB regs outs r)).size (Lib.strCells ((l.take i).foldl (fun b s => b ++ slineB s) (headB regs outs r)))] a w1) (l.length) ⟨0, A1, c1, by omega, ?_⟩ (fun m a w1 hJ => ?_)
      · have e0 : (⟨#[]⟩ : ByteArray) ++ headB regs outs r = (l.take 0).foldl (fun b s => b ++ slineB s) (headB regs outs r) := ByteArray.empty_append
        rw [e0] at hs
        exact (hs.mem_to (((((hs.mem.to 2 rfl).drop.to 2 rfl).drop.to 2 rfl).drop.to 1 rfl).to 1 rfl)).cut _ ⟨rfl, rfl, rfl, rfl, trivial⟩
      · clear hs
        obtain ⟨i, A2, c2, hi, hs⟩ := hJ
        refine wp_seq ?_
        refine wp_region_lit ?_
        refine a_val hs rfl rfl rfl (y_cmp hs rfl rfl rfl) ?_; clear hs a; intro a hs
        refine wpList_nil (then_normal ?_)
        refine wp_seq ?_
        refine wp_cond_split (hs.ev rfl) (fun h25 => ?_) (fun h25 => ?_)
        · replace h25 := of_decide_eq_true h25
          obtain ⟨s, hsi⟩ : ∃ s, l[i]? = some s := ⟨_, List.getElem?_eq_getElem (by omega)⟩
          obtain ⟨g0, o, rfl, hcell⟩ := C_at encS_K encS_len (by decide) hA (by omega)
          have hs0 := hg s (List.mem_of_getElem? hsi)
          have hst := hall s (List.mem_of_getElem? hsi)
          have hst1 := okStep_yes hst
          have hts := text_size (r := r) (regs := regs) (outs := outs) (by omega) (fun s hs => ⟨hall s hs, (hg s hs).2⟩) i (by omega)
          have hls := slineB_size hst (by omega)
          refine wp_skip (then_normal ?_)
          refine wp_seq ?_
          refine wp_block ?_
          refine wp_seq ?_
          refine wp_region_lit ?_
          refine a_val hs rfl rfl rfl (y_idxB (size := 4) (off := o + i * 4) hs Tryd.underlying22 (by kernel_rfl) rfl rfl (by omega) (by omega) (by simp)) ?_; clear hs a; intro a hs
          refine a_val hs rfl rfl rfl (y_loadAgg (vs := encS s) hs Tryd.underlying47 rfl (by kernel_rfl) rfl (fun w hw k v hk => hcell w hw.base i s hsi k v hk)) ?_; clear hs a; intro a hs
          refine a_eff rfl (e_alloc (z := .agg #[.int .u8 0, .int .i64 0, .int .i64 0, .int .u8 0]) (cs := #[.int .u8 0, .int .i64 0, .int .i64 0, .int .u8 0]) hs rfl (by kernel_rfl) rfl ?_); clear hs a; intro gs a w hs
          refine a_eff rfl (e_store (cl := [_, _, _, _]) 0 rfl hs rfl rfl (by kernel_rfl) rfl rfl rfl ?_); clear hs a; intro a w hs
          refine wpList_nil (then_normal ?_)
          refine b_enter [0] (by kernel_rfl) hs #[false, false, false, false, false, false, false] (by rfl) 7 (by rfl) ?_; clear hs; intro w hs
          refine b_take 0 rfl #[true, false, false, false, false, false, false] rfl (by kernel_rfl) hs ((hs.mem.first 1)) rfl rfl rfl (fun _ _ _ h => h) (y_faddr (k' := 0) 0 hs (by kernel_rfl) rfl rfl) ?_; clear hs a; intro a hs
          refine b_take 1 rfl #[true, true, false, false, false, false, false] rfl (by kernel_rfl) hs ((hs.mem.first 1)) rfl rfl rfl (fun _ _ _ h => h) (y_load hs Tryd.underlying45 rfl rfl (fun w hw => (hw.to 0 rfl).cellV rfl)) ?_; clear hs a; intro a hs
          refine b_take 3 rfl #[true, true, false, true, false, false, false] rfl (by kernel_rfl) hs ((hs.mem.first 1)) rfl rfl rfl (fun _ _ _ h => h) (y_loadPt 0 rfl hs Tryd.underlying47 rfl (by kernel_rfl) rfl) ?_; clear hs a; intro a hs
          refine b_eff 2 (by kernel_rfl) rfl #[true, true, true, true, false, false, false] rfl hs rfl (e_callB Tryd.func32 rfl rfl hs rfl rfl (emit_word s.f0 (by omega) _) ?_); clear hs a; intro a w hs
          refine ⟨(hs.mem.first 1), ?_⟩
          refine b_eff 4 (by kernel_rfl) rfl #[true, true, true, true, true, false, false] rfl hs rfl (e_callX Tryd.func28 rfl rfl hs rfl rfl (emit_all s (by omega) (by omega) _) (fun e w1 ⟨ga, he, hm⟩ => ⟨_, he, _, hs.mem.more hm, ?_⟩)); clear hs a; intro a hs
          refine ⟨((hs.mem.to 1 rfl).first 1), ?_⟩
          refine b_eff 5 (by kernel_rfl) rfl #[true, true, true, true, true, true, false] rfl hs rfl (e_callB Tryd.func30 rfl rfl hs rfl rfl (line_of_all hst (by omega) (hs.mem.to 0 rfl) (varKeep hs.mem.base hP)) ?_); clear hs a; intro a w hs
          refine ⟨((hs.mem.to 1 rfl).first 1), ?_⟩
          refine b_eff 6 (by kernel_rfl) rfl #[true, true, true, true, true, true, true] rfl hs rfl (e_callX Tryd.func29 rfl rfl hs rfl rfl (builder_put gb (some ⟨gb, 0, none⟩) (.inr rfl) A2 c2 ((l.take i).foldl (fun b s => b ++ slineB s) (headB regs outs r)) (slineB s) (by omega) _ v0 _ ((hs.mem.to 3 rfl).to 3 rfl)) (fun e w1 ⟨A3, c3, he, hm⟩ => ⟨_, he, _, hm, ?_⟩)); clear hs a; intro a hs
          refine ⟨((hs.mem.to 3 rfl).first 1), ?_⟩
          refine b_done (by kernel_rfl) (in_normal (then_normal ?_))
          refine wp_region_lit ?_
          refine a_val hs rfl rfl rfl (y_add hs rfl rfl (by omega)) ?_; clear hs a; intro a hs
          refine a_val hs rfl rfl rfl (y_move hs rfl) ?_; clear hs a; intro a hs
          refine wpList_nil (then_normal ?_)
          rw [text_snoc hsi] at hs
          refine ⟨m - 1, by omega, i + 1, A3, c3, by omega, ?_⟩
          exact (hs.mem_to ((((hs.mem.to 2 rfl).drop.to 2 rfl).drop.to 1 rfl).to 1 rfl)).cut _ ⟨rfl, rfl, rfl, rfl, trivial⟩
        · replace h25 := of_decide_eq_false h25
          refine wp_exit (then_exit (then_exit (in_here (then_normal ?_))))
          refine wp_seq ?_
          refine wp_region_lit ?_
          have e2 : (l.take i).foldl (fun b s => b ++ slineB s) (headB regs outs r) = textB l regs outs r := by rw [List.take_of_length_le (by omega)]; rfl
          rw [e2] at hs
          refine a_eff rfl (e_callX Tryd.func33 rfl rfl hs rfl rfl (builder_String gb _ (.inr rfl) A2 _ c2 (textB l regs outs r) rfl _ v0 _ ((hs.mem.to 1 rfl).to 1 rfl)) (fun e w1 ⟨he, hb⟩ => ⟨_, he, [], hs.mem.bare.onBelow hb, ?_⟩)); clear hs a; intro a hs
          refine a_val hs rfl rfl rfl (y_assign hs rfl) ?_; clear hs a; intro a hs
          refine a_val hs rfl rfl rfl (y_assign hs rfl) ?_; clear hs a; intro a hs
          refine wpList_nil (then_normal ?_)
          refine wp_ret ?_
          refine fin_ret hs (.tmp (hs.slots _ _ rfl) (.tmp (hs.slots _ _ rfl) .nil)) (And.intro ?_ hs.mem.base)
          unfold textA; rw [hok']; rfl
end Go.Proofs.YtpdemfnemkmelaaDoor.E
