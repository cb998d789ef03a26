/- recouplaw12.NumberTurned answers true. Conditions: the arguments are of a size that memory holds. -/
import Derived.Test.YtnojokempdcikaaEng3
import Derived.Test.YtnojokempdcikaaEng4
import Derived.Test.YtnojokempdcikaaPureTurned
import Derived.Test.YtnojokempdcikaaNumProg
namespace Go.Proofs.Ytnojokempdcikaa.E
open Go Go.RowKit Go.Proofs.YtnojokempdcikaaW.PrintWords Go.Proofs.YtnojokempdcikaaW.PrintLast Go.Proofs.YtnojokempdcikaaW.PrintMore Go.Proofs.Ytnojokempdcikaa.PA Go.Proofs.Ytnojokempdcikaa.Pure
def encC (c : S54) : List Value := [.string c.f0, .int .i64 c.f1]
theorem drawn_below {w w1 : World} (h : Drawn0 w w1) : Below w.heap.size w w1 := by
  obtain ⟨n, rfl⟩ := h
  exact pw_below_drewN (Below.refl _ _) n
theorem C_const {A : Option Addr} {n : Nat} {l : List S54} {w : World} (h : Kd.C k54 w A n l) (h0 : 0 < n) :
    ∃ g o, A = some ⟨g, o, none⟩ ∧ ∀ (w' : World), Below w.heap.size w w' → ∀ i t, l[i]? = some t → ∀ j v, (encC t)[j]? = some v → w'.cell? ⟨g, o + i * 2 + j, none⟩ = some v := by
  obtain ⟨hl, _, hc⟩ := h
  obtain ⟨ad, hA, hr⟩ := hc h0
  obtain ⟨g, o, sp⟩ := ad
  have hlt : 0 < l.length := by omega
  have hopen : ∀ {w : World} {x : S54} {cs : List Value}, k54.K w x cs → cs = encC x := by
    rintro w x cs ⟨a, b, rfl, ha, hb⟩
    have ha' : a = [.string x.f0] := ha
    have hb' : b = [.int .i64 x.f1] := hb
    rw [ha', hb']; rfl
  obtain ⟨c0, hlen0, hK0, hc0⟩ := hr 0 (l[0]'hlt) (List.getElem?_eq_getElem hlt)
  obtain rfl := hopen hK0
  have hz := hc0 0 _ rfl
  have hsp : sp = none := by simpa [Addr.add] using World.cell?_spot hz
  subst hsp
  refine ⟨g, o, hA, fun w' hb i t ht j v hv => ?_⟩
  obtain ⟨c, hlen, hK, hcc⟩ := hr i t ht
  obtain rfl := hopen hK
  have hcell := hcc j v hv
  have hadd : (⟨g, o, none⟩ : Addr).add (i * 2 + j) = ⟨g, o + i * 2 + j, none⟩ := by
    unfold Addr.add; split <;> simp_all <;> omega
  have hcell' : w.cell? ((⟨g, o, none⟩ : Addr).add (i * 2 + j)) = some v := hcell
  rw [hadd] at hcell'
  rw [World.cell?_of_block (w := w) (hb.block g (World.block_lt_of_cell? w _ hcell'))]
  exact hcell'
theorem rev_take {l : List S54} {j : Nat} {t : S54} (hlt : j < l.length) (ht : l[l.length - 1 - j]? = some t) : (l.reverse.take (j + 1)).flatMap encC = (l.reverse.take j).flatMap encC ++ encC t := by
  have h1 : l.reverse[j]? = some t := by rw [List.getElem?_reverse hlt]; exact ht
  have h2 : j < l.reverse.length := by simpa using hlt
  rw [List.getElem?_eq_getElem h2] at h1
  rw [List.take_succ_eq_append_getElem h2, Option.some.inj h1, List.flatMap_append]
  simp
theorem C_turned {A : Option Addr} {c : Nat} {l : List S54} {w0 w : World} {bs : List Res} (z : S54) (h : H w0 (row 54 2 (.slice A (l.length + 1) c) (l.length + 1) (l.reverse.flatMap encC ++ encC z) :: bs) w) (hl : l.length ≤ 5864062014634) :
    Kd.C k54 w A (l.reverse ++ [z]).length (l.reverse ++ [z]) ∧ (l.reverse ++ [z]).length ≤ c := by
  have e : (l.reverse ++ [z]).length = l.length + 1 := by simp
  have e2 : (l.reverse ++ [z]).flatMap encC = l.reverse.flatMap encC ++ encC z := by simp
  rw [← e2, ← e] at h
  exact C_row k54 encC (fun w x => k54_mk w x) (fun _ => rfl) h rfl rfl (by rw [e]; omega)
theorem eval_two (a0 a1 : Int) (a2 : ByteArray) (A3 : Option Addr) (c3 : Nat) (l3 : List S25) (a4 a5 : Int) (A : Option Addr) (c : Nat) (l : List S54) (q1 q2 q3 q4 : Int) (w0 w : World) {bs : List Res} (hx3 : Kd.C k25 w A3 l3.length l3) (hc3 : l3.length ≤ c3)
    (h : H w0 (row 54 2 (.slice A (l.length + 1) c) (l.length + 1) (l.reverse.flatMap encC ++ [.string Go.Proofs.Ytnojokempdcikaa.PureT.zz, .int .i64 3]) :: bs) w) (hl : l.length ≤ 5864062014634) (he : number_Eval.f a0 a1 a2 l3 a4 a5 (Go.Proofs.Ytnojokempdcikaa.PureT.E2 l) = some (q1, q2, q3, q4)) :
    Calls Try.prog 8 #[.agg #[.int .u8 a0, .int .i64 a1, .string a2, .slice A3 l3.length c3, .int .i64 a4, .int .i64 a5], .slice A (l.length + 1) c] w fun e w' => e = .returned (.tuple #[.int .i64 q1, .agg #[.int .i64 q2, .int .i64 q3, .int .i64 q4]]) ∧ Below w.heap.size w w' := by
  obtain ⟨h1, h2⟩ := C_turned ⟨Go.Proofs.Ytnojokempdcikaa.PureT.zz, 3⟩ h hl
  have e : (l.reverse ++ [(⟨Go.Proofs.Ytnojokempdcikaa.PureT.zz, 3⟩ : S54)]).length = l.length + 1 := by simp
  have h3 := number_Eval.calls a0 a1 a2 A3 c3 l3 a4 a5 A c (l.reverse ++ [⟨Go.Proofs.Ytnojokempdcikaa.PureT.zz, 3⟩]) q1 q2 q3 q4 w hx3 hc3 h1 h2 he
  rw [e] at h3
  exact h3
theorem mayenv_three (k : Nat) (A : Option Addr) (c : Nat) (l : List S54) (b : Bool) (w0 w : World) {bs : List Res} (h : H w0 (row 54 2 (.slice A (l.length + 1) c) (l.length + 1) (l.reverse.flatMap encC ++ [.string Go.Proofs.Ytnojokempdcikaa.PureT.zz, .int .i64 0]) :: bs) w) (hl : l.length ≤ 5864062014634) (hb : recoupref12_MayEnv.f k (Go.Proofs.Ytnojokempdcikaa.PureT.E3 l) = some b) :
    Calls Try.prog 20 #[.slice A (l.length + 1) c] w fun e w' => e = .returned (.bool b) ∧ Below w.heap.size w w' := by
  obtain ⟨h1, h2⟩ := C_turned ⟨Go.Proofs.Ytnojokempdcikaa.PureT.zz, 0⟩ h hl
  have e : (l.reverse ++ [(⟨Go.Proofs.Ytnojokempdcikaa.PureT.zz, 0⟩ : S54)]).length = l.length + 1 := by simp
  have h3 := recoupref12_MayEnv.calls k A c (l.reverse ++ [⟨Go.Proofs.Ytnojokempdcikaa.PureT.zz, 0⟩]) b w h1 h2 hb
  rw [e] at h3
  exact h3
theorem strs_addr {w0 w : World} {bs : List Res} {A : Option Addr} {c : Nat} {l : List ByteArray} (h : H w0 (strs (.slice A l.length c) l :: bs) w) (h0 : 0 < l.length) : ∃ g o, A = some ⟨g, o, none⟩ := by
  obtain ⟨A', c', hv, _, _, hc⟩ := (h.own _ (.head _)).1
  injection hv with e1 e2 e3
  subst e1
  obtain ⟨ad, hA, hr⟩ := hc h0
  obtain ⟨g, o, sp⟩ := ad
  obtain ⟨cl, hlen, hK, hcc⟩ := hr 0 (l[0]'h0) (List.getElem?_eq_getElem h0)
  obtain rfl : cl = [.string l[0]] := hK
  have hz := hcc 0 _ rfl
  have hsp : sp = none := by simpa [Addr.add] using World.cell?_spot hz
  subst hsp
  exact ⟨g, o, hA⟩
theorem strs_cell {w0 w : World} {bs : List Res} {g o c i : Nat} {l : List ByteArray} {s : ByteArray} (h : H w0 (strs (.slice (some ⟨g, o, none⟩) l.length c) l :: bs) w) (hi : l[i]? = some s) : w.cell? ⟨g, o + i, none⟩ = some (.string s) := by
  obtain ⟨A', c', hv, _, _, hc⟩ := (h.own _ (.head _)).1
  injection hv with e1 e2 e3
  subst e1
  have h0 : 0 < l.length := by have := (List.getElem?_eq_some_iff.1 hi).1; omega
  obtain ⟨ad, hA, hr⟩ := hc h0
  injection hA with hA
  subst hA
  obtain ⟨cl, hlen, hK, hcc⟩ := hr i s hi
  obtain rfl : cl = [.string s] := hK
  have hz : w.cell? ((⟨g, o, none⟩ : Addr).add (i * 1 + 0)) = some (.string s) := hcc 0 _ rfl
  have hadd : (⟨g, o, none⟩ : Addr).add (i * 1 + 0) = ⟨g, o + i, none⟩ := by
    rw [Nat.mul_one, Nat.add_zero]
    by_cases hz : i = 0
    · subst hz; simp [Addr.add]
    · simp [Addr.add, hz]
  rw [hadd] at hz
  exact hz
theorem seq_ne {s : ByteArray} (h : s ≠ Go.Proofs.Ytnojokempdcikaa.PureT.zz) : (s.toList == (⟨#[122, 122, 122, 122, 122, 122, 122, 122, 122, 122, 122, 122, 122, 122]⟩ : ByteArray).toList) = false := by
  refine beq_eq_false_iff_ne.2 (fun e => h ?_)
  rw [ByteArray.toList_eq, ByteArray.toList_eq] at e
  cases s
  exact congrArg ByteArray.mk (Array.toList_inj.1 e)
set_option maxRecDepth 100000 in
theorem law_NumberTurned (x : S25) (A3 : Option Addr) (c3 : Nat) (A1 : Option Addr) (c1 : Nat) (l : List S54) (v0 : World) (hx : G25 x) (hx3 : Kd.C k25 v0 A3 x.f3.length x.f3) (hc3 : x.f3.length ≤ c3) (hA : Kd.C k54 v0 A1 l.length l) (hcap : l.length ≤ c1) (hl : l.length ≤ 5864062014634) (hg : ∀ c ∈ l, c.f0.size ≤ 9223372036854775807) :
    Calls Try.prog 7 #[.agg #[.int .u8 x.f0, .int .i64 x.f1, .string x.f2, .slice A3 x.f3.length c3, .int .i64 x.f4, .int .i64 x.f5], .slice A1 l.length c1] v0 fun e w' => e = .returned (.bool true) ∧ Below v0.heap.size v0 w' := by
  refine calls_enter (N := 101) (n := 99) (args := [.agg #[.int .u8 x.f0, .int .i64 x.f1, .string x.f2, .slice A3 x.f3.length c3, .int .i64 x.f4, .int .i64 x.f5], .slice A1 l.length c1]) Try.func7 rfl rfl rfl (H.init v0) (fun a hs => ?_)
  obtain ⟨k, b, ⟨r1, r2, r3, r4⟩, hb, hm, he, hbad, hgood⟩ := Go.Proofs.Ytnojokempdcikaa.PureT.turned_facts x hx l (by omega) hg
  repeat with_reducible refine wp_seq ?_
  refine wp_region_lit ?_
  refine a_eff rfl (e_box (cs := #[_, _, _, _, _, _]) hs rfl rfl rfl ?_); clear hs a; intro gx a w hs
  refine a_val hs rfl rfl rfl (y_assign hs rfl) ?_; clear hs a; intro a hs
  refine wpList_nil ?_
  repeat first | with_reducible refine in_normal ?_ | with_reducible refine then_normal ?_ | with_reducible refine then_ret ?_ | with_reducible refine in_ret ?_ | with_reducible refine then_exit ?_ | with_reducible refine in_here ?_ | with_reducible refine in_other rfl ?_
  repeat with_reducible refine wp_seq ?_
  refine wp_region_lit ?_
  refine a_val hs rfl rfl rfl (y_loadPt 0 rfl hs Try.underlying25 rfl (by kernel_rfl) rfl) ?_; clear hs a; intro a hs
  refine a_val hs rfl rfl rfl (y_move hs rfl) ?_; clear hs a; intro a hs
  refine a_eff rfl (e_callB Try.func8 rfl rfl hs rfl rfl (number_Eval.calls x.f0 x.f1 x.f2 A3 c3 x.f3 x.f4 x.f5 A1 c1 l r1 r2 r3 r4 _ (Kd.C_below hx3 hs.mem.base) hc3 (Kd.C_below hA hs.mem.base) hcap he) ?_); clear hs a; intro a w1 hs
  refine a_val hs rfl rfl rfl (y_move hs rfl) ?_; clear hs a; intro a hs
  refine a_val hs rfl rfl rfl (y_extract hs rfl rfl) ?_; clear hs a; intro a hs
  refine a_val hs rfl rfl rfl (y_extract hs rfl rfl) ?_; clear hs a; intro a hs
  refine a_eff rfl (e_alloc (z := .agg #[.int .i64 0, .int .i64 0, .int .i64 0]) (cs := #[.int .i64 0, .int .i64 0, .int .i64 0]) hs rfl (by kernel_rfl) rfl ?_); clear hs a; intro gf a w hs
  refine a_val hs rfl rfl rfl (y_assign hs rfl) ?_; clear hs a; intro a hs
  refine a_eff rfl (e_store (cl := [_, _, _]) 0 rfl hs rfl rfl (by kernel_rfl) rfl rfl rfl ?_); clear hs a; intro a w hs
  refine wpList_nil ?_
  repeat first | with_reducible refine in_normal ?_ | with_reducible refine then_normal ?_ | with_reducible refine then_ret ?_ | with_reducible refine in_ret ?_ | with_reducible refine then_exit ?_ | with_reducible refine in_here ?_ | with_reducible refine in_other rfl ?_
  cases b with
  | false =>
    have h2 : r2 = 2 := hbad (.inl rfl)
    repeat with_reducible refine wp_seq ?_
    refine wp_region_lit ?_
    refine a_val hs rfl rfl rfl (y_move hs rfl) ?_; clear hs a; intro a hs
    refine a_eff rfl (e_callB Try.func20 rfl rfl hs rfl rfl (recoupref12_MayEnv.calls k A1 c1 l _ _ (Kd.C_below hA hs.mem.base) hcap hb) ?_); clear hs a; intro a w1 hs
    refine a_val hs rfl rfl rfl (y_not hs rfl) ?_; clear hs a; intro a hs
    refine a_val hs rfl rfl rfl (y_move hs rfl) ?_; clear hs a; intro a hs
    refine a_skip hs rfl rfl rfl ?_; clear hs a; intro a hs
    refine a_skip hs rfl rfl rfl ?_; clear hs a; intro a hs
    refine a_skip hs rfl rfl rfl ?_; clear hs a; intro a hs
    refine a_val hs rfl rfl rfl (y_pickT hs rfl rfl rfl) ?_; clear hs a; intro a hs
    refine wpList_nil ?_
    repeat first | with_reducible refine in_normal ?_ | with_reducible refine then_normal ?_ | with_reducible refine then_ret ?_ | with_reducible refine in_ret ?_ | with_reducible refine then_exit ?_ | with_reducible refine in_here ?_ | with_reducible refine in_other rfl ?_
    repeat with_reducible refine wp_seq ?_
    refine wp_cond_true (hs.ev rfl) ?_
    repeat with_reducible refine wp_seq ?_
    refine wp_region_lit ?_
    refine a_eff rfl (e_callB Try.func17 rfl rfl hs rfl rfl (recouplaw12_anchored.calls true _ Go.Proofs.Ytnojokempdcikaa.PureN.anchored_ok) ?_); clear hs a; intro a w1 hs
    refine a_val hs rfl rfl rfl (y_move hs rfl) ?_; clear hs a; intro a hs
    refine a_valG hs rfl rfl rfl (y_faddr (k' := 0) 0 hs (by kernel_rfl) rfl rfl) ?_; clear hs a; intro a hs
    refine a_valG hs rfl rfl rfl (y_load hs Try.underlying27 rfl rfl (fun w hw => (hw.to 0 rfl).cellV rfl)) ?_; clear hs a; intro a hs
    refine a_valG hs rfl rfl rfl (y_cmp (b := true) hs rfl rfl (congrArg some (beq_iff_eq.2 (h2)))) ?_; clear hs a; intro a hs
    refine a_val hs rfl rfl rfl (y_pickT hs rfl rfl rfl) ?_; clear hs a; intro a hs
    refine a_val hs rfl rfl rfl (y_assign hs rfl) ?_; clear hs a; intro a hs
    refine wpList_nil ?_
    repeat first | with_reducible refine in_normal ?_ | with_reducible refine then_normal ?_ | with_reducible refine then_ret ?_ | with_reducible refine in_ret ?_ | with_reducible refine then_exit ?_ | with_reducible refine in_here ?_ | with_reducible refine in_other rfl ?_
    repeat with_reducible refine wp_seq ?_
    refine wp_ret ?_
    repeat first | with_reducible refine in_normal ?_ | with_reducible refine then_normal ?_ | with_reducible refine then_ret ?_ | with_reducible refine in_ret ?_ | with_reducible refine then_exit ?_ | with_reducible refine in_here ?_ | with_reducible refine in_other rfl ?_
    refine fin_ret (vs := [.bool true]) hs (.tmp (hs.slots _ _ rfl) .nil) ⟨rfl, hs.mem.base⟩
  | true =>
    cases hM : mayE x with
    | false =>
      have h2 : r2 = 2 := hbad (.inr hM)
      rw [hM] at hm
      repeat with_reducible refine wp_seq ?_
      refine wp_region_lit ?_
      refine a_val hs rfl rfl rfl (y_move hs rfl) ?_; clear hs a; intro a hs
      refine a_eff rfl (e_callB Try.func20 rfl rfl hs rfl rfl (recoupref12_MayEnv.calls k A1 c1 l _ _ (Kd.C_below hA hs.mem.base) hcap hb) ?_); clear hs a; intro a w1 hs
      refine a_val hs rfl rfl rfl (y_not hs rfl) ?_; clear hs a; intro a hs
      refine a_val hs rfl rfl rfl (y_move hs rfl) ?_; clear hs a; intro a hs
      refine a_valG hs rfl rfl rfl (y_loadPt 1 rfl hs Try.underlying25 rfl (by kernel_rfl) rfl) ?_; clear hs a; intro a hs
      refine a_effG hs rfl (e_callB Try.func21 rfl rfl hs rfl rfl (recoupref10_MayExpr.calls k x.f0 x.f1 x.f2 A3 c3 x.f3 x.f4 x.f5 _ _ (Kd.C_below hx3 hs.mem.base) hc3 hm) ?_); clear hs a; intro a w1 hs
      refine a_valG hs rfl rfl rfl (y_not hs rfl) ?_; clear hs a; intro a hs
      refine a_val hs rfl rfl rfl (y_pickF hs rfl rfl rfl) ?_; clear hs a; intro a hs
      refine wpList_nil ?_
      repeat first | with_reducible refine in_normal ?_ | with_reducible refine then_normal ?_ | with_reducible refine then_ret ?_ | with_reducible refine in_ret ?_ | with_reducible refine then_exit ?_ | with_reducible refine in_here ?_ | with_reducible refine in_other rfl ?_
      repeat with_reducible refine wp_seq ?_
      refine wp_cond_true (hs.ev rfl) ?_
      repeat with_reducible refine wp_seq ?_
      refine wp_region_lit ?_
      refine a_eff rfl (e_callB Try.func17 rfl rfl hs rfl rfl (recouplaw12_anchored.calls true _ Go.Proofs.Ytnojokempdcikaa.PureN.anchored_ok) ?_); clear hs a; intro a w1 hs
      refine a_val hs rfl rfl rfl (y_move hs rfl) ?_; clear hs a; intro a hs
      refine a_valG hs rfl rfl rfl (y_faddr (k' := 0) 0 hs (by kernel_rfl) rfl rfl) ?_; clear hs a; intro a hs
      refine a_valG hs rfl rfl rfl (y_load hs Try.underlying27 rfl rfl (fun w hw => (hw.to 0 rfl).cellV rfl)) ?_; clear hs a; intro a hs
      refine a_valG hs rfl rfl rfl (y_cmp (b := true) hs rfl rfl (congrArg some (beq_iff_eq.2 (h2)))) ?_; clear hs a; intro a hs
      refine a_val hs rfl rfl rfl (y_pickT hs rfl rfl rfl) ?_; clear hs a; intro a hs
      refine a_val hs rfl rfl rfl (y_assign hs rfl) ?_; clear hs a; intro a hs
      refine wpList_nil ?_
      repeat first | with_reducible refine in_normal ?_ | with_reducible refine then_normal ?_ | with_reducible refine then_ret ?_ | with_reducible refine in_ret ?_ | with_reducible refine then_exit ?_ | with_reducible refine in_here ?_ | with_reducible refine in_other rfl ?_
      repeat with_reducible refine wp_seq ?_
      refine wp_ret ?_
      repeat first | with_reducible refine in_normal ?_ | with_reducible refine then_normal ?_ | with_reducible refine then_ret ?_ | with_reducible refine in_ret ?_ | with_reducible refine then_exit ?_ | with_reducible refine in_here ?_ | with_reducible refine in_other rfl ?_
      refine fin_ret (vs := [.bool true]) hs (.tmp (hs.slots _ _ rfl) .nil) ⟨rfl, hs.mem.base⟩
    | true =>
      obtain ⟨b3, ⟨q1, q2, q3, q4⟩, nl, hb3, he2, hbad3, hnm, hnl, hok⟩ := hgood rfl hM
      rw [hM] at hm
      repeat with_reducible refine wp_seq ?_
      refine wp_region_lit ?_
      refine a_val hs rfl rfl rfl (y_move hs rfl) ?_; clear hs a; intro a hs
      refine a_eff rfl (e_callB Try.func20 rfl rfl hs rfl rfl (recoupref12_MayEnv.calls k A1 c1 l _ _ (Kd.C_below hA hs.mem.base) hcap hb) ?_); clear hs a; intro a w1 hs
      refine a_val hs rfl rfl rfl (y_not hs rfl) ?_; clear hs a; intro a hs
      refine a_val hs rfl rfl rfl (y_move hs rfl) ?_; clear hs a; intro a hs
      refine a_valG hs rfl rfl rfl (y_loadPt 1 rfl hs Try.underlying25 rfl (by kernel_rfl) rfl) ?_; clear hs a; intro a hs
      refine a_effG hs rfl (e_callB Try.func21 rfl rfl hs rfl rfl (recoupref10_MayExpr.calls k x.f0 x.f1 x.f2 A3 c3 x.f3 x.f4 x.f5 _ _ (Kd.C_below hx3 hs.mem.base) hc3 hm) ?_); clear hs a; intro a w1 hs
      refine a_valG hs rfl rfl rfl (y_not hs rfl) ?_; clear hs a; intro a hs
      refine a_val hs rfl rfl rfl (y_pickF hs rfl rfl rfl) ?_; clear hs a; intro a hs
      refine wpList_nil ?_
      repeat first | with_reducible refine in_normal ?_ | with_reducible refine then_normal ?_ | with_reducible refine then_ret ?_ | with_reducible refine in_ret ?_ | with_reducible refine then_exit ?_ | with_reducible refine in_here ?_ | with_reducible refine in_other rfl ?_
      repeat with_reducible refine wp_seq ?_
      refine wp_cond_false (hs.ev rfl) ?_
      repeat with_reducible refine wp_seq ?_
      refine wp_skip ?_
      repeat first | with_reducible refine in_normal ?_ | with_reducible refine then_normal ?_ | with_reducible refine then_ret ?_ | with_reducible refine in_ret ?_ | with_reducible refine then_exit ?_ | with_reducible refine in_here ?_ | with_reducible refine in_other rfl ?_
      repeat with_reducible refine wp_seq ?_
      refine wp_region_lit ?_
      refine a_val hs rfl rfl rfl (y_assign hs rfl) ?_; clear hs a; intro a hs
      refine wpList_nil ?_
      repeat first | with_reducible refine in_normal ?_ | with_reducible refine then_normal ?_ | with_reducible refine then_ret ?_ | with_reducible refine in_ret ?_ | with_reducible refine then_exit ?_ | with_reducible refine in_here ?_ | with_reducible refine in_other rfl ?_
      repeat with_reducible refine wp_seq ?_
      refine wp_region_lit ?_
      refine a_val hs rfl rfl rfl (y_move hs rfl) ?_; clear hs a; intro a hs
      refine a_val hs rfl rfl rfl (y_lenL hs Try.underlying26 rfl) ?_; clear hs a; intro a hs
      refine a_val hs rfl rfl rfl (y_sub hs rfl rfl (by omega)) ?_; clear hs a; intro a hs
      refine a_val hs rfl rfl rfl (y_assign hs rfl) ?_; clear hs a; intro a hs
      refine wpList_nil ?_
      repeat first | with_reducible refine in_normal ?_ | with_reducible refine then_normal ?_ | with_reducible refine then_ret ?_ | with_reducible refine in_ret ?_ | with_reducible refine then_exit ?_ | with_reducible refine in_here ?_ | with_reducible refine in_other rfl ?_
      repeat with_reducible refine wp_seq ?_
      refine wp_block ?_
      have hm0 : H v0 [row 54 2 (.slice none 0 0) 0 ((l.reverse.take 0).flatMap encC), pt gx #[.int .u8 x.f0, .int .i64 x.f1, .string x.f2, .slice A3 x.f3.length c3, .int .i64 x.f4, .int .i64 x.f5] 25, pt gf #[.int .i64 r2, .int .i64 r3, .int .i64 r4] 29] _ := (hs.mem.to 1 rfl).nilRow 54 2
      refine wp_loopN (fun m a w1 => ∃ (j : Nat) (A : Option Addr) (c : Nat), j + m = l.length ∧ St 101 v0 [(1, .slice A1 l.length c1), (2, .pointer (some ⟨gx, 0, none⟩)), (5, .int .i64 r1), (6, .pointer (some ⟨gf, 0, none⟩)), (7, .slice A j c), (8, .int .i64 ((l.length : Int) - 1 - (j : Int)))] [row 54 2 (.slice A j c) j ((l.reverse.take j).flatMap encC), pt gx #[.int .u8 x.f0, .int .i64 x.f1, .string x.f2, .slice A3 x.f3.length c3, .int .i64 x.f4, .int .i64 x.f5] 25, pt gf #[.int .i64 r2, .int .i64 r3, .int .i64 r4] 29] a w1) l.length ⟨0, none, 0, by omega, ?_⟩ (fun m a w1 hJ => ?_)
      · have hsub : ((l.length : Int) - 1) = (l.length : Int) - 1 - ((0 : Nat) : Int) := by omega
        rw [hsub] at hs
        exact (hs.mem_to hm0).cut _ ⟨rfl, rfl, rfl, rfl, rfl, rfl, trivial⟩
      · clear hs hm0
        obtain ⟨j, A, c, hj, hs⟩ := hJ
        by_cases hlt : j < l.length
        · repeat with_reducible refine wp_seq ?_
          refine wp_region_lit ?_
          refine a_val hs rfl rfl rfl (y_move hs rfl) ?_; clear hs a; intro a hs
          refine a_val hs rfl rfl rfl (y_cmp (b := true) hs rfl rfl (congrArg some (decide_eq_true (by omega)))) ?_; clear hs a; intro a hs
          refine wpList_nil ?_
          repeat first | with_reducible refine in_normal ?_ | with_reducible refine then_normal ?_ | with_reducible refine then_ret ?_ | with_reducible refine in_ret ?_ | with_reducible refine then_exit ?_ | with_reducible refine in_here ?_ | with_reducible refine in_other rfl ?_
          repeat with_reducible refine wp_seq ?_
          refine wp_cond_true (hs.ev rfl) ?_
          repeat with_reducible refine wp_seq ?_
          refine wp_skip ?_
          repeat first | with_reducible refine in_normal ?_ | with_reducible refine then_normal ?_ | with_reducible refine then_ret ?_ | with_reducible refine in_ret ?_ | with_reducible refine then_exit ?_ | with_reducible refine in_here ?_ | with_reducible refine in_other rfl ?_
          obtain ⟨t, ht⟩ : ∃ t, l[l.length - 1 - j]? = some t := ⟨_, List.getElem?_eq_getElem (by omega)⟩
          obtain ⟨g0, o, rfl, hcell⟩ := C_const hA (by omega)
          repeat with_reducible refine wp_seq ?_
          refine wp_block ?_
          repeat with_reducible refine wp_seq ?_
          refine wp_region_lit ?_
          refine a_val hs rfl rfl rfl (y_move hs rfl) ?_; clear hs a; intro a hs
          refine a_val hs rfl rfl rfl (y_move hs rfl) ?_; clear hs a; intro a hs
          refine a_val hs rfl rfl rfl (y_move hs rfl) ?_; clear hs a; intro a hs
          refine a_val hs rfl rfl rfl (y_idxB (size := 2) (off := o + (l.length - 1 - j) * 2) hs Try.underlying26 (by kernel_rfl) rfl rfl (by omega) (by omega) (by congr 1; congr 1; omega)) ?_; clear hs a; intro a hs
          refine a_val hs rfl rfl rfl (y_loadAgg (vs := encC t) hs Try.underlying53 rfl (by kernel_rfl) rfl (fun w hw k v hk => hcell w hw.base _ t ht k v hk)) ?_; clear hs a; intro a hs
          refine a_eff rfl (e_bslice (z := .agg #[.string ⟨#[]⟩, .int .i64 0]) (size := 2) (zc := #[.string ⟨#[]⟩, .int .i64 0]) (cl := [_, _]) hs rfl Try.underlying26 (by kernel_rfl) rfl rfl rfl (by kernel_rfl) (by rfl) rfl ?_); clear hs a; intro gn a w hs
          refine a_eff rfl (e_append (z := .agg #[.string ⟨#[]⟩, .int .i64 0]) (size := 2) (bytes := 24) 1 rfl 0 rfl hs rfl Try.underlying26 (by kernel_rfl) rfl rfl rfl rfl (news := encC t) rfl rfl rfl (by unfold maxLen; omega) (by omega) ?_); clear hs a; intro A5 c5 a w1 hs
          refine a_val hs rfl rfl rfl (y_assign hs rfl) ?_; clear hs a; intro a hs
          refine wpList_nil ?_
          repeat first | with_reducible refine in_normal ?_ | with_reducible refine then_normal ?_ | with_reducible refine then_ret ?_ | with_reducible refine in_ret ?_ | with_reducible refine then_exit ?_ | with_reducible refine in_here ?_ | with_reducible refine in_other rfl ?_
          repeat with_reducible refine wp_seq ?_
          refine wp_region_lit ?_
          refine a_val hs rfl rfl rfl (y_move hs rfl) ?_; clear hs a; intro a hs
          refine a_val hs rfl rfl rfl (y_sub hs rfl rfl (by omega)) ?_; clear hs a; intro a hs
          refine a_val hs rfl rfl rfl (y_assign hs rfl) ?_; clear hs a; intro a hs
          refine wpList_nil ?_
          repeat first | with_reducible refine in_normal ?_ | with_reducible refine then_normal ?_ | with_reducible refine then_ret ?_ | with_reducible refine in_ret ?_ | with_reducible refine then_exit ?_ | with_reducible refine in_here ?_ | with_reducible refine in_other rfl ?_
          have htk : (l.reverse.take (j + 1)).flatMap encC = (l.reverse.take j).flatMap encC ++ encC t := rev_take hlt ht
          have hsub : (l.length : Int) - 1 - (j : Int) - 1 = (l.length : Int) - 1 - ((j + 1 : Nat) : Int) := by omega
          rw [hsub, ← htk] at hs
          refine ⟨m - 1, by omega, j + 1, A5, c5, by omega, ?_⟩
          exact (hs.mem_to ((((hs.mem.to 1 rfl).drop.to 2 rfl).to 2 rfl).to 2 rfl)).cut _ ⟨rfl, rfl, rfl, rfl, rfl, rfl, trivial⟩
        · repeat with_reducible refine wp_seq ?_
          refine wp_region_lit ?_
          refine a_val hs rfl rfl rfl (y_move hs rfl) ?_; clear hs a; intro a hs
          refine a_val hs rfl rfl rfl (y_cmp (b := false) hs rfl rfl (congrArg some (decide_eq_false (by omega)))) ?_; clear hs a; intro a hs
          refine wpList_nil ?_
          repeat first | with_reducible refine in_normal ?_ | with_reducible refine then_normal ?_ | with_reducible refine then_ret ?_ | with_reducible refine in_ret ?_ | with_reducible refine then_exit ?_ | with_reducible refine in_here ?_ | with_reducible refine in_other rfl ?_
          repeat with_reducible refine wp_seq ?_
          refine wp_cond_false (hs.ev rfl) ?_
          repeat with_reducible refine wp_seq ?_
          refine wp_exit ?_
          repeat first | with_reducible refine in_normal ?_ | with_reducible refine then_normal ?_ | with_reducible refine then_ret ?_ | with_reducible refine in_ret ?_ | with_reducible refine then_exit ?_ | with_reducible refine in_here ?_ | with_reducible refine in_other rfl ?_
          obtain rfl : j = l.length := by omega
          rw [List.take_of_length_le (show l.reverse.length ≤ l.length by simp)] at hs
          repeat with_reducible refine wp_seq ?_
          refine b_enter [1] (by kernel_rfl) hs #[false, false, false, false, false, false, false, false, false, false, false, false] (by rfl) 12 (by rfl) ?_; clear hs; intro w hs
          refine b_take 0 rfl #[true, false, false, false, false, false, false, false, false, false, false, false] rfl (by kernel_rfl) hs (((hs.mem.to 1 rfl).first 1)) rfl rfl rfl (fun _ _ _ h => h) (y_loadPt 0 rfl hs Try.underlying25 rfl (by kernel_rfl) rfl) ?_; clear hs a; intro a hs
          refine b_take 1 rfl #[true, true, false, false, false, false, false, false, false, false, false, false] rfl (by kernel_rfl) hs (((hs.mem.to 1 rfl).first 1)) rfl rfl rfl (fun _ _ _ h => h) (y_move hs rfl) ?_; clear hs a; intro a hs
          refine b_take 2 rfl #[true, true, true, false, false, false, false, false, false, false, false, false] rfl (by kernel_rfl) hs (((hs.mem.to 1 rfl).first 1)) rfl rfl rfl (fun _ _ _ h => h) (y_struct (zc := #[.string ⟨#[]⟩, .int .i64 0]) (pl := [(0, 1), (1, 1)]) (cl := [_, _]) hs (by kernel_rfl) rfl (by rfl) rfl) ?_; clear hs a; intro a hs
          refine b_eff2 3 9 (by kernel_rfl) rfl rfl #[true, true, true, true, false, false, false, false, false, false, false, false] #[true, true, true, false, false, false, false, false, false, true, false, false] rfl rfl hs rfl rfl (e_bslice (z := .agg #[.string ⟨#[]⟩, .int .i64 0]) (size := 2) (zc := #[.string ⟨#[]⟩, .int .i64 0]) (cl := [_, _]) hs rfl Try.underlying26 (by kernel_rfl) rfl rfl rfl (by kernel_rfl) (by rfl) rfl ?_) (e_alloc (z := .agg #[.int .i64 0, .int .i64 0, .int .i64 0]) (cs := #[.int .i64 0, .int .i64 0, .int .i64 0]) hs rfl (by kernel_rfl) rfl ?_)
          · clear hs a; intro gn a w hs
            refine ⟨((hs.mem.to 2 rfl).first 1), ?_⟩
            refine b_eff2 4 9 (by kernel_rfl) rfl rfl #[true, true, true, true, true, false, false, false, false, false, false, false] #[true, true, true, true, false, false, false, false, false, true, false, false] rfl rfl hs rfl rfl (e_append2 (z := .agg #[.string ⟨#[]⟩, .int .i64 0]) (size := 2) (bytes := 24) 1 rfl 0 rfl hs rfl Try.underlying26 (by kernel_rfl) rfl rfl rfl rfl (news := [.string Go.Proofs.Ytnojokempdcikaa.PureT.zz, .int .i64 3]) rfl rfl rfl (by unfold maxLen; omega) (by omega) ?_) (e_alloc (z := .agg #[.int .i64 0, .int .i64 0, .int .i64 0]) (cs := #[.int .i64 0, .int .i64 0, .int .i64 0]) hs rfl (by kernel_rfl) rfl ?_)
            · clear hs a; intro A6 c6 a w1 hs
              refine ⟨((hs.mem.to 2 rfl).first 1), ?_⟩
              refine b_eff2 5 9 (by kernel_rfl) rfl rfl #[true, true, true, true, true, true, false, false, false, false, false, false] #[true, true, true, true, true, false, false, false, false, true, false, false] rfl rfl hs rfl rfl (e_callB Try.func8 rfl rfl hs rfl rfl (eval_two x.f0 x.f1 x.f2 A3 c3 x.f3 x.f4 x.f5 A6 c6 l q1 q2 q3 q4 v0 _ (Kd.C_below hx3 hs.mem.base) hc3 (hs.mem.to 0 rfl).bothL hl he2) ?_) (e_alloc (z := .agg #[.int .i64 0, .int .i64 0, .int .i64 0]) (cs := #[.int .i64 0, .int .i64 0, .int .i64 0]) hs rfl (by kernel_rfl) rfl ?_)
              · clear hs a; intro a w1 hs
                refine ⟨((hs.mem.to 2 rfl).first 1), ?_⟩
                refine b_take 6 rfl #[true, true, true, true, true, true, true, false, false, false, false, false] rfl (by kernel_rfl) hs (((hs.mem.to 2 rfl).first 1)) rfl rfl rfl (fun _ _ _ h => h) (y_move hs rfl) ?_; clear hs a; intro a hs
                refine b_take 7 rfl #[true, true, true, true, true, true, true, true, false, false, false, false] rfl (by kernel_rfl) hs (((hs.mem.to 2 rfl).first 1)) rfl rfl rfl (fun _ _ _ h => h) (y_extract hs rfl rfl) ?_; clear hs a; intro a hs
                refine b_take 8 rfl #[true, true, true, true, true, true, true, true, true, false, false, false] rfl (by kernel_rfl) hs (((hs.mem.to 2 rfl).first 1)) rfl rfl rfl (fun _ _ _ h => h) (y_extract hs rfl rfl) ?_; clear hs a; intro a hs
                refine b_eff 9 (by kernel_rfl) rfl #[true, true, true, true, true, true, true, true, true, true, false, false] rfl hs rfl (e_alloc (z := .agg #[.int .i64 0, .int .i64 0, .int .i64 0]) (cs := #[.int .i64 0, .int .i64 0, .int .i64 0]) hs rfl (by kernel_rfl) rfl ?_); clear hs a; intro gg a w hs
                refine ⟨((hs.mem.to 3 rfl).first 1), ?_⟩
                refine b_take 10 rfl #[true, true, true, true, true, true, true, true, true, true, true, false] rfl (by kernel_rfl) hs (((hs.mem.to 3 rfl).first 1)) rfl rfl rfl (fun _ _ _ h => h) (y_assign hs rfl) ?_; clear hs a; intro a hs
                refine b_eff 11 (by kernel_rfl) rfl #[true, true, true, true, true, true, true, true, true, true, true, true] rfl hs rfl (e_store (cl := [_, _, _]) 0 rfl hs rfl rfl (by kernel_rfl) rfl rfl rfl ?_); clear hs a; intro a w hs
                refine ⟨((hs.mem.to 3 rfl).first 1), ?_⟩
                refine b_done (by kernel_rfl) ?_
                repeat first | with_reducible refine in_normal ?_ | with_reducible refine then_normal ?_ | with_reducible refine then_ret ?_ | with_reducible refine in_ret ?_ | with_reducible refine then_exit ?_ | with_reducible refine in_here ?_ | with_reducible refine in_other rfl ?_
                replace hs := hs.mem_to (hs.mem.to 1 rfl).bothR
                repeat with_reducible refine wp_seq ?_
                refine wp_region_lit ?_
                refine a_val hs rfl rfl rfl (y_move hs rfl) ?_; clear hs a; intro a hs
                refine a_val hs rfl rfl rfl (y_struct (zc := #[.string ⟨#[]⟩, .int .i64 0]) (pl := [(0, 1), (1, 1)]) (cl := [_, .int .i64 0]) hs (by kernel_rfl) rfl (by rfl) rfl) ?_; clear hs a; intro a hs
                refine a_eff rfl (e_bslice (z := .agg #[.string ⟨#[]⟩, .int .i64 0]) (size := 2) (zc := #[.string ⟨#[]⟩, .int .i64 0]) (cl := [_, _]) hs rfl Try.underlying26 (by kernel_rfl) rfl rfl rfl (by kernel_rfl) (by rfl) rfl ?_); clear hs a; intro gn a w hs
                refine a_eff rfl (e_append (z := .agg #[.string ⟨#[]⟩, .int .i64 0]) (size := 2) (bytes := 24) 1 rfl 0 rfl hs rfl Try.underlying26 (by kernel_rfl) rfl rfl rfl rfl (news := [.string Go.Proofs.Ytnojokempdcikaa.PureT.zz, .int .i64 0]) rfl rfl rfl (by unfold maxLen; omega) (by omega) ?_); clear hs a; intro A7 c7 a w1 hs
                refine a_eff rfl (e_callB Try.func20 rfl rfl hs rfl rfl (mayenv_three k A7 c7 l b3 v0 _ (hs.mem.to 0 rfl) hl hb3) ?_); clear hs a; intro a w1 hs
                refine a_val hs rfl rfl rfl (y_not hs rfl) ?_; clear hs a; intro a hs
                refine wpList_nil ?_
                repeat first | with_reducible refine in_normal ?_ | with_reducible refine then_normal ?_ | with_reducible refine then_ret ?_ | with_reducible refine in_ret ?_ | with_reducible refine then_exit ?_ | with_reducible refine in_here ?_ | with_reducible refine in_other rfl ?_
                cases b3 with
                | false =>
                  have h2 : q2 = 2 := hbad3 rfl
                  repeat with_reducible refine wp_seq ?_
                  refine wp_cond_true (hs.ev rfl) ?_
                  repeat with_reducible refine wp_seq ?_
                  refine wp_region_lit ?_
                  refine a_eff rfl (e_callB Try.func17 rfl rfl hs rfl rfl (recouplaw12_anchored.calls true _ Go.Proofs.Ytnojokempdcikaa.PureN.anchored_ok) ?_); clear hs a; intro a w1 hs
                  refine a_val hs rfl rfl rfl (y_move hs rfl) ?_; clear hs a; intro a hs
                  refine a_valG hs rfl rfl rfl (y_faddr (k' := 0) 0 hs (by kernel_rfl) rfl rfl) ?_; clear hs a; intro a hs
                  refine a_valG hs rfl rfl rfl (y_load hs Try.underlying27 rfl rfl (fun w hw => (hw.to 2 rfl).cellV rfl)) ?_; clear hs a; intro a hs
                  refine a_valG hs rfl rfl rfl (y_cmp (b := true) hs rfl rfl (congrArg some (beq_iff_eq.2 (h2)))) ?_; clear hs a; intro a hs
                  refine a_val hs rfl rfl rfl (y_pickT hs rfl rfl rfl) ?_; clear hs a; intro a hs
                  refine a_val hs rfl rfl rfl (y_assign hs rfl) ?_; clear hs a; intro a hs
                  refine wpList_nil ?_
                  repeat first | with_reducible refine in_normal ?_ | with_reducible refine then_normal ?_ | with_reducible refine then_ret ?_ | with_reducible refine in_ret ?_ | with_reducible refine then_exit ?_ | with_reducible refine in_here ?_ | with_reducible refine in_other rfl ?_
                  repeat with_reducible refine wp_seq ?_
                  refine wp_ret ?_
                  repeat first | with_reducible refine in_normal ?_ | with_reducible refine then_normal ?_ | with_reducible refine then_ret ?_ | with_reducible refine in_ret ?_ | with_reducible refine then_exit ?_ | with_reducible refine in_here ?_ | with_reducible refine in_other rfl ?_
                  refine fin_ret (vs := [.bool true]) hs (.tmp (hs.slots _ _ rfl) .nil) ⟨rfl, hs.mem.base⟩
                | true =>
                  repeat with_reducible refine wp_seq ?_
                  refine wp_cond_false (hs.ev rfl) ?_
                  repeat with_reducible refine wp_seq ?_
                  refine wp_skip ?_
                  repeat first | with_reducible refine in_normal ?_ | with_reducible refine then_normal ?_ | with_reducible refine then_ret ?_ | with_reducible refine in_ret ?_ | with_reducible refine then_exit ?_ | with_reducible refine in_here ?_ | with_reducible refine in_other rfl ?_
                  repeat with_reducible refine wp_seq ?_
                  refine wp_region_lit ?_
                  refine a_val hs rfl rfl rfl (y_loadPt 4 rfl hs Try.underlying25 rfl (by kernel_rfl) rfl) ?_; clear hs a; intro a hs
                  refine a_eff rfl (e_callX Try.func11 rfl rfl hs rfl rfl (recoupref12_Names.calls k x.f0 x.f1 x.f2 A3 c3 x.f3 x.f4 x.f5 nl 0 _ (Kd.C_below hx3 hs.mem.base) hc3 hnm) (fun e w1 ⟨v, he, hR, hbl⟩ => ⟨_, he, _, hs.mem.addStrs hbl hR, ?_⟩)); clear hs a; intro a hs
                  refine a_val hs rfl rfl rfl (y_move hs rfl) ?_; clear hs a; intro a hs
                  refine a_val hs rfl rfl rfl (y_extract hs rfl rfl) ?_; clear hs a; intro a hs
                  refine a_val hs rfl rfl rfl (y_extract hs rfl rfl) ?_; clear hs a; intro a hs
                  refine a_val hs rfl rfl rfl (y_assign hs rfl) ?_; clear hs a; intro a hs
                  refine a_val hs rfl rfl rfl (y_assign hs rfl) ?_; clear hs a; intro a hs
                  refine wpList_nil ?_
                  repeat first | with_reducible refine in_normal ?_ | with_reducible refine then_normal ?_ | with_reducible refine then_ret ?_ | with_reducible refine in_ret ?_ | with_reducible refine then_exit ?_ | with_reducible refine in_here ?_ | with_reducible refine in_other rfl ?_
                  obtain ⟨A8, c8, rfl, _⟩ := ((hs.mem.to 0 rfl).own _ (.head _)).1
                  repeat with_reducible refine wp_seq ?_
                  refine wp_region_lit ?_
                  refine a_val hs rfl rfl rfl (y_assign hs rfl) ?_; clear hs a; intro a hs
                  refine wpList_nil ?_
                  repeat first | with_reducible refine in_normal ?_ | with_reducible refine then_normal ?_ | with_reducible refine then_ret ?_ | with_reducible refine in_ret ?_ | with_reducible refine then_exit ?_ | with_reducible refine in_here ?_ | with_reducible refine in_other rfl ?_
                  repeat with_reducible refine wp_seq ?_
                  refine wp_block ?_
                  refine wp_loopN (fun m a w1 => ∃ i : Nat, i + m = nl.length ∧ (∀ j s, j < i → nl[j]? = some s → s ≠ Go.Proofs.Ytnojokempdcikaa.PureT.zz) ∧ St 101 v0 [(5, .int .i64 r1), (6, .pointer (some ⟨gf, 0, none⟩)), (9, .int .i64 q1), (10, .pointer (some ⟨gg, 0, none⟩)), (11, .slice A8 nl.length c8), (13, .int .i64 ((i : Nat) : Int))] [strs (.slice A8 nl.length c8) nl, pt gf #[.int .i64 r2, .int .i64 r3, .int .i64 r4] 29, pt gg #[.int .i64 q2, .int .i64 q3, .int .i64 q4] 29] a w1) nl.length ⟨0, by omega, fun j s hj => absurd hj (by omega), ?_⟩ (fun m a w1 hJ => ?_)
                  · exact (hs.mem_to (((((((hs.mem.to 1 rfl).drop.to 1 rfl).drop.to 2 rfl).drop.to 2 rfl).drop.to 1 rfl).to 2 rfl).to 2 rfl)).cut _ ⟨rfl, rfl, rfl, rfl, rfl, rfl, trivial⟩
                  · clear hs
                    obtain ⟨i, hi, hns, hs⟩ := hJ
                    by_cases hlt : i < nl.length
                    · repeat with_reducible refine wp_seq ?_
                      refine wp_region_lit ?_
                      refine a_val hs rfl rfl rfl (y_move hs rfl) ?_; clear hs a; intro a hs
                      refine a_val hs rfl rfl rfl (y_move hs rfl) ?_; clear hs a; intro a hs
                      refine a_val hs rfl rfl rfl (y_lenL hs Try.underlying34 rfl) ?_; clear hs a; intro a hs
                      refine a_val hs rfl rfl rfl (y_cmp (b := true) hs rfl rfl (congrArg some (decide_eq_true (by omega)))) ?_; clear hs a; intro a hs
                      refine wpList_nil ?_
                      repeat first | with_reducible refine in_normal ?_ | with_reducible refine then_normal ?_ | with_reducible refine then_ret ?_ | with_reducible refine in_ret ?_ | with_reducible refine then_exit ?_ | with_reducible refine in_here ?_ | with_reducible refine in_other rfl ?_
                      repeat with_reducible refine wp_seq ?_
                      refine wp_cond_true (hs.ev rfl) ?_
                      repeat with_reducible refine wp_seq ?_
                      refine wp_skip ?_
                      repeat first | with_reducible refine in_normal ?_ | with_reducible refine then_normal ?_ | with_reducible refine then_ret ?_ | with_reducible refine in_ret ?_ | with_reducible refine then_exit ?_ | with_reducible refine in_here ?_ | with_reducible refine in_other rfl ?_
                      obtain ⟨s, hsi⟩ : ∃ s, nl[i]? = some s := ⟨_, List.getElem?_eq_getElem hlt⟩
                      obtain ⟨g9, o9, rfl⟩ := strs_addr hs.mem (by omega)
                      repeat with_reducible refine wp_seq ?_
                      refine wp_block ?_
                      by_cases hz : s = Go.Proofs.Ytnojokempdcikaa.PureT.zz
                      · repeat with_reducible refine wp_seq ?_
                        refine wp_region_lit ?_
                        refine a_val hs rfl rfl rfl (y_move hs rfl) ?_; clear hs a; intro a hs
                        refine a_val hs rfl rfl rfl (y_move hs rfl) ?_; clear hs a; intro a hs
                        refine a_val hs rfl rfl rfl (y_idxB (size := 1) (off := o9 + i) hs Try.underlying34 (by kernel_rfl) rfl rfl (by omega) (by omega) (by simp)) ?_; clear hs a; intro a hs
                        refine a_val hs rfl rfl rfl (y_load hs Try.underlying9 rfl rfl (fun w hw => strs_cell (hw.to 0 rfl) hsi)) ?_; clear hs a; intro a hs
                        refine a_val hs rfl rfl rfl (y_seqB (b := true) hs rfl rfl (by rw [hz]; decide +kernel)) ?_; clear hs a; intro a hs
                        refine wpList_nil ?_
                        repeat first | with_reducible refine in_normal ?_ | with_reducible refine then_normal ?_ | with_reducible refine then_ret ?_ | with_reducible refine in_ret ?_ | with_reducible refine then_exit ?_ | with_reducible refine in_here ?_ | with_reducible refine in_other rfl ?_
                        repeat with_reducible refine wp_seq ?_
                        refine wp_cond_true (hs.ev rfl) ?_
                        repeat with_reducible refine wp_seq ?_
                        refine wp_region_lit ?_
                        refine a_eff rfl (e_callB Try.func17 rfl rfl hs rfl rfl (recouplaw12_anchored.calls true _ Go.Proofs.Ytnojokempdcikaa.PureN.anchored_ok) ?_); clear hs a; intro a w1 hs
                        refine a_val hs rfl rfl rfl (y_assign hs rfl) ?_; clear hs a; intro a hs
                        refine wpList_nil ?_
                        repeat first | with_reducible refine in_normal ?_ | with_reducible refine then_normal ?_ | with_reducible refine then_ret ?_ | with_reducible refine in_ret ?_ | with_reducible refine then_exit ?_ | with_reducible refine in_here ?_ | with_reducible refine in_other rfl ?_
                        repeat with_reducible refine wp_seq ?_
                        refine wp_ret ?_
                        repeat first | with_reducible refine in_normal ?_ | with_reducible refine then_normal ?_ | with_reducible refine then_ret ?_ | with_reducible refine in_ret ?_ | with_reducible refine then_exit ?_ | with_reducible refine in_here ?_ | with_reducible refine in_other rfl ?_
                        refine fin_ret (vs := [.bool true]) hs (.tmp (hs.slots _ _ rfl) .nil) ⟨rfl, hs.mem.base⟩
                      · repeat with_reducible refine wp_seq ?_
                        refine wp_region_lit ?_
                        refine a_val hs rfl rfl rfl (y_move hs rfl) ?_; clear hs a; intro a hs
                        refine a_val hs rfl rfl rfl (y_move hs rfl) ?_; clear hs a; intro a hs
                        refine a_val hs rfl rfl rfl (y_idxB (size := 1) (off := o9 + i) hs Try.underlying34 (by kernel_rfl) rfl rfl (by omega) (by omega) (by simp)) ?_; clear hs a; intro a hs
                        refine a_val hs rfl rfl rfl (y_load hs Try.underlying9 rfl rfl (fun w hw => strs_cell (hw.to 0 rfl) hsi)) ?_; clear hs a; intro a hs
                        refine a_val hs rfl rfl rfl (y_seqB (b := false) hs rfl rfl (seq_ne hz)) ?_; clear hs a; intro a hs
                        refine wpList_nil ?_
                        repeat first | with_reducible refine in_normal ?_ | with_reducible refine then_normal ?_ | with_reducible refine then_ret ?_ | with_reducible refine in_ret ?_ | with_reducible refine then_exit ?_ | with_reducible refine in_here ?_ | with_reducible refine in_other rfl ?_
                        repeat with_reducible refine wp_seq ?_
                        refine wp_cond_false (hs.ev rfl) ?_
                        repeat with_reducible refine wp_seq ?_
                        refine wp_skip ?_
                        repeat first | with_reducible refine in_normal ?_ | with_reducible refine then_normal ?_ | with_reducible refine then_ret ?_ | with_reducible refine in_ret ?_ | with_reducible refine then_exit ?_ | with_reducible refine in_here ?_ | with_reducible refine in_other rfl ?_
                        repeat with_reducible refine wp_seq ?_
                        refine wp_region_lit ?_
                        refine a_val hs rfl rfl rfl (y_move hs rfl) ?_; clear hs a; intro a hs
                        refine a_val hs rfl rfl rfl (y_add hs rfl rfl (by omega)) ?_; clear hs a; intro a hs
                        refine a_val hs rfl rfl rfl (y_assign hs rfl) ?_; clear hs a; intro a hs
                        refine wpList_nil ?_
                        repeat first | with_reducible refine in_normal ?_ | with_reducible refine then_normal ?_ | with_reducible refine then_ret ?_ | with_reducible refine in_ret ?_ | with_reducible refine then_exit ?_ | with_reducible refine in_here ?_ | with_reducible refine in_other rfl ?_
                        refine ⟨m - 1, by omega, i + 1, by omega, fun j u hj hu => (Nat.lt_succ_iff_lt_or_eq.1 hj).elim (fun h => hns j u h hu) (fun h => by subst h; rw [hsi] at hu; injection hu with hu; subst hu; exact hz), ?_⟩
                        exact hs.cut _ ⟨rfl, rfl, rfl, rfl, rfl, rfl, trivial⟩
                    · repeat with_reducible refine wp_seq ?_
                      refine wp_region_lit ?_
                      refine a_val hs rfl rfl rfl (y_move hs rfl) ?_; clear hs a; intro a hs
                      refine a_val hs rfl rfl rfl (y_move hs rfl) ?_; clear hs a; intro a hs
                      refine a_val hs rfl rfl rfl (y_lenL hs Try.underlying34 rfl) ?_; clear hs a; intro a hs
                      refine a_val hs rfl rfl rfl (y_cmp (b := false) hs rfl rfl (congrArg some (decide_eq_false (by omega)))) ?_; clear hs a; intro a hs
                      refine wpList_nil ?_
                      repeat first | with_reducible refine in_normal ?_ | with_reducible refine then_normal ?_ | with_reducible refine then_ret ?_ | with_reducible refine in_ret ?_ | with_reducible refine then_exit ?_ | with_reducible refine in_here ?_ | with_reducible refine in_other rfl ?_
                      repeat with_reducible refine wp_seq ?_
                      refine wp_cond_false (hs.ev rfl) ?_
                      repeat with_reducible refine wp_seq ?_
                      refine wp_exit ?_
                      repeat first | with_reducible refine in_normal ?_ | with_reducible refine then_normal ?_ | with_reducible refine then_ret ?_ | with_reducible refine in_ret ?_ | with_reducible refine then_exit ?_ | with_reducible refine in_here ?_ | with_reducible refine in_other rfl ?_
                      obtain ⟨hrr, hnum⟩ := hok rfl (fun s hs' => by obtain ⟨j, hj⟩ := List.getElem?_of_mem hs'; exact hns j s (by have := (List.getElem?_eq_some_iff.1 hj).1; omega) hj)
                      simp only [Prod.mk.injEq] at hrr
                      obtain ⟨rfl, rfl, rfl, rfl⟩ := hrr
                      repeat with_reducible refine wp_seq ?_
                      refine wp_region_lit ?_
                      refine a_eff rfl (e_callB Try.func17 rfl rfl hs rfl rfl (recouplaw12_anchored.calls true _ Go.Proofs.Ytnojokempdcikaa.PureN.anchored_ok) ?_); clear hs a; intro a w1 hs
                      refine a_val hs rfl rfl rfl (y_move hs rfl) ?_; clear hs a; intro a hs
                      refine a_valG hs rfl rfl rfl (y_move hs rfl) ?_; clear hs a; intro a hs
                      refine a_valG hs rfl rfl rfl (y_move hs rfl) ?_; clear hs a; intro a hs
                      refine a_valG hs rfl rfl rfl (y_cmp (b := true) hs rfl rfl (congrArg some (beq_iff_eq.2 (rfl)))) ?_; clear hs a; intro a hs
                      refine a_val hs rfl rfl rfl (y_pickT hs rfl rfl rfl) ?_; clear hs a; intro a hs
                      refine a_val hs rfl rfl rfl (y_move hs rfl) ?_; clear hs a; intro a hs
                      refine a_valG hs rfl rfl rfl (y_loadPt 1 rfl hs Try.underlying29 rfl (by kernel_rfl) rfl) ?_; clear hs a; intro a hs
                      refine a_valG hs rfl rfl rfl (y_loadPt 2 rfl hs Try.underlying29 rfl (by kernel_rfl) rfl) ?_; clear hs a; intro a hs
                      refine a_valG hs rfl rfl rfl (y_eqAgg (b := true) hs rfl rfl (by kernel_rfl) (by simp [eqVals, valEq])) ?_; clear hs a; intro a hs
                      refine a_val hs rfl rfl rfl (y_pickT hs rfl rfl rfl) ?_; clear hs a; intro a hs
                      refine a_val hs rfl rfl rfl (y_move hs rfl) ?_; clear hs a; intro a hs
                      refine a_valG hs rfl rfl rfl (y_move hs rfl) ?_; clear hs a; intro a hs
                      refine a_effG hs rfl (e_callB Try.func18 rfl rfl hs rfl rfl ((recoupref12_Number.calls _ _ _ (by rw [refNumber, hnum])).mono (by rintro e w1 ⟨rfl, hd⟩; exact ⟨rfl, drawn_below hd⟩)) ?_); clear hs a; intro a w1 hs
                      refine a_val hs rfl rfl rfl (y_pickT hs rfl rfl rfl) ?_; clear hs a; intro a hs
                      refine a_val hs rfl rfl rfl (y_assign hs rfl) ?_; clear hs a; intro a hs
                      refine wpList_nil ?_
                      repeat first | with_reducible refine in_normal ?_ | with_reducible refine then_normal ?_ | with_reducible refine then_ret ?_ | with_reducible refine in_ret ?_ | with_reducible refine then_exit ?_ | with_reducible refine in_here ?_ | with_reducible refine in_other rfl ?_
                      repeat with_reducible refine wp_seq ?_
                      refine wp_ret ?_
                      repeat first | with_reducible refine in_normal ?_ | with_reducible refine then_normal ?_ | with_reducible refine then_ret ?_ | with_reducible refine in_ret ?_ | with_reducible refine then_exit ?_ | with_reducible refine in_here ?_ | with_reducible refine in_other rfl ?_
                      refine fin_ret (vs := [.bool true]) hs (.tmp (hs.slots _ _ rfl) .nil) ⟨rfl, hs.mem.base⟩
              · clear hs a; intro gg a w hs
                refine ⟨((hs.mem.to 3 rfl).first 1), ?_⟩
                refine b_eff 5 (by kernel_rfl) rfl #[true, true, true, true, true, true, false, false, false, true, false, false] rfl hs rfl (e_callB Try.func8 rfl rfl hs rfl rfl (eval_two x.f0 x.f1 x.f2 A3 c3 x.f3 x.f4 x.f5 A6 c6 l q1 q2 q3 q4 v0 _ (Kd.C_below hx3 hs.mem.base) hc3 (hs.mem.to 1 rfl).bothL hl he2) ?_); clear hs a; intro a w1 hs
                refine ⟨((hs.mem.to 3 rfl).first 1), ?_⟩
                refine b_take 6 rfl #[true, true, true, true, true, true, true, false, false, true, false, false] rfl (by kernel_rfl) hs (((hs.mem.to 3 rfl).first 1)) rfl rfl rfl (fun _ _ _ h => h) (y_move hs rfl) ?_; clear hs a; intro a hs
                refine b_take 7 rfl #[true, true, true, true, true, true, true, true, false, true, false, false] rfl (by kernel_rfl) hs (((hs.mem.to 3 rfl).first 1)) rfl rfl rfl (fun _ _ _ h => h) (y_extract hs rfl rfl) ?_; clear hs a; intro a hs
                refine b_take 8 rfl #[true, true, true, true, true, true, true, true, true, true, false, false] rfl (by kernel_rfl) hs (((hs.mem.to 3 rfl).first 1)) rfl rfl rfl (fun _ _ _ h => h) (y_extract hs rfl rfl) ?_; clear hs a; intro a hs
                refine b_take 10 rfl #[true, true, true, true, true, true, true, true, true, true, true, false] rfl (by kernel_rfl) hs (((hs.mem.to 3 rfl).first 1)) rfl rfl rfl (fun _ _ _ h => h) (y_assign hs rfl) ?_; clear hs a; intro a hs
                refine b_eff 11 (by kernel_rfl) rfl #[true, true, true, true, true, true, true, true, true, true, true, true] rfl hs rfl (e_store (cl := [_, _, _]) 0 rfl hs rfl rfl (by kernel_rfl) rfl rfl rfl ?_); clear hs a; intro a w hs
                refine ⟨((hs.mem.to 3 rfl).first 1), ?_⟩
                refine b_done (by kernel_rfl) ?_
                repeat first | with_reducible refine in_normal ?_ | with_reducible refine then_normal ?_ | with_reducible refine then_ret ?_ | with_reducible refine in_ret ?_ | with_reducible refine then_exit ?_ | with_reducible refine in_here ?_ | with_reducible refine in_other rfl ?_
                replace hs := hs.mem_to (hs.mem.to 1 rfl).bothR
                repeat with_reducible refine wp_seq ?_
                refine wp_region_lit ?_
                refine a_val hs rfl rfl rfl (y_move hs rfl) ?_; clear hs a; intro a hs
                refine a_val hs rfl rfl rfl (y_struct (zc := #[.string ⟨#[]⟩, .int .i64 0]) (pl := [(0, 1), (1, 1)]) (cl := [_, .int .i64 0]) hs (by kernel_rfl) rfl (by rfl) rfl) ?_; clear hs a; intro a hs
                refine a_eff rfl (e_bslice (z := .agg #[.string ⟨#[]⟩, .int .i64 0]) (size := 2) (zc := #[.string ⟨#[]⟩, .int .i64 0]) (cl := [_, _]) hs rfl Try.underlying26 (by kernel_rfl) rfl rfl rfl (by kernel_rfl) (by rfl) rfl ?_); clear hs a; intro gn a w hs
                refine a_eff rfl (e_append (z := .agg #[.string ⟨#[]⟩, .int .i64 0]) (size := 2) (bytes := 24) 1 rfl 0 rfl hs rfl Try.underlying26 (by kernel_rfl) rfl rfl rfl rfl (news := [.string Go.Proofs.Ytnojokempdcikaa.PureT.zz, .int .i64 0]) rfl rfl rfl (by unfold maxLen; omega) (by omega) ?_); clear hs a; intro A7 c7 a w1 hs
                refine a_eff rfl (e_callB Try.func20 rfl rfl hs rfl rfl (mayenv_three k A7 c7 l b3 v0 _ (hs.mem.to 0 rfl) hl hb3) ?_); clear hs a; intro a w1 hs
                refine a_val hs rfl rfl rfl (y_not hs rfl) ?_; clear hs a; intro a hs
                refine wpList_nil ?_
                repeat first | with_reducible refine in_normal ?_ | with_reducible refine then_normal ?_ | with_reducible refine then_ret ?_ | with_reducible refine in_ret ?_ | with_reducible refine then_exit ?_ | with_reducible refine in_here ?_ | with_reducible refine in_other rfl ?_
                cases b3 with
                | false =>
                  have h2 : q2 = 2 := hbad3 rfl
                  repeat with_reducible refine wp_seq ?_
                  refine wp_cond_true (hs.ev rfl) ?_
                  repeat with_reducible refine wp_seq ?_
                  refine wp_region_lit ?_
                  refine a_eff rfl (e_callB Try.func17 rfl rfl hs rfl rfl (recouplaw12_anchored.calls true _ Go.Proofs.Ytnojokempdcikaa.PureN.anchored_ok) ?_); clear hs a; intro a w1 hs
                  refine a_val hs rfl rfl rfl (y_move hs rfl) ?_; clear hs a; intro a hs
                  refine a_valG hs rfl rfl rfl (y_faddr (k' := 0) 0 hs (by kernel_rfl) rfl rfl) ?_; clear hs a; intro a hs
                  refine a_valG hs rfl rfl rfl (y_load hs Try.underlying27 rfl rfl (fun w hw => (hw.to 2 rfl).cellV rfl)) ?_; clear hs a; intro a hs
                  refine a_valG hs rfl rfl rfl (y_cmp (b := true) hs rfl rfl (congrArg some (beq_iff_eq.2 (h2)))) ?_; clear hs a; intro a hs
                  refine a_val hs rfl rfl rfl (y_pickT hs rfl rfl rfl) ?_; clear hs a; intro a hs
                  refine a_val hs rfl rfl rfl (y_assign hs rfl) ?_; clear hs a; intro a hs
                  refine wpList_nil ?_
                  repeat first | with_reducible refine in_normal ?_ | with_reducible refine then_normal ?_ | with_reducible refine then_ret ?_ | with_reducible refine in_ret ?_ | with_reducible refine then_exit ?_ | with_reducible refine in_here ?_ | with_reducible refine in_other rfl ?_
                  repeat with_reducible refine wp_seq ?_
                  refine wp_ret ?_
                  repeat first | with_reducible refine in_normal ?_ | with_reducible refine then_normal ?_ | with_reducible refine then_ret ?_ | with_reducible refine in_ret ?_ | with_reducible refine then_exit ?_ | with_reducible refine in_here ?_ | with_reducible refine in_other rfl ?_
                  refine fin_ret (vs := [.bool true]) hs (.tmp (hs.slots _ _ rfl) .nil) ⟨rfl, hs.mem.base⟩
                | true =>
                  repeat with_reducible refine wp_seq ?_
                  refine wp_cond_false (hs.ev rfl) ?_
                  repeat with_reducible refine wp_seq ?_
                  refine wp_skip ?_
                  repeat first | with_reducible refine in_normal ?_ | with_reducible refine then_normal ?_ | with_reducible refine then_ret ?_ | with_reducible refine in_ret ?_ | with_reducible refine then_exit ?_ | with_reducible refine in_here ?_ | with_reducible refine in_other rfl ?_
                  repeat with_reducible refine wp_seq ?_
                  refine wp_region_lit ?_
                  refine a_val hs rfl rfl rfl (y_loadPt 4 rfl hs Try.underlying25 rfl (by kernel_rfl) rfl) ?_; clear hs a; intro a hs
                  refine a_eff rfl (e_callX Try.func11 rfl rfl hs rfl rfl (recoupref12_Names.calls k x.f0 x.f1 x.f2 A3 c3 x.f3 x.f4 x.f5 nl 0 _ (Kd.C_below hx3 hs.mem.base) hc3 hnm) (fun e w1 ⟨v, he, hR, hbl⟩ => ⟨_, he, _, hs.mem.addStrs hbl hR, ?_⟩)); clear hs a; intro a hs
                  refine a_val hs rfl rfl rfl (y_move hs rfl) ?_; clear hs a; intro a hs
                  refine a_val hs rfl rfl rfl (y_extract hs rfl rfl) ?_; clear hs a; intro a hs
                  refine a_val hs rfl rfl rfl (y_extract hs rfl rfl) ?_; clear hs a; intro a hs
                  refine a_val hs rfl rfl rfl (y_assign hs rfl) ?_; clear hs a; intro a hs
                  refine a_val hs rfl rfl rfl (y_assign hs rfl) ?_; clear hs a; intro a hs
                  refine wpList_nil ?_
                  repeat first | with_reducible refine in_normal ?_ | with_reducible refine then_normal ?_ | with_reducible refine then_ret ?_ | with_reducible refine in_ret ?_ | with_reducible refine then_exit ?_ | with_reducible refine in_here ?_ | with_reducible refine in_other rfl ?_
                  obtain ⟨A8, c8, rfl, _⟩ := ((hs.mem.to 0 rfl).own _ (.head _)).1
                  repeat with_reducible refine wp_seq ?_
                  refine wp_region_lit ?_
                  refine a_val hs rfl rfl rfl (y_assign hs rfl) ?_; clear hs a; intro a hs
                  refine wpList_nil ?_
                  repeat first | with_reducible refine in_normal ?_ | with_reducible refine then_normal ?_ | with_reducible refine then_ret ?_ | with_reducible refine in_ret ?_ | with_reducible refine then_exit ?_ | with_reducible refine in_here ?_ | with_reducible refine in_other rfl ?_
                  repeat with_reducible refine wp_seq ?_
                  refine wp_block ?_
                  refine wp_loopN (fun m a w1 => ∃ i : Nat, i + m = nl.length ∧ (∀ j s, j < i → nl[j]? = some s → s ≠ Go.Proofs.Ytnojokempdcikaa.PureT.zz) ∧ St 101 v0 [(5, .int .i64 r1), (6, .pointer (some ⟨gf, 0, none⟩)), (9, .int .i64 q1), (10, .pointer (some ⟨gg, 0, none⟩)), (11, .slice A8 nl.length c8), (13, .int .i64 ((i : Nat) : Int))] [strs (.slice A8 nl.length c8) nl, pt gf #[.int .i64 r2, .int .i64 r3, .int .i64 r4] 29, pt gg #[.int .i64 q2, .int .i64 q3, .int .i64 q4] 29] a w1) nl.length ⟨0, by omega, fun j s hj => absurd hj (by omega), ?_⟩ (fun m a w1 hJ => ?_)
                  · exact (hs.mem_to (((((((hs.mem.to 1 rfl).drop.to 1 rfl).drop.to 2 rfl).drop.to 2 rfl).drop.to 1 rfl).to 2 rfl).to 2 rfl)).cut _ ⟨rfl, rfl, rfl, rfl, rfl, rfl, trivial⟩
                  · clear hs
                    obtain ⟨i, hi, hns, hs⟩ := hJ
                    by_cases hlt : i < nl.length
                    · repeat with_reducible refine wp_seq ?_
                      refine wp_region_lit ?_
                      refine a_val hs rfl rfl rfl (y_move hs rfl) ?_; clear hs a; intro a hs
                      refine a_val hs rfl rfl rfl (y_move hs rfl) ?_; clear hs a; intro a hs
                      refine a_val hs rfl rfl rfl (y_lenL hs Try.underlying34 rfl) ?_; clear hs a; intro a hs
                      refine a_val hs rfl rfl rfl (y_cmp (b := true) hs rfl rfl (congrArg some (decide_eq_true (by omega)))) ?_; clear hs a; intro a hs
                      refine wpList_nil ?_
                      repeat first | with_reducible refine in_normal ?_ | with_reducible refine then_normal ?_ | with_reducible refine then_ret ?_ | with_reducible refine in_ret ?_ | with_reducible refine then_exit ?_ | with_reducible refine in_here ?_ | with_reducible refine in_other rfl ?_
                      repeat with_reducible refine wp_seq ?_
                      refine wp_cond_true (hs.ev rfl) ?_
                      repeat with_reducible refine wp_seq ?_
                      refine wp_skip ?_
                      repeat first | with_reducible refine in_normal ?_ | with_reducible refine then_normal ?_ | with_reducible refine then_ret ?_ | with_reducible refine in_ret ?_ | with_reducible refine then_exit ?_ | with_reducible refine in_here ?_ | with_reducible refine in_other rfl ?_
                      obtain ⟨s, hsi⟩ : ∃ s, nl[i]? = some s := ⟨_, List.getElem?_eq_getElem hlt⟩
                      obtain ⟨g9, o9, rfl⟩ := strs_addr hs.mem (by omega)
                      repeat with_reducible refine wp_seq ?_
                      refine wp_block ?_
                      by_cases hz : s = Go.Proofs.Ytnojokempdcikaa.PureT.zz
                      · repeat with_reducible refine wp_seq ?_
                        refine wp_region_lit ?_
                        refine a_val hs rfl rfl rfl (y_move hs rfl) ?_; clear hs a; intro a hs
                        refine a_val hs rfl rfl rfl (y_move hs rfl) ?_; clear hs a; intro a hs
                        refine a_val hs rfl rfl rfl (y_idxB (size := 1) (off := o9 + i) hs Try.underlying34 (by kernel_rfl) rfl rfl (by omega) (by omega) (by simp)) ?_; clear hs a; intro a hs
                        refine a_val hs rfl rfl rfl (y_load hs Try.underlying9 rfl rfl (fun w hw => strs_cell (hw.to 0 rfl) hsi)) ?_; clear hs a; intro a hs
                        refine a_val hs rfl rfl rfl (y_seqB (b := true) hs rfl rfl (by rw [hz]; decide +kernel)) ?_; clear hs a; intro a hs
                        refine wpList_nil ?_
                        repeat first | with_reducible refine in_normal ?_ | with_reducible refine then_normal ?_ | with_reducible refine then_ret ?_ | with_reducible refine in_ret ?_ | with_reducible refine then_exit ?_ | with_reducible refine in_here ?_ | with_reducible refine in_other rfl ?_
                        repeat with_reducible refine wp_seq ?_
                        refine wp_cond_true (hs.ev rfl) ?_
                        repeat with_reducible refine wp_seq ?_
                        refine wp_region_lit ?_
                        refine a_eff rfl (e_callB Try.func17 rfl rfl hs rfl rfl (recouplaw12_anchored.calls true _ Go.Proofs.Ytnojokempdcikaa.PureN.anchored_ok) ?_); clear hs a; intro a w1 hs
                        refine a_val hs rfl rfl rfl (y_assign hs rfl) ?_; clear hs a; intro a hs
                        refine wpList_nil ?_
                        repeat first | with_reducible refine in_normal ?_ | with_reducible refine then_normal ?_ | with_reducible refine then_ret ?_ | with_reducible refine in_ret ?_ | with_reducible refine then_exit ?_ | with_reducible refine in_here ?_ | with_reducible refine in_other rfl ?_
                        repeat with_reducible refine wp_seq ?_
                        refine wp_ret ?_
                        repeat first | with_reducible refine in_normal ?_ | with_reducible refine then_normal ?_ | with_reducible refine then_ret ?_ | with_reducible refine in_ret ?_ | with_reducible refine then_exit ?_ | with_reducible refine in_here ?_ | with_reducible refine in_other rfl ?_
                        refine fin_ret (vs := [.bool true]) hs (.tmp (hs.slots _ _ rfl) .nil) ⟨rfl, hs.mem.base⟩
                      · repeat with_reducible refine wp_seq ?_
                        refine wp_region_lit ?_
                        refine a_val hs rfl rfl rfl (y_move hs rfl) ?_; clear hs a; intro a hs
                        refine a_val hs rfl rfl rfl (y_move hs rfl) ?_; clear hs a; intro a hs
                        refine a_val hs rfl rfl rfl (y_idxB (size := 1) (off := o9 + i) hs Try.underlying34 (by kernel_rfl) rfl rfl (by omega) (by omega) (by simp)) ?_; clear hs a; intro a hs
                        refine a_val hs rfl rfl rfl (y_load hs Try.underlying9 rfl rfl (fun w hw => strs_cell (hw.to 0 rfl) hsi)) ?_; clear hs a; intro a hs
                        refine a_val hs rfl rfl rfl (y_seqB (b := false) hs rfl rfl (seq_ne hz)) ?_; clear hs a; intro a hs
                        refine wpList_nil ?_
                        repeat first | with_reducible refine in_normal ?_ | with_reducible refine then_normal ?_ | with_reducible refine then_ret ?_ | with_reducible refine in_ret ?_ | with_reducible refine then_exit ?_ | with_reducible refine in_here ?_ | with_reducible refine in_other rfl ?_
                        repeat with_reducible refine wp_seq ?_
                        refine wp_cond_false (hs.ev rfl) ?_
                        repeat with_reducible refine wp_seq ?_
                        refine wp_skip ?_
                        repeat first | with_reducible refine in_normal ?_ | with_reducible refine then_normal ?_ | with_reducible refine then_ret ?_ | with_reducible refine in_ret ?_ | with_reducible refine then_exit ?_ | with_reducible refine in_here ?_ | with_reducible refine in_other rfl ?_
                        repeat with_reducible refine wp_seq ?_
                        refine wp_region_lit ?_
                        refine a_val hs rfl rfl rfl (y_move hs rfl) ?_; clear hs a; intro a hs
                        refine a_val hs rfl rfl rfl (y_add hs rfl rfl (by omega)) ?_; clear hs a; intro a hs
                        refine a_val hs rfl rfl rfl (y_assign hs rfl) ?_; clear hs a; intro a hs
                        refine wpList_nil ?_
                        repeat first | with_reducible refine in_normal ?_ | with_reducible refine then_normal ?_ | with_reducible refine then_ret ?_ | with_reducible refine in_ret ?_ | with_reducible refine then_exit ?_ | with_reducible refine in_here ?_ | with_reducible refine in_other rfl ?_
                        refine ⟨m - 1, by omega, i + 1, by omega, fun j u hj hu => (Nat.lt_succ_iff_lt_or_eq.1 hj).elim (fun h => hns j u h hu) (fun h => by subst h; rw [hsi] at hu; injection hu with hu; subst hu; exact hz), ?_⟩
                        exact hs.cut _ ⟨rfl, rfl, rfl, rfl, rfl, rfl, trivial⟩
                    · repeat with_reducible refine wp_seq ?_
                      refine wp_region_lit ?_
                      refine a_val hs rfl rfl rfl (y_move hs rfl) ?_; clear hs a; intro a hs
                      refine a_val hs rfl rfl rfl (y_move hs rfl) ?_; clear hs a; intro a hs
                      refine a_val hs rfl rfl rfl (y_lenL hs Try.underlying34 rfl) ?_; clear hs a; intro a hs
                      refine a_val hs rfl rfl rfl (y_cmp (b := false) hs rfl rfl (congrArg some (decide_eq_false (by omega)))) ?_; clear hs a; intro a hs
                      refine wpList_nil ?_
                      repeat first | with_reducible refine in_normal ?_ | with_reducible refine then_normal ?_ | with_reducible refine then_ret ?_ | with_reducible refine in_ret ?_ | with_reducible refine then_exit ?_ | with_reducible refine in_here ?_ | with_reducible refine in_other rfl ?_
                      repeat with_reducible refine wp_seq ?_
                      refine wp_cond_false (hs.ev rfl) ?_
                      repeat with_reducible refine wp_seq ?_
                      refine wp_exit ?_
                      repeat first | with_reducible refine in_normal ?_ | with_reducible refine then_normal ?_ | with_reducible refine then_ret ?_ | with_reducible refine in_ret ?_ | with_reducible refine then_exit ?_ | with_reducible refine in_here ?_ | with_reducible refine in_other rfl ?_
                      obtain ⟨hrr, hnum⟩ := hok rfl (fun s hs' => by obtain ⟨j, hj⟩ := List.getElem?_of_mem hs'; exact hns j s (by have := (List.getElem?_eq_some_iff.1 hj).1; omega) hj)
                      simp only [Prod.mk.injEq] at hrr
                      obtain ⟨rfl, rfl, rfl, rfl⟩ := hrr
                      repeat with_reducible refine wp_seq ?_
                      refine wp_region_lit ?_
                      refine a_eff rfl (e_callB Try.func17 rfl rfl hs rfl rfl (recouplaw12_anchored.calls true _ Go.Proofs.Ytnojokempdcikaa.PureN.anchored_ok) ?_); clear hs a; intro a w1 hs
                      refine a_val hs rfl rfl rfl (y_move hs rfl) ?_; clear hs a; intro a hs
                      refine a_valG hs rfl rfl rfl (y_move hs rfl) ?_; clear hs a; intro a hs
                      refine a_valG hs rfl rfl rfl (y_move hs rfl) ?_; clear hs a; intro a hs
                      refine a_valG hs rfl rfl rfl (y_cmp (b := true) hs rfl rfl (congrArg some (beq_iff_eq.2 (rfl)))) ?_; clear hs a; intro a hs
                      refine a_val hs rfl rfl rfl (y_pickT hs rfl rfl rfl) ?_; clear hs a; intro a hs
                      refine a_val hs rfl rfl rfl (y_move hs rfl) ?_; clear hs a; intro a hs
                      refine a_valG hs rfl rfl rfl (y_loadPt 1 rfl hs Try.underlying29 rfl (by kernel_rfl) rfl) ?_; clear hs a; intro a hs
                      refine a_valG hs rfl rfl rfl (y_loadPt 2 rfl hs Try.underlying29 rfl (by kernel_rfl) rfl) ?_; clear hs a; intro a hs
                      refine a_valG hs rfl rfl rfl (y_eqAgg (b := true) hs rfl rfl (by kernel_rfl) (by simp [eqVals, valEq])) ?_; clear hs a; intro a hs
                      refine a_val hs rfl rfl rfl (y_pickT hs rfl rfl rfl) ?_; clear hs a; intro a hs
                      refine a_val hs rfl rfl rfl (y_move hs rfl) ?_; clear hs a; intro a hs
                      refine a_valG hs rfl rfl rfl (y_move hs rfl) ?_; clear hs a; intro a hs
                      refine a_effG hs rfl (e_callB Try.func18 rfl rfl hs rfl rfl ((recoupref12_Number.calls _ _ _ (by rw [refNumber, hnum])).mono (by rintro e w1 ⟨rfl, hd⟩; exact ⟨rfl, drawn_below hd⟩)) ?_); clear hs a; intro a w1 hs
                      refine a_val hs rfl rfl rfl (y_pickT hs rfl rfl rfl) ?_; clear hs a; intro a hs
                      refine a_val hs rfl rfl rfl (y_assign hs rfl) ?_; clear hs a; intro a hs
                      refine wpList_nil ?_
                      repeat first | with_reducible refine in_normal ?_ | with_reducible refine then_normal ?_ | with_reducible refine then_ret ?_ | with_reducible refine in_ret ?_ | with_reducible refine then_exit ?_ | with_reducible refine in_here ?_ | with_reducible refine in_other rfl ?_
                      repeat with_reducible refine wp_seq ?_
                      refine wp_ret ?_
                      repeat first | with_reducible refine in_normal ?_ | with_reducible refine then_normal ?_ | with_reducible refine then_ret ?_ | with_reducible refine in_ret ?_ | with_reducible refine then_exit ?_ | with_reducible refine in_here ?_ | with_reducible refine in_other rfl ?_
                      refine fin_ret (vs := [.bool true]) hs (.tmp (hs.slots _ _ rfl) .nil) ⟨rfl, hs.mem.base⟩
            · clear hs a; intro gg a w hs
              refine ⟨((hs.mem.to 3 rfl).first 1), ?_⟩
              refine b_eff 4 (by kernel_rfl) rfl #[true, true, true, true, true, false, false, false, false, true, false, false] rfl hs rfl (e_append2 (z := .agg #[.string ⟨#[]⟩, .int .i64 0]) (size := 2) (bytes := 24) 2 rfl 1 rfl hs rfl Try.underlying26 (by kernel_rfl) rfl rfl rfl rfl (news := [.string Go.Proofs.Ytnojokempdcikaa.PureT.zz, .int .i64 3]) rfl rfl rfl (by unfold maxLen; omega) (by omega) ?_); clear hs a; intro A6 c6 a w1 hs
              refine ⟨((hs.mem.to 3 rfl).first 1), ?_⟩
              refine b_eff 5 (by kernel_rfl) rfl #[true, true, true, true, true, true, false, false, false, true, false, false] rfl hs rfl (e_callB Try.func8 rfl rfl hs rfl rfl (eval_two x.f0 x.f1 x.f2 A3 c3 x.f3 x.f4 x.f5 A6 c6 l q1 q2 q3 q4 v0 _ (Kd.C_below hx3 hs.mem.base) hc3 (hs.mem.to 0 rfl).bothL hl he2) ?_); clear hs a; intro a w1 hs
              refine ⟨((hs.mem.to 3 rfl).first 1), ?_⟩
              refine b_take 6 rfl #[true, true, true, true, true, true, true, false, false, true, false, false] rfl (by kernel_rfl) hs (((hs.mem.to 3 rfl).first 1)) rfl rfl rfl (fun _ _ _ h => h) (y_move hs rfl) ?_; clear hs a; intro a hs
              refine b_take 7 rfl #[true, true, true, true, true, true, true, true, false, true, false, false] rfl (by kernel_rfl) hs (((hs.mem.to 3 rfl).first 1)) rfl rfl rfl (fun _ _ _ h => h) (y_extract hs rfl rfl) ?_; clear hs a; intro a hs
              refine b_take 8 rfl #[true, true, true, true, true, true, true, true, true, true, false, false] rfl (by kernel_rfl) hs (((hs.mem.to 3 rfl).first 1)) rfl rfl rfl (fun _ _ _ h => h) (y_extract hs rfl rfl) ?_; clear hs a; intro a hs
              refine b_take 10 rfl #[true, true, true, true, true, true, true, true, true, true, true, false] rfl (by kernel_rfl) hs (((hs.mem.to 3 rfl).first 1)) rfl rfl rfl (fun _ _ _ h => h) (y_assign hs rfl) ?_; clear hs a; intro a hs
              refine b_eff 11 (by kernel_rfl) rfl #[true, true, true, true, true, true, true, true, true, true, true, true] rfl hs rfl (e_store (cl := [_, _, _]) 1 rfl hs rfl rfl (by kernel_rfl) rfl rfl rfl ?_); clear hs a; intro a w hs
              refine ⟨((hs.mem.to 3 rfl).first 1), ?_⟩
              refine b_done (by kernel_rfl) ?_
              repeat first | with_reducible refine in_normal ?_ | with_reducible refine then_normal ?_ | with_reducible refine then_ret ?_ | with_reducible refine in_ret ?_ | with_reducible refine then_exit ?_ | with_reducible refine in_here ?_ | with_reducible refine in_other rfl ?_
              replace hs := hs.mem_to (hs.mem.to 1 rfl).bothR
              repeat with_reducible refine wp_seq ?_
              refine wp_region_lit ?_
              refine a_val hs rfl rfl rfl (y_move hs rfl) ?_; clear hs a; intro a hs
              refine a_val hs rfl rfl rfl (y_struct (zc := #[.string ⟨#[]⟩, .int .i64 0]) (pl := [(0, 1), (1, 1)]) (cl := [_, .int .i64 0]) hs (by kernel_rfl) rfl (by rfl) rfl) ?_; clear hs a; intro a hs
              refine a_eff rfl (e_bslice (z := .agg #[.string ⟨#[]⟩, .int .i64 0]) (size := 2) (zc := #[.string ⟨#[]⟩, .int .i64 0]) (cl := [_, _]) hs rfl Try.underlying26 (by kernel_rfl) rfl rfl rfl (by kernel_rfl) (by rfl) rfl ?_); clear hs a; intro gn a w hs
              refine a_eff rfl (e_append (z := .agg #[.string ⟨#[]⟩, .int .i64 0]) (size := 2) (bytes := 24) 1 rfl 0 rfl hs rfl Try.underlying26 (by kernel_rfl) rfl rfl rfl rfl (news := [.string Go.Proofs.Ytnojokempdcikaa.PureT.zz, .int .i64 0]) rfl rfl rfl (by unfold maxLen; omega) (by omega) ?_); clear hs a; intro A7 c7 a w1 hs
              refine a_eff rfl (e_callB Try.func20 rfl rfl hs rfl rfl (mayenv_three k A7 c7 l b3 v0 _ (hs.mem.to 0 rfl) hl hb3) ?_); clear hs a; intro a w1 hs
              refine a_val hs rfl rfl rfl (y_not hs rfl) ?_; clear hs a; intro a hs
              refine wpList_nil ?_
              repeat first | with_reducible refine in_normal ?_ | with_reducible refine then_normal ?_ | with_reducible refine then_ret ?_ | with_reducible refine in_ret ?_ | with_reducible refine then_exit ?_ | with_reducible refine in_here ?_ | with_reducible refine in_other rfl ?_
              cases b3 with
              | false =>
                have h2 : q2 = 2 := hbad3 rfl
                repeat with_reducible refine wp_seq ?_
                refine wp_cond_true (hs.ev rfl) ?_
                repeat with_reducible refine wp_seq ?_
                refine wp_region_lit ?_
                refine a_eff rfl (e_callB Try.func17 rfl rfl hs rfl rfl (recouplaw12_anchored.calls true _ Go.Proofs.Ytnojokempdcikaa.PureN.anchored_ok) ?_); clear hs a; intro a w1 hs
                refine a_val hs rfl rfl rfl (y_move hs rfl) ?_; clear hs a; intro a hs
                refine a_valG hs rfl rfl rfl (y_faddr (k' := 0) 0 hs (by kernel_rfl) rfl rfl) ?_; clear hs a; intro a hs
                refine a_valG hs rfl rfl rfl (y_load hs Try.underlying27 rfl rfl (fun w hw => (hw.to 2 rfl).cellV rfl)) ?_; clear hs a; intro a hs
                refine a_valG hs rfl rfl rfl (y_cmp (b := true) hs rfl rfl (congrArg some (beq_iff_eq.2 (h2)))) ?_; clear hs a; intro a hs
                refine a_val hs rfl rfl rfl (y_pickT hs rfl rfl rfl) ?_; clear hs a; intro a hs
                refine a_val hs rfl rfl rfl (y_assign hs rfl) ?_; clear hs a; intro a hs
                refine wpList_nil ?_
                repeat first | with_reducible refine in_normal ?_ | with_reducible refine then_normal ?_ | with_reducible refine then_ret ?_ | with_reducible refine in_ret ?_ | with_reducible refine then_exit ?_ | with_reducible refine in_here ?_ | with_reducible refine in_other rfl ?_
                repeat with_reducible refine wp_seq ?_
                refine wp_ret ?_
                repeat first | with_reducible refine in_normal ?_ | with_reducible refine then_normal ?_ | with_reducible refine then_ret ?_ | with_reducible refine in_ret ?_ | with_reducible refine then_exit ?_ | with_reducible refine in_here ?_ | with_reducible refine in_other rfl ?_
                refine fin_ret (vs := [.bool true]) hs (.tmp (hs.slots _ _ rfl) .nil) ⟨rfl, hs.mem.base⟩
              | true =>
                repeat with_reducible refine wp_seq ?_
                refine wp_cond_false (hs.ev rfl) ?_
                repeat with_reducible refine wp_seq ?_
                refine wp_skip ?_
                repeat first | with_reducible refine in_normal ?_ | with_reducible refine then_normal ?_ | with_reducible refine then_ret ?_ | with_reducible refine in_ret ?_ | with_reducible refine then_exit ?_ | with_reducible refine in_here ?_ | with_reducible refine in_other rfl ?_
                repeat with_reducible refine wp_seq ?_
                refine wp_region_lit ?_
                refine a_val hs rfl rfl rfl (y_loadPt 4 rfl hs Try.underlying25 rfl (by kernel_rfl) rfl) ?_; clear hs a; intro a hs
                refine a_eff rfl (e_callX Try.func11 rfl rfl hs rfl rfl (recoupref12_Names.calls k x.f0 x.f1 x.f2 A3 c3 x.f3 x.f4 x.f5 nl 0 _ (Kd.C_below hx3 hs.mem.base) hc3 hnm) (fun e w1 ⟨v, he, hR, hbl⟩ => ⟨_, he, _, hs.mem.addStrs hbl hR, ?_⟩)); clear hs a; intro a hs
                refine a_val hs rfl rfl rfl (y_move hs rfl) ?_; clear hs a; intro a hs
                refine a_val hs rfl rfl rfl (y_extract hs rfl rfl) ?_; clear hs a; intro a hs
                refine a_val hs rfl rfl rfl (y_extract hs rfl rfl) ?_; clear hs a; intro a hs
                refine a_val hs rfl rfl rfl (y_assign hs rfl) ?_; clear hs a; intro a hs
                refine a_val hs rfl rfl rfl (y_assign hs rfl) ?_; clear hs a; intro a hs
                refine wpList_nil ?_
                repeat first | with_reducible refine in_normal ?_ | with_reducible refine then_normal ?_ | with_reducible refine then_ret ?_ | with_reducible refine in_ret ?_ | with_reducible refine then_exit ?_ | with_reducible refine in_here ?_ | with_reducible refine in_other rfl ?_
                obtain ⟨A8, c8, rfl, _⟩ := ((hs.mem.to 0 rfl).own _ (.head _)).1
                repeat with_reducible refine wp_seq ?_
                refine wp_region_lit ?_
                refine a_val hs rfl rfl rfl (y_assign hs rfl) ?_; clear hs a; intro a hs
                refine wpList_nil ?_
                repeat first | with_reducible refine in_normal ?_ | with_reducible refine then_normal ?_ | with_reducible refine then_ret ?_ | with_reducible refine in_ret ?_ | with_reducible refine then_exit ?_ | with_reducible refine in_here ?_ | with_reducible refine in_other rfl ?_
                repeat with_reducible refine wp_seq ?_
                refine wp_block ?_
                refine wp_loopN (fun m a w1 => ∃ i : Nat, i + m = nl.length ∧ (∀ j s, j < i → nl[j]? = some s → s ≠ Go.Proofs.Ytnojokempdcikaa.PureT.zz) ∧ St 101 v0 [(5, .int .i64 r1), (6, .pointer (some ⟨gf, 0, none⟩)), (9, .int .i64 q1), (10, .pointer (some ⟨gg, 0, none⟩)), (11, .slice A8 nl.length c8), (13, .int .i64 ((i : Nat) : Int))] [strs (.slice A8 nl.length c8) nl, pt gf #[.int .i64 r2, .int .i64 r3, .int .i64 r4] 29, pt gg #[.int .i64 q2, .int .i64 q3, .int .i64 q4] 29] a w1) nl.length ⟨0, by omega, fun j s hj => absurd hj (by omega), ?_⟩ (fun m a w1 hJ => ?_)
                · exact (hs.mem_to (((((((hs.mem.to 1 rfl).drop.to 1 rfl).drop.to 2 rfl).drop.to 2 rfl).drop.to 1 rfl).to 2 rfl).to 2 rfl)).cut _ ⟨rfl, rfl, rfl, rfl, rfl, rfl, trivial⟩
                · clear hs
                  obtain ⟨i, hi, hns, hs⟩ := hJ
                  by_cases hlt : i < nl.length
                  · repeat with_reducible refine wp_seq ?_
                    refine wp_region_lit ?_
                    refine a_val hs rfl rfl rfl (y_move hs rfl) ?_; clear hs a; intro a hs
                    refine a_val hs rfl rfl rfl (y_move hs rfl) ?_; clear hs a; intro a hs
                    refine a_val hs rfl rfl rfl (y_lenL hs Try.underlying34 rfl) ?_; clear hs a; intro a hs
                    refine a_val hs rfl rfl rfl (y_cmp (b := true) hs rfl rfl (congrArg some (decide_eq_true (by omega)))) ?_; clear hs a; intro a hs
                    refine wpList_nil ?_
                    repeat first | with_reducible refine in_normal ?_ | with_reducible refine then_normal ?_ | with_reducible refine then_ret ?_ | with_reducible refine in_ret ?_ | with_reducible refine then_exit ?_ | with_reducible refine in_here ?_ | with_reducible refine in_other rfl ?_
                    repeat with_reducible refine wp_seq ?_
                    refine wp_cond_true (hs.ev rfl) ?_
                    repeat with_reducible refine wp_seq ?_
                    refine wp_skip ?_
                    repeat first | with_reducible refine in_normal ?_ | with_reducible refine then_normal ?_ | with_reducible refine then_ret ?_ | with_reducible refine in_ret ?_ | with_reducible refine then_exit ?_ | with_reducible refine in_here ?_ | with_reducible refine in_other rfl ?_
                    obtain ⟨s, hsi⟩ : ∃ s, nl[i]? = some s := ⟨_, List.getElem?_eq_getElem hlt⟩
                    obtain ⟨g9, o9, rfl⟩ := strs_addr hs.mem (by omega)
                    repeat with_reducible refine wp_seq ?_
                    refine wp_block ?_
                    by_cases hz : s = Go.Proofs.Ytnojokempdcikaa.PureT.zz
                    · repeat with_reducible refine wp_seq ?_
                      refine wp_region_lit ?_
                      refine a_val hs rfl rfl rfl (y_move hs rfl) ?_; clear hs a; intro a hs
                      refine a_val hs rfl rfl rfl (y_move hs rfl) ?_; clear hs a; intro a hs
                      refine a_val hs rfl rfl rfl (y_idxB (size := 1) (off := o9 + i) hs Try.underlying34 (by kernel_rfl) rfl rfl (by omega) (by omega) (by simp)) ?_; clear hs a; intro a hs
                      refine a_val hs rfl rfl rfl (y_load hs Try.underlying9 rfl rfl (fun w hw => strs_cell (hw.to 0 rfl) hsi)) ?_; clear hs a; intro a hs
                      refine a_val hs rfl rfl rfl (y_seqB (b := true) hs rfl rfl (by rw [hz]; decide +kernel)) ?_; clear hs a; intro a hs
                      refine wpList_nil ?_
                      repeat first | with_reducible refine in_normal ?_ | with_reducible refine then_normal ?_ | with_reducible refine then_ret ?_ | with_reducible refine in_ret ?_ | with_reducible refine then_exit ?_ | with_reducible refine in_here ?_ | with_reducible refine in_other rfl ?_
                      repeat with_reducible refine wp_seq ?_
                      refine wp_cond_true (hs.ev rfl) ?_
                      repeat with_reducible refine wp_seq ?_
                      refine wp_region_lit ?_
                      refine a_eff rfl (e_callB Try.func17 rfl rfl hs rfl rfl (recouplaw12_anchored.calls true _ Go.Proofs.Ytnojokempdcikaa.PureN.anchored_ok) ?_); clear hs a; intro a w1 hs
                      refine a_val hs rfl rfl rfl (y_assign hs rfl) ?_; clear hs a; intro a hs
                      refine wpList_nil ?_
                      repeat first | with_reducible refine in_normal ?_ | with_reducible refine then_normal ?_ | with_reducible refine then_ret ?_ | with_reducible refine in_ret ?_ | with_reducible refine then_exit ?_ | with_reducible refine in_here ?_ | with_reducible refine in_other rfl ?_
                      repeat with_reducible refine wp_seq ?_
                      refine wp_ret ?_
                      repeat first | with_reducible refine in_normal ?_ | with_reducible refine then_normal ?_ | with_reducible refine then_ret ?_ | with_reducible refine in_ret ?_ | with_reducible refine then_exit ?_ | with_reducible refine in_here ?_ | with_reducible refine in_other rfl ?_
                      refine fin_ret (vs := [.bool true]) hs (.tmp (hs.slots _ _ rfl) .nil) ⟨rfl, hs.mem.base⟩
                    · repeat with_reducible refine wp_seq ?_
                      refine wp_region_lit ?_
                      refine a_val hs rfl rfl rfl (y_move hs rfl) ?_; clear hs a; intro a hs
                      refine a_val hs rfl rfl rfl (y_move hs rfl) ?_; clear hs a; intro a hs
                      refine a_val hs rfl rfl rfl (y_idxB (size := 1) (off := o9 + i) hs Try.underlying34 (by kernel_rfl) rfl rfl (by omega) (by omega) (by simp)) ?_; clear hs a; intro a hs
                      refine a_val hs rfl rfl rfl (y_load hs Try.underlying9 rfl rfl (fun w hw => strs_cell (hw.to 0 rfl) hsi)) ?_; clear hs a; intro a hs
                      refine a_val hs rfl rfl rfl (y_seqB (b := false) hs rfl rfl (seq_ne hz)) ?_; clear hs a; intro a hs
                      refine wpList_nil ?_
                      repeat first | with_reducible refine in_normal ?_ | with_reducible refine then_normal ?_ | with_reducible refine then_ret ?_ | with_reducible refine in_ret ?_ | with_reducible refine then_exit ?_ | with_reducible refine in_here ?_ | with_reducible refine in_other rfl ?_
                      repeat with_reducible refine wp_seq ?_
                      refine wp_cond_false (hs.ev rfl) ?_
                      repeat with_reducible refine wp_seq ?_
                      refine wp_skip ?_
                      repeat first | with_reducible refine in_normal ?_ | with_reducible refine then_normal ?_ | with_reducible refine then_ret ?_ | with_reducible refine in_ret ?_ | with_reducible refine then_exit ?_ | with_reducible refine in_here ?_ | with_reducible refine in_other rfl ?_
                      repeat with_reducible refine wp_seq ?_
                      refine wp_region_lit ?_
                      refine a_val hs rfl rfl rfl (y_move hs rfl) ?_; clear hs a; intro a hs
                      refine a_val hs rfl rfl rfl (y_add hs rfl rfl (by omega)) ?_; clear hs a; intro a hs
                      refine a_val hs rfl rfl rfl (y_assign hs rfl) ?_; clear hs a; intro a hs
                      refine wpList_nil ?_
                      repeat first | with_reducible refine in_normal ?_ | with_reducible refine then_normal ?_ | with_reducible refine then_ret ?_ | with_reducible refine in_ret ?_ | with_reducible refine then_exit ?_ | with_reducible refine in_here ?_ | with_reducible refine in_other rfl ?_
                      refine ⟨m - 1, by omega, i + 1, by omega, fun j u hj hu => (Nat.lt_succ_iff_lt_or_eq.1 hj).elim (fun h => hns j u h hu) (fun h => by subst h; rw [hsi] at hu; injection hu with hu; subst hu; exact hz), ?_⟩
                      exact hs.cut _ ⟨rfl, rfl, rfl, rfl, rfl, rfl, trivial⟩
                  · repeat with_reducible refine wp_seq ?_
                    refine wp_region_lit ?_
                    refine a_val hs rfl rfl rfl (y_move hs rfl) ?_; clear hs a; intro a hs
                    refine a_val hs rfl rfl rfl (y_move hs rfl) ?_; clear hs a; intro a hs
                    refine a_val hs rfl rfl rfl (y_lenL hs Try.underlying34 rfl) ?_; clear hs a; intro a hs
                    refine a_val hs rfl rfl rfl (y_cmp (b := false) hs rfl rfl (congrArg some (decide_eq_false (by omega)))) ?_; clear hs a; intro a hs
                    refine wpList_nil ?_
                    repeat first | with_reducible refine in_normal ?_ | with_reducible refine then_normal ?_ | with_reducible refine then_ret ?_ | with_reducible refine in_ret ?_ | with_reducible refine then_exit ?_ | with_reducible refine in_here ?_ | with_reducible refine in_other rfl ?_
                    repeat with_reducible refine wp_seq ?_
                    refine wp_cond_false (hs.ev rfl) ?_
                    repeat with_reducible refine wp_seq ?_
                    refine wp_exit ?_
                    repeat first | with_reducible refine in_normal ?_ | with_reducible refine then_normal ?_ | with_reducible refine then_ret ?_ | with_reducible refine in_ret ?_ | with_reducible refine then_exit ?_ | with_reducible refine in_here ?_ | with_reducible refine in_other rfl ?_
                    obtain ⟨hrr, hnum⟩ := hok rfl (fun s hs' => by obtain ⟨j, hj⟩ := List.getElem?_of_mem hs'; exact hns j s (by have := (List.getElem?_eq_some_iff.1 hj).1; omega) hj)
                    simp only [Prod.mk.injEq] at hrr
                    obtain ⟨rfl, rfl, rfl, rfl⟩ := hrr
                    repeat with_reducible refine wp_seq ?_
                    refine wp_region_lit ?_
                    refine a_eff rfl (e_callB Try.func17 rfl rfl hs rfl rfl (recouplaw12_anchored.calls true _ Go.Proofs.Ytnojokempdcikaa.PureN.anchored_ok) ?_); clear hs a; intro a w1 hs
                    refine a_val hs rfl rfl rfl (y_move hs rfl) ?_; clear hs a; intro a hs
                    refine a_valG hs rfl rfl rfl (y_move hs rfl) ?_; clear hs a; intro a hs
                    refine a_valG hs rfl rfl rfl (y_move hs rfl) ?_; clear hs a; intro a hs
                    refine a_valG hs rfl rfl rfl (y_cmp (b := true) hs rfl rfl (congrArg some (beq_iff_eq.2 (rfl)))) ?_; clear hs a; intro a hs
                    refine a_val hs rfl rfl rfl (y_pickT hs rfl rfl rfl) ?_; clear hs a; intro a hs
                    refine a_val hs rfl rfl rfl (y_move hs rfl) ?_; clear hs a; intro a hs
                    refine a_valG hs rfl rfl rfl (y_loadPt 1 rfl hs Try.underlying29 rfl (by kernel_rfl) rfl) ?_; clear hs a; intro a hs
                    refine a_valG hs rfl rfl rfl (y_loadPt 2 rfl hs Try.underlying29 rfl (by kernel_rfl) rfl) ?_; clear hs a; intro a hs
                    refine a_valG hs rfl rfl rfl (y_eqAgg (b := true) hs rfl rfl (by kernel_rfl) (by simp [eqVals, valEq])) ?_; clear hs a; intro a hs
                    refine a_val hs rfl rfl rfl (y_pickT hs rfl rfl rfl) ?_; clear hs a; intro a hs
                    refine a_val hs rfl rfl rfl (y_move hs rfl) ?_; clear hs a; intro a hs
                    refine a_valG hs rfl rfl rfl (y_move hs rfl) ?_; clear hs a; intro a hs
                    refine a_effG hs rfl (e_callB Try.func18 rfl rfl hs rfl rfl ((recoupref12_Number.calls _ _ _ (by rw [refNumber, hnum])).mono (by rintro e w1 ⟨rfl, hd⟩; exact ⟨rfl, drawn_below hd⟩)) ?_); clear hs a; intro a w1 hs
                    refine a_val hs rfl rfl rfl (y_pickT hs rfl rfl rfl) ?_; clear hs a; intro a hs
                    refine a_val hs rfl rfl rfl (y_assign hs rfl) ?_; clear hs a; intro a hs
                    refine wpList_nil ?_
                    repeat first | with_reducible refine in_normal ?_ | with_reducible refine then_normal ?_ | with_reducible refine then_ret ?_ | with_reducible refine in_ret ?_ | with_reducible refine then_exit ?_ | with_reducible refine in_here ?_ | with_reducible refine in_other rfl ?_
                    repeat with_reducible refine wp_seq ?_
                    refine wp_ret ?_
                    repeat first | with_reducible refine in_normal ?_ | with_reducible refine then_normal ?_ | with_reducible refine then_ret ?_ | with_reducible refine in_ret ?_ | with_reducible refine then_exit ?_ | with_reducible refine in_here ?_ | with_reducible refine in_other rfl ?_
                    refine fin_ret (vs := [.bool true]) hs (.tmp (hs.slots _ _ rfl) .nil) ⟨rfl, hs.mem.base⟩
          · clear hs a; intro gg a w hs
            refine ⟨((hs.mem.to 2 rfl).first 1), ?_⟩
            refine b_eff 3 (by kernel_rfl) rfl #[true, true, true, true, false, false, false, false, false, true, false, false] rfl hs rfl (e_bslice (z := .agg #[.string ⟨#[]⟩, .int .i64 0]) (size := 2) (zc := #[.string ⟨#[]⟩, .int .i64 0]) (cl := [_, _]) hs rfl Try.underlying26 (by kernel_rfl) rfl rfl rfl (by kernel_rfl) (by rfl) rfl ?_); clear hs a; intro gn a w hs
            refine ⟨((hs.mem.to 3 rfl).first 1), ?_⟩
            refine b_eff 4 (by kernel_rfl) rfl #[true, true, true, true, true, false, false, false, false, true, false, false] rfl hs rfl (e_append2 (z := .agg #[.string ⟨#[]⟩, .int .i64 0]) (size := 2) (bytes := 24) 2 rfl 0 rfl hs rfl Try.underlying26 (by kernel_rfl) rfl rfl rfl rfl (news := [.string Go.Proofs.Ytnojokempdcikaa.PureT.zz, .int .i64 3]) rfl rfl rfl (by unfold maxLen; omega) (by omega) ?_); clear hs a; intro A6 c6 a w1 hs
            refine ⟨((hs.mem.to 3 rfl).first 1), ?_⟩
            refine b_eff 5 (by kernel_rfl) rfl #[true, true, true, true, true, true, false, false, false, true, false, false] rfl hs rfl (e_callB Try.func8 rfl rfl hs rfl rfl (eval_two x.f0 x.f1 x.f2 A3 c3 x.f3 x.f4 x.f5 A6 c6 l q1 q2 q3 q4 v0 _ (Kd.C_below hx3 hs.mem.base) hc3 (hs.mem.to 0 rfl).bothL hl he2) ?_); clear hs a; intro a w1 hs
            refine ⟨((hs.mem.to 3 rfl).first 1), ?_⟩
            refine b_take 6 rfl #[true, true, true, true, true, true, true, false, false, true, false, false] rfl (by kernel_rfl) hs (((hs.mem.to 3 rfl).first 1)) rfl rfl rfl (fun _ _ _ h => h) (y_move hs rfl) ?_; clear hs a; intro a hs
            refine b_take 7 rfl #[true, true, true, true, true, true, true, true, false, true, false, false] rfl (by kernel_rfl) hs (((hs.mem.to 3 rfl).first 1)) rfl rfl rfl (fun _ _ _ h => h) (y_extract hs rfl rfl) ?_; clear hs a; intro a hs
            refine b_take 8 rfl #[true, true, true, true, true, true, true, true, true, true, false, false] rfl (by kernel_rfl) hs (((hs.mem.to 3 rfl).first 1)) rfl rfl rfl (fun _ _ _ h => h) (y_extract hs rfl rfl) ?_; clear hs a; intro a hs
            refine b_take 10 rfl #[true, true, true, true, true, true, true, true, true, true, true, false] rfl (by kernel_rfl) hs (((hs.mem.to 3 rfl).first 1)) rfl rfl rfl (fun _ _ _ h => h) (y_assign hs rfl) ?_; clear hs a; intro a hs
            refine b_eff 11 (by kernel_rfl) rfl #[true, true, true, true, true, true, true, true, true, true, true, true] rfl hs rfl (e_store (cl := [_, _, _]) 2 rfl hs rfl rfl (by kernel_rfl) rfl rfl rfl ?_); clear hs a; intro a w hs
            refine ⟨((hs.mem.to 3 rfl).first 1), ?_⟩
            refine b_done (by kernel_rfl) ?_
            repeat first | with_reducible refine in_normal ?_ | with_reducible refine then_normal ?_ | with_reducible refine then_ret ?_ | with_reducible refine in_ret ?_ | with_reducible refine then_exit ?_ | with_reducible refine in_here ?_ | with_reducible refine in_other rfl ?_
            replace hs := hs.mem_to (hs.mem.to 1 rfl).bothR
            repeat with_reducible refine wp_seq ?_
            refine wp_region_lit ?_
            refine a_val hs rfl rfl rfl (y_move hs rfl) ?_; clear hs a; intro a hs
            refine a_val hs rfl rfl rfl (y_struct (zc := #[.string ⟨#[]⟩, .int .i64 0]) (pl := [(0, 1), (1, 1)]) (cl := [_, .int .i64 0]) hs (by kernel_rfl) rfl (by rfl) rfl) ?_; clear hs a; intro a hs
            refine a_eff rfl (e_bslice (z := .agg #[.string ⟨#[]⟩, .int .i64 0]) (size := 2) (zc := #[.string ⟨#[]⟩, .int .i64 0]) (cl := [_, _]) hs rfl Try.underlying26 (by kernel_rfl) rfl rfl rfl (by kernel_rfl) (by rfl) rfl ?_); clear hs a; intro gn a w hs
            refine a_eff rfl (e_append (z := .agg #[.string ⟨#[]⟩, .int .i64 0]) (size := 2) (bytes := 24) 1 rfl 0 rfl hs rfl Try.underlying26 (by kernel_rfl) rfl rfl rfl rfl (news := [.string Go.Proofs.Ytnojokempdcikaa.PureT.zz, .int .i64 0]) rfl rfl rfl (by unfold maxLen; omega) (by omega) ?_); clear hs a; intro A7 c7 a w1 hs
            refine a_eff rfl (e_callB Try.func20 rfl rfl hs rfl rfl (mayenv_three k A7 c7 l b3 v0 _ (hs.mem.to 0 rfl) hl hb3) ?_); clear hs a; intro a w1 hs
            refine a_val hs rfl rfl rfl (y_not hs rfl) ?_; clear hs a; intro a hs
            refine wpList_nil ?_
            repeat first | with_reducible refine in_normal ?_ | with_reducible refine then_normal ?_ | with_reducible refine then_ret ?_ | with_reducible refine in_ret ?_ | with_reducible refine then_exit ?_ | with_reducible refine in_here ?_ | with_reducible refine in_other rfl ?_
            cases b3 with
            | false =>
              have h2 : q2 = 2 := hbad3 rfl
              repeat with_reducible refine wp_seq ?_
              refine wp_cond_true (hs.ev rfl) ?_
              repeat with_reducible refine wp_seq ?_
              refine wp_region_lit ?_
              refine a_eff rfl (e_callB Try.func17 rfl rfl hs rfl rfl (recouplaw12_anchored.calls true _ Go.Proofs.Ytnojokempdcikaa.PureN.anchored_ok) ?_); clear hs a; intro a w1 hs
              refine a_val hs rfl rfl rfl (y_move hs rfl) ?_; clear hs a; intro a hs
              refine a_valG hs rfl rfl rfl (y_faddr (k' := 0) 0 hs (by kernel_rfl) rfl rfl) ?_; clear hs a; intro a hs
              refine a_valG hs rfl rfl rfl (y_load hs Try.underlying27 rfl rfl (fun w hw => (hw.to 2 rfl).cellV rfl)) ?_; clear hs a; intro a hs
              refine a_valG hs rfl rfl rfl (y_cmp (b := true) hs rfl rfl (congrArg some (beq_iff_eq.2 (h2)))) ?_; clear hs a; intro a hs
              refine a_val hs rfl rfl rfl (y_pickT hs rfl rfl rfl) ?_; clear hs a; intro a hs
              refine a_val hs rfl rfl rfl (y_assign hs rfl) ?_; clear hs a; intro a hs
              refine wpList_nil ?_
              repeat first | with_reducible refine in_normal ?_ | with_reducible refine then_normal ?_ | with_reducible refine then_ret ?_ | with_reducible refine in_ret ?_ | with_reducible refine then_exit ?_ | with_reducible refine in_here ?_ | with_reducible refine in_other rfl ?_
              repeat with_reducible refine wp_seq ?_
              refine wp_ret ?_
              repeat first | with_reducible refine in_normal ?_ | with_reducible refine then_normal ?_ | with_reducible refine then_ret ?_ | with_reducible refine in_ret ?_ | with_reducible refine then_exit ?_ | with_reducible refine in_here ?_ | with_reducible refine in_other rfl ?_
              refine fin_ret (vs := [.bool true]) hs (.tmp (hs.slots _ _ rfl) .nil) ⟨rfl, hs.mem.base⟩
            | true =>
              repeat with_reducible refine wp_seq ?_
              refine wp_cond_false (hs.ev rfl) ?_
              repeat with_reducible refine wp_seq ?_
              refine wp_skip ?_
              repeat first | with_reducible refine in_normal ?_ | with_reducible refine then_normal ?_ | with_reducible refine then_ret ?_ | with_reducible refine in_ret ?_ | with_reducible refine then_exit ?_ | with_reducible refine in_here ?_ | with_reducible refine in_other rfl ?_
              repeat with_reducible refine wp_seq ?_
              refine wp_region_lit ?_
              refine a_val hs rfl rfl rfl (y_loadPt 4 rfl hs Try.underlying25 rfl (by kernel_rfl) rfl) ?_; clear hs a; intro a hs
              refine a_eff rfl (e_callX Try.func11 rfl rfl hs rfl rfl (recoupref12_Names.calls k x.f0 x.f1 x.f2 A3 c3 x.f3 x.f4 x.f5 nl 0 _ (Kd.C_below hx3 hs.mem.base) hc3 hnm) (fun e w1 ⟨v, he, hR, hbl⟩ => ⟨_, he, _, hs.mem.addStrs hbl hR, ?_⟩)); clear hs a; intro a hs
              refine a_val hs rfl rfl rfl (y_move hs rfl) ?_; clear hs a; intro a hs
              refine a_val hs rfl rfl rfl (y_extract hs rfl rfl) ?_; clear hs a; intro a hs
              refine a_val hs rfl rfl rfl (y_extract hs rfl rfl) ?_; clear hs a; intro a hs
              refine a_val hs rfl rfl rfl (y_assign hs rfl) ?_; clear hs a; intro a hs
              refine a_val hs rfl rfl rfl (y_assign hs rfl) ?_; clear hs a; intro a hs
              refine wpList_nil ?_
              repeat first | with_reducible refine in_normal ?_ | with_reducible refine then_normal ?_ | with_reducible refine then_ret ?_ | with_reducible refine in_ret ?_ | with_reducible refine then_exit ?_ | with_reducible refine in_here ?_ | with_reducible refine in_other rfl ?_
              obtain ⟨A8, c8, rfl, _⟩ := ((hs.mem.to 0 rfl).own _ (.head _)).1
              repeat with_reducible refine wp_seq ?_
              refine wp_region_lit ?_
              refine a_val hs rfl rfl rfl (y_assign hs rfl) ?_; clear hs a; intro a hs
              refine wpList_nil ?_
              repeat first | with_reducible refine in_normal ?_ | with_reducible refine then_normal ?_ | with_reducible refine then_ret ?_ | with_reducible refine in_ret ?_ | with_reducible refine then_exit ?_ | with_reducible refine in_here ?_ | with_reducible refine in_other rfl ?_
              repeat with_reducible refine wp_seq ?_
              refine wp_block ?_
              refine wp_loopN (fun m a w1 => ∃ i : Nat, i + m = nl.length ∧ (∀ j s, j < i → nl[j]? = some s → s ≠ Go.Proofs.Ytnojokempdcikaa.PureT.zz) ∧ St 101 v0 [(5, .int .i64 r1), (6, .pointer (some ⟨gf, 0, none⟩)), (9, .int .i64 q1), (10, .pointer (some ⟨gg, 0, none⟩)), (11, .slice A8 nl.length c8), (13, .int .i64 ((i : Nat) : Int))] [strs (.slice A8 nl.length c8) nl, pt gf #[.int .i64 r2, .int .i64 r3, .int .i64 r4] 29, pt gg #[.int .i64 q2, .int .i64 q3, .int .i64 q4] 29] a w1) nl.length ⟨0, by omega, fun j s hj => absurd hj (by omega), ?_⟩ (fun m a w1 hJ => ?_)
              · exact (hs.mem_to (((((((hs.mem.to 1 rfl).drop.to 1 rfl).drop.to 2 rfl).drop.to 2 rfl).drop.to 1 rfl).to 2 rfl).to 2 rfl)).cut _ ⟨rfl, rfl, rfl, rfl, rfl, rfl, trivial⟩
              · clear hs
                obtain ⟨i, hi, hns, hs⟩ := hJ
                by_cases hlt : i < nl.length
                · repeat with_reducible refine wp_seq ?_
                  refine wp_region_lit ?_
                  refine a_val hs rfl rfl rfl (y_move hs rfl) ?_; clear hs a; intro a hs
                  refine a_val hs rfl rfl rfl (y_move hs rfl) ?_; clear hs a; intro a hs
                  refine a_val hs rfl rfl rfl (y_lenL hs Try.underlying34 rfl) ?_; clear hs a; intro a hs
                  refine a_val hs rfl rfl rfl (y_cmp (b := true) hs rfl rfl (congrArg some (decide_eq_true (by omega)))) ?_; clear hs a; intro a hs
                  refine wpList_nil ?_
                  repeat first | with_reducible refine in_normal ?_ | with_reducible refine then_normal ?_ | with_reducible refine then_ret ?_ | with_reducible refine in_ret ?_ | with_reducible refine then_exit ?_ | with_reducible refine in_here ?_ | with_reducible refine in_other rfl ?_
                  repeat with_reducible refine wp_seq ?_
                  refine wp_cond_true (hs.ev rfl) ?_
                  repeat with_reducible refine wp_seq ?_
                  refine wp_skip ?_
                  repeat first | with_reducible refine in_normal ?_ | with_reducible refine then_normal ?_ | with_reducible refine then_ret ?_ | with_reducible refine in_ret ?_ | with_reducible refine then_exit ?_ | with_reducible refine in_here ?_ | with_reducible refine in_other rfl ?_
                  obtain ⟨s, hsi⟩ : ∃ s, nl[i]? = some s := ⟨_, List.getElem?_eq_getElem hlt⟩
                  obtain ⟨g9, o9, rfl⟩ := strs_addr hs.mem (by omega)
                  repeat with_reducible refine wp_seq ?_
                  refine wp_block ?_
                  by_cases hz : s = Go.Proofs.Ytnojokempdcikaa.PureT.zz
                  · repeat with_reducible refine wp_seq ?_
                    refine wp_region_lit ?_
                    refine a_val hs rfl rfl rfl (y_move hs rfl) ?_; clear hs a; intro a hs
                    refine a_val hs rfl rfl rfl (y_move hs rfl) ?_; clear hs a; intro a hs
                    refine a_val hs rfl rfl rfl (y_idxB (size := 1) (off := o9 + i) hs Try.underlying34 (by kernel_rfl) rfl rfl (by omega) (by omega) (by simp)) ?_; clear hs a; intro a hs
                    refine a_val hs rfl rfl rfl (y_load hs Try.underlying9 rfl rfl (fun w hw => strs_cell (hw.to 0 rfl) hsi)) ?_; clear hs a; intro a hs
                    refine a_val hs rfl rfl rfl (y_seqB (b := true) hs rfl rfl (by rw [hz]; decide +kernel)) ?_; clear hs a; intro a hs
                    refine wpList_nil ?_
                    repeat first | with_reducible refine in_normal ?_ | with_reducible refine then_normal ?_ | with_reducible refine then_ret ?_ | with_reducible refine in_ret ?_ | with_reducible refine then_exit ?_ | with_reducible refine in_here ?_ | with_reducible refine in_other rfl ?_
                    repeat with_reducible refine wp_seq ?_
                    refine wp_cond_true (hs.ev rfl) ?_
                    repeat with_reducible refine wp_seq ?_
                    refine wp_region_lit ?_
                    refine a_eff rfl (e_callB Try.func17 rfl rfl hs rfl rfl (recouplaw12_anchored.calls true _ Go.Proofs.Ytnojokempdcikaa.PureN.anchored_ok) ?_); clear hs a; intro a w1 hs
                    refine a_val hs rfl rfl rfl (y_assign hs rfl) ?_; clear hs a; intro a hs
                    refine wpList_nil ?_
                    repeat first | with_reducible refine in_normal ?_ | with_reducible refine then_normal ?_ | with_reducible refine then_ret ?_ | with_reducible refine in_ret ?_ | with_reducible refine then_exit ?_ | with_reducible refine in_here ?_ | with_reducible refine in_other rfl ?_
                    repeat with_reducible refine wp_seq ?_
                    refine wp_ret ?_
                    repeat first | with_reducible refine in_normal ?_ | with_reducible refine then_normal ?_ | with_reducible refine then_ret ?_ | with_reducible refine in_ret ?_ | with_reducible refine then_exit ?_ | with_reducible refine in_here ?_ | with_reducible refine in_other rfl ?_
                    refine fin_ret (vs := [.bool true]) hs (.tmp (hs.slots _ _ rfl) .nil) ⟨rfl, hs.mem.base⟩
                  · repeat with_reducible refine wp_seq ?_
                    refine wp_region_lit ?_
                    refine a_val hs rfl rfl rfl (y_move hs rfl) ?_; clear hs a; intro a hs
                    refine a_val hs rfl rfl rfl (y_move hs rfl) ?_; clear hs a; intro a hs
                    refine a_val hs rfl rfl rfl (y_idxB (size := 1) (off := o9 + i) hs Try.underlying34 (by kernel_rfl) rfl rfl (by omega) (by omega) (by simp)) ?_; clear hs a; intro a hs
                    refine a_val hs rfl rfl rfl (y_load hs Try.underlying9 rfl rfl (fun w hw => strs_cell (hw.to 0 rfl) hsi)) ?_; clear hs a; intro a hs
                    refine a_val hs rfl rfl rfl (y_seqB (b := false) hs rfl rfl (seq_ne hz)) ?_; clear hs a; intro a hs
                    refine wpList_nil ?_
                    repeat first | with_reducible refine in_normal ?_ | with_reducible refine then_normal ?_ | with_reducible refine then_ret ?_ | with_reducible refine in_ret ?_ | with_reducible refine then_exit ?_ | with_reducible refine in_here ?_ | with_reducible refine in_other rfl ?_
                    repeat with_reducible refine wp_seq ?_
                    refine wp_cond_false (hs.ev rfl) ?_
                    repeat with_reducible refine wp_seq ?_
                    refine wp_skip ?_
                    repeat first | with_reducible refine in_normal ?_ | with_reducible refine then_normal ?_ | with_reducible refine then_ret ?_ | with_reducible refine in_ret ?_ | with_reducible refine then_exit ?_ | with_reducible refine in_here ?_ | with_reducible refine in_other rfl ?_
                    repeat with_reducible refine wp_seq ?_
                    refine wp_region_lit ?_
                    refine a_val hs rfl rfl rfl (y_move hs rfl) ?_; clear hs a; intro a hs
                    refine a_val hs rfl rfl rfl (y_add hs rfl rfl (by omega)) ?_; clear hs a; intro a hs
                    refine a_val hs rfl rfl rfl (y_assign hs rfl) ?_; clear hs a; intro a hs
                    refine wpList_nil ?_
                    repeat first | with_reducible refine in_normal ?_ | with_reducible refine then_normal ?_ | with_reducible refine then_ret ?_ | with_reducible refine in_ret ?_ | with_reducible refine then_exit ?_ | with_reducible refine in_here ?_ | with_reducible refine in_other rfl ?_
                    refine ⟨m - 1, by omega, i + 1, by omega, fun j u hj hu => (Nat.lt_succ_iff_lt_or_eq.1 hj).elim (fun h => hns j u h hu) (fun h => by subst h; rw [hsi] at hu; injection hu with hu; subst hu; exact hz), ?_⟩
                    exact hs.cut _ ⟨rfl, rfl, rfl, rfl, rfl, rfl, trivial⟩
                · repeat with_reducible refine wp_seq ?_
                  refine wp_region_lit ?_
                  refine a_val hs rfl rfl rfl (y_move hs rfl) ?_; clear hs a; intro a hs
                  refine a_val hs rfl rfl rfl (y_move hs rfl) ?_; clear hs a; intro a hs
                  refine a_val hs rfl rfl rfl (y_lenL hs Try.underlying34 rfl) ?_; clear hs a; intro a hs
                  refine a_val hs rfl rfl rfl (y_cmp (b := false) hs rfl rfl (congrArg some (decide_eq_false (by omega)))) ?_; clear hs a; intro a hs
                  refine wpList_nil ?_
                  repeat first | with_reducible refine in_normal ?_ | with_reducible refine then_normal ?_ | with_reducible refine then_ret ?_ | with_reducible refine in_ret ?_ | with_reducible refine then_exit ?_ | with_reducible refine in_here ?_ | with_reducible refine in_other rfl ?_
                  repeat with_reducible refine wp_seq ?_
                  refine wp_cond_false (hs.ev rfl) ?_
                  repeat with_reducible refine wp_seq ?_
                  refine wp_exit ?_
                  repeat first | with_reducible refine in_normal ?_ | with_reducible refine then_normal ?_ | with_reducible refine then_ret ?_ | with_reducible refine in_ret ?_ | with_reducible refine then_exit ?_ | with_reducible refine in_here ?_ | with_reducible refine in_other rfl ?_
                  obtain ⟨hrr, hnum⟩ := hok rfl (fun s hs' => by obtain ⟨j, hj⟩ := List.getElem?_of_mem hs'; exact hns j s (by have := (List.getElem?_eq_some_iff.1 hj).1; omega) hj)
                  simp only [Prod.mk.injEq] at hrr
                  obtain ⟨rfl, rfl, rfl, rfl⟩ := hrr
                  repeat with_reducible refine wp_seq ?_
                  refine wp_region_lit ?_
                  refine a_eff rfl (e_callB Try.func17 rfl rfl hs rfl rfl (recouplaw12_anchored.calls true _ Go.Proofs.Ytnojokempdcikaa.PureN.anchored_ok) ?_); clear hs a; intro a w1 hs
                  refine a_val hs rfl rfl rfl (y_move hs rfl) ?_; clear hs a; intro a hs
                  refine a_valG hs rfl rfl rfl (y_move hs rfl) ?_; clear hs a; intro a hs
                  refine a_valG hs rfl rfl rfl (y_move hs rfl) ?_; clear hs a; intro a hs
                  refine a_valG hs rfl rfl rfl (y_cmp (b := true) hs rfl rfl (congrArg some (beq_iff_eq.2 (rfl)))) ?_; clear hs a; intro a hs
                  refine a_val hs rfl rfl rfl (y_pickT hs rfl rfl rfl) ?_; clear hs a; intro a hs
                  refine a_val hs rfl rfl rfl (y_move hs rfl) ?_; clear hs a; intro a hs
                  refine a_valG hs rfl rfl rfl (y_loadPt 1 rfl hs Try.underlying29 rfl (by kernel_rfl) rfl) ?_; clear hs a; intro a hs
                  refine a_valG hs rfl rfl rfl (y_loadPt 2 rfl hs Try.underlying29 rfl (by kernel_rfl) rfl) ?_; clear hs a; intro a hs
                  refine a_valG hs rfl rfl rfl (y_eqAgg (b := true) hs rfl rfl (by kernel_rfl) (by simp [eqVals, valEq])) ?_; clear hs a; intro a hs
                  refine a_val hs rfl rfl rfl (y_pickT hs rfl rfl rfl) ?_; clear hs a; intro a hs
                  refine a_val hs rfl rfl rfl (y_move hs rfl) ?_; clear hs a; intro a hs
                  refine a_valG hs rfl rfl rfl (y_move hs rfl) ?_; clear hs a; intro a hs
                  refine a_effG hs rfl (e_callB Try.func18 rfl rfl hs rfl rfl ((recoupref12_Number.calls _ _ _ (by rw [refNumber, hnum])).mono (by rintro e w1 ⟨rfl, hd⟩; exact ⟨rfl, drawn_below hd⟩)) ?_); clear hs a; intro a w1 hs
                  refine a_val hs rfl rfl rfl (y_pickT hs rfl rfl rfl) ?_; clear hs a; intro a hs
                  refine a_val hs rfl rfl rfl (y_assign hs rfl) ?_; clear hs a; intro a hs
                  refine wpList_nil ?_
                  repeat first | with_reducible refine in_normal ?_ | with_reducible refine then_normal ?_ | with_reducible refine then_ret ?_ | with_reducible refine in_ret ?_ | with_reducible refine then_exit ?_ | with_reducible refine in_here ?_ | with_reducible refine in_other rfl ?_
                  repeat with_reducible refine wp_seq ?_
                  refine wp_ret ?_
                  repeat first | with_reducible refine in_normal ?_ | with_reducible refine then_normal ?_ | with_reducible refine then_ret ?_ | with_reducible refine in_ret ?_ | with_reducible refine then_exit ?_ | with_reducible refine in_here ?_ | with_reducible refine in_other rfl ?_
                  refine fin_ret (vs := [.bool true]) hs (.tmp (hs.slots _ _ rfl) .nil) ⟨rfl, hs.mem.base⟩
end Go.Proofs.Ytnojokempdcikaa.E
