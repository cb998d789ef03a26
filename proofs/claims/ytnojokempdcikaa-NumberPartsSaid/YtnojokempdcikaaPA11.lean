/- Printed by a program of this repo over the kit's printer: functions of the given program as plain Lean functions, each with the proof that the call does what it says. -/
import Derived.Test.YtnojokempdcikaaPA0
import Derived.Test.YtnojokempdcikaaPA9
import Derived.Test.YtnojokempdcikaaPA10
import Derived.Deep.WholeRow
import Derived.Laws.Tables
import Derived.Maps.Own
import Derived.Maps.OwnOps
import Derived.Maps.OwnSet
import Derived.Maps.Views
namespace Go.Proofs.Ytnojokempdcikaa.PA
open Go.RowKit Go.Proofs.YtnojokempdcikaaW.PrintWords Go.Proofs.YtnojokempdcikaaW.PrintLast Go.Proofs.YtnojokempdcikaaW.PrintMore
attribute [local go_sem] max2_int min2_int max_two min_two max_three min_three max_four min_four   -- for this text's walks alone
set_option linter.unusedVariables false
set_option linter.unusedSimpArgs false

/-! ### number_known: function 22 -/
--OWNPART Derived.Deep.WholeRow Derived.Laws.Tables Derived.Maps.Own Derived.Maps.OwnOps Derived.Maps.OwnSet Derived.Maps.Views
open Go.RowKit Go.Maps
/-- A whole value put into a block: some world in which the block holds it, and all others what they held. -/
theorem xstore_row {P : Program} {ops : Array Oper} {rest : List Oper} {o : Oper} {a : Act} {w : World} {Q : Exit → Act → World → Prop} (hgd : o.guard = none) (ty : TypeId) (x y : Operand) (ho : o.op = .store ty x y)
    (g : Nat) (cells : Array Value) (hx : a.eval x = .pointer (some ⟨g, 0, none⟩)) (hy : a.eval y = .agg cells)
    (t : TypeId) (old : Array Value) (hg : w.heap[g]? = some (.cells old t (0, 0))) (hi : (P.info? ty).map (·.size) = some cells.size)
    (hold : old.size = cells.size) (h1 : cells.all (·.oneCell') = true)
    (h : ∀ w', w'.heap[g]? = some (.cells cells t (0, 0)) → w.grownBy w' (some g) → (∀ b w0, Below b w0 w → b ≤ g → Below b w0 w') → wpList P ops Q rest (a.put o.dst undef) w') : wpList P ops Q (o :: rest) a w :=
  wpList_store_row hgd ty x y ho g cells hx hy t old hg hi hold h1 (h _ (setRow_heap _ _ _ _ _ _ hg) ⟨rfl, rfl, rfl, by simp, fun k hk hne => setRow_other _ _ _ _ (fun e => hne (by rw [e]))⟩
    (fun b w0 hb hbg => hb.trans ⟨rfl, rfl, rfl, by simp, fun k hk => setRow_other w g k cells (by omega)⟩))
/-- Block g is a map of at most n entries that holds F. -/
def envIs (w : World) (g n : Nat) (F : ByteArray → Option Int) : Prop :=
  ∃ D : DataW Unit, w.ownsMap Try.prog 9 (plainElem Try.prog 3) g n D ∧ ∀ s : ByteArray, Maps.has D (.string s.data.toList) = (F s).isSome ∧ ∀ v, F s = some v → D.atKey (.string s.data.toList) (.lit (.int .i64 0)) = .lit (.int .i64 v)
theorem zeroInt (w : World) : (zeroValue 3).run Try.prog w = .ok (.int .i64 0) w := by kernel_rfl
theorem envIs_made (w : World) : envIs (w.alloc (.map #[] 0)) w.heap.size 0 (fun _ => none) :=
  ⟨.map [], World.ownsMap_made _ _ _ _, fun _ => ⟨rfl, fun _ h => by cases h⟩⟩
theorem envIs.kept {w w' : World} {g n : Nat} {F : ByteArray → Option Int} {row : Option Nat} (h : envIs w g n F) (hg : w.grownBy w' row) (hne : some g ≠ row) : envIs w' g n F := by
  obtain ⟨D, h1, h2⟩ := h
  exact ⟨D, h1.kept hg hne, h2⟩
theorem envIs.setCell {w : World} {g n : Nat} {F : ByteArray → Option Int} (h : envIs w g n F) {a : Addr} (ha : g ≠ a.block) (v : Value) : envIs (w.setCell a v) g n F := by
  obtain ⟨D, h1, h2⟩ := h
  exact ⟨D, h1.setCell ha v, h2⟩
theorem envIs.lt {w : World} {g n : Nat} {F : ByteArray → Option Int} (h : envIs w g n F) : g < w.heap.size := by
  obtain ⟨D, h1, _⟩ := h
  exact h1.lt
theorem envIs.below {w w' : World} {g n : Nat} {F : ByteArray → Option Int} (h : envIs w g n F) (hb : Below w.heap.size w w') : envIs w' g n F := h.kept (grown_of_below hb none) (by simp)
theorem xmap_look {w : World} {ops : Array Oper} {rest : List Oper} {o : Oper} {a : Act} {Q : Exit → Act → World → Prop}
    (hg : o.guard = none) (m x : Operand) (hop : o.op = Op.lookup 57 m x true) {b n : Nat} {F : ByteArray → Option Int} (hm : a.eval m = .map (some b)) (henv : envIs w b n F) (s : ByteArray) (hx : a.eval x = .string s) (hs : s.size ≤ 9223372036854775807)
    (hK : wpList Try.prog ops Q rest (a.put o.dst (.tuple #[.int .i64 ((F s).getD 0), .bool (F s).isSome])) w) : wpList Try.prog ops Q (o :: rest) a w := by
  obtain ⟨D, hown, hF⟩ := henv
  refine wpList_lookup_own_ok_int _ hg m x 57 hop 9 3 .i64 (string_keyed Try.underlying9) Try.underlying57 Try.underlying3 (zeroInt _) b n D hm hown _ _ hx (Go.WideMaps.keyOf_string_mk Try.underlying9 hs) ?_
  intro c hat hwc
  rw [(hF s).1]
  cases hFs : F s with
  | none =>
    have h1 := (hF s).1
    rw [hFs] at h1
    rw [atKey_of_not_has h1] at hat
    injection hat with e; injection e with e1 e2
    subst e2
    rw [hFs] at hK
    exact hK
  | some v =>
    have h1 := (hF s).2 v hFs
    rw [h1] at hat
    injection hat with e; injection e with e1 e2
    subst e2
    rw [hFs] at hK
    exact hK
theorem xmap_look1 {w : World} {ops : Array Oper} {rest : List Oper} {o : Oper} {a : Act} {Q : Exit → Act → World → Prop}
    (hg : o.guard = none) (m x : Operand) (hop : o.op = Op.lookup 57 m x false) {b n : Nat} {F : ByteArray → Option Int} (hm : a.eval m = .map (some b)) (henv : envIs w b n F) (s : ByteArray) (hx : a.eval x = .string s) (hs : s.size ≤ 9223372036854775807)
    (hK : wpList Try.prog ops Q rest (a.put o.dst (.int .i64 ((F s).getD 0))) w) : wpList Try.prog ops Q (o :: rest) a w := by
  obtain ⟨D, hown, hF⟩ := henv
  refine wpList_lookup_own_int _ hg m x 57 hop 9 3 .i64 (string_keyed Try.underlying9) Try.underlying57 Try.underlying3 (zeroInt _) b n D hm hown _ _ hx (Go.WideMaps.keyOf_string_mk Try.underlying9 hs) ?_
  intro c hat hwc
  cases hFs : F s with
  | none =>
    have h1 := (hF s).1
    rw [hFs] at h1
    rw [atKey_of_not_has h1] at hat
    injection hat with e; injection e with e1 e2
    subst e2
    rw [hFs] at hK
    exact hK
  | some v =>
    have h1 := (hF s).2 v hFs
    rw [h1] at hat
    injection hat with e; injection e with e1 e2
    subst e2
    rw [hFs] at hK
    exact hK
def envPut (F : ByteArray → Option Int) (s : ByteArray) (v : Int) : ByteArray → Option Int := fun s' => if s'.data.toList = s.data.toList then some v else F s'
theorem xmap_put {w : World} {ops : Array Oper} {rest : List Oper} {o : Oper} {a : Act} {Q : Exit → Act → World → Prop}
    (hg : o.guard = none) (m x y : Operand) (hop : o.op = Op.mapUpdate 57 m x y) {b n : Nat} {F : ByteArray → Option Int} (hm : a.eval m = .map (some b)) (henv : envIs w b n F) (hn : n < 9223372036854775807) (s : ByteArray) (v : Int) (hx : a.eval x = .string s) (hy : a.eval y = .int .i64 v) (hs : s.size ≤ 9223372036854775807) (hv : (Lit.int .i64 v).wf = true)
    (hK : ∀ w', envIs w' b (n + 1) (envPut F s v) → w.grownBy w' (some b) → wpList Try.prog ops Q rest (a.put o.dst undef) w') : wpList Try.prog ops Q (o :: rest) a w := by
  obtain ⟨D, hown, hF⟩ := henv
  refine wpList_mapUpdate_own _ hg m x y 57 hop 9 3 (string_keyed Try.underlying9) Try.underlying57 (plainElem Try.prog 3) b n D hm hown hn _ _ _ hx hy (Go.WideMaps.keyOf_string_mk Try.underlying9 hs) (.lit (.int .i64 v)) [] (plainElem_int Try.underlying3 hv) ?_
  intro w' h1 h2
  refine hK w' ⟨_, h1, fun s' => ?_⟩ h2
  unfold envPut
  by_cases e : s'.data.toList = s.data.toList
  · rw [if_pos e, e]
    exact ⟨has_put_same (k := .string s.data.toList) hown.isMap trivial _, fun v' hv' => by cases hv'; exact atKey_put_same (k := .string s.data.toList) hown.isMap trivial _ _⟩
  · rw [if_neg e]
    have hne : Lit.string s'.data.toList ≠ Lit.string s.data.toList := fun h => e (by injection h)
    rw [has_put_other hne]
    exact ⟨(hF s').1, fun v' hv' => by rw [atKey_put_other hne]; exact (hF s').2 v' hv'⟩
/-- What an environment says of a name. -/
def envGet : List S54 → ByteArray → Option Int
  | [], _ => none
  | c :: l, s => if s.data.toList = c.f0.data.toList then some c.f1 else envGet l s
/-- May the environment be? (seen: what was put already) -/
def knownGo : List S54 → List S54 → Option Bool
  | [], _ => some true
  | c :: l, seen => if c.f0.size ≤ 9223372036854775807 then (if (envGet seen c.f0).isSome then some false else if nameOk c.f0 && numOk c.f1 then knownGo l (seen ++ [c]) else some false) else none
theorem envGet_snoc (c : S54) : ∀ (l : List S54), (envGet l c.f0).isSome = false → envGet (l ++ [c]) = envPut (envGet l) c.f0 c.f1
  | [], _ => by funext s; rfl
  | d :: l, h => by
    funext s
    have hd : ¬ c.f0.data.toList = d.f0.data.toList := by
      intro e
      simp [envGet, e] at h
    have hl : (envGet l c.f0).isSome = false := by
      simp only [envGet, if_neg hd] at h
      exact h
    have ih := congrFun (envGet_snoc c l hl) s
    simp only [List.cons_append, envGet, envPut] at ih ⊢
    by_cases e : s.data.toList = d.f0.data.toList
    · rw [if_pos e, if_pos e, if_neg (fun e2 => hd (e2.symm.trans e))]
    · rw [if_neg e, if_neg e]
      exact ih
/-! the walk -/
theorem constInfo : (Try.prog.info? 54).map (·.size) = some 2 := by kernel_rfl
theorem xone2 (s : ByteArray) (n : Int) : (#[.string s, .int .i64 n] : Array Value).all (·.oneCell') = true := by simp [Value.oneCell']
theorem numOk_wf {n : Int} (h : numOk n = true) : (Lit.int .i64 n).wf = true := by
  unfold numOk at h
  rw [decide_eq_true_iff] at h
  exact WalkArith.wf_i64 ⟨by omega, by omega⟩
theorem xbelow_grown {w w1 w2 : World} {g : Nat} (h : Below w.heap.size w w1) (hg : w1.grownBy w2 (some g)) (hge : w.heap.size ≤ g) : Below w.heap.size w w2 :=
  h.trans ⟨hg.os, hg.tape, hg.output, hg.size, fun k hk => hg.block k (Nat.lt_of_lt_of_le hk h.size) (fun e => by cases e; omega)⟩
theorem isok (n : Int) : number_is.f n = some (numOk n) := by
  unfold number_is.f numOk
  by_cases c : n ≥ -2147483647
  · rw [if_pos c]
    by_cases d : n ≤ 2147483647
    · rw [decide_eq_true d, decide_eq_true (⟨c, d⟩ : -2147483647 ≤ n ∧ n ≤ 2147483647)]
    · rw [decide_eq_false d, decide_eq_false (fun h => d h.2)]
  · rw [if_neg c, decide_eq_false (fun h => c h.1)]
theorem nnamed_ok (s : ByteArray) (hs : s.size ≤ 9223372036854775807) : number_named.f (s.size + 3) s = some (nameOk s) := by
  unfold number_named.f
  rw [may_name s hs]; rfl
theorem rd_drop54 (l : List S54) (i : Nat) (h : i < l.length) : l.drop i = rd_T54 l (i : Int) :: l.drop (i + 1) := by
  rw [List.drop_eq_getElem_cons h]
  unfold rd_T54
  rw [Int.toNat_natCast, List.getD_eq_getElem?_getD, List.getElem?_eq_getElem h]; rfl
theorem rd_take54 (l : List S54) (i : Nat) (h : i < l.length) : l.take (i + 1) = l.take i ++ [rd_T54 l (i : Int)] := by
  rw [List.take_succ_eq_append_getElem h]
  unfold rd_T54
  rw [Int.toNat_natCast, List.getD_eq_getElem?_getD, List.getElem?_eq_getElem h]; rfl
set_option maxHeartbeats 4000000 in
set_option maxRecDepth 100000 in
theorem number_known.walk (A0 : Option Addr) (c0 : Nat) (l0 : List S54) (r : Bool) (w : World) (hr0 : Kd.C k54 w A0 l0.length l0) (hl0 : l0.length ≤ 4611686018427387903) (h : knownGo l0 [] = some r) :
    Calls Try.prog 22 #[.slice A0 l0.length c0] w fun e w' => ∃ m, e = .returned (.tuple #[m, .bool r]) ∧ Below w.heap.size w w' ∧ (r = true → ∃ g, m = .map (some g) ∧ envIs w' g l0.length (envGet l0)) := by
  have HR0 := Aside0.mk hr0
  have HA := Aside0.mk (show knownGo (l0.drop 0) (l0.take 0) = some r from h)
  clear hr0 h
  have hmm := @run_makeMap Try.prog
  have HM := Aside0.mk (envIs_made w)
  have HB := Aside0.mk (below_alloc (Below.refl w.heap.size w) (.map #[] 0))
  obtain ⟨g, hg⟩ : ∃ g, g = w.heap.size := ⟨_, rfl⟩
  have HG := Aside0.mk (show w.heap.size ≤ g by omega)
  go_enter Try.func22, Try.ntmps22
  go_wp2
  rw [← hg] at HM ⊢
  clear hg hmm
  go_loopg [12] l0.length (fun q s12 wx => ∃ i : Nat, i + q = l0.length ∧ s12 = .int .i64 i ∧ Aside0 (Below w.heap.size w wx) ∧ Aside0 (envIs wx g i (envGet (l0.take i))) ∧ Aside0 (knownGo (l0.drop i) (l0.take i) = some r))
  case atStart => exact ⟨0, by omega, rfl, HB, HM, HA⟩
  case round =>
    clear HB HM HA
    obtain ⟨i, hi, rfl, HB, HM, HA⟩ := hrel
    cases gk with
    | zero =>
      obtain rfl : i = l0.length := by omega
      have hA := HA.out
      rw [List.drop_length] at hA
      have hr : true = r := by simpa [knownGo] using hA
      have hM := HM.out
      rw [List.take_length] at hM
      clear HA HM
      have HM := Aside0.mk hM
      clear hM hA
      go_wp2
      go_ret2
      subst hr
      exact ⟨_, rfl, HB.out, fun _ => ⟨g, rfl, HM.out⟩⟩
    | succ q =>
      have hik : i < l0.length := by omega
      have hlt : decide ((i : Int) < (l0.length : Int)) = true := decide_eq_true (by omega)
      have hA := HA.out
      clear HA
      rw [rd_drop54 l0 i hik] at hA
      have htk := rd_take54 l0 i hik
      obtain ⟨ad, e0, hx0, hx1⟩ := at_T54 HR0.out (i : Int) (by omega) (by omega)
      have hsnoc := envGet_snoc (rd_T54 l0 (i : Int)) (l0.take i)
      generalize rd_T54 l0 (i : Int) = c at hA htk hx0 hx1 hsnoc
      obtain ⟨cs, cn⟩ := c
      dsimp only at hA htk hx0 hx1 hsnoc
      subst e0
      rw [Int.toNat_natCast] at hx0 hx1
      replace hx0 := (HB.out.cell (World.block_lt_of_cell? w _ hx0)).trans hx0
      replace hx1 := (HB.out.cell (World.block_lt_of_cell? w _ hx1)).trans hx1
      simp only [knownGo] at hA
      by_cases hsz : cs.size ≤ 9223372036854775807
      · rw [if_pos hsz] at hA
        have hI := isok cn
        have hN := nnamed_ok cs hsz
        cases hT : (envGet (l0.take i) cs).isSome with
        | true =>
          rw [hT, if_pos rfl] at hA
          have hr := Aside0.mk (Option.some.inj hA)
          clear hA
          have HI := Aside0.mk hI; have HN := Aside0.mk hN; have HT := Aside0.mk hT; have HTK := Aside0.mk htk; have HSN := Aside0.mk hsnoc; have HSZ := Aside0.mk hsz; clear hI hN hT htk hsnoc hsz
          go_wp2_with (first | ((with_reducible refine gate_dst (N := 6) rfl ?_); refine box_event ?hg (N := 6) ?hd (cs := #[.string (⟨#[]⟩ : ByteArray), .int .i64 0]) (t := 54) ?hr ?_; (case hd => rfl); (case hg => rfl); (case hr => first | (go_simp; done) | (go_simp; rfl)); intro gb hg w1 hbox hb; have BK := Aside0.mk hbox; have HB1 := Aside0.mk (below_step HB.out hb); have HM1 := Aside0.mk (HM.out.below hb); have GE := Aside0.mk (show w.heap.size ≤ gb from by rw [hg]; exact HB.out.size); have GN := Aside0.mk (show some g ≠ some gb from fun e => by cases e; exact absurd HM.out.lt (by omega)); clear hbox hb hg) | (refine xstore_row rfl 54 _ _ rfl gb #[.string cs, .int .i64 cn] rfl rfl 54 _ BK.out constInfo rfl (xone2 _ _) ?_; intro w2 hbk hgr hbl; have hc0 : w2.cell? ⟨gb, 0, none⟩ = some (.string cs) := (blk_cell hbk 0).trans rfl; have hc1 : w2.cell? ⟨gb, 1, none⟩ = some (.int .i64 cn) := (blk_cell hbk 1).trans rfl; have HB2 := Aside0.mk (hbl _ _ HB1.out GE.out); have HM2 := Aside0.mk (HM1.out.kept hgr GN.out); have BK2 := Aside0.mk hbk; clear hbk hgr hbl) | (at_lookup; refine xmap_look rfl _ _ rfl rfl HM2.out cs rfl HSZ.out ?_; rw [HT.out]))
          go_ret2
          have hr' := hr.out; subst hr'
          exact ⟨_, rfl, HB2.out, fun h => by cases h⟩
        | false =>
          rw [hT, if_neg (by simp)] at hA
          cases hN0 : nameOk cs with
          | false =>
            rw [hN0] at hA hN
            have hr := Aside0.mk (show false = r by simpa using hA)
            clear hA hN0
            have HI := Aside0.mk hI; have HN := Aside0.mk hN; have HT := Aside0.mk hT; have HTK := Aside0.mk htk; have HSN := Aside0.mk hsnoc; have HSZ := Aside0.mk hsz; clear hI hN hT htk hsnoc hsz
            go_wp2_with (first | ((with_reducible refine gate_dst (N := 6) rfl ?_); refine box_event ?hg (N := 6) ?hd (cs := #[.string (⟨#[]⟩ : ByteArray), .int .i64 0]) (t := 54) ?hr ?_; (case hd => rfl); (case hg => rfl); (case hr => first | (go_simp; done) | (go_simp; rfl)); intro gb hg w1 hbox hb; have BK := Aside0.mk hbox; have HB1 := Aside0.mk (below_step HB.out hb); have HM1 := Aside0.mk (HM.out.below hb); have GE := Aside0.mk (show w.heap.size ≤ gb from by rw [hg]; exact HB.out.size); have GN := Aside0.mk (show some g ≠ some gb from fun e => by cases e; exact absurd HM.out.lt (by omega)); clear hbox hb hg) | (refine xstore_row rfl 54 _ _ rfl gb #[.string cs, .int .i64 cn] rfl rfl 54 _ BK.out constInfo rfl (xone2 _ _) ?_; intro w2 hbk hgr hbl; have hc0 : w2.cell? ⟨gb, 0, none⟩ = some (.string cs) := (blk_cell hbk 0).trans rfl; have hc1 : w2.cell? ⟨gb, 1, none⟩ = some (.int .i64 cn) := (blk_cell hbk 1).trans rfl; have HB2 := Aside0.mk (hbl _ _ HB1.out GE.out); have HM2 := Aside0.mk (HM1.out.kept hgr GN.out); have BK2 := Aside0.mk hbk; clear hbk hgr hbl) | (at_lookup; refine xmap_look rfl _ _ rfl rfl HM2.out cs rfl HSZ.out ?_; rw [HT.out]) | (go_at_call 30; refine (number_named.calls (cs.size + 3) cs false _ HN.out).mono ?_; rintro e w3 ⟨rfl, hb⟩; have HB3 := Aside0.mk (below_step HB2.out hb); have HM3 := Aside0.mk (HM2.out.below hb); have BK3 := Aside0.mk (blk_below BK2.out hb); clear hb; have hd0 : w3.cell? ⟨gb, 0, none⟩ = some (.string cs) := (blk_cell BK3.out 0).trans rfl; have hd1 : w3.cell? ⟨gb, 1, none⟩ = some (.int .i64 cn) := (blk_cell BK3.out 1).trans rfl))
            go_ret2
            have hr' := hr.out; subst hr'
            exact ⟨_, rfl, HB3.out, fun h => by cases h⟩
          | true =>
            rw [hN0] at hA hN
            cases hI0 : numOk cn with
            | false =>
              rw [hI0] at hA hI
              have hr := Aside0.mk (show false = r by simpa using hA)
              clear hA hN0 hI0
              have HI := Aside0.mk hI; have HN := Aside0.mk hN; have HT := Aside0.mk hT; have HTK := Aside0.mk htk; have HSN := Aside0.mk hsnoc; have HSZ := Aside0.mk hsz; clear hI hN hT htk hsnoc hsz
              go_wp2_with (first | ((with_reducible refine gate_dst (N := 6) rfl ?_); refine box_event ?hg (N := 6) ?hd (cs := #[.string (⟨#[]⟩ : ByteArray), .int .i64 0]) (t := 54) ?hr ?_; (case hd => rfl); (case hg => rfl); (case hr => first | (go_simp; done) | (go_simp; rfl)); intro gb hg w1 hbox hb; have BK := Aside0.mk hbox; have HB1 := Aside0.mk (below_step HB.out hb); have HM1 := Aside0.mk (HM.out.below hb); have GE := Aside0.mk (show w.heap.size ≤ gb from by rw [hg]; exact HB.out.size); have GN := Aside0.mk (show some g ≠ some gb from fun e => by cases e; exact absurd HM.out.lt (by omega)); clear hbox hb hg) | (refine xstore_row rfl 54 _ _ rfl gb #[.string cs, .int .i64 cn] rfl rfl 54 _ BK.out constInfo rfl (xone2 _ _) ?_; intro w2 hbk hgr hbl; have hc0 : w2.cell? ⟨gb, 0, none⟩ = some (.string cs) := (blk_cell hbk 0).trans rfl; have hc1 : w2.cell? ⟨gb, 1, none⟩ = some (.int .i64 cn) := (blk_cell hbk 1).trans rfl; have HB2 := Aside0.mk (hbl _ _ HB1.out GE.out); have HM2 := Aside0.mk (HM1.out.kept hgr GN.out); have BK2 := Aside0.mk hbk; clear hbk hgr hbl) | (at_lookup; refine xmap_look rfl _ _ rfl rfl HM2.out cs rfl HSZ.out ?_; rw [HT.out]) | (go_at_call 30; refine (number_named.calls (cs.size + 3) cs true _ HN.out).mono ?_; rintro e w3 ⟨rfl, hb⟩; have HB3 := Aside0.mk (below_step HB2.out hb); have HM3 := Aside0.mk (HM2.out.below hb); have BK3 := Aside0.mk (blk_below BK2.out hb); clear hb; have hd0 : w3.cell? ⟨gb, 0, none⟩ = some (.string cs) := (blk_cell BK3.out 0).trans rfl; have hd1 : w3.cell? ⟨gb, 1, none⟩ = some (.int .i64 cn) := (blk_cell BK3.out 1).trans rfl) | (go_at_call 37; refine (number_is.calls cn false _ HI.out).mono ?_; rintro e w4 ⟨rfl, ⟨nd, rfl⟩⟩))
              go_ret2
              have hr' := hr.out; subst hr'
              exact ⟨_, rfl, pw_below_drewN HB3.out nd, fun h => by cases h⟩
            | true =>
              rw [hI0] at hA hI
              have HI0 := Aside0.mk hI0
              have hA2 : knownGo (l0.drop (i + 1)) (l0.take i ++ [⟨cs, cn⟩]) = some r := by simpa using hA
              have HA2 := Aside0.mk hA2
              clear hA hA2 hI0 hN0
              have HI := Aside0.mk hI; have HN := Aside0.mk hN; have HT := Aside0.mk hT; have HTK := Aside0.mk htk; have HSN := Aside0.mk hsnoc; have HSZ := Aside0.mk hsz; clear hI hN hT htk hsnoc hsz
              go_wp2_with (first | ((with_reducible refine gate_dst (N := 6) rfl ?_); refine box_event ?hg (N := 6) ?hd (cs := #[.string (⟨#[]⟩ : ByteArray), .int .i64 0]) (t := 54) ?hr ?_; (case hd => rfl); (case hg => rfl); (case hr => first | (go_simp; done) | (go_simp; rfl)); intro gb hg w1 hbox hb; have BK := Aside0.mk hbox; have HB1 := Aside0.mk (below_step HB.out hb); have HM1 := Aside0.mk (HM.out.below hb); have GE := Aside0.mk (show w.heap.size ≤ gb from by rw [hg]; exact HB.out.size); have GN := Aside0.mk (show some g ≠ some gb from fun e => by cases e; exact absurd HM.out.lt (by omega)); clear hbox hb hg) | (refine xstore_row rfl 54 _ _ rfl gb #[.string cs, .int .i64 cn] rfl rfl 54 _ BK.out constInfo rfl (xone2 _ _) ?_; intro w2 hbk hgr hbl; have hc0 : w2.cell? ⟨gb, 0, none⟩ = some (.string cs) := (blk_cell hbk 0).trans rfl; have hc1 : w2.cell? ⟨gb, 1, none⟩ = some (.int .i64 cn) := (blk_cell hbk 1).trans rfl; have HB2 := Aside0.mk (hbl _ _ HB1.out GE.out); have HM2 := Aside0.mk (HM1.out.kept hgr GN.out); have BK2 := Aside0.mk hbk; clear hbk hgr hbl) | (at_lookup; refine xmap_look rfl _ _ rfl rfl HM2.out cs rfl HSZ.out ?_; rw [HT.out]) | (go_at_call 30; refine (number_named.calls (cs.size + 3) cs true _ HN.out).mono ?_; rintro e w3 ⟨rfl, hb⟩; have HB3 := Aside0.mk (below_step HB2.out hb); have HM3 := Aside0.mk (HM2.out.below hb); have BK3 := Aside0.mk (blk_below BK2.out hb); clear hb; have hd0 : w3.cell? ⟨gb, 0, none⟩ = some (.string cs) := (blk_cell BK3.out 0).trans rfl; have hd1 : w3.cell? ⟨gb, 1, none⟩ = some (.int .i64 cn) := (blk_cell BK3.out 1).trans rfl) | (go_at_call 37; refine (number_is.calls cn true _ HI.out).mono ?_; rintro e w4 ⟨rfl, ⟨nd, rfl⟩⟩) | (at_mapUpdate; refine xmap_put rfl _ _ _ rfl rfl (show envIs _ g i _ from HM3.out) (by omega) cs cn rfl rfl HSZ.out (numOk_wf HI0.out) ?_; intro w5 hm5 hgr5; have HM5 := Aside0.mk hm5; have HB5 := Aside0.mk (xbelow_grown (pw_below_drewN HB3.out nd) hgr5 HG.out); clear hm5 hgr5))
              go_roundg q
              case measure => omega
              case rel =>
                refine ⟨i + 1, by omega, by first | rfl | simp, HB5, ⟨?_⟩, ⟨by rw [HTK.out]; exact HA2.out⟩⟩
                rw [HTK.out, HSN.out HT.out]
                exact HM5.out
      · rw [if_neg hsz] at hA
        exact absurd hA (by simp)

end Go.Proofs.Ytnojokempdcikaa.PA
