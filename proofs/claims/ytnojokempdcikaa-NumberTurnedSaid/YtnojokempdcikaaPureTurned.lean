/-
  What an expression comes to hangs neither on the environment's order nor on names that it does not use.
-/
import Derived.Test.YtnojokempdcikaaRefNum
import Derived.Test.YtnojokempdcikaaPAM2
namespace Go.Proofs.Ytnojokempdcikaa.PureT
open Go Go.RowKit Go.Proofs.Ytnojokempdcikaa.PA Go.Proofs.YtnojokempdcikaaW.PrintWords Go.Proofs.YtnojokempdcikaaW.PrintLast Go.Proofs.YtnojokempdcikaaW.PrintMore Go.Proofs.Ytnojokempdcikaa.Pure
abbrev nm (c : S54) : List UInt8 := c.f0.data.toList
/-! names of an expression -/
def namesX : Nat → S25 → List ByteArray
  | 0, _ => []
  | n + 1, x => if x.f0 = 2 then [x.f2] else x.f3.flatMap (namesX n)
theorem xparts_same {f g : S25 → Option (Int × Int × Int × Int)} : ∀ (l : List S25), (∀ p ∈ l, f p = g p) → ∀ (i : Nat) (a b : Int), xparts f l i a b = xparts g l i a b
  | [], _, _, _, _ => rfl
  | p :: ps, h, i, a, b => by
    simp only [xparts]
    rw [h p List.mem_cons_self]
    congr 1
    funext r
    rw [xparts_same ps (fun q hq => h q (List.mem_cons_of_mem _ hq))]
theorem xeval_same (F G : ByteArray → Option Int) : ∀ (n : Nat) (x : S25), (∀ s ∈ namesX n x, F s = G s) → xeval F n x = xeval G n x
  | 0, _, _ => rfl
  | n + 1, x, h => by
    simp only [xeval]
    by_cases k1 : x.f0 = 1
    · rw [if_pos k1, if_pos k1]
    · rw [if_neg k1, if_neg k1]
      by_cases k2 : x.f0 = 2
      · have e : F x.f2 = G x.f2 := h _ (by rw [namesX, if_pos k2]; simp)
        rw [if_pos k2, if_pos k2, e]
      · rw [if_neg k2, if_neg k2]
        rw [xparts_same x.f3 (fun p hp => xeval_same F G n p (fun s hs => h s (by rw [namesX, if_neg k2]; exact List.mem_flatMap.2 ⟨p, hp, hs⟩)))]
/-- A part of what may be. -/
theorem may_open {n : Nat} {x : S25} {left : Int} (h : (xexpr (n + 1) x left).1 ≠ 0) : ∃ p, exprParts x = some p ∧ (x.f3.length : Int) = p ∧ ∀ q ∈ x.f3, ∃ lf, (xexpr n q lf).1 ≠ 0 := by
  simp only [xexpr] at h
  by_cases c : wrap64 (left - 1) < 0
  · rw [if_pos c] at h; exact absurd rfl h
  · rw [if_neg c] at h
    cases hp : exprParts x with
    | none => rw [hp] at h; exact absurd rfl h
    | some p =>
      rw [hp] at h
      dsimp only at h
      by_cases e : (x.f3.length : Int) = p
      · rw [if_pos e] at h
        exact ⟨p, rfl, e, xexprs_parts (xexpr n) x.f3 0 _ h⟩
      · rw [if_neg e] at h; exact absurd rfl h
theorem parts_two {x : S25} {p : Int} (h : exprParts x = some p) : p ≤ 2 := by
  unfold exprParts at h
  repeat' split at h
  all_goals first | (cases h; omega) | cases h
theorem names_len : ∀ (n : Nat) (x : S25) (left : Int), (xexpr n x left).1 ≠ 0 → (namesX n x).length ≤ 2 ^ n
  | 0, x, left, h => by simp [namesX]
  | n + 1, x, left, h => by
    obtain ⟨p, hp, hl, hq⟩ := may_open h
    have h2 := parts_two hp
    rw [namesX]
    split
    · have : 0 < 2 ^ (n + 1) := Nat.pos_of_ne_zero (by simp)
      simp only [List.length_cons, List.length_nil]; omega
    · have ih : ∀ q ∈ x.f3, (namesX n q).length ≤ 2 ^ n := fun q hq' => by
        obtain ⟨lf, h3⟩ := hq q hq'
        exact names_len n q lf h3
      have hb : ∀ (l : List S25), (∀ q ∈ l, (namesX n q).length ≤ 2 ^ n) → (l.flatMap (namesX n)).length ≤ l.length * 2 ^ n := by
        intro l
        induction l with
        | nil => intro _; simp
        | cons a l ihl =>
          intro ha
          rw [List.flatMap_cons, List.length_append, List.length_cons, Nat.add_mul]
          have h4 := ha a List.mem_cons_self
          have h5 := ihl (fun q hq => ha q (List.mem_cons_of_mem _ hq))
          omega
      have h6 := hb x.f3 ih
      have h7 : x.f3.length * 2 ^ n ≤ 2 * 2 ^ n := Nat.mul_le_mul_right _ (by omega)
      rw [Nat.pow_succ]; omega
def allE (k : Nat) (x : S25) : Option (List ByteArray) := recoupref12_all.f k x.f0 x.f1 x.f2 x.f3 x.f4 x.f5
def allL (k : Nat) (acc : List ByteArray) (i : Int) (x : S25) : Option (List ByteArray) := recoupref12_all.l0 k acc i x.f0 x.f1 x.f2 x.f3 x.f4 x.f5
theorem allE_mono (x : S25) (k : Nat) : LeO (allE k x) (allE (k + 1) x) := recoupref12_all.mono _ _ _ _ _ _ k
theorem allL_mono (acc : List ByteArray) (i : Int) (x : S25) (k : Nat) : LeO (allL k acc i x) (allL (k + 1) acc i x) := (recoupref12_all.mono_l k).2 _ _ _ _ _ _ _ _
theorem all_ok : ∀ (n : Nat), n ≤ 16 → ∀ (x : S25) (left : Int), (xexpr n x left).1 ≠ 0 → ∃ k, allE k x = some (namesX n x)
  | 0, _, x, left, h => by simp [xexpr] at h
  | n + 1, hn, x, left, h => by
    obtain ⟨p, hp, hl, hq⟩ := may_open h
    have h2 := parts_two hp
    by_cases k2 : x.f0 = 2
    · refine ⟨1, ?_⟩
      unfold allE
      rw [recoupref12_all.f, if_pos k2, namesX, if_pos k2]
    · have hpow : (2 : Nat) ^ n ≤ 65536 := Nat.le_trans (Nat.pow_le_pow_right (by decide) (by omega)) (show 2 ^ 16 ≤ 65536 by decide)
      have loop : ∀ (m i : Nat) (acc : List ByteArray), i + m = x.f3.length → acc.length ≤ i * 65536 → ∃ k, allL k acc (i : Int) x = some (acc ++ (x.f3.drop i).flatMap (namesX n)) := by
        intro m
        induction m with
        | zero =>
          intro i acc hi _
          refine ⟨1, ?_⟩
          unfold allL
          rw [recoupref12_all.l0, if_neg (by omega), List.drop_eq_nil_of_le (by omega)]
          simp
        | succ m ih =>
          intro i acc hi hacc
          have hlt : i < x.f3.length := by omega
          obtain ⟨lf, h3⟩ := hq x.f3[i] (List.getElem_mem hlt)
          obtain ⟨k1, h4⟩ := all_ok n (by omega) x.f3[i] lf h3
          have h5 := names_len n x.f3[i] lf h3
          obtain ⟨k3, h6⟩ := ih (i + 1) (acc ++ namesX n x.f3[i]) (by omega) (by rw [List.length_append]; omega)
          have r1 : rd_T25 x.f3 (i : Int) = x.f3[i] := by
            unfold rd_T25
            rw [Int.toNat_natCast, List.getD_eq_getElem?_getD, List.getElem?_eq_getElem hlt]; rfl
          have a1 : allE (k1 + k3) x.f3[i] = some (namesX n x.f3[i]) := Go.Proofs.Ytnojokempdcikaa.Pure.up (f := fun k => allE k x.f3[i]) (allE_mono _) (show k1 ≤ k1 + k3 by omega) h4
          have a2 : allL (k1 + k3) (acc ++ namesX n x.f3[i]) ((i + 1 : Nat) : Int) x = some ((acc ++ namesX n x.f3[i]) ++ (x.f3.drop (i + 1)).flatMap (namesX n)) := Go.Proofs.Ytnojokempdcikaa.Pure.up (f := fun k => allL k (acc ++ namesX n x.f3[i]) ((i + 1 : Nat) : Int) x) (allL_mono _ _ _) (show k3 ≤ k1 + k3 by omega) h6
          refine ⟨k1 + k3 + 1, ?_⟩
          unfold allE at a1
          unfold allL at a2 ⊢
          rw [recoupref12_all.l0, if_pos (by omega), if_pos (by omega), r1, a1, Option.bind_some, if_pos (by omega), w64 (by omega) (by omega), show ((i : Int) + 1) = ((i + 1 : Nat) : Int) by omega, a2, List.drop_eq_getElem_cons hlt, List.flatMap_cons, List.append_assoc]
      obtain ⟨k, hk⟩ := loop x.f3.length 0 [] (by omega) (by simp)
      refine ⟨k + 1, ?_⟩
      unfold allE
      unfold allL at hk
      rw [recoupref12_all.f, if_neg k2, namesX, if_neg k2]
      simpa using hk
theorem mem_ins (s t : ByteArray) (out : List ByteArray) (h : t = s ∨ t ∈ out) : t ∈ insName out s := by
  unfold insName
  split
  · rename_i hc
    rcases h with rfl | h
    · exact List.mem_of_getElem? hc
    · exact h
  · rw [List.mem_append, List.mem_cons]
    rcases h with rfl | h
    · exact .inr (.inl rfl)
    · rw [← List.take_append_drop (cntLt s out) out, List.mem_append] at h
      rcases h with h | h
      · exact .inl h
      · exact .inr (.inr h)
theorem mem_fold : ∀ (l out : List ByteArray) (t : ByteArray), (t ∈ l ∨ t ∈ out) → t ∈ l.foldl insName out
  | [], out, t, h => by simpa using h
  | s :: l, out, t, h => by
    rw [List.foldl_cons]
    refine mem_fold l _ t ?_
    rcases h with h | h
    · rcases List.mem_cons.1 h with rfl | h
      · exact .inr (mem_ins _ _ _ (.inl rfl))
      · exact .inl h
    · exact .inr (mem_ins _ _ _ (.inr h))
theorem fold_len : ∀ (l out : List ByteArray), (l.foldl insName out).length ≤ out.length + l.length
  | [], out => by simp
  | s :: l, out => by
    rw [List.foldl_cons]
    have h1 := fold_len l (insName out s)
    have h2 := insName_len out s
    rw [List.length_cons]; omega
/-! environments -/
theorem get_mem : ∀ (l : List S54) (s : ByteArray) (v : Int), envGet l s = some v → ∃ c ∈ l, s.data.toList = nm c ∧ c.f1 = v
  | [], s, v, h => by cases h
  | c :: l, s, v, h => by
    rw [envGet] at h
    by_cases e : s.data.toList = c.f0.data.toList
    · rw [if_pos e] at h
      exact ⟨c, List.mem_cons_self, e, Option.some.inj h⟩
    · rw [if_neg e] at h
      obtain ⟨d, h1, h2⟩ := get_mem l s v h
      exact ⟨d, List.mem_cons_of_mem _ h1, h2⟩
theorem get_of : ∀ (l : List S54), l.Pairwise (fun a b => nm a ≠ nm b) → ∀ (s : ByteArray), ∀ c ∈ l, s.data.toList = nm c → envGet l s = some c.f1
  | [], _, s, c, h, _ => by cases h
  | d :: l, hp, s, c, h, e => by
    rw [envGet]
    have h0 := List.pairwise_cons.1 hp
    rcases List.mem_cons.1 h with rfl | h
    · rw [if_pos e]
    · rw [if_neg (fun e2 => h0.1 c h (e2.symm.trans e)), get_of l h0.2 s c h e]
theorem get_seen {l : List S54} {s : ByteArray} (h : (envGet l s).isSome = false) : ∀ c ∈ l, nm c ≠ s.data.toList := fun c hc e => by
  rw [envGet_some l s c hc (by rw [ByteArray.toList_eq, ByteArray.toList_eq]; exact e)] at h
  cases h
theorem known_facts : ∀ (l seen : List S54), knownGo l seen = some true → (∀ c ∈ l, ∀ d ∈ seen, nm d ≠ nm c) ∧ l.Pairwise (fun a b => nm a ≠ nm b) ∧ ∀ c ∈ l, numOk c.f1 = true
  | [], seen, _ => ⟨fun c h => (by cases h), List.Pairwise.nil, fun c h => (by cases h)⟩
  | c :: l, seen, h => by
    rw [knownGo] at h
    by_cases c1 : c.f0.size ≤ 9223372036854775807
    · rw [if_pos c1] at h
      by_cases c2 : (envGet seen c.f0).isSome = true
      · rw [if_pos c2] at h; cases h
      · rw [if_neg c2] at h
        by_cases c3 : (nameOk c.f0 && numOk c.f1) = true
        · rw [if_pos c3] at h
          obtain ⟨a1, a2, a3⟩ := known_facts l (seen ++ [c]) h
          rw [Bool.and_eq_true] at c3
          refine ⟨fun d hd e he => ?_, List.pairwise_cons.2 ⟨fun d hd => a1 d hd c (by simp), a2⟩, fun d hd => ?_⟩
          · rcases List.mem_cons.1 hd with rfl | hd
            · exact get_seen (by simpa using c2) e he
            · exact a1 d hd e (by simp [he])
          · rcases List.mem_cons.1 hd with rfl | hd
            · exact c3.2
            · exact a3 d hd
        · rw [if_neg c3] at h; cases h
    · rw [if_neg c1] at h; cases h
theorem known_last (c c' : S54) (hn : c.f0 = c'.f0) (h1 : numOk c.f1 = numOk c'.f1) : ∀ (l seen : List S54), knownGo (l ++ [c]) seen = knownGo (l ++ [c']) seen
  | [], seen => by
    simp only [List.nil_append, knownGo]
    rw [hn, h1]
  | d :: l, seen => by
    rw [List.cons_append, List.cons_append, knownGo, knownGo, known_last c c' hn h1 l (seen ++ [d])]
theorem turned_same (l : List S54) (z : S54) (h1 : l.Pairwise (fun a b => nm a ≠ nm b)) (h2 : (l.reverse ++ [z]).Pairwise (fun a b => nm a ≠ nm b)) (s : ByteArray) (hs : s.data.toList ≠ nm z) : envGet l s = envGet (l.reverse ++ [z]) s := by
  cases h : envGet (l.reverse ++ [z]) s with
  | some v =>
    obtain ⟨c, hc, e1, e2⟩ := get_mem _ _ _ h
    rw [List.mem_append, List.mem_singleton, List.mem_reverse] at hc
    rcases hc with hc | rfl
    · rw [get_of l h1 s c hc e1, e2]
    · exact absurd e1 hs
  | none =>
    cases h3 : envGet l s with
    | none => rfl
    | some v =>
      obtain ⟨c, hc, e1, e2⟩ := get_mem _ _ _ h3
      rw [get_of _ h2 s c (by simp [hc]) e1] at h
      cases h
/-! what comes of it -/
theorem workPair_key (n : Int) (h : (if -2147483647 ≤ n ∧ n ≤ 2147483647 then (n, (0 : Int)) else (0, 120)).2 = 0) : -2147483647 ≤ (if -2147483647 ≤ n ∧ n ≤ 2147483647 then (n, (0 : Int)) else (0, 120)).1 ∧ (if -2147483647 ≤ n ∧ n ≤ 2147483647 then (n, (0 : Int)) else (0, 120)).1 ≤ 2147483647 := by
  by_cases c : -2147483647 ≤ n ∧ n ≤ 2147483647
  · rw [if_pos c]; exact c
  · rw [if_neg c] at h; exact absurd h (by simp)
theorem workPair_ok (op a b : Int) (h : (workPair op a b).2 = 0) : -2147483647 ≤ (workPair op a b).1 ∧ (workPair op a b).1 ≤ 2147483647 := by
  unfold workPair at h ⊢
  by_cases h1 : 3 ≤ op ∧ op ≤ 8 ∧ (-2147483647 ≤ a ∧ a ≤ 2147483647) ∧ (-2147483647 ≤ b ∧ b ≤ 2147483647)
  · rw [if_pos h1] at h ⊢
    by_cases h2 : b = 0 ∧ 7 ≤ op
    · rw [if_pos h2] at h
      exact absurd h (by simp)
    · rw [if_neg h2] at h ⊢
      exact workPair_key _ h
  · rw [if_neg h1] at h
    exact absurd h (by simp)
theorem workPair_in (op a b : Int) (h : (workPair op a b).2 = 0) : numOk (workPair op a b).1 = true := by
  unfold numOk; exact decide_eq_true (workPair_ok op a b h)
theorem value_ok (F : ByteArray → Option Int) (hF : ∀ s v, F s = some v → numOk v = true) (n : Nat) (x : S25) (left : Int) (h : (xexpr n x left).1 ≠ 0) (r : Int × Int × Int × Int) (hr : xeval F n x = some r) : numOk r.1 = true := by
  have z0 : numOk 0 = true := by decide
  cases n with
  | zero => exact absurd rfl h
  | succ n =>
    obtain ⟨p, hp, hl, _⟩ := may_open h
    simp only [xeval] at hr
    by_cases k1 : x.f0 = 1
    · rw [if_pos k1] at hr
      obtain rfl := Option.some.inj hr
      unfold exprParts at hp
      rw [if_pos k1] at hp
      by_cases c1 : x.f1 < 0
      · rw [if_pos c1] at hp; cases hp
      · rw [if_neg c1] at hp
        by_cases c2 : x.f1 > 2147483647
        · rw [if_pos c2] at hp; cases hp
        · unfold numOk; exact decide_eq_true (by dsimp only; omega)
    · rw [if_neg k1] at hr
      by_cases k2 : x.f0 = 2
      · rw [if_pos k2] at hr
        by_cases hz : x.f2.size ≤ 9223372036854775807
        · rw [if_pos hz] at hr
          cases hf : F x.f2 with
          | none => rw [hf, if_neg (by simp)] at hr; obtain rfl := Option.some.inj hr; exact z0
          | some v => rw [hf, if_pos (by simp)] at hr; obtain rfl := Option.some.inj hr; exact hF _ _ hf
        · rw [if_neg hz] at hr; cases hr
      · rw [if_neg k2] at hr
        by_cases hl : x.f3.length ≤ 2
        · rw [if_pos hl] at hr
          obtain ⟨R, _, hR⟩ := Option.bind_eq_some_iff.1 hr
          by_cases c0 : R.2.1 = 0
          · rw [if_pos c0] at hR
            obtain ⟨q, hq, hqr⟩ := Option.bind_eq_some_iff.1 hR
            have hw : number_Work.f x.f0 R.1.1 R.1.2 = some (workPair x.f0 R.1.1 R.1.2) := by
              unfold number_Work.f; rw [if_pos (by have := parts_kind x p hp; omega)]
            rw [hw] at hq
            obtain rfl := Option.some.inj hq
            by_cases c1 : (workPair x.f0 R.1.1 R.1.2).2 = 0
            · rw [if_pos c1] at hqr
              obtain rfl := Option.some.inj hqr
              exact workPair_in _ _ _ c1
            · rw [if_neg c1] at hqr
              obtain rfl := Option.some.inj hqr
              exact z0
          · rw [if_neg c0] at hR
            obtain rfl := Option.some.inj hR
            exact z0
        · rw [if_neg hl] at hr; cases hr
theorem eval_of (x : S25) (hx : G25 x) (l : List S54) (hl : l.length ≤ 4611686018427387903) (b : Bool) (hb : knownGo l [] = some b) :
    ∃ r, number_Eval.f x.f0 x.f1 x.f2 x.f3 x.f4 x.f5 l = some r ∧ ((b = false ∨ mayE x = false) → r.2.1 = 2) ∧ (b = true → mayE x = true → xeval (envGet l) 16 x = some r) := by
  unfold number_Eval.f
  rw [if_pos hl, hb, may_prog x hx, Option.bind_some, Option.bind_some]
  cases b with
  | false => exact ⟨(0, 2, 0, 0), by simp, fun _ => rfl, fun h => by cases h⟩
  | true =>
    rw [if_pos rfl]
    cases hM : mayE x with
    | false => exact ⟨(0, 2, 0, 0), by simp, fun _ => rfl, fun _ h => by cases h⟩
    | true =>
      have h0 : (xexpr 16 x 8192).1 ≠ 0 := by
        unfold mayE at hM
        have := of_decide_eq_true hM
        omega
      obtain ⟨r, e1, _⟩ := value_both l 16 x hx 8192 h0
      exact ⟨r, by rw [if_pos rfl]; exact e1, fun h => by simp at h, fun _ _ => e1⟩
def zz : ByteArray := ⟨#[122, 122, 122, 122, 122, 122, 122, 122, 122, 122, 122, 122, 122, 122]⟩
def E2 (l : List S54) : List S54 := l.reverse ++ [⟨zz, 3⟩]
def E3 (l : List S54) : List S54 := l.reverse ++ [⟨zz, 0⟩]
/-- All that the law's walk asks. -/
theorem turned_facts (x : S25) (hx : G25 x) (l : List S54) (hl : l.length ≤ 4611686018427387902) (hg : ∀ c ∈ l, c.f0.size ≤ 9223372036854775807) :
    ∃ k b r, recoupref12_MayEnv.f k l = some b ∧ recoupref10_MayExpr.f k x.f0 x.f1 x.f2 x.f3 x.f4 x.f5 = some (mayE x) ∧ number_Eval.f x.f0 x.f1 x.f2 x.f3 x.f4 x.f5 l = some r ∧ ((b = false ∨ mayE x = false) → r.2.1 = 2) ∧
      (b = true → mayE x = true → ∃ b3 r2 nl, recoupref12_MayEnv.f k (E3 l) = some b3 ∧ number_Eval.f x.f0 x.f1 x.f2 x.f3 x.f4 x.f5 (E2 l) = some r2 ∧ (b3 = false → r2.2.1 = 2) ∧
        recoupref12_Names.f k x.f0 x.f1 x.f2 x.f3 x.f4 x.f5 = some (nl, 0) ∧ nl.length ≤ 65536 ∧ (b3 = true → (∀ s ∈ nl, s ≠ zz) → r2 = r ∧ numOk r.1 = true)) := by
  have hz : ∀ (n : Int), ∀ c ∈ (l.reverse ++ [(⟨zz, n⟩ : S54)]), c.f0.size ≤ 9223372036854775807 := fun n c hc => by
    rw [List.mem_append, List.mem_singleton, List.mem_reverse] at hc
    rcases hc with hc | rfl
    · exact hg c hc
    · show zz.size ≤ 9223372036854775807; decide
  obtain ⟨k1, b, m1, m2⟩ := env_ref l (by omega) hg
  obtain ⟨k2, b3, m3, m4⟩ := env_ref (E3 l) (by unfold E3; simp; omega) (hz 0)
  obtain ⟨k3, hk3⟩ := may_ref x hx
  obtain ⟨r, e1, e2, e3⟩ := eval_of x hx l (by omega) b m2
  have m5 : knownGo (E2 l) [] = some b3 := by
    unfold E2; unfold E3 at m4
    rw [known_last (⟨zz, 3⟩ : S54) ⟨zz, 0⟩ rfl (by decide)]; exact m4
  obtain ⟨r2, f1, f2, f3⟩ := eval_of x hx (E2 l) (by unfold E2; simp; omega) b3 m5
  by_cases hM : mayE x = true
  · have h0 : (xexpr 16 x 8192).1 ≠ 0 := by
      unfold mayE at hM
      have := of_decide_eq_true hM
      omega
    obtain ⟨k4, hk4⟩ := all_ok 16 (by omega) x 8192 h0
    have hlen : (namesX 16 x).length ≤ 65536 := Nat.le_trans (names_len 16 x 8192 h0) (by decide)
    obtain ⟨J, hJ⟩ : ∃ J, J = k1 + k2 + k3 + k4 := ⟨_, rfl⟩
    have a1 : recoupref12_MayEnv.f J l = some b := Go.Proofs.Ytnojokempdcikaa.Pure.up (f := fun k => recoupref12_MayEnv.f k l) (recoupref12_MayEnv.mono _) (show k1 ≤ J by omega) m1
    have a2 : recoupref12_MayEnv.f J (E3 l) = some b3 := Go.Proofs.Ytnojokempdcikaa.Pure.up (f := fun k => recoupref12_MayEnv.f k (E3 l)) (recoupref12_MayEnv.mono _) (show k2 ≤ J by omega) m3
    have a3 : recoupref10_MayExpr.f J x.f0 x.f1 x.f2 x.f3 x.f4 x.f5 = some (mayE x) := Go.Proofs.Ytnojokempdcikaa.Pure.up (f := fun k => recoupref10_MayExpr.f k x.f0 x.f1 x.f2 x.f3 x.f4 x.f5) (recoupref10_MayExpr.mono _ _ _ _ _ _) (show k3 ≤ J by omega) hk3
    have a4 : allE J x = some (namesX 16 x) := Go.Proofs.Ytnojokempdcikaa.Pure.up (f := fun k => allE k x) (allE_mono _) (show k4 ≤ J by omega) hk4
    have a5 : recoupref12_Names.f J x.f0 x.f1 x.f2 x.f3 x.f4 x.f5 = some ((namesX 16 x).foldl insName [], 0) := by
      unfold recoupref12_Names.f
      unfold allE at a4
      rw [a3, Option.bind_some, if_pos hM, a4, Option.bind_some, if_pos (by omega)]
    refine ⟨J, b, r, a1, a3, e1, e2, fun hb _ => ⟨b3, r2, _, a2, f1, fun h => f2 (.inl h), a5, ?_, fun hb3 hns => ?_⟩⟩
    · have := fold_len (namesX 16 x) []
      simp only [List.length_nil] at this
      omega
    · subst hb hb3
      obtain ⟨_, p1, n1⟩ := known_facts l [] m2
      obtain ⟨_, p2, _⟩ := known_facts (E2 l) [] m5
      have hsame : xeval (envGet l) 16 x = xeval (envGet (E2 l)) 16 x := xeval_same _ _ 16 x (fun s hs => turned_same l ⟨zz, 3⟩ p1 p2 s (fun e => hns s (mem_fold _ _ _ (.inl hs)) (by
        cases s
        exact congrArg ByteArray.mk (Array.toList_inj.1 e))))
      have g1 := e3 rfl hM
      have g2 := f3 rfl hM
      rw [← hsame, g1] at g2
      refine ⟨(Option.some.inj g2).symm, value_ok (envGet l) (fun s v hv => ?_) 16 x 8192 h0 r g1⟩
      obtain ⟨c, hc, _, e4⟩ := get_mem _ _ _ hv
      rw [← e4]; exact n1 c hc
  · obtain ⟨J, hJ⟩ : ∃ J, J = k1 + k3 := ⟨_, rfl⟩
    have a1 : recoupref12_MayEnv.f J l = some b := Go.Proofs.Ytnojokempdcikaa.Pure.up (f := fun k => recoupref12_MayEnv.f k l) (recoupref12_MayEnv.mono _) (show k1 ≤ J by omega) m1
    have a3 : recoupref10_MayExpr.f J x.f0 x.f1 x.f2 x.f3 x.f4 x.f5 = some (mayE x) := Go.Proofs.Ytnojokempdcikaa.Pure.up (f := fun k => recoupref10_MayExpr.f k x.f0 x.f1 x.f2 x.f3 x.f4 x.f5) (recoupref10_MayExpr.mono _ _ _ _ _ _) (show k3 ≤ J by omega) hk3
    exact ⟨J, b, r, a1, a3, e1, e2, fun _ h => absurd h hM⟩
end Go.Proofs.Ytnojokempdcikaa.PureT
