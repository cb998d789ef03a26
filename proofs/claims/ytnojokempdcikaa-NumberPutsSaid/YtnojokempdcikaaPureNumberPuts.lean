/-
  An expression with another one in a name's place comes to what it comes to where the name is that one's number.
-/
import Derived.Test.YtnojokempdcikaaXNumberPuts
import Derived.Test.YtnojokempdcikaaNumProg
namespace Go.Proofs.Ytnojokempdcikaa.Pure
open Go Go.RowKit Go.Proofs.Ytnojokempdcikaa.PureN Go.Proofs.Ytnojokempdcikaa.PA Go.Proofs.YtnojokempdcikaaW.PrintWords Go.Proofs.YtnojokempdcikaaW.PrintLast Go.Proofs.YtnojokempdcikaaW.PrintMore

theorem xeval_mono (F : ByteArray → Option Int) : ∀ (n : Nat) (x : S25), LeO (xeval F n x) (xeval F (n + 1) x)
  | 0, x => LeO.none _
  | n + 1, x => by
    unfold xeval
    exact LeO.ite (LeO.refl _) (LeO.ite (LeO.refl _) (LeO.ite (LeO.bind (xpartsN_mono (xeval_mono F n) _ _ _ _) (fun r => LeO.refl _)) (LeO.refl _)))
theorem workPair_key (n : Int) (h : (if -2147483647 ≤ n ∧ n ≤ 2147483647 then (n, (0 : Int)) else (0, 120)).2 = 0) : -2147483647 ≤ (if -2147483647 ≤ n ∧ n ≤ 2147483647 then (n, (0 : Int)) else (0, 120)).1 ∧ (if -2147483647 ≤ n ∧ n ≤ 2147483647 then (n, (0 : Int)) else (0, 120)).1 ≤ 2147483647 := by
  by_cases c : -2147483647 ≤ n ∧ n ≤ 2147483647
  · rw [if_pos c]; exact c
  · rw [if_neg c] at h; exact absurd h (by simp)
theorem workPair_ok (op a b : Int) (h : (workPair op a b).2 = 0) : -2147483647 ≤ (workPair op a b).1 ∧ (workPair op a b).1 ≤ 2147483647 := by
  unfold workPair at h ⊢
  by_cases h1 : 3 ≤ op ∧ op ≤ 8 ∧ (-2147483647 ≤ a ∧ a ≤ 2147483647) ∧ (-2147483647 ≤ b ∧ b ≤ 2147483647)
  · rw [if_pos h1] at h ⊢
    by_cases h2 : b = 0 ∧ 7 ≤ op
    · rw [if_pos h2] at h
      exact absurd h (by simp)
    · rw [if_neg h2] at h ⊢
      exact workPair_key _ h
  · rw [if_neg h1] at h
    exact absurd h (by simp)
/-- What comes of no names is a number, where there is no fault. -/
theorem value_num (n : Nat) (x : S25) (left : Int) (h : (xexpr n x left).1 ≠ 0) (r : Int × Int × Int × Int) (hr : xeval (envGet []) n x = some r) (h0 : r.2.1 = 0) : numOk r.1 = true := by
  cases n with
  | zero => exact absurd rfl h
  | succ n =>
    simp only [xexpr] at h
    by_cases c : wrap64 (left - 1) < 0
    · rw [if_pos c] at h; exact absurd rfl h
    · rw [if_neg c] at h
      cases hp : exprParts x with
      | none => rw [hp] at h; exact absurd rfl h
      | some p =>
        simp only [xeval] at hr
        by_cases k1 : x.f0 = 1
        · rw [if_pos k1] at hr
          obtain rfl := Option.some.inj hr
          unfold exprParts at hp
          rw [if_pos k1] at hp
          by_cases c1 : x.f1 < 0
          · rw [if_pos c1] at hp; cases hp
          · rw [if_neg c1] at hp
            by_cases c2 : x.f1 > 2147483647
            · rw [if_pos c2] at hp; cases hp
            · exact (numOk_iff _).2 ⟨by dsimp only; omega, by dsimp only; omega⟩
        · rw [if_neg k1] at hr
          by_cases k2 : x.f0 = 2
          · rw [if_pos k2] at hr
            by_cases hz : x.f2.size ≤ 9223372036854775807
            · rw [if_pos hz, if_neg (by simp [envGet])] at hr
              obtain rfl := Option.some.inj hr
              exact absurd h0 (by dsimp only; omega)
            · rw [if_neg hz] at hr; cases hr
          · rw [if_neg k2] at hr
            by_cases hl : x.f3.length ≤ 2
            · rw [if_pos hl] at hr
              obtain ⟨R, _, hR⟩ := Option.bind_eq_some_iff.1 hr
              by_cases c0 : R.2.1 = 0
              · rw [if_pos c0] at hR
                obtain ⟨q, hq, hqr⟩ := Option.bind_eq_some_iff.1 hR
                have hw : number_Work.f x.f0 R.1.1 R.1.2 = some (workPair x.f0 R.1.1 R.1.2) := work_f _ _ _ (by have := parts_kind x p hp; omega)
                rw [hw] at hq
                obtain rfl := Option.some.inj hq
                by_cases c1 : (workPair x.f0 R.1.1 R.1.2).2 = 0
                · rw [if_pos c1] at hqr
                  obtain rfl := Option.some.inj hqr
                  exact (numOk_iff _).2 (workPair_ok _ _ _ c1)
                · rw [if_neg c1] at hqr
                  obtain rfl := Option.some.inj hqr
                  exact absurd h0 c1
              · rw [if_neg c0] at hR
                obtain rfl := Option.some.inj hR
                exact absurd h0 c0
            · rw [if_neg hl] at hr; cases hr
theorem parts_alike (f g : S25 → Option (Int × Int × Int × Int)) (u : S25 → S25) : ∀ (l : List S25), (∀ p ∈ l, ∃ r s, f (u p) = some r ∧ g p = some s ∧ r.1 = s.1 ∧ r.2.1 = s.2.1) → ∀ (i : Nat) (a b : Int), ∃ R S, xparts f (l.map u) i a b = some R ∧ xparts g l i a b = some S ∧ R.1 = S.1 ∧ R.2.1 = S.2.1
  | [], _, i, a, b => ⟨_, _, rfl, rfl, rfl, rfl⟩
  | q :: ps, h, i, a, b => by
    obtain ⟨r, s, h1, h2, h3, h4⟩ := h q List.mem_cons_self
    simp only [List.map_cons, xparts, h1, h2, Option.bind_some]
    by_cases c : r.2.1 = 0
    · have c' : s.2.1 = 0 := by rw [← h4]; exact c
      rw [if_pos c, if_pos c', h3]
      exact parts_alike f g u ps (fun p hp => h p (List.mem_cons_of_mem _ hp)) _ _ _
    · have c' : ¬ s.2.1 = 0 := by rw [← h4]; exact c
      rw [if_neg c, if_neg c']; exact ⟨_, _, rfl, rfl, rfl, h4⟩
theorem puts_one (s : ByteArray) (y : S25) (hy : G25 y) (v : Int × Int × Int × Int) (hv : xeval (envGet []) 16 y = some v) (hv0 : v.2.1 = 0) (n : Int) (hn : v.1 = n) :
    ∀ (d m : Nat), d ≤ 16 → ∀ (x : S25), G25 x → fewB m x = true → ∀ left, (xexpr d (xput s y m x) left).1 ≠ 0 → ∃ r q, xeval (envGet []) d (xput s y m x) = some r ∧ xeval (envGet [⟨s, n⟩]) m x = some q ∧ r.1 = q.1 ∧ r.2.1 = q.2.1
  | 0, _, _, _, _, _, _, h => absurd rfl h
  | d + 1, 0, _, _, _, hf, _, _ => absurd hf (by simp [fewB])
  | d + 1, m + 1, hd, x, hx, hf, left, h => by
    obtain ⟨_, _, h2, ⟨_, h3⟩, _, _⟩ := (G25_iff x).1 hx
    have h2' : x.f2.size ≤ 9223372036854775807 := h2
    simp only [fewB, Bool.and_eq_true, decide_eq_true_iff, List.all_eq_true] at hf
    simp only [xput] at h ⊢
    by_cases c : x.f0 = 2 ∧ x.f2 = s
    · rw [if_pos c] at h ⊢
      obtain ⟨r, hr⟩ := value_one (envGet []) (d + 1) y hy left h
      have hr16 := up (f := fun k => xeval (envGet []) k y) (fun k => xeval_mono _ k y) (show d + 1 ≤ 16 from hd) hr
      try dsimp only at hr16
      rw [hv] at hr16
      obtain rfl := Option.some.inj hr16
      refine ⟨v, (n, 0, 0, 0), hr, ?_, hn, hv0⟩
      have hg : envGet [(⟨s, n⟩ : S54)] x.f2 = some n := by simp [envGet, c.2]
      simp only [xeval]
      rw [if_neg (by omega), if_pos c.1, if_pos h2', hg]
      rfl
    · rw [if_neg c] at h ⊢
      simp only [xexpr] at h
      by_cases c0 : wrap64 (left - 1) < 0
      · rw [if_pos c0] at h; exact absurd rfl h
      · rw [if_neg c0] at h
        cases hp : exprParts ⟨x.f0, x.f1, x.f2, x.f3.map (xput s y m), x.f4, x.f5⟩ with
        | none => rw [hp] at h; exact absurd rfl h
        | some p =>
          rw [hp] at h
          dsimp only at h
          by_cases e : ((x.f3.map (xput s y m)).length : Int) = p
          · rw [if_pos e] at h
            obtain ⟨q1, q8, q2⟩ := parts_kind _ p hp
            dsimp only at q1 q8 q2
            by_cases k1 : x.f0 = 1
            · refine ⟨(x.f1, 0, 0, 0), (x.f1, 0, 0, 0), ?_, ?_, rfl, rfl⟩
              · simp only [xeval]; rw [if_pos k1]
              · simp only [xeval]; rw [if_pos k1]
            · by_cases k2 : x.f0 = 2
              · have hne : x.f2 ≠ s := fun e => c ⟨k2, e⟩
                have hg : envGet [(⟨s, n⟩ : S54)] x.f2 = none := by
                  simp only [envGet]
                  rw [if_neg (fun e => hne (by
                    exact ByteArray.ext (Array.toList_inj.mp e)))]
                refine ⟨(0, 121, x.f4, x.f5), (0, 121, x.f4, x.f5), ?_, ?_, rfl, rfl⟩
                · simp only [xeval]; rw [if_neg k1, if_pos k2, if_pos h2', if_neg (by simp [envGet])]
                · simp only [xeval]; rw [if_neg k1, if_pos k2, if_pos h2', hg]; rfl
              · obtain ⟨R, S, r1, r2, r3, r4⟩ := parts_alike (xeval (envGet []) d) (xeval (envGet [⟨s, n⟩]) m) (xput s y m) x.f3 (fun p hp => by
                  obtain ⟨lf, hlf⟩ := xexprs_parts _ _ _ _ h _ (List.mem_map_of_mem hp)
                  exact puts_one s y hy v hv hv0 n hn d m (by omega) p (h3 p hp) (hf.2 p hp) lf hlf) 0 0 0
                have w1 : number_Work.f x.f0 S.1.1 S.1.2 = some (workPair x.f0 S.1.1 S.1.2) := work_f _ _ _ (by omega)
                simp only [xeval]
                rw [if_neg k1, if_neg k2, if_pos (by rw [List.length_map]; exact hf.1), r1, if_neg k1, if_neg k2, if_pos hf.1, r2, Option.bind_some, Option.bind_some, r3, r4, w1, Option.bind_some]
                by_cases c1 : S.2.1 = 0
                · rw [if_pos c1, if_pos c1]
                  by_cases c2 : (workPair x.f0 S.1.1 S.1.2).2 = 0
                  · rw [if_pos c2]; exact ⟨_, _, rfl, rfl, rfl, rfl⟩
                  · rw [if_neg c2]; exact ⟨_, _, rfl, rfl, rfl, rfl⟩
                · rw [if_neg c1, if_neg c1]
                  exact ⟨_, _, rfl, rfl, rfl, r4⟩
          · rw [if_neg e] at h; exact absurd rfl h
theorem known_one (s : ByteArray) (n : Int) (hs : s.size ≤ 9223372036854775807) (hn : nameOk s = true) (h : numOk n = true) : knownGo [(⟨s, n⟩ : S54)] [] = some true := by
  simp [knownGo, envGet, hs, hn, h]
theorem small_put (s : ByteArray) (y : S25) (hy : G25 y) : ∀ (m n : Nat) (x : S25), G25 x → smallB n (xput s y m x) = true
  | 0, n, x, hx => small_of n x hx
  | m + 1, 0, x, hx => rfl
  | m + 1, n + 1, x, hx => by
    simp only [xput]
    by_cases c : x.f0 = 2 ∧ x.f2 = s
    · rw [if_pos c]; exact small_of (n + 1) y hy
    · rw [if_neg c]
      obtain ⟨_, _, h2, ⟨_, h3⟩, _, _⟩ := (G25_iff x).1 hx
      have h2' : x.f2.size ≤ 9223372036854775807 := h2
      simp only [smallB, Bool.and_eq_true, decide_eq_true_iff, List.all_eq_true]
      refine ⟨h2', fun q hq => ?_⟩
      obtain ⟨p, hp, rfl⟩ := List.mem_map.1 hq
      exact small_put s y hy m n p (h3 p hp)
theorem eval_none (y : S25) (hy : G25 y) : ∃ v, number_Eval.f y.f0 y.f1 y.f2 y.f3 y.f4 y.f5 ([] : List S54) = some v ∧ (v.2.1 = 0 → mayE y = true ∧ xeval (envGet []) 16 y = some v) := by
  have my := may_prog y hy
  unfold number_Eval.f
  rw [if_pos (by simp), show knownGo ([] : List S54) [] = some true from rfl, Option.bind_some, if_pos rfl, my, Option.bind_some]
  cases hM : mayE y with
  | false => exact ⟨(0, 2, 0, 0), by simp, fun h => absurd h (by simp)⟩
  | true =>
    have h0 : (xexpr 16 y 8192).1 ≠ 0 := by
      unfold mayE at hM
      have := of_decide_eq_true hM
      omega
    obtain ⟨r, e1⟩ := value_one (envGet []) 16 y hy 8192 h0
    exact ⟨r, by rw [if_pos rfl]; exact e1, fun _ => ⟨rfl, e1⟩⟩
theorem put_tells (x y : S25) (hx : G25 x) (hy : G25 y) (s : ByteArray) (hs : s.size ≤ 9223372036854775807) : ∃ r0 r1 r2 r3 r4 r5 r6, number_Put.f x.f0 x.f1 x.f2 x.f3 x.f4 x.f5 s y.f0 y.f1 y.f2 y.f3 y.f4 y.f5 = some (r0, r1, r2, r3, r4, r5, r6) ∧
    (r6 = 0 → mayE x = true ∧ nameOk s = true ∧ (⟨r0, r1, r2, r3, r4, r5⟩ : S25) = xput s y 16 x ∧ tree_MayExpr.f r0 r1 r2 r3 r4 r5 = some true ∧ (xexpr 16 (xput s y 16 x) 8192).1 ≠ 0) := by
  have mx := may_prog x hx
  have my := may_prog y hy
  unfold number_Put.f
  rw [mx, Option.bind_some]
  cases hX : mayE x with
  | false => exact ⟨_, _, _, _, _, _, _, by rw [if_neg (by simp)], fun h => absurd h (by simp)⟩
  | true =>
    rw [if_pos rfl, my, Option.bind_some]
    cases hY : mayE y with
    | false => exact ⟨_, _, _, _, _, _, _, by rw [if_neg (by simp)], fun h => absurd h (by simp)⟩
    | true =>
      rw [if_pos rfl, if_pos hs]
      cases hn : nameOk s with
      | false => exact ⟨_, _, _, _, _, _, _, by rw [if_neg (by simp)], fun h => absurd h (by simp)⟩
      | true =>
        rw [if_pos rfl]
        have ex : (⟨x.f0, x.f1, x.f2, x.f3, x.f4, x.f5⟩ : S25) = x := by cases x; rfl
        have ey : (⟨y.f0, y.f1, y.f2, y.f3, y.f4, y.f5⟩ : S25) = y := by cases y; rfl
        rw [ex, ey]
        split
        · exact ⟨_, _, _, _, _, _, _, rfl, fun h => absurd h (by simp)⟩
        · have hsm := small_put s y hy 16 16 x hx
          generalize hz : xput s y 16 x = z at hsm
          have ez : (⟨z.f0, z.f1, z.f2, z.f3, z.f4, z.f5⟩ : S25) = z := by cases z; rfl
          have hm : tree_MayExpr.f z.f0 z.f1 z.f2 z.f3 z.f4 z.f5 = some (decide ((xexpr 16 z 8192).1 > 0)) := by
            unfold tree_MayExpr.f
            rw [ez, if_pos hsm]
          rw [hm, Option.bind_some]
          cases hd : decide ((xexpr 16 z 8192).1 > 0) with
          | false => exact ⟨_, _, _, _, _, _, _, by rw [if_neg (by simp)], fun h => absurd h (by simp)⟩
          | true =>
            refine ⟨_, _, _, _, _, _, _, by rw [if_pos rfl], fun _ => ⟨rfl, rfl, ez, by rw [hm, hd], ?_⟩⟩
            have := of_decide_eq_true hd
            omega
theorem NumberPuts : recouplaw12_NumberPuts.PureS := by
  intro x0 x1 x2 x3 x4 x5 y0 y1 y2 y3 y4 y5 s hx hy hs
  refine ⟨1, ?_⟩
  have hz : s.size ≤ 9223372036854775807 := by omega
  have hA := anchored_ok
  have key0 : ∀ (v : Int) (z0 z1 : Int) (z2 : ByteArray) (z3 : List S25) (z4 z5 : Int), recouplaw12_NumberPuts.j0 1 s v true x0 x1 x2 x3 x4 x5 z0 z1 z2 z3 z4 z5 = some true := by
    intro v z0 z1 z2 z3 z4 z5
    unfold recouplaw12_NumberPuts.j0
    dsimp only
    rw [if_pos rfl, hA]; rfl
  obtain ⟨r0, r1, r2, r3, r4, r5, r6, hP, hP0⟩ := put_tells _ _ hx hy s hz
  obtain ⟨v, hV, hV0⟩ := eval_none _ hy
  try dsimp only at hP hV
  unfold recouplaw12_NumberPuts.f
  rw [hP, Option.bind_some, hV, Option.bind_some]
  try dsimp only
  by_cases c : r6 = 0
  · rw [if_pos c]
    by_cases c1 : v.2.1 = 0
    · obtain ⟨mX, hn, hzz, hmz, h0⟩ := hP0 c
      obtain ⟨mY, hv⟩ := hV0 c1
      have hy0 : (xexpr 16 ⟨y0, y1, y2, y3, y4, y5⟩ 8192).1 ≠ 0 := by
        unfold mayE at mY
        have := of_decide_eq_true mY
        omega
      have hx0 : (xexpr 16 ⟨x0, x1, x2, x3, x4, x5⟩ 8192).1 ≠ 0 := by
        unfold mayE at mX
        have := of_decide_eq_true mX
        omega
      have hnum := value_num 16 _ 8192 hy0 v hv c1
      obtain ⟨r, q, e1, e2, e3, e4⟩ := puts_one s _ hy v hv c1 v.1 rfl 16 16 (Nat.le_refl _) _ hx (few_one 16 _ 8192 hx0) 8192 h0
      rw [← hzz] at e1
      have hE1 : number_Eval.f r0 r1 r2 r3 r4 r5 ([] : List S54) = some r := by
        unfold number_Eval.f
        rw [if_pos (by simp), show knownGo ([] : List S54) [] = some true from rfl, Option.bind_some, if_pos rfl, hmz, Option.bind_some, if_pos rfl]
        exact e1
      have mx := may_prog _ hx
      try dsimp only at mx
      have hE2 : number_Eval.f x0 x1 x2 x3 x4 x5 ([(⟨s, v.1⟩ : S54)] : List S54) = some q := by
        unfold number_Eval.f
        rw [if_pos (by simp), known_one s v.1 hz hn hnum, Option.bind_some, if_pos rfl, mx, mX, Option.bind_some, if_pos rfl]
        exact e2
      have hb : (v.2.1 != 0) = false := by rw [c1]; rfl
      rw [hb]
      unfold recouplaw12_NumberPuts.j0
      dsimp only
      rw [if_neg (by simp), hE1, Option.bind_some, hE2, Option.bind_some, hA, Option.bind_some, if_pos rfl, if_pos e3, e4]
      simp
    · have hb : (v.2.1 != 0) = true := bne_iff_ne.mpr c1
      rw [hb]
      exact key0 _ _ _ _ _ _ _
  · rw [if_neg c]
    exact key0 _ _ _ _ _ _ _
end Go.Proofs.Ytnojokempdcikaa.Pure
