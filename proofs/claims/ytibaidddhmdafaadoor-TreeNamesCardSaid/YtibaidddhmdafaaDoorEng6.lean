/- More of the engine: slices of flat elements that came in, or that a call has made. No conditions. -/
import Derived.Test.YtibaidddhmdafaaDoorEng4
import Derived.Lib.LaidTab
import Derived.Test.YtibaidddhmdafaaDoorProg
import Derived.Test.YtibaidddhmdafaaDoorEng5
namespace Go.Proofs.YtibaidddhmdafaaDoor.E
open Go Go.RowKit Go.Proofs.YtibaidddhmdafaaDoorW.PrintWords Go.Proofs.YtibaidddhmdafaaDoorW.PrintLast Go.Proofs.YtibaidddhmdafaaDoorW.PrintMore Go.Proofs.YtibaidddhmdafaaDoor.PA
set_option linter.unusedVariables false
set_option linter.unusedSimpArgs false
section
variable {α : Type} {d : Kd α} {enc : α → List Value}
/-- Where an element's cells stand. -/
theorem C_at (hK : ∀ w x cs, d.K w x cs → cs = enc x) (hlen : ∀ x, (enc x).length = d.sz) (hsz : 0 < d.sz) {A : Option Addr} {n : Nat} {l : List α} {w : World} (h : Kd.C d w A n l) (h0 : 0 < n) :
    ∃ g o, A = some ⟨g, o, none⟩ ∧ ∀ (w' : World), Below w.heap.size w w' → ∀ i t, l[i]? = some t → ∀ j v, (enc t)[j]? = some v → w'.cell? ⟨g, o + i * d.sz + j, none⟩ = some v := by
  obtain ⟨hl, _, hc⟩ := h
  obtain ⟨ad, hA, hr⟩ := hc h0
  obtain ⟨g, o, sp⟩ := ad
  have hlt : 0 < l.length := by omega
  obtain ⟨c0, hlen0, hK0, hc0⟩ := hr 0 (l[0]'hlt) (List.getElem?_eq_getElem hlt)
  obtain ⟨v0, hv0⟩ : ∃ v, c0[0]? = some v := ⟨_, List.getElem?_eq_getElem (by omega)⟩
  have hz := hc0 0 _ hv0
  have hsp : sp = none := by simpa [Addr.add] using World.cell?_spot hz
  subst hsp
  refine ⟨g, o, hA, fun w' hb i t ht j v hv => ?_⟩
  obtain ⟨c, hlen, hKt, hcc⟩ := hr i t ht
  obtain rfl := hK _ _ _ hKt
  have hcell := hcc j v hv
  have hadd : (⟨g, o, none⟩ : Addr).add (i * d.sz + j) = ⟨g, o + i * d.sz + j, none⟩ := by
    unfold Addr.add; split
    · rename_i h0; rw [Nat.add_assoc, h0]; rfl
    · rw [Nat.add_assoc]
  have hcell' : w.cell? ((⟨g, o, none⟩ : Addr).add (i * d.sz + j)) = some v := hcell
  rw [hadd] at hcell'
  rw [World.cell?_of_block (w := w) (hb.block g (World.block_lt_of_cell? w _ hcell'))]
  exact hcell'
theorem reps_flat (hlen : ∀ x, (enc x).length = d.sz) : ∀ (ps : List α) (cs : List Value), Reps (fun p c => c = enc p) d.sz ps cs → cs = ps.flatMap enc
  | [], cs, h => by
    have h1 := h.1
    simp at h1
    simp [h1]
  | x :: ps, cs, h => by
    obtain ⟨h1, h2⟩ := h
    have hx := h2 0 x rfl
    simp only [Nat.zero_mul, List.drop_zero] at hx
    have hr : Reps (fun p c => c = enc p) d.sz ps (cs.drop d.sz) := by
      refine ⟨by rw [List.length_drop, h1, List.length_cons, Nat.add_mul]; omega, fun j p hj => ?_⟩
      have := h2 (j + 1) p (by simpa using hj)
      rw [List.drop_drop, show d.sz + j * d.sz = (j + 1) * d.sz by rw [Nat.add_mul]; omega]
      exact this
    rw [List.flatMap_cons, ← reps_flat hlen ps _ hr, ← hx, List.take_append_drop]
/-- What a call has made, as a row. -/
theorem R_row (hM : ∀ w base ok x cs, d.M w base ok x cs → cs = enc x) (hlen : ∀ x, (enc x).length = d.sz) {e : Nat} {w : World} {base : Nat} {ok : Nat → Prop} {v : Value} {l : List α} (h : Kd.R d e w base ok v l) : w.ownsRow 0 e d.sz v l.length (l.flatMap enc) := by
  obtain ⟨_, inner, ho, hr⟩ := h
  have := reps_flat (d := d) (enc := enc) hlen l inner (hr.imp_ (fun p c hp => hM _ _ _ _ _ hp))
  subst this
  exact own_base ho (Nat.zero_le _)
theorem H.addR (hM : ∀ w base ok x cs, d.M w base ok x cs → cs = enc x) (hlen : ∀ x, (enc x).length = d.sz) {w0 w w' : World} {bs : List Res} {e : Nat} {ok : Nat → Prop} {v : Value} {l : List α} (h : H w0 bs w) (hb : Below w.heap.size w w') (hr : Kd.R d e w' w.heap.size ok v l) :
    ∃ A c, v = .slice A l.length c ∧ H w0 (row e d.sz (.slice A l.length c) l.length (l.flatMap enc) :: bs) w' := by
  obtain ⟨A, c, rfl, _⟩ := Kd.R_reads hr
  refine ⟨A, c, rfl, h.add hb (R_row hM hlen hr) (fun g hg => ?_)⟩
  have := (Kd.R_bound hr).1 g hg
  exact ⟨this.2.1, this.2.2.1⟩
theorem H.rowR (hM : ∀ w base ok x, d.M w base ok x (enc x)) (hlen : ∀ x, (enc x).length = d.sz) {w0 w : World} {bs : List Res} {e n : Nat} {v : Value} {l : List α} (h : H w0 (row e d.sz v n (l.flatMap enc) :: bs) w) (hn : n = l.length) : Kd.R d e w w0.heap.size (fun k => v.ownBlock = some k) v l := by
  subst hn
  have ho : w.ownsRow 0 e d.sz v l.length (l.flatMap enc) := (h.own _ (.head _)).1
  have hb := (h.own _ (.head _)).2
  refine ⟨fun k hk => hk, l.flatMap enc, ?_, flat_len hlen l, fun j p hj => ?_⟩
  · refine ⟨ho.1, ?_⟩
    rcases ho.2 with h1 | ⟨g', cap', cur', he, _, rest⟩
    · exact .inl h1
    · exact .inr ⟨g', cap', cur', he, (hb g' (by rw [show (row e d.sz v l.length (l.flatMap enc)).dep g' = (v.ownBlock = some g') from rfl, he]; rfl)).1, rest⟩
  · have e1 : ((l.flatMap enc).drop (j * d.sz)).take d.sz = enc p := by
      apply List.ext_getElem?
      intro i
      rw [List.getElem?_take]
      split
      · rename_i hi
        rw [List.getElem?_drop, flat_at hlen l j i p hj hi]
      · rename_i hi
        rw [List.getElem?_eq_none (by rw [hlen]; omega)]
    rw [e1]
    exact hM _ _ _ _
/-- A row of flat elements read as a list. -/
theorem H.rowC (hK : ∀ w x, d.K w x (enc x)) (hlen : ∀ x, (enc x).length = d.sz) {w0 w : World} {e size : Nat} {A : Option Addr} {c n : Nat} {l : List α} {bs : List Res} (h : H w0 (row e size (.slice A n c) n (l.flatMap enc) :: bs) w) (hsz : size = d.sz) (hn : n = l.length) (hb : l.length ≤ 9223372036854775807) : Kd.C d w A l.length l ∧ l.length ≤ c := by
  subst hn
  exact C_row d enc hK hlen h hsz rfl hb
end
section
variable {P : Program} {N dd : Nat} {w0 w : World} {σ : List (Nat × Value)} {bs : List Res} {a : Act} {K : Act → World → Prop} {Q : Exit → Act → World → Prop}
variable {t ty : TypeId} {ps : String} {af : Array Edge} {gd : Option (Nat × Bool)} {α : Type}
/-- append of a block's elements to a row of flat elements. -/
theorem e_appL {s1 x1 : Operand} {e : TypeId} {z : Value} {size bytes c1 g m1 : Nat} {A : Option Addr} {c : Nat} (enc : α → List Value) (l l2 : List α) {cs : Array Value} {t2 : TypeId} {bs' bs2 : List Res} (k1 : Nat) (h1 : takeAt bs k1 = some (row e size (.slice A l.length c) l.length (l.flatMap enc), bs')) (k2 : Nat) (h2 : takeAt bs k2 = some (pt g cs t2, bs2)) (hs : St N w0 σ bs a w) (hN : Nat.blt dd N = true)
    (ht : P.underlying t = some (.slice e)) (hinfo : (P.info? e).map (fun i => (i.zero, i.size, i.bytes)) = some (some z, size, bytes)) (hzs : z.cells.size = size) (hsz : Nat.blt 0 size = true) (hlen : ∀ x, (enc x).length = size)
    (hx : ev σ s1 = some (.slice A l.length c)) (hy : ev σ x1 = some (.slice (some ⟨g, 0, Option.none⟩) m1 c1)) (hm1 : m1 = l2.length) (hcs : cs.toList.take (m1 * size) = l2.flatMap enc) (ho : ∀ u ∈ l2.flatMap enc, u.oneCell' = true) (h63 : l.length + l2.length ≤ maxLen) (hb : (l.length + l2.length) * bytes ≤ 140737488355328)
    (k : ∀ A' c' a w, St N w0 ((dd, .slice A' (l ++ l2).length c') :: σ) (row e size (.slice A' (l ++ l2).length c') (l ++ l2).length ((l ++ l2).flatMap enc) :: bs') a w → K a w) : (Oper.mk (some dd) (.call { callee := .builtin .append, args := #[s1, x1], argTypes := #[t, t] }) ty ps af gd).wp P a w K Q := by
  subst hm1
  refine e_appendV (news := l2.flatMap enc) k1 h1 hs hN ht hinfo hzs hsz hx hy (fun w hw j u hj => ?_) ?_ ho h63 hb (fun A' c' a w hs => k A' c' a w ?_)
  · have hadd : (⟨g, 0, Option.none⟩ : Addr).add j = ⟨g, j, Option.none⟩ := by unfold Addr.add; split <;> simp_all
    rw [hadd, (hw.to k2 h2).cell, ← Array.getElem?_toList]
    rw [← hcs, List.getElem?_take] at hj
    split at hj
    · exact hj
    · cases hj
  · clear hcs ho h63 hb k hy
    induction l2 with
    | nil => simp
    | cons x r ih => rw [List.flatMap_cons, List.length_append, hlen, ih, List.length_cons, Nat.add_mul]; omega
  · rw [List.length_append, List.flatMap_append]; exact hs
/-- append of elements that stand somewhere. -/
theorem e_appV {s1 x1 : Operand} {e : TypeId} {z : Value} {size bytes c1 m1 : Nat} {A : Option Addr} {ad : Addr} {c : Nat} (enc : α → List Value) (l l2 : List α) {bs' : List Res} (k1 : Nat) (h1 : takeAt bs k1 = some (row e size (.slice A l.length c) l.length (l.flatMap enc), bs')) (hs : St N w0 σ bs a w) (hN : Nat.blt dd N = true)
    (ht : P.underlying t = some (.slice e)) (hinfo : (P.info? e).map (fun i => (i.zero, i.size, i.bytes)) = some (some z, size, bytes)) (hzs : z.cells.size = size) (hsz : Nat.blt 0 size = true) (hlen : ∀ x, (enc x).length = size)
    (hx : ev σ s1 = some (.slice A l.length c)) (hy : ev σ x1 = some (.slice (some ad) m1 c1)) (hm1 : m1 = l2.length) (hnews : ∀ w, H w0 bs w → ∀ j u, (l2.flatMap enc)[j]? = some u → w.cell? (ad.add j) = some u) (ho : ∀ u ∈ l2.flatMap enc, u.oneCell' = true) (h63 : l.length + l2.length ≤ maxLen) (hb : (l.length + l2.length) * bytes ≤ 140737488355328)
    (k : ∀ A' c' a w, St N w0 ((dd, .slice A' (l ++ l2).length c') :: σ) (row e size (.slice A' (l ++ l2).length c') (l ++ l2).length ((l ++ l2).flatMap enc) :: bs') a w → K a w) : (Oper.mk (some dd) (.call { callee := .builtin .append, args := #[s1, x1], argTypes := #[t, t] }) ty ps af gd).wp P a w K Q := by
  subst hm1
  refine e_appendV (news := l2.flatMap enc) k1 h1 hs hN ht hinfo hzs hsz hx hy hnews ?_ ho h63 hb (fun A' c' a w hs => k A' c' a w ?_)
  · clear hnews ho h63 hb k hy
    induction l2 with
    | nil => simp
    | cons x r ih => rw [List.flatMap_cons, List.length_append, hlen, ih, List.length_cons, Nat.add_mul]; omega
  · rw [List.length_append, List.flatMap_append]; exact hs
/-- append of a row of the call's own to another one. -/
theorem e_appR {s1 x1 : Operand} {e : TypeId} {z : Value} {size bytes c1 : Nat} {A A1 : Option Addr} {c : Nat} (enc : α → List Value) (l l2 : List α) {bs' bs2 : List Res} (k1 : Nat) (h1 : takeAt bs k1 = some (row e size (.slice A l.length c) l.length (l.flatMap enc), bs')) (k2 : Nat) (h2 : takeAt bs k2 = some (row e size (.slice A1 l2.length c1) l2.length (l2.flatMap enc), bs2)) (hs : St N w0 σ bs a w) (hN : Nat.blt dd N = true)
    (ht : P.underlying t = some (.slice e)) (hinfo : (P.info? e).map (fun i => (i.zero, i.size, i.bytes)) = some (some z, size, bytes)) (hzs : z.cells.size = size) (hsz : Nat.blt 0 size = true) (hlen : ∀ x, (enc x).length = size)
    (hx : ev σ s1 = some (.slice A l.length c)) (hy : ev σ x1 = some (.slice A1 l2.length c1)) (h0 : 0 < l2.length) (ho : ∀ u ∈ l2.flatMap enc, u.oneCell' = true) (h63 : l.length + l2.length ≤ maxLen) (hb : (l.length + l2.length) * bytes ≤ 140737488355328)
    (k : ∀ A' c' a w, St N w0 ((dd, .slice A' (l ++ l2).length c') :: σ) (row e size (.slice A' (l ++ l2).length c') (l ++ l2).length ((l ++ l2).flatMap enc) :: bs') a w → K a w) : (Oper.mk (some dd) (.call { callee := .builtin .append, args := #[s1, x1], argTypes := #[t, t] }) ty ps af gd).wp P a w K Q := by
  obtain ⟨g, cs, rfl, _, _, _, _, _⟩ := (hs.mem.to k2 h2).rowPt h0
  refine e_appV enc l l2 k1 h1 hs hN ht hinfo hzs hsz hlen hx hy rfl (fun w hw j u hj => ?_) ho h63 hb k
  have hadd : (⟨g, 0, Option.none⟩ : Addr).add j = ⟨g, j, Option.none⟩ := by unfold Addr.add; split <;> simp_all
  rw [hadd]
  exact (hw.to k2 h2).rowCell (by rw [nthV_eq]; exact hj)
end
theorem run_append_zero {P : Program} {t ty e : TypeId} (ht : P.underlying t = some (.slice e)) {i : TypeInfo} (hi : P.info? e = some i) (A A1 : Option Addr) (n c c1 : Nat) (hle : n ≤ c) (w : World) : (Builtin.append_ #[t, t] ty #[.slice A n c, .slice A1 0 c1]).run P w = .ok (.slice A n c) w := by
  cases A <;> cases A1 <;> simp [Builtin.append_, run_underlying ht, sizeOf, typeInfo, hi, Builtin.lenOf, hle, Builtin.firstCells, loadCells, loadCellsFrom, storeCells]
section
variable {P : Program} {N dd : Nat} {w0 w : World} {σ : List (Nat × Value)} {bs : List Res} {a : Act} {K : Act → World → Prop} {Q : Exit → Act → World → Prop}
variable {t ty : TypeId} {ps : String} {af : Array Edge} {gd : Option (Nat × Bool)} {α : Type}
/-- append of a row of the call's own, which may be empty. -/
theorem e_appR0 {s1 x1 : Operand} {e : TypeId} {z : Value} {size bytes c1 : Nat} {A A1 : Option Addr} {c : Nat} (enc : α → List Value) (l l2 : List α) {bs' bs2 : List Res} (k1 : Nat) (h1 : takeAt bs k1 = some (row e size (.slice A l.length c) l.length (l.flatMap enc), bs')) (k2 : Nat) (h2 : takeAt bs k2 = some (row e size (.slice A1 l2.length c1) l2.length (l2.flatMap enc), bs2)) (hs : St N w0 σ bs a w) (hN : Nat.blt dd N = true)
    (ht : P.underlying t = some (.slice e)) (hinfo : (P.info? e).map (fun i => (i.zero, i.size, i.bytes)) = some (some z, size, bytes)) (hzs : z.cells.size = size) (hsz : Nat.blt 0 size = true) (hlen : ∀ x, (enc x).length = size)
    (hx : ev σ s1 = some (.slice A l.length c)) (hy : ev σ x1 = some (.slice A1 l2.length c1)) (ho : ∀ u ∈ l2.flatMap enc, u.oneCell' = true) (h63 : l.length + l2.length ≤ maxLen) (hb : (l.length + l2.length) * bytes ≤ 140737488355328)
    (k : ∀ A' c' a w, St N w0 ((dd, .slice A' (l ++ l2).length c') :: σ) (row e size (.slice A' (l ++ l2).length c') (l ++ l2).length ((l ++ l2).flatMap enc) :: bs') a w → K a w) : (Oper.mk (some dd) (.call { callee := .builtin .append, args := #[s1, x1], argTypes := #[t, t] }) ty ps af gd).wp P a w K Q := by
  rcases Nat.eq_zero_or_pos l2.length with h0 | h0
  · obtain rfl := List.eq_nil_of_length_eq_zero h0
    obtain ⟨i, hi⟩ : ∃ i, P.info? e = some i := by
      cases h3 : P.info? e with
      | none => rw [h3] at hinfo; cases hinfo
      | some i => exact ⟨i, rfl⟩
    have hm1 := hs.mem.to k1 h1
    have hrow : w.ownsRow 0 e size (.slice A l.length c) l.length (l.flatMap enc) := (hm1.own _ (.head _)).1
    have hle : l.length ≤ c := by
      rcases hrow.2 with ⟨hv, hn⟩ | ⟨g', cap, cur, hv, _, _, hc, _⟩
      · omega
      · injection hv with e1 e2 e3; omega
    have hr := run_append_zero (P := P) (ty := ty) ht hi A A1 l.length c c1 hle w
    unfold Oper.wp execOp
    simp only [resolve, invoke, builtin, Sem.run_bind, Sem.run_pure, Result.andThen_ok, List.map_toArray, List.map_cons, List.map_nil, hs.ev hx, hs.ev hy, List.length_nil, hr]
    rw [Oper.upon_value]
    refine k A c _ _ ?_
    rw [List.append_nil]
    exact (hs.mem_to hm1).put (by simpa using hN) _
  · exact e_appR enc l l2 k1 h1 k2 h2 hs hN ht hinfo hzs hsz hlen hx hy h0 ho h63 hb k
end
/-- A block as a row of the call's own. -/
theorem H.ptRow {w0 w : World} {g : Nat} {cs : Array Value} {e : TypeId} {bs : List Res} (h : H w0 (pt g cs e :: bs) w) (size n c : Nat) {xs : List Value} (hc : cs.size = c * size) (hn : n ≤ c) (hm : c ≤ 9223372036854775807) (hx : cs.toList.take (n * size) = xs) : H w0 (row e size (.slice (some ⟨g, 0, none⟩) n c) n xs :: bs) w := by
  refine h.turn (r' := row e size (.slice (some ⟨g, 0, none⟩) n c) n xs) ⟨?_, .inr ⟨g, c, cs, rfl, Nat.zero_le _, h.cells, hn, hm, hc, hx⟩⟩ (fun k hk => ?_)
  · rw [← hx, List.length_take, Array.length_toList, hc]
    have := Nat.mul_le_mul_right size hn
    omega
  · have hk' : (Value.slice (some ⟨g, 0, none⟩) n c).ownBlock = some k := hk
    obtain rfl : g = k := by simpa [Value.ownBlock] using hk'
    rfl
/-- The front of a block read as a list. -/
theorem H.ptC {α : Type} {d : Kd α} {enc : α → List Value} (hK : ∀ w x, d.K w x (enc x)) (hlen : ∀ x, (enc x).length = d.sz) {w0 w : World} {g n : Nat} {l : List α} {cs : Array Value} {t : TypeId} {bs : List Res} (h : H w0 (pt g cs t :: bs) w) (hb : l.length ≤ 9223372036854775807) (hcs : cs.toList.take n = l.flatMap enc) :
    Kd.C d w (some ⟨g, 0, none⟩) l.length l :=
  C_flat d enc hK hlen hb (fun j u hj => by
    rw [h.cell, ← Array.getElem?_toList]
    rw [← hcs, List.getElem?_take] at hj
    split at hj
    · exact hj
    · cases hj)
/-- A package variable stays. -/
theorem varKeep {w0 w : World} (hb : Below w0.heap.size w0 w) {n : String} {cs : Array Value} (h : w0.var? Tryd.prog n = some cs) : w.var? Tryd.prog n = some cs := by
  unfold World.var? at h ⊢
  cases hg : Tryd.prog.globalNamed n with
  | none => rw [hg] at h; cases h
  | some g =>
    simp only [hg, Option.bind_some] at h ⊢
    have hlt : g < w0.heap.size := by
      rcases Nat.lt_or_ge g w0.heap.size with h1 | h1
      · exact h1
      · rw [Array.getElem?_eq_none h1] at h; cases h
    rw [hb.block g hlt]; exact h
theorem drawnB {w w1 : World} (h : Drawn0 w w1) : Below w.heap.size w w1 := by
  obtain ⟨n, rfl⟩ := h
  exact pw_below_drewN (Below.refl _ _) n
/-- Bytes, and whole numbers. -/
def encU (x : Int) : List Value := [.int .u8 x]
def encI (x : Int) : List Value := [.int .i64 x]
theorem encU_K (w : World) (x : Int) (cs : List Value) (h : (Kd.int .u8).K w x cs) : cs = encU x := h
theorem encI_K (w : World) (x : Int) (cs : List Value) (h : (Kd.int .i64).K w x cs) : cs = encI x := h
theorem encU_M (w : World) (base : Nat) (ok : Nat → Prop) (x : Int) (cs : List Value) (h : (Kd.int .u8).M w base ok x cs) : cs = encU x := h
theorem encI_M (w : World) (base : Nat) (ok : Nat → Prop) (x : Int) (cs : List Value) (h : (Kd.int .i64).M w base ok x cs) : cs = encI x := h
theorem encU_len (x : Int) : (encU x).length = (Kd.int .u8).sz := rfl
theorem encI_len (x : Int) : (encI x).length = (Kd.int .i64).sz := rfl
theorem flatU (l : List Int) : l.flatMap encU = l.map (Value.int .u8) := by induction l <;> simp_all [encU]
theorem flatI (l : List Int) : l.flatMap encI = l.map (Value.int .i64) := by induction l <;> simp_all [encI]
theorem oneU (l : List Int) : ∀ u ∈ l.flatMap encU, u.oneCell' = true := by
  intro u hu; rw [flatU] at hu; obtain ⟨x, _, rfl⟩ := List.mem_map.1 hu; rfl
theorem oneI (l : List Int) : ∀ u ∈ l.flatMap encI, u.oneCell' = true := by
  intro u hu; rw [flatI] at hu; obtain ⟨x, _, rfl⟩ := List.mem_map.1 hu; rfl
end Go.Proofs.YtibaidddhmdafaaDoor.E
