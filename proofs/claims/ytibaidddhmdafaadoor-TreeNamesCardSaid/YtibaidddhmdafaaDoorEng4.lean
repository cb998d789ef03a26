/- More of the engine: an append behind which the elder slice stays told; a list of texts that a call has made. No conditions. -/
import Derived.Test.YtibaidddhmdafaaDoorEng2
namespace Go.Proofs.YtibaidddhmdafaaDoor.E
open Go Go.RowKit Go.Proofs.YtibaidddhmdafaaDoorW.PrintWords Go.Proofs.YtibaidddhmdafaaDoorW.PrintLast Go.Proofs.YtibaidddhmdafaaDoorW.PrintMore Go.Proofs.YtibaidddhmdafaaDoor.PA
set_option linter.unusedVariables false
set_option linter.unusedSimpArgs false
/-- Two facts about memory that may lean on one block. -/
def both (r s : Res) : Res where
  dep k := r.dep k ∨ s.dep k
  holds w := r.holds w ∧ s.holds w
  keep w w' h hw := ⟨r.keep w w' (fun g hg => h g (.inl hg)) hw.1, s.keep w w' (fun g hg => h g (.inr hg)) hw.2⟩
theorem H.bothL {w0 w : World} {r s : Res} {bs : List Res} (h : H w0 (both r s :: bs) w) : H w0 (r :: bs) w := h.turn (h.own _ (.head _)).1.1 (fun _ hg => .inl hg)
theorem H.bothR {w0 w : World} {r s : Res} {bs : List Res} (h : H w0 (both r s :: bs) w) : H w0 (s :: bs) w := h.turn (h.own _ (.head _)).1.2 (fun _ hg => .inr hg)
theorem row_front {w : World} {e : TypeId} {size n m c : Nat} {g : Nat} {xs news : List Value} (h : w.ownsRow 0 e size (.slice (some ⟨g, 0, Option.none⟩) m c) m (xs ++ news)) (hn : n ≤ m) (hl : xs.length = n * size) : w.ownsRow 0 e size (.slice (some ⟨g, 0, Option.none⟩) n c) n xs := by
  rcases h.2 with ⟨h1, h2⟩ | ⟨g', cap, cur, hv, h0, hg, hcap, hml, hsz, htk⟩
  · injection h1 with e1 e2 e3; cases e1
  · injection hv with e1 e2 e3
    obtain rfl : g = g' := by simpa using e1
    subst e3
    refine ⟨hl, .inr ⟨g, c, cur, rfl, h0, hg, by omega, hml, hsz, ?_⟩⟩
    have h3 : (cur.toList.take (m * size)).take (n * size) = (xs ++ news).take (n * size) := by rw [htk]
    rw [List.take_take, Nat.min_eq_left (Nat.mul_le_mul_right _ hn), ← hl, List.take_left] at h3
    rw [← hl]; exact h3
theorem run_append_two {P : Program} (w : World) (t ty e : TypeId) (i : TypeInfo) (z : Value) (size bytes : Nat) (ht : P.underlying t = some (.slice e)) (hi : P.info? e = some i) (hz : i.zero = some z)
    (hsize : i.size = size) (hby : i.bytes = bytes) (hzs : z.cells.size = size) (hsz : 0 < size) (A : Value) (n1 : Nat) (xs : List Value) (hown : w.ownsRow 0 e size A n1 xs)
    (ad : Addr) (m1 c1 : Nat) (news : List Value) (hl : news.length = m1 * size) (hnews : ∀ j u, news[j]? = some u → w.cell? (ad.add j) = some u) (h1 : ∀ u ∈ news, u.oneCell' = true)
    (h63 : n1 + m1 ≤ maxLen) (hbytes : (n1 + m1) * bytes ≤ 140737488355328) :
    ∃ v' w', (Builtin.append_ #[t, t] ty #[A, .slice (some ad) m1 c1]).run P w = .ok v' w' ∧ w'.ownsRow 0 e size v' (n1 + m1) (xs ++ news) ∧ w'.ownsRow 0 e size A n1 xs ∧ w.grownBy w' A.ownBlock ∧ (∀ g, v'.ownBlock = some g → A.ownBlock = some g ∨ w.heap.size ≤ g) := by
  have hlen := hown.1
  rcases hown.2 with ⟨hv, hn⟩ | ⟨g, cap, cur, hv, hbg, hg, hnc, hcm, hcs, htake⟩
  · subst hv; subst hn
    obtain rfl : xs = [] := List.eq_nil_of_length_eq_zero (by simpa using hlen)
    obtain ⟨v', w', hr, h2, h3, _⟩ := run_append_own (P := P) w w.heap.size t ty e i z size bytes ht hi hz hsize hby hzs hsz (.slice Option.none 0 0) 0 [] (World.ownsRow_nil _ _ _ _) ad m1 c1 news hl hnews h1 h63 hbytes (Nat.le_refl _)
    exact ⟨v', w', hr, own_base h2 (Nat.zero_le _), World.ownsRow_nil _ _ _ _, h3, fun g hg => .inr (h2.lt g hg).1⟩
  · subst hv
    by_cases hroom : n1 + m1 ≤ cap
    · obtain ⟨w', hr, h2, h3⟩ := run_append_fits (P := P) w 0 t ty e i size ht hi hsize g n1 cap xs hown ad m1 c1 news hl hnews h1 hroom
      exact ⟨_, w', hr, h2, row_front h2 (by omega) hlen, h3, fun g' hg' => .inl hg'⟩
    · obtain ⟨v', w', hr, h2, h3⟩ := run_append_arg_grows (P := P) w t ty e i z size bytes ht hi hz hsize hby hzs hsz ⟨g, 0, Option.none⟩ n1 cap xs hlen (hown.cells (g := g) rfl) ad m1 c1 news hl hnews (by omega) h63 hbytes
      have hlt : g < w.heap.size := by
        rcases Nat.lt_or_ge g w.heap.size with h' | h'
        · exact h'
        · simp [Array.getElem?_eq_none h'] at hg
      refine ⟨v', w', hr, own_base h2 (Nat.zero_le _), ⟨hlen, .inr ⟨g, cap, cur, rfl, hbg, ?_, hnc, hcm, hcs, htake⟩⟩, ⟨h3.os, h3.tape, h3.output, h3.size, fun k hk _ => h3.block k hk (by simp)⟩, fun g' hg' => .inr (h2.lt g' hg').1⟩
      rw [h3.block g hlt (by simp)]; exact hg
section
variable {P : Program} {N d : Nat} {w0 w : World} {σ : List (Nat × Value)} {bs bs1 : List Res} {a : Act} {K : Act → World → Prop} {Q : Exit → Act → World → Prop}
variable {x y : Operand} {od : Option Nat} {t t' ty : TypeId} {ps : String} {af : Array Edge} {gd : Option (Nat × Bool)} {v : Value} {m n : Int}
/-- append, the elder slice staying told. -/
theorem e_append2 {s1 x1 : Operand} {e : TypeId} {z : Value} {size bytes n1 m1 c1 g : Nat} {A : Value} {xs news : List Value} {cs : Array Value} {t2 : TypeId} {bs' bs2 : List Res} (k1 : Nat) (h1 : takeAt bs k1 = some (row e size A n1 xs, bs')) (k2 : Nat) (h2 : takeAt bs k2 = some (pt g cs t2, bs2)) (hs : St N w0 σ bs a w) (hN : Nat.blt d N = true)
    (ht : P.underlying t = some (.slice e)) (hinfo : (P.info? e).map (fun i => (i.zero, i.size, i.bytes)) = some (some z, size, bytes)) (hzs : z.cells.size = size) (hsz : Nat.blt 0 size = true)
    (hx : ev σ s1 = some A) (hy : ev σ x1 = some (.slice (some ⟨g, 0, Option.none⟩) m1 c1)) (hcs : cs.toList = news) (hl : news.length = m1 * size) (ho : news.all (·.oneCell') = true) (h63 : n1 + m1 ≤ maxLen) (hb : (n1 + m1) * bytes ≤ 140737488355328)
    (k : ∀ A' c' a w, St N w0 ((d, .slice A' (n1 + m1) c') :: σ) (both (row e size (.slice A' (n1 + m1) c') (n1 + m1) (xs ++ news)) (row e size A n1 xs) :: bs') a w → K a w) : (Oper.mk (some d) (.call { callee := .builtin .append, args := #[s1, x1], argTypes := #[t, t] }) ty ps af gd).wp P a w K Q := by
  obtain ⟨i, hi, hz, hsize, hby⟩ : ∃ i, P.info? e = some i ∧ i.zero = some z ∧ i.size = size ∧ i.bytes = bytes := by
    cases h3 : P.info? e with
    | none => rw [h3] at hinfo; cases hinfo
    | some i =>
      rw [h3] at hinfo
      simp only [Option.map_some, Option.some.injEq, Prod.mk.injEq] at hinfo
      exact ⟨i, rfl, hinfo.1, hinfo.2.1, hinfo.2.2⟩
  have hm1 := hs.mem.to k1 h1
  have hm2 := hs.mem.to k2 h2
  have hrow : w.ownsRow 0 e size A n1 xs := (hm1.own _ (.head _)).1
  obtain ⟨v', w', hr, hown, hold, hgr, hbl⟩ := run_append_two (P := P) w t ty e i z size bytes ht hi hz hsize hby hzs (by simpa using hsz) A n1 xs hrow ⟨g, 0, Option.none⟩ m1 c1 news hl (fun j u hj => by
    have hadd : (⟨g, 0, Option.none⟩ : Addr).add j = ⟨g, j, Option.none⟩ := by unfold Addr.add; split <;> simp_all
    rw [hadd, hm2.cell, ← Array.getElem?_toList, hcs]
    exact hj) (fun u hu => (List.all_eq_true.1 ho) u hu) h63 hb
  have hshape : ∃ A' c', v' = .slice A' (n1 + m1) c' := by
    rcases hown.2 with ⟨hv, hn⟩ | ⟨g', cap, cur, hv, _⟩
    · exact ⟨Option.none, 0, by rw [hv, hn]⟩
    · exact ⟨_, _, hv⟩
  obtain ⟨A', c', rfl⟩ := hshape
  unfold Oper.wp execOp
  simp only [resolve, invoke, builtin, Sem.run_bind, Sem.run_pure, Result.andThen_ok, List.map_toArray, List.map_cons, List.map_nil, hs.ev hx, hs.ev hy, hr]
  rw [Oper.upon_value]
  refine k A' c' _ _ ((hs.mem_to (hm1.upd (r' := both (row e size (.slice A' (n1 + m1) c') (n1 + m1) (xs ++ news)) (row e size A n1 xs)) hgr.os hgr.tape hgr.output hgr.size (fun k hk hne => hgr.block k hk (fun e2 => hne e2.symm)) ⟨hown, hold⟩ (fun g' hg' => ?_))).put (by simpa using hN) _)
  rcases hg' with hg' | hg'
  · exact ⟨hbl g' hg', (hown.lt g' hg').2⟩
  · exact ⟨.inl hg', (hold.lt g' hg').2⟩
end
/-- A list of texts that a call has made. -/
def strs (v : Value) (l : List ByteArray) : Res where
  dep k := v.ownBlock = some k
  holds w := ∃ A c, v = .slice A l.length c ∧ Kd.C Kd.string w A l.length l
  keep w w' h hw := by
    obtain ⟨A, c, hv, hl, hb, hc⟩ := hw
    refine ⟨A, c, hv, hl, hb, fun h0 => ?_⟩
    obtain ⟨ad, hA, hr⟩ := hc h0
    refine ⟨ad, hA, fun j p hj => ?_⟩
    obtain ⟨cl, hlen, hK, hcc⟩ := hr j p hj
    refine ⟨cl, hlen, hK, fun i u hu => ?_⟩
    have hbl : w'.heap[ad.block]? = w.heap[ad.block]? := h _ (by rw [hv, hA]; rfl)
    have hadd : (ad.add (j * Kd.string.sz + i)).block = ad.block := by unfold Addr.add; split <;> rfl
    rw [World.cell?_of_block (w := w) (by rw [hadd]; exact hbl)]
    exact hcc i u hu
theorem H.addStrs {w0 w w' : World} {bs : List Res} {v : Value} {l : List ByteArray} {e : Nat} (h : H w0 bs w) (hb : Below w.heap.size w w') (hr : Kd.R Kd.string e w' w.heap.size (fun _ => True) v l) : H w0 (strs v l :: bs) w' := by
  refine h.add hb ?_ (fun g hg => ?_)
  · obtain ⟨A, c, hv, _, hC⟩ := Kd.R_reads hr
    exact ⟨A, c, hv, hC⟩
  · have := (Kd.R_bound hr).1 g hg
    exact ⟨this.2.1, this.2.2.1⟩
end Go.Proofs.YtibaidddhmdafaaDoor.E
