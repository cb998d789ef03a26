/- The references' Same of two programs, and of two lists of bytes, in plain words. No conditions. -/
import Derived.Test.YtpdemfnemkmelaaDoorRead
import Derived.Test.YtpdemfnemkmelaaDoorPAM0
namespace Go.Proofs.YtpdemfnemkmelaaDoor.E
open Go Go.RowKit Go.Proofs.YtpdemfnemkmelaaDoorW.PrintWords Go.Proofs.YtpdemfnemkmelaaDoorW.PrintLast Go.Proofs.YtpdemfnemkmelaaDoorW.PrintMore Go.Proofs.YtpdemfnemkmelaaDoor.PA Go.Proofs.YtpdemfnemkmelaaDoor.Num
set_option linter.unusedVariables false
set_option linter.unusedSimpArgs false
theorem stp_ext {x y : Stp} (h0 : x.f0 = y.f0) (h1 : x.f1 = y.f1) (h2 : x.f2 = y.f2) (h3 : x.f3 = y.f3) : x = y := by
  cases x; cases y; simp only at h0 h1 h2 h3; subst h0 h1 h2 h3; rfl
theorem psame_l0 (l l' : List Stp) (a1 a2 a3 b1 b2 b3 : Int) (hl : l.length = l'.length) (hz : l.length < 9223372036854775807) : ∀ (d i k : Nat), i + d = l.length → d < k → ∃ r, recoupref23_Same.l0 k (i : Int) l a1 a2 a3 l' b1 b2 b3 = some r ∧ (r = true ↔ l.drop i = l'.drop i) := by
  intro d
  induction d with
  | zero =>
    intro i k h hk
    obtain ⟨k, rfl⟩ : ∃ m, k = m + 1 := ⟨k - 1, by omega⟩
    refine ⟨true, ?_, ?_⟩
    · simp only [recoupref23_Same.l0]; rw [if_neg (by omega)]
    · rw [List.drop_eq_nil_of_le (by omega), List.drop_eq_nil_of_le (by omega)]; simp
  | succ d ih =>
    intro i k h hk
    obtain ⟨k, rfl⟩ : ∃ m, k = m + 1 := ⟨k - 1, by omega⟩
    simp only [recoupref23_Same.l0]
    rw [if_pos (by omega), if_pos (by omega), if_pos (by omega)]
    have hw : wrap64 ((i : Int) + 1) = ((i + 1 : Nat) : Int) := by unfold wrap64; omega
    have e1 : rd_T47 l (i : Int) = l[i]'(by omega) := by unfold rd_T47; rw [Int.toNat_natCast, List.getD_eq_getElem?_getD, List.getElem?_eq_getElem (by omega)]; rfl
    have e2 : rd_T47 l' (i : Int) = l'[i]'(by omega) := by unfold rd_T47; rw [Int.toNat_natCast, List.getD_eq_getElem?_getD, List.getElem?_eq_getElem (by omega)]; rfl
    have d1 := List.drop_eq_getElem_cons (l := l) (i := i) (by omega)
    have d2 := List.drop_eq_getElem_cons (l := l') (i := i) (by omega)
    rw [hw, e1, e2, d1, d2]
    obtain ⟨r, hr, hrr⟩ := ih (i + 1) k (by omega) (by omega)
    generalize l[i]'(by omega) = x
    generalize l'[i]'(by omega) = y
    rw [hr]
    by_cases hx : x = y
    · subst hx
      refine ⟨r, if_neg (by simp), ?_⟩
      rw [hrr]; simp
    · refine ⟨false, if_pos ?_, by simp [hx]⟩
      rcases Classical.em (x.f0 = y.f0) with h0 | h0
      · rcases Classical.em (x.f1 = y.f1) with h1 | h1
        · rcases Classical.em (x.f2 = y.f2) with h2 | h2
          · rcases Classical.em (x.f3 = y.f3) with h3 | h3
            · exact absurd (stp_ext h0 h1 h2 h3) hx
            · simp [h3]
          · simp [h2]
        · simp [h1]
      · simp [h0]
theorem psame_ok (l l' : List Stp) (a1 a2 a3 b1 b2 b3 : Int) (hz : l.length < 9223372036854775807) : ∃ r, recoupref23_Same.f (l.length + 3) l a1 a2 a3 l' b1 b2 b3 = some r ∧ (r = true ↔ (l = l' ∧ a1 = b1 ∧ a2 = b2 ∧ a3 = b3)) := by
  unfold recoupref23_Same.f
  by_cases hl : l.length = l'.length
  · rw [if_pos (by omega)]
    by_cases h1 : a1 = b1
    · rw [if_pos h1]
      by_cases h2 : a2 = b2
      · rw [if_pos h2]
        simp only [recoupref23_Same.j0]
        by_cases h3 : a3 = b3
        · rw [if_neg (by simp [h3])]
          obtain ⟨r, hr, hrr⟩ := psame_l0 l l' a1 a2 a3 b1 b2 b3 hl hz l.length 0 (l.length + 2) (by omega) (by omega)
          refine ⟨r, hr, ?_⟩
          rw [hrr]; simp [h1, h2, h3]
        · rw [if_pos (by simpa using h3)]; exact ⟨false, rfl, by simp [h3]⟩
      · rw [if_neg h2]; simp only [recoupref23_Same.j0]; rw [if_pos trivial]; exact ⟨false, rfl, by simp [h2]⟩
    · rw [if_neg h1]; simp only [recoupref23_Same.j0]; rw [if_pos trivial]; exact ⟨false, rfl, by simp [h1]⟩
  · rw [if_neg (by omega)]; simp only [recoupref23_Same.j0]; rw [if_pos trivial]
    exact ⟨false, rfl, by simp; intro h; exact absurd (congrArg List.length h) hl⟩
theorem psame (A0 A1 : Option Addr) (c0 c1 : Nat) (l l' : List Stp) (a1 a2 a3 b1 b2 b3 : Int) (w : World) (h0 : Kd.C k47 w A0 l.length l ∧ l.length ≤ c0) (h1 : Kd.C k47 w A1 l'.length l' ∧ l'.length ≤ c1) (hz : l.length < 9223372036854775807) :
    Calls Tryd.prog 17 #[.agg #[.slice A0 l.length c0, .int .i64 a1, .int .i64 a2, .int .u64 a3], .agg #[.slice A1 l'.length c1, .int .i64 b1, .int .i64 b2, .int .u64 b3]] w fun e w' => ∃ r : Bool, e = .returned (.bool r) ∧ (r = true ↔ (l = l' ∧ a1 = b1 ∧ a2 = b2 ∧ a3 = b3)) ∧ Below w.heap.size w w' := by
  obtain ⟨r, hr, hrr⟩ := psame_ok l l' a1 a2 a3 b1 b2 b3 hz
  refine (recoupref23_Same.calls (l.length + 3) A0 c0 l a1 a2 a3 A1 c1 l' b1 b2 b3 r w h0.1 h0.2 h1.1 h1.2 hr).mono ?_
  rintro e w' ⟨rfl, hb⟩
  exact ⟨r, rfl, hrr, hb⟩
theorem psame_refl (A0 A1 : Option Addr) (c0 c1 : Nat) (l : List Stp) (a1 a2 a3 : Int) (w : World) (h0 : Kd.C k47 w A0 l.length l ∧ l.length ≤ c0) (h1 : Kd.C k47 w A1 l.length l ∧ l.length ≤ c1) (hz : l.length < 9223372036854775807) :
    Calls Tryd.prog 17 #[.agg #[.slice A0 l.length c0, .int .i64 a1, .int .i64 a2, .int .u64 a3], .agg #[.slice A1 l.length c1, .int .i64 a1, .int .i64 a2, .int .u64 a3]] w fun e w' => e = .returned (.bool true) ∧ Below w.heap.size w w' := by
  refine (psame A0 A1 c0 c1 l l a1 a2 a3 a1 a2 a3 w h0 h1 hz).mono ?_
  rintro e w' ⟨r, rfl, hr, hb⟩
  rw [hr.2 ⟨rfl, rfl, rfl, rfl⟩]
  exact ⟨rfl, hb⟩
/-- Lists of bytes. -/
theorem nums_inj {l l' : List Int} (h : byteL l) (h' : byteL l') : ((strOfNums l).toList == (strOfNums l').toList) = true ↔ l = l' := by
  constructor
  · intro he
    have e1 := eq_of_beq he
    have e2 : (strOfNums l).data.toList = (strOfNums l').data.toList := by rw [ByteArray.toList_eq, ByteArray.toList_eq] at e1; exact e1
    rw [strOfNums_data, strOfNums_data] at e2
    have back : ∀ l : List Int, byteL l → (l.map fun n => UInt8.ofNat n.toNat).map (fun c => (c.toNat : Int)) = l := by
      intro l hb
      rw [List.map_map]
      conv => rhs; rw [← List.map_id l]
      apply List.map_congr_left
      intro x hx
      have := hb x hx
      simp only [Function.comp_apply, id]
      rw [UInt8.toNat_ofNat']
      omega
    rw [← back l h, ← back l' h', e2]
  · rintro rfl; simp
theorem bsame (A0 A1 : Option Addr) (c0 c1 : Nat) (l l' : List Int) (w : World) (hb : byteL l) (hb' : byteL l') (h0 : Kd.C (Kd.int .u8) w A0 l.length l ∧ l.length ≤ c0) (h1 : Kd.C (Kd.int .u8) w A1 l'.length l' ∧ l'.length ≤ c1) :
    Calls Tryd.prog 18 #[.slice A0 l.length c0, .slice A1 l'.length c1] w fun e w' => ∃ r : Bool, e = .returned (.bool r) ∧ (r = true ↔ l = l') ∧ Below w.heap.size w w' :=
  (recoupref01_Same.calls A0 c0 l A1 c1 l' _ w h0.1 h0.2 h1.1 h1.2 rfl).mono (by rintro e w1 ⟨rfl, hd⟩; exact ⟨_, rfl, nums_inj hb hb', drawnB hd⟩)
end Go.Proofs.YtpdemfnemkmelaaDoor.E
