/- Oscillators: the plain numbers. -/
import Derived.Test.YtgkahcchekiogaaWideB
namespace Go.Proofs.Ytgkahcchekiogaa.OscPlain
set_option linter.unusedVariables false
set_option linter.unusedSimpArgs false
open WideB (md mdQ)

def bad (h p : Int) : Prop := h < 1 ∨ 1000000 < h ∨ p < -999999 ∨ 999999 < p
instance (h p : Int) : Decidable (bad h p) := by unfold bad; exact inferInstance
def chk (h p : Int) : Int := if bad h p then 2 else 0
/-- how much an oscillator runs -/
def dd (h p : Int) : Int := h * (1000000 + p)
theorem dd_bd {h p : Int} (hb : ¬ bad h p) : 1 ≤ dd h p ∧ dd h p ≤ 1999999000000 ∧ 1 ≤ 1000000 + p ∧ 1000000 + p ≤ 1999999 ∧ 1 ≤ h ∧ h ≤ 1000000 := by
  unfold bad at hb
  have h1 : 1 ≤ h := by omega
  have h2 : h ≤ 1000000 := by omega
  have h3 : 1 ≤ 1000000 + p := by omega
  have h4 : 1000000 + p ≤ 1999999 := by omega
  have a : 1 * (1000000 + p) ≤ h * (1000000 + p) := Int.mul_le_mul_of_nonneg_right h1 (by omega)
  have b : h * (1000000 + p) ≤ 1000000 * (1000000 + p) := Int.mul_le_mul_of_nonneg_right h2 (by omega)
  unfold dd
  omega
def el (h p n : Int) : Int × Int := if bad h p ∨ n < 0 ∨ 1000000000000 < n then (0, 2) else md n 1000000000000000 (dd h p) true
def fits (h p n ns : Int) : Bool := (el h p n).2 == 0 && decide ((el h p n).1 ≤ ns)

theorem ceil_le (N D ns : Int) (hD : 0 < D) : (N + (D - 1)) / D ≤ ns ↔ N ≤ ns * D := by
  rw [← Int.lt_add_one_iff, Int.ediv_lt_iff_lt_mul hD, Int.add_mul]
  omega

theorem fits_iff {h p n ns : Int} (hb : ¬ bad h p) (h0 : 0 ≤ n) (h1 : n ≤ 1000000000000) (hns : ns ≤ 9223372036854775807) : fits h p n ns = true ↔ n * 1000000000000000 ≤ ns * dd h p := by
  obtain ⟨d1, d2, _⟩ := dd_bd hb
  have c := ceil_le (n * 1000000000000000) (dd h p) ns (by omega)
  have hnb : ¬ (bad h p ∨ n < 0 ∨ 1000000000000 < n) := fun h => by rcases h with h | h | h; exact hb h; omega; omega
  have hm : md n 1000000000000000 (dd h p) true = if (n * 1000000000000000 + (dd h p - 1)) / dd h p ≤ 9223372036854775807 then ((n * 1000000000000000 + (dd h p - 1)) / dd h p, 0) else (0, 6) := by
    unfold md mdQ; rw [if_neg (by omega)]; rfl
  unfold fits el
  rw [if_neg hnb, hm, ← c]
  split
  · simp
  · simp; omega

theorem el_bd (h p n : Int) : 0 ≤ (el h p n).2 ∧ (el h p n).2 ≤ 6 := by
  unfold el; split
  · simp
  · unfold md; split
    · simp
    · split <;> simp

/-- how many fit -/
def cnt (h p ns : Int) : Int := if 1000000000000 * 1000000000000000 ≤ ns * dd h p then 1000000000000 else ns * dd h p / 1000000000000000
def cn (h p ns : Int) : Int × Int := if bad h p ∨ ns < 0 then (0, 2) else (cnt h p ns, 0)

theorem cnt_bd {h p ns : Int} (hb : ¬ bad h p) (h0 : 0 ≤ ns) : 0 ≤ cnt h p ns ∧ cnt h p ns ≤ 1000000000000 := by
  obtain ⟨d1, d2, _⟩ := dd_bd hb
  have hp : 0 ≤ ns * dd h p := Int.mul_nonneg h0 (by omega)
  unfold cnt; split <;> omega
theorem cnt_iff {h p ns k : Int} (hb : ¬ bad h p) (h0 : 0 ≤ ns) (h1 : k * 1000000000000000 ≤ ns * dd h p) (h2 : k ≤ 1000000000000) (h3 : k < 1000000000000 → ns * dd h p < (k + 1) * 1000000000000000) : k = cnt h p ns := by
  unfold cnt; split <;> omega
theorem cnt_fits {h p ns : Int} (hb : ¬ bad h p) (h0 : 0 ≤ ns) : cnt h p ns * 1000000000000000 ≤ ns * dd h p ∧ (cnt h p ns < 1000000000000 → ns * dd h p < (cnt h p ns + 1) * 1000000000000000) := by
  obtain ⟨d1, d2, _⟩ := dd_bd hb
  have hp : 0 ≤ ns * dd h p := Int.mul_nonneg h0 (by omega)
  unfold cnt; split <;> omega

/-- what a search by halves tells -/
structure Last (f t : Int) (p : Int → Bool) (r : Int) : Prop where
  lo : f - 1 ≤ r
  hi : r ≤ t
  yes : f ≤ r → p r = true
  no : r < t → p (r + 1) = false

theorem last_cnt {h p ns r : Int} (hb : ¬ bad h p) (h0 : 0 ≤ ns) (hns : ns ≤ 9223372036854775807) (hr : Last 0 1000000000000 (fun n => fits h p n ns) r) : r = cnt h p ns := by
  obtain ⟨d1, d2, _⟩ := dd_bd hb
  have hp : 0 ≤ ns * dd h p := Int.mul_nonneg h0 (by omega)
  have hlo := hr.lo; have hhi := hr.hi
  have h1 : 0 ≤ r := by
    refine Int.not_lt.1 fun hlt => ?_
    have e : r = -1 := by omega
    have hn := hr.no (by omega)
    rw [e] at hn
    have := (fits_iff (n := 0) (ns := ns) hb (by omega) (by omega) hns).2 (by omega)
    have hn' : fits h p 0 ns = false := hn
    rw [this] at hn'
    cases hn'
  refine cnt_iff hb h0 ?_ hhi fun hlt => ?_
  · exact (fits_iff hb h1 hhi hns).1 (hr.yes h1)
  · have hn : fits h p (r + 1) ns = false := hr.no hlt
    refine Int.not_le.1 fun hle => ?_
    have := (fits_iff (n := r + 1) (ns := ns) hb (by omega) (by omega) hns).2 hle
    rw [this] at hn
    cases hn

/-- the reference's count -/
theorem md_cnt {h p ns : Int} (hb : ¬ bad h p) (h0 : 0 ≤ ns) :
    cnt h p ns = if (md ns (dd h p) 1000000000000000 false).2 ≠ 0 ∨ 1000000000000 < (md ns (dd h p) 1000000000000000 false).1 then 1000000000000 else (md ns (dd h p) 1000000000000000 false).1 := by
  obtain ⟨d1, d2, _⟩ := dd_bd hb
  have hp : 0 ≤ ns * dd h p := Int.mul_nonneg h0 (by omega)
  have hm : md ns (dd h p) 1000000000000000 false = if ns * dd h p / 1000000000000000 ≤ 9223372036854775807 then (ns * dd h p / 1000000000000000, 0) else (0, 6) := by
    unfold md mdQ; rw [if_neg (by omega)]; rfl
  rw [hm]
  unfold cnt
  by_cases hq : ns * dd h p / 1000000000000000 ≤ 9223372036854775807
  · rw [if_pos hq]
    simp only [ne_eq, not_true_eq_false, false_or]
    split <;> split <;> omega
  · rw [if_neg hq]
    simp only [ne_eq]
    rw [if_pos (by omega), if_pos (by left; decide)]
end Go.Proofs.Ytgkahcchekiogaa.OscPlain
