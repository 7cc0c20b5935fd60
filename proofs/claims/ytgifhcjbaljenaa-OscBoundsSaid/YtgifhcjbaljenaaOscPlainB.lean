/- How wrong an oscillator may be: the plain numbers. -/
import Derived.Test.YtgifhcjbaljenaaOscPlain
namespace Go.Proofs.Ytgifhcjbaljenaa.OscPlainB
open WideB (md mdQ)
open OscPlain
set_option linter.unusedVariables false
set_option linter.unusedSimpArgs false

/-- a ceiling -/
def cl (N D : Int) : Int := (N + (D - 1)) / D
def bbad (h n ns : Int) : Prop := h < 1 ∨ 1000000 < h ∨ n < 1 ∨ 1000000000 < n ∨ ns < 1 ∨ 1000000000000 < ns
instance (h n ns : Int) : Decidable (bbad h n ns) := by unfold bbad; exact inferInstance
def hi (h n ns : Int) : Int := if 2000000 < cl ((n + 1) * 1000000000000000) (ns * h) then 2000000 else cl ((n + 1) * 1000000000000000) (ns * h)
/-- the three results -/
def bnd (h n ns : Int) : Int × Int × Int :=
  if bbad h n ns then (0, 0, 2) else if 1999999 < cl (n * 1000000000000000) (ns * h) then (0, 0, 6)
  else if hi h n ns - 1 < cl (n * 1000000000000000) (ns * h) then (0, 0, 6) else (cl (n * 1000000000000000) (ns * h) - 1000000, hi h n ns - 1000001, 0)

theorem cl_pos {N D : Int} (hN : 1 ≤ N) (hD : 1 ≤ D) : 1 ≤ cl N D := by
  unfold cl; exact Int.le_ediv_of_mul_le (by omega) (by omega)
theorem cl_mono {N M D : Int} (h : N ≤ M) (hD : 1 ≤ D) : cl N D ≤ cl M D := by
  unfold cl; exact Int.ediv_le_ediv (by omega) (by omega)
theorem d0 {h n ns : Int} (hb : ¬ bbad h n ns) : 1 ≤ ns * h ∧ ns * h ≤ 1000000000000000000 := by
  unfold bbad at hb
  have a : 1 * h ≤ ns * h := Int.mul_le_mul_of_nonneg_right (by omega) (by omega)
  have b : ns * h ≤ 1000000000000 * h := Int.mul_le_mul_of_nonneg_right (by omega) (by omega)
  omega
theorem not_bad {h p : Int} (h1 : 1 ≤ h) (h2 : h ≤ 1000000) (p1 : -999999 ≤ p) (p2 : p ≤ 999999) : ¬ bad h p := by unfold bad; omega

theorem fits_cl {h p m ns : Int} (h1 : 1 ≤ h) (h2 : h ≤ 1000000) (p1 : -999999 ≤ p) (p2 : p ≤ 999999) (m0 : 0 ≤ m) (m1 : m ≤ 1000000000000) (n1 : 1 ≤ ns) (n2 : ns ≤ 1000000000000) :
    fits h p m ns = true ↔ cl (m * 1000000000000000) (ns * h) ≤ 1000000 + p := by
  have a : 1 * h ≤ ns * h := Int.mul_le_mul_of_nonneg_right (by omega) (by omega)
  have c := ceil_le (m * 1000000000000000) (ns * h) (1000000 + p) (by omega)
  rw [fits_iff (not_bad h1 h2 p1 p2) m0 m1 (by omega)]
  unfold cl
  rw [c]
  unfold dd
  rw [← Int.mul_assoc, Int.mul_comm (1000000 + p)]

/-- what the search tells of those of which a bound has not yet come -/
theorem last_cl {L : Int} {p : Int → Bool} {r : Int} (hL : 1 ≤ L) (hp : ∀ x, -999999 ≤ x → x ≤ 999999 → (p x = true ↔ 1000000 + x < L)) (hr : Last (-999999) 999999 p r) :
    r = if 1999999 < L then 999999 else L - 1000001 := by
  have h1 := hr.lo; have h2 := hr.hi
  have a : -999999 ≤ r → 1000000 + r < L := fun h => (hp r h h2).1 (hr.yes h)
  have b : r < 999999 → L ≤ 1000000 + (r + 1) := fun h => by
    have hn := hr.no h
    refine Int.not_lt.1 fun hlt => ?_
    rw [(hp (r + 1) (by omega) (by omega)).2 hlt] at hn
    cases hn
  split <;> omega

theorem md_cl {N : Int} {n D : Int} (hN : N = n * 1000000000000000) (hn : 0 ≤ n) (hD : 1 ≤ D) : md n 1000000000000000 D true = if cl N D ≤ 9223372036854775807 then (cl N D, 0) else (0, 6) := by
  subst hN; unfold md mdQ cl; rw [if_neg (by omega)]; rfl

/-- so many fit: so it is within -/
theorem bnd_in {h p ns : Int} (hb : ¬ bad h p) (k1 : 1 ≤ cnt h p ns) (k2 : cnt h p ns ≤ 1000000000) (n1 : 1 ≤ ns) (n2 : ns ≤ 1000000000000) :
    ∃ c d, bnd h (cnt h p ns) ns = (c, d, 0) ∧ c ≤ p ∧ p ≤ d := by
  obtain ⟨f1, f2⟩ := cnt_fits hb (show 0 ≤ ns by omega)
  have hpb : 1 ≤ h ∧ h ≤ 1000000 ∧ -999999 ≤ p ∧ p ≤ 999999 := by unfold bad at hb; omega
  obtain ⟨h1, h2, p1, p2⟩ := hpb
  have g1 := (fits_cl h1 h2 p1 p2 (by omega) (by omega) n1 n2).1 ((fits_iff hb (by omega) (by omega) (by omega)).2 f1)
  have g2 : 1000000 + p < cl ((cnt h p ns + 1) * 1000000000000000) (ns * h) := by
    refine Int.not_le.1 fun hle => ?_
    have := (fits_iff (n := cnt h p ns + 1) hb (by omega) (by omega) (by omega)).1 ((fits_cl (m := cnt h p ns + 1) h1 h2 p1 p2 (by omega) (by omega) n1 n2).2 hle)
    have := f2 (by omega)
    omega
  have hhi : 1000000 + p + 1 ≤ hi h (cnt h p ns) ns := by unfold hi; split <;> omega
  refine ⟨cl (cnt h p ns * 1000000000000000) (ns * h) - 1000000, hi h (cnt h p ns) ns - 1000001, ?_, by omega, by omega⟩
  unfold bnd
  rw [if_neg (by unfold bbad; omega), if_neg (by omega), if_neg (by omega)]
theorem bnd_bd (h n ns : Int) : 0 ≤ (bnd h n ns).2.2 ∧ (bnd h n ns).2.2 ≤ 6 := by
  unfold bnd; (repeat' split) <;> simp
end Go.Proofs.Ytgifhcjbaljenaa.OscPlainB
