/- The reference's Order. -/
import Derived.BigQuiet
import Derived.Deep.QuietTactic
import Derived.Test.YtgkahcchekiogaaRtx
namespace Go.Proofs.Ytgkahcchekiogaa.Rty
open Go.RowKit Go.Shelf Base Kit WideA WideB Plain RefA Alt Held Rtf Rto Rtq Rtj
set_option linter.unusedVariables false
set_option linter.unusedSimpArgs false
set_option maxRecDepth 100000 in
set_option maxHeartbeats 1000000 in
theorem ahead_any (a : Option Addr) (n c : Nat) (f : Nat → Nat → Int) (i k : Nat) (r : Bool) (w : World) (h : Hid (Open.RowsIn w a n 3 f)) (hi : i < n) (hk : k < n) (hr : Hid (lx (ky f) i k = r)) :
    Calls Try.prog 114 #[.slice a n c, .int .i64 (i : Int), .int .i64 (k : Int)] w fun e w' => e = .returned (.bool r) ∧ Below w.heap.size w w' := by
  have hn := h.out.1
  obtain ⟨b, off, ea, hlt, c0, c1, c2, i0, i1, i2⟩ := rows_at3 h i hi
  obtain ⟨b', off', ea', hlt', d0, d1, d2, j0, j1, j2⟩ := rows_at3 h k hk
  rw [ea] at ea'
  simp only [Option.some.injEq, Addr.mk.injEq, and_true] at ea'
  obtain ⟨rfl, rfl⟩ := ea'
  subst ea
  have hiI : (i : Int) < (n : Int) := by omega
  have hkI : (k : Int) < (n : Int) := by omega
  have HL : r = decide (ky f i < ky f k ∨ (ky f i = ky f k ∧ i < k)) := hr.out.symm
  unfold ky at HL
  clear c0 c2 d0 d2 i0 i2 j0 j2 hlt' hr h
  obtain ⟨i1a, i1⟩ := i1
  obtain ⟨j1a, j1⟩ := j1
  generalize f i 1 = y at *
  generalize f k 1 = z at *
  by_cases hy : 0 < y
  · rw [if_pos hy] at HL
    by_cases hz : 0 < z
    · rw [if_pos hz] at HL
      by_cases hyz : y = z
      · subst hyz
        have hr : Hid (r = decide (i < k)) := Lib.hid (by rw [HL]; exact decide_eq_decide.2 (by omega))
        clear HL
        go_enter Try.func114, Try.ntmps114
        go_wp2_with fail
        go_quiet (fail)
        go_wp2_with fail
        go_ret
        exact ⟨ret_bool (by rw [hr.out]; try (first | done | (exact decide_eq_decide.2 (by omega)) | (simp; done))), below_drewN' (Below.refl _ _) _⟩
      · have hr : Hid (r = decide (y < z)) := Lib.hid (by rw [HL]; exact decide_eq_decide.2 (by omega))
        clear HL
        go_enter Try.func114, Try.ntmps114
        go_wp2_with fail
        go_quiet (fail)
        go_wp2_with fail
        go_ret
        exact ⟨ret_bool (by rw [hr.out]; try (first | done | (exact rfl) | (simp; done))), below_drewN' (Below.refl _ _) _⟩
    · rw [if_neg hz] at HL
      have hr : Hid (r = true) := Lib.hid (by rw [HL]; exact decide_eq_true (by omega))
      have hz2 : z ≤ 0 := by omega
      clear HL hz
      go_enter Try.func114, Try.ntmps114
      go_wp2_with fail
      go_quiet (fail)
      go_wp2_with fail
      go_ret
      exact ⟨ret_bool (by rw [hr.out]; try (first | done | (exact rfl) | (simp; done))), below_drewN' (Below.refl _ _) _⟩
  · rw [if_neg hy] at HL
    have hy2 : y ≤ 0 := by omega
    by_cases hz : 0 < z
    · rw [if_pos hz] at HL
      have hr : Hid (r = false) := Lib.hid (by rw [HL]; exact decide_eq_false (by omega))
      clear HL hy
      go_enter Try.func114, Try.ntmps114
      go_wp2_with fail
      go_quiet (fail)
      go_wp2_with fail
      go_ret
      exact ⟨ret_bool (by rw [hr.out]; try (first | done | (exact rfl) | (simp; done))), below_drewN' (Below.refl _ _) _⟩
    · rw [if_neg hz] at HL
      have hr : Hid (r = decide (i < k)) := Lib.hid (by rw [HL]; exact decide_eq_decide.2 (by omega))
      have hz2 : z ≤ 0 := by omega
      clear HL hy hz
      go_enter Try.func114, Try.ntmps114
      go_wp2_with fail
      go_quiet (fail)
      go_wp2_with fail
      go_ret
      exact ⟨ret_bool (by rw [hr.out]; try (first | done | (exact decide_eq_decide.2 (by omega)) | (simp; done))), below_drewN' (Below.refl _ _) _⟩
end Go.Proofs.Ytgkahcchekiogaa.Rty
