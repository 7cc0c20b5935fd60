/- Walks of package battery: New, and what works. -/
import Derived.Test.YtgifhcjbaljenaaBatA
namespace Go.Proofs.Ytgifhcjbaljenaa.BatB
open Go.RowKit Base WideA WideB BatA
set_option linter.unusedVariables false
set_option linter.unusedSimpArgs false

def bad (F F0 S : Int) : Prop := F < 1 ∨ 1152921504606846976 < F ∨ F0 < 0 ∨ F < F0 ∨ S < 1 ∨ 1000000 < S
instance (F F0 S : Int) : Decidable (bad F F0 S) := by unfold bad; exact inferInstance
def chk (F F0 S : Int) : Int := if bad F F0 S then 2 else 0

theorem of_any (F F0 S : Int) (w : World) :
    Calls Try.prog 24 #[.agg #[.int .i64 F, .int .i64 F0, .int .i64 S]] w fun e w' => e = .returned (.agg #[.int .i64 F, .int .i64 F0, .int .i64 S]) ∧ Below w.heap.size w w' := by
  go_enter Try.func24, Try.ntmps24
  go_wp2
  refine bodyPost_ret (v := .agg #[.int .i64 F, .int .i64 F0, .int .i64 S]) ?_ rfl ?_
  · simp [results, Try.results24, go_sem]
  · exact ⟨rfl, ((Below.refl _ _).alloc (Nat.le_refl _) _).alloc (by simp) _⟩

theorem ways {F F0 S : Int} (h : bad F F0 S) : F < 1 ∨ (1 ≤ F ∧ 1152921504606846976 < F) ∨ (1 ≤ F ∧ F ≤ 1152921504606846976 ∧ F0 < 0) ∨ (1 ≤ F ∧ F ≤ 1152921504606846976 ∧ 0 ≤ F0 ∧ F < F0) ∨ (1 ≤ F ∧ F ≤ 1152921504606846976 ∧ 0 ≤ F0 ∧ F0 ≤ F ∧ S < 1) ∨ (1 ≤ F ∧ F ≤ 1152921504606846976 ∧ 0 ≤ F0 ∧ F0 ≤ F ∧ 1 ≤ S ∧ 1000000 < S) := by
  unfold bad at h; omega
theorem good {F F0 S : Int} (h : ¬ bad F F0 S) : 1 ≤ F ∧ F ≤ 1152921504606846976 ∧ 0 ≤ F0 ∧ F0 ≤ F ∧ 1 ≤ S ∧ S ≤ 1000000 := by
  unfold bad at h; omega

theorem check_any (F F0 S : Int) (w : World) :
    Calls Try.prog 26 #[.agg #[.int .i64 F, .int .i64 F0, .int .i64 S]] w fun e w' => e = .returned (.int .i64 (chk F F0 S)) ∧ Below w.heap.size w w' := by
  by_cases hb : bad F F0 S
  · have e : chk F F0 S = 2 := by unfold chk; rw [if_pos hb]
    rw [e]
    rcases ways hb with k | ⟨k1, k2⟩ | ⟨k1, k2, k3⟩ | ⟨k1, k2, k3, k4⟩ | ⟨k1, k2, k3, k4, k5⟩ | ⟨k1, k2, k3, k4, k5, k6⟩
    all_goals
      clear hb e
      go_enter Try.func26, Try.ntmps26
      go_wp2
      go_ret
      exact ⟨rfl, (Below.refl _ _).alloc (Nat.le_refl _) _⟩
  · have e : chk F F0 S = 0 := by unfold chk; rw [if_neg hb]
    rw [e]
    obtain ⟨k1, k2, k3, k4, k5, k6⟩ := good hb
    clear hb e
    go_enter Try.func26, Try.ntmps26
    go_wp2
    go_ret
    exact ⟨rfl, (Below.refl _ _).alloc (Nat.le_refl _) _⟩
theorem checkr_any (F F0 S : Int) (w : World) :
    Calls Try.prog 25 #[.agg #[.int .i64 F, .int .i64 F0, .int .i64 S]] w fun e w' => e = .returned (.int .i64 (chk F F0 S)) ∧ Below w.heap.size w w' := by
  by_cases hb : bad F F0 S
  · have e : chk F F0 S = 2 := by unfold chk; rw [if_pos hb]
    rw [e]
    rcases ways hb with k | ⟨k1, k2⟩ | ⟨k1, k2, k3⟩ | ⟨k1, k2, k3, k4⟩ | ⟨k1, k2, k3, k4, k5⟩ | ⟨k1, k2, k3, k4, k5, k6⟩
    all_goals
      clear hb e
      go_enter Try.func25, Try.ntmps25
      go_wp2
      go_ret
      exact ⟨rfl, (Below.refl _ _).alloc (Nat.le_refl _) _⟩
  · have e : chk F F0 S = 0 := by unfold chk; rw [if_neg hb]
    rw [e]
    obtain ⟨k1, k2, k3, k4, k5, k6⟩ := good hb
    clear hb e
    go_enter Try.func25, Try.ntmps25
    go_wp2
    go_ret
    exact ⟨rfl, (Below.refl _ _).alloc (Nat.le_refl _) _⟩

theorem new_bad (F F0 S : Int) (w : World) (hb : bad F F0 S) :
    Calls Try.prog 23 #[.agg #[.int .i64 F, .int .i64 F0, .int .i64 S]] w fun e w' => e = .returned (.tuple #[.pointer none, .int .i64 2]) ∧ Below w.heap.size w w' := by
  have C := fun w => check_any F F0 S w
  rw [show chk F F0 S = 2 from by unfold chk; rw [if_pos hb]] at C
  have C := Lib.hid C
  clear hb
  go_enter Try.func23, Try.ntmps23
  go_wp2_with fail
  refine (C.out _).mono ?_
  rintro e w1 ⟨rfl, hb1⟩
  go_wp2_with fail
  go_ret2
  exact ⟨rfl, ((Below.refl _ _).alloc (Nat.le_refl _) _).trans (hb1.mono (by simp))⟩

theorem new_good (F F0 S : Int) (w : World) (hb : ¬ bad F F0 S) :
    Calls Try.prog 23 #[.agg #[.int .i64 F, .int .i64 F0, .int .i64 S]] w fun e w' => ∃ b, e = .returned (.tuple #[.pointer (some ⟨b, 0, none⟩), .int .i64 0]) ∧ Below w.heap.size w w' ∧ w.heap.size ≤ b ∧ Bat w' b F F0 S F0 0 := by
  have C := fun w => check_any F F0 S w
  rw [show chk F F0 S = 0 from by unfold chk; rw [if_neg hb]] at C
  have C := Lib.hid C
  clear hb
  go_enter Try.func23, Try.ntmps23
  go_wp2_with fail
  refine (C.out _).mono ?_
  rintro e w1 ⟨rfl, hb1⟩
  have c0 := ((show Cell _ w.heap.size 0 (.int .i64 F) from ⟨by go_simp, by go_simp⟩ : Cell (w.alloc (Obj.cells #[Value.int IntKind.i64 F, Value.int IntKind.i64 F0, Value.int IntKind.i64 S] 47)) _ _ _).below hb1 (by simp)).1
  have c1 := ((show Cell _ w.heap.size 1 (.int .i64 F0) from ⟨by go_simp, by go_simp⟩ : Cell (w.alloc (Obj.cells #[Value.int IntKind.i64 F, Value.int IntKind.i64 F0, Value.int IntKind.i64 S] 47)) _ _ _).below hb1 (by simp)).1
  have c2 := ((show Cell _ w.heap.size 2 (.int .i64 S) from ⟨by go_simp, by go_simp⟩ : Cell (w.alloc (Obj.cells #[Value.int IntKind.i64 F, Value.int IntKind.i64 F0, Value.int IntKind.i64 S] 47)) _ _ _).below hb1 (by simp)).1
  have hz : w.heap.size < w1.heap.size := by have := hb1.size; simp at this; omega
  have HB := Lib.hid (((Below.refl w.heap.size w).alloc (Nat.le_refl _) _).trans (hb1.mono (by simp)))
  clear hb1
  go_wp2_with fail
  go_ret2
  exact ⟨_, rfl, HB.out.alloc (by omega) _, by omega, heap_alloc_new _ _⟩

end Go.Proofs.Ytgifhcjbaljenaa.BatB
