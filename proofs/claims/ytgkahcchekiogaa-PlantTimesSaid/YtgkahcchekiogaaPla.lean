/- Package plant: a platform that is not there, and one that no call made. -/
import Derived.Test.YtgkahcchekiogaaKit
import Derived.Test.YtgkahcchekiogaaWideA
namespace Go.Proofs.Ytgkahcchekiogaa.Pla
open Go.RowKit Base Kit
set_option linter.unusedVariables false
set_option linter.unusedSimpArgs false
theorem dead_nil (w : World) : Calls Try.prog 61 #[.pointer none] w fun e w' => e = .returned (.bool true) ∧ w = w' := by
  go_enter Try.func61, Try.ntmps61
  go_wp2_with fail
  go_ret
  exact ⟨rfl, rfl⟩
theorem dead_zero (b : Nat) (w : World) (h : w.cell? ⟨b, 12, none⟩ = some (.pointer none)) : Calls Try.prog 61 #[.pointer (some ⟨b, 0, none⟩)] w fun e w' => e = .returned (.bool true) ∧ w = w' := by
  go_enter Try.func61, Try.ntmps61
  go_wp2_with fail
  go_ret
  exact ⟨rfl, rfl⟩
theorem now_dead (p : Value) (u : Unit) (w : World) (C : Hid (Calls Try.prog 61 #[p] w fun e w' => e = .returned (.bool true) ∧ w = w')) : Calls Try.prog 17 #[p/- -/] w fun e w' => e = .returned (.int .i64 0) ∧ w = w' := by
  go_enter Try.func17, Try.ntmps17
  go_wp2_with fail
  refine C.out.mono ?_
  rintro e1 w5 ⟨rfl, e9⟩
  cases e9
  go_wp2_with fail
  go_ret
  exact ⟨rfl, rfl⟩
theorem level_dead (p : Value) (u : Unit) (w : World) (C : Hid (Calls Try.prog 61 #[p] w fun e w' => e = .returned (.bool true) ∧ w = w')) : Calls Try.prog 27 #[p/- -/] w fun e w' => e = .returned (.int .i64 0) ∧ w = w' := by
  go_enter Try.func27, Try.ntmps27
  go_wp2_with fail
  refine C.out.mono ?_
  rintro e1 w5 ⟨rfl, e9⟩
  cases e9
  go_wp2_with fail
  go_ret
  exact ⟨rfl, rfl⟩
theorem meter_dead (p : Value) (u : Unit) (w : World) (C : Hid (Calls Try.prog 61 #[p] w fun e w' => e = .returned (.bool true) ∧ w = w')) : Calls Try.prog 19 #[p/- -/] w fun e w' => e = .returned (.pointer none) ∧ w = w' := by
  go_enter Try.func19, Try.ntmps19
  go_wp2_with fail
  refine C.out.mono ?_
  rintro e1 w5 ⟨rfl, e9⟩
  cases e9
  go_wp2_with fail
  go_ret
  exact ⟨rfl, rfl⟩
theorem when_dead (p : Value) (a : Int) (w : World) (C : Hid (Calls Try.prog 61 #[p] w fun e w' => e = .returned (.bool true) ∧ w = w')) : Calls Try.prog 22 #[p, .int .i64 a] w fun e w' => e = .returned (.tuple #[.int .i64 0, .int .i64 1]) ∧ w = w' := by
  go_enter Try.func22, Try.ntmps22
  go_wp2_with fail
  refine C.out.mono ?_
  rintro e1 w5 ⟨rfl, e9⟩
  cases e9
  go_wp2_with fail
  go_ret2
  exact ⟨rfl, rfl⟩
theorem run_dead (p : Value) (a b : Int) (w : World) (C : Hid (Calls Try.prog 61 #[p] w fun e w' => e = .returned (.bool true) ∧ w = w')) : Calls Try.prog 23 #[p, .int .i64 a, .int .i64 b] w fun e w' => e = .returned (.int .i64 1) ∧ w = w' := by
  go_enter Try.func23, Try.ntmps23
  go_wp2_with fail
  refine C.out.mono ?_
  rintro e1 w5 ⟨rfl, e9⟩
  cases e9
  go_wp2_with fail
  go_ret
  exact ⟨rfl, rfl⟩
theorem sync_dead (p : Value) (w : World) (C : Hid (Calls Try.prog 61 #[p] w fun e w' => e = .returned (.bool true) ∧ w = w')) : Calls Try.prog 21 #[p] w fun e w' => e = .returned (.tuple #[]) ∧ w = w' := by
  go_enter Try.func21, Try.ntmps21
  go_wp2_with fail
  refine C.out.mono ?_
  rintro e1 w5 ⟨rfl, e9⟩
  cases e9
  go_wp2_with fail
  refine bodyPost_end (v := .tuple #[]) ?_ rfl ⟨rfl, rfl⟩
  simp [results, Try.results21, go_sem]
theorem turn_dead (p : Value) (a : Int) (w : World) (C : Hid (∀ w', Below w.heap.size w w' → Calls Try.prog 61 #[p] w' fun e w1 => e = .returned (.bool true) ∧ w' = w1)) : Calls Try.prog 24 #[p, .int .i64 a] w fun e w' => e = .returned (.int .i64 1) ∧ Below w.heap.size w w' := by
  have HB := Lib.hid ((Below.refl w.heap.size w).alloc (Nat.le_refl _) (.cells #[.int .i64 0] 45))
  go_enter_defers Try.func24, Try.ntmps24
  go_wp2_with fail
  refine (C.out _ HB.out).mono ?_
  rintro e1 w5 ⟨rfl, e9⟩
  cases e9
  go_wp2_with fail
  exact ⟨.int .i64 1, by simp [results, Try.results24, go_sem], rfl, (Below.refl _ _).alloc (Nat.le_refl _) _⟩
theorem idle_dead (p : Value) (a : Int) (w : World) (C : Hid (∀ w', Below w.heap.size w w' → Calls Try.prog 61 #[p] w' fun e w1 => e = .returned (.bool true) ∧ w' = w1)) : Calls Try.prog 25 #[p, .int .i64 a] w fun e w' => e = .returned (.int .i64 1) ∧ Below w.heap.size w w' := by
  have HB := Lib.hid ((Below.refl w.heap.size w).alloc (Nat.le_refl _) (.cells #[.int .i64 0] 45))
  go_enter_defers Try.func25, Try.ntmps25
  go_wp2_with fail
  refine (C.out _ HB.out).mono ?_
  rintro e1 w5 ⟨rfl, e9⟩
  cases e9
  go_wp2_with fail
  exact ⟨.int .i64 1, by simp [results, Try.results25, go_sem], rfl, (Below.refl _ _).alloc (Nat.le_refl _) _⟩
theorem nap_dead (p : Value) (a b c : Int) (w : World) (C : Hid (∀ w', Below w.heap.size w w' → Calls Try.prog 61 #[p] w' fun e w1 => e = .returned (.bool true) ∧ w' = w1)) : Calls Try.prog 26 #[p, .int .i64 a, .int .i64 b, .int .i64 c] w fun e w' => e = .returned (.int .i64 1) ∧ Below w.heap.size w w' := by
  have HB := Lib.hid ((Below.refl w.heap.size w).alloc (Nat.le_refl _) (.cells #[.int .i64 0] 45))
  go_enter_defers Try.func26, Try.ntmps26
  go_wp2_with fail
  refine (C.out _ HB.out).mono ?_
  rintro e1 w5 ⟨rfl, e9⟩
  cases e9
  go_wp2_with fail
  exact ⟨.int .i64 1, by simp [results, Try.results26, go_sem], rfl, (Below.refl _ _).alloc (Nat.le_refl _) _⟩
end Go.Proofs.Ytgkahcchekiogaa.Pla
