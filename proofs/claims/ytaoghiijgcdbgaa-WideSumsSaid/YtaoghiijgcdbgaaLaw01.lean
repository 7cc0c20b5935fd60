/- WALKS OF THE LAWS OF wide: each returns true. -/
import Derived.Test.YtaoghiijgcdbgaaWideS
import Derived.Test.YtaoghiijgcdbgaaRefC
namespace Go.Proofs.Ytaoghiijgcdbgaa.Law01
open Go.RowKit Base WideA WideB
set_option linter.unusedVariables false
set_option linter.unusedSimpArgs false

theorem md_bd (a b c : Int) (up : Bool) : 0 ≤ (md a b c up).2 ∧ (md a b c up).2 ≤ 6 := by
  unfold md; split
  · simp
  · split <;> simp

theorem works_any (w : World) : Calls Try.prog 23 #[] w fun e w' => e = .returned (.bool true) ∧ Below w.heap.size w w' := by
  have m1 : md 7 1 2 false = (3, 0) := by decide
  have m2 : md 7 1 2 true = (4, 0) := by decide
  have m3 : satI 4611686018427387904 4611686018427387904 = 9223372036854775807 := by decide
  have c1 := fun w => md_any 7 1 2 false w (by omega) (by omega) (by omega) (by omega) (by omega) (by omega)
  have c2 := fun w => md_any 7 1 2 true w (by omega) (by omega) (by omega) (by omega) (by omega) (by omega)
  have c3 := fun w => sat_any 4611686018427387904 4611686018427387904 w (by omega) (by omega) (by omega) (by omega)
  simp only [m1, m2, m3] at c1 c2 c3
  have C1 := Lib.hid c1; have C2 := Lib.hid c2; have C3 := Lib.hid c3
  clear c1 c2 c3 m1 m2 m3
  go_enter Try.func23, Try.ntmps23
  go_wp2_with fail
  refine (C1.out _).mono ?_
  rintro e w1 ⟨rfl, hb1⟩
  go_wp2_with fail
  refine (C2.out _).mono ?_
  rintro e w2 ⟨rfl, hb2⟩
  go_wp2_with fail
  refine (C3.out _).mono ?_
  rintro e w3 ⟨rfl, rfl⟩
  go_wp2_with fail
  go_ret
  exact ⟨rfl, hb1.trans (hb2.mono hb1.size)⟩

theorem muls_any (a b c : Int) (w : World) (ha : -9223372036854775808 ≤ a) (ha' : a ≤ 9223372036854775807) (hb : -9223372036854775808 ≤ b) (hb' : b ≤ 9223372036854775807) (hc : -9223372036854775808 ≤ c) (hc' : c ≤ 9223372036854775807) :
    Calls Try.prog 8 #[.int .i64 a, .int .i64 b, .int .i64 c] w fun e w' => e = .returned (.bool true) ∧ Below w.heap.size w w' := by
  have c1 := fun w => md_any a b c false w ha ha' hb hb' hc hc'
  have c2 := fun w => RefC.mdr_any a b c false w ha ha' hb hb' hc hc'
  have c3 := fun w => md_any a b c true w ha ha' hb hb' hc hc'
  have c4 := fun w => RefC.mdr_any a b c true w ha ha' hb hb' hc hc'
  have c5 := fun w => mul_any a b w ha ha' hb hb'
  have c6 := fun w => RefC.mdr_any a b 1 false w ha ha' hb hb' (by omega) (by omega)
  obtain ⟨p1, p2⟩ := md_bd a b c false
  obtain ⟨q1, q2⟩ := md_bd a b c true
  obtain ⟨r1, r2⟩ := md_bd a b 1 false
  generalize (md a b c false).1 = x at *
  generalize (md a b c false).2 = e at *
  generalize (md a b c true).1 = u at *
  generalize (md a b c true).2 = g at *
  generalize (md a b 1 false).1 = p at *
  generalize (md a b 1 false).2 = i at *
  have C1 := Lib.hid c1; have C2 := Lib.hid c2; have C3 := Lib.hid c3; have C4 := Lib.hid c4; have C5 := Lib.hid c5; have C6 := Lib.hid c6
  clear c1 c2 c3 c4 c5 c6
  go_enter Try.func8, Try.ntmps8
  go_wp2_with fail
  refine (C1.out _).mono ?_
  rintro e1 w1 ⟨rfl, hb1⟩
  go_wp2_with fail
  refine (C2.out _).mono ?_
  rintro e1 w2 ⟨rfl, hb2⟩
  go_wp2_with fail
  refine (C3.out _).mono ?_
  rintro e1 w3 ⟨rfl, hb3⟩
  go_wp2_with fail
  refine (C4.out _).mono ?_
  rintro e1 w4 ⟨rfl, hb4⟩
  go_wp2_with fail
  refine (C5.out _).mono ?_
  rintro e1 w5 ⟨rfl, hb5⟩
  go_wp2_with fail
  refine (C6.out _).mono ?_
  rintro e1 w6 ⟨rfl, hb6⟩
  have hB := hb1.trans ((hb2.trans ((hb3.trans ((hb4.trans ((hb5.trans (hb6.mono hb5.size)).mono hb4.size)).mono hb3.size)).mono hb2.size)).mono hb1.size)
  clear hb1 hb2 hb3 hb4 hb5 hb6
  go_wp2_with fail
  refine (works_any _).mono ?_
  rintro e1 w7 ⟨rfl, hb7⟩
  go_wp2_with fail
  go_ret
  exact ⟨rfl, hB.trans (hb7.mono hB.size)⟩

theorem clamp_in {n f t : Int} (h : f ≤ t) : f ≤ clampI n f t ∧ clampI n f t ≤ t ∧ clampI (clampI n f t) f t = clampI n f t := by
  unfold clampI; (repeat' split) <;> omega
theorem clamp_bd {n f t lo hi : Int} (h1 : lo ≤ n ∧ n ≤ hi) (h2 : lo ≤ f ∧ f ≤ hi) (h3 : lo ≤ t ∧ t ≤ hi) : lo ≤ clampI n f t ∧ clampI n f t ≤ hi := by
  unfold clampI; (repeat' split) <;> omega

theorem clamps_any (n f t : Int) (w : World) (hn : -9223372036854775808 ≤ n) (hn2 : n ≤ 9223372036854775807) (hf : -9223372036854775808 ≤ f) (hf2 : f ≤ 9223372036854775807) (ht : -9223372036854775808 ≤ t) (ht2 : t ≤ 9223372036854775807) :
    Calls Try.prog 9 #[.int .i64 n, .int .i64 f, .int .i64 t] w fun e w' => e = .returned (.bool true) ∧ Below w.heap.size w w' := by
  have C1 := Lib.hid (fun w => clamp_any n f t w)
  have C2 := Lib.hid (fun w => clampr_any n f t w)
  by_cases hft : t < f
  · generalize clampI n f t = x at *
    go_enter Try.func9, Try.ntmps9
    go_wp2_with fail
    refine (C1.out _).mono ?_
    rintro e1 w1 ⟨rfl, rfl⟩
    go_wp2_with fail
    refine (C2.out _).mono ?_
    rintro e1 w1 ⟨rfl, rfl⟩
    go_wp2_with fail
    refine (works_any _).mono ?_
    rintro e1 w7 ⟨rfl, hb7⟩
    go_wp2_with fail
    go_ret
    exact ⟨rfl, hb7⟩
  · obtain ⟨h1, h2, h3⟩ := clamp_in (n := n) (show f ≤ t by omega)
    have C3 := fun w => clamp_any (clampI n f t) f t w
    rw [h3] at C3
    have C3 := Lib.hid C3
    generalize clampI n f t = x at *
    go_enter Try.func9, Try.ntmps9
    go_wp2_with fail
    refine (C1.out _).mono ?_
    rintro e1 w1 ⟨rfl, rfl⟩
    go_wp2_with fail
    refine (C2.out _).mono ?_
    rintro e1 w1 ⟨rfl, rfl⟩
    go_wp2_with fail
    refine (C3.out _).mono ?_
    rintro e1 w1 ⟨rfl, rfl⟩
    go_wp2_with fail
    refine (works_any _).mono ?_
    rintro e1 w7 ⟨rfl, hb7⟩
    go_wp2_with fail
    go_ret
    exact ⟨rfl, hb7⟩

/-- the numbers of a product that fits -/
theorem rounds_num (x y z : Nat) (hx : x ≤ 2147483647) (hy : y ≤ 2147483647) (hz : 1 ≤ z) (hz' : z ≤ 2147483648) :
    ∃ (p u v r : Nat), x * y = p ∧ p ≤ 4611686014132420609 ∧ md x y z false = ((u : Int), 0) ∧ md x y z true = ((v : Int), 0) ∧ u * z + r = p ∧ r < z ∧ p % z = r ∧ u ≤ p ∧ ((r = 0 ∧ v = u) ∨ (0 < r ∧ v = u + 1)) := by
  have hp : x * y ≤ 2147483647 * 2147483647 := Nat.mul_le_mul hx hy
  have e := Nat.div_add_mod (x * y) z
  have hr := Nat.mod_lt (x * y) (show 0 < z by omega)
  have hu : x * y / z ≤ x * y := Nat.div_le_self _ _
  have m1 := RefC.md_nat x y z hz false _ rfl
  have m2 := RefC.md_nat x y z hz true _ rfl
  simp only [Bool.false_eq_true, false_and, true_and, if_false] at m1 m2
  rw [if_pos (by omega)] at m1
  rw [if_pos (by split <;> omega)] at m2
  refine ⟨x * y, x * y / z, if 0 < x * y % z then x * y / z + 1 else x * y / z, x * y % z, rfl, by omega, m1, m2, by rw [Nat.mul_comm]; exact e, hr, rfl, hu, ?_⟩
  by_cases h : 0 < x * y % z
  · right; exact ⟨h, by rw [if_pos h]⟩
  · left; exact ⟨by omega, by rw [if_neg h]⟩

end Go.Proofs.Ytaoghiijgcdbgaa.Law01
