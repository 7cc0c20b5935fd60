/- The law of battery: Reads. -/
import Derived.Test.YtgifhcjbaljenaaBatV
namespace Go.Proofs.Ytgifhcjbaljenaa.BatW
open Go.RowKit Base WideA WideB BatA BatB BatC BatD BatR BatP RefA BatV
set_option linter.unusedVariables false
set_option linter.unusedSimpArgs false

/-- what a reading leaves: a slice of n numbers, and none of the error, or the error -/
structure Read (w0 w : World) (a : Option Addr) (n : Nat) (f : Nat → Int) : Prop where
  bel : Below w0.heap.size w0 w
  rows : Open.RowsIn w a n 1 (fun i _ => f i)

theorem prog_any (F F0 S : Int) (a1 a2 : Option Addr) (n m c1 c2 : Nat) (t g : Nat → Int) (e0 : Int) (k : Nat) (w : World) (hn : n ≤ 300) (hm : m ≤ 300) (h1 : Hid (Open.RowsIn w a1 n 1 (fun i _ => t i))) (h2 : Hid (Open.RowsIn w a2 m 1 (fun i _ => g i)))
    (hk : Hid (if bad F F0 S ∨ n ≠ m then e0 = 2 ∧ k = 0 else e0 = 0 ∧ k = n)) :
    (Calls Try.prog 36 #[.agg #[.int .i64 F, .int .i64 F0, .int .i64 S], .slice a1 n c1, .slice a2 m c2] w fun e w' => ∃ a c, e = .returned (.tuple #[.slice a k c, .int .i64 e0]) ∧ Hid (Read w w' a k (rds t g F F0 S))) ∧
    (Calls Try.prog 37 #[.agg #[.int .i64 F, .int .i64 F0, .int .i64 S], .slice a1 n c1, .slice a2 m c2] w fun e w' => ∃ a c, e = .returned (.tuple #[.slice a k c, .int .i64 e0]) ∧ Hid (Read w w' a k (rds t g F F0 S))) := by
  have hk := hk.out
  by_cases hb : bad F F0 S ∨ n ≠ m
  · rw [if_pos hb] at hk
    obtain ⟨rfl, rfl⟩ := hk
    have hb' : bad F F0 S ∨ ¬ bad F F0 S ∧ n ≠ m := by
      by_cases h : bad F F0 S
      · exact .inl h
      · exact .inr ⟨h, hb.resolve_left h⟩
    exact ⟨(rows_bad F F0 S a1 a2 n m c1 c2 w hb' hn hm).mono fun e w' h => ⟨none, 0, h.1, Lib.hid ⟨h.2, by omega, .inl rfl, fun i hi => by omega⟩⟩,
      (rows_badr F F0 S a1 a2 n m c1 c2 w hb' hn hm).mono fun e w' h => ⟨none, 0, h.1, Lib.hid ⟨h.2, by omega, .inl rfl, fun i hi => by omega⟩⟩⟩
  · rw [if_neg hb] at hk
    obtain ⟨rfl, rfl⟩ := hk
    have hb1 : ¬ bad F F0 S := fun h => hb (.inl h)
    obtain rfl : k = m := Decidable.byContradiction fun h => hb (.inr h)
    obtain ⟨g1, g2, g3, g4, g5, g6⟩ := good hb1
    have bd : ∀ i, i < k → -9223372036854775808 ≤ rds t g F F0 S i ∧ rds t g F F0 S i ≤ 9223372036854775807 := fun i _ => by
      obtain ⟨p4, p5, p6, p7⟩ := lvl_bd t g F F0 g3 g4 g2 (i + 1)
      have := rd_bd p4 p5 g1 g5 g6
      unfold rds; omega
    have fin : ∀ {e w'}, Gave w w' k (rds t g F F0 S) e → ∃ a c, e = .returned (.tuple #[.slice a k c, .int .i64 0]) ∧ Hid (Read w w' a k (rds t g F F0 S)) := by
      rintro e w' ⟨v, rfl, ⟨B, hown⟩, hbel⟩
      obtain ⟨a, c, rfl, hr⟩ := Same.rows_of_own hown (by omega) bd
      exact ⟨a, c, rfl, Lib.hid ⟨hbel, hr⟩⟩
    exact ⟨(readings_good F F0 S a1 a2 k c1 c2 t g w hb1 hn h1 h2).mono fun e w' h => fin h, (readings_ref F F0 S a1 a2 k c1 c2 t g w hb1 hn h1 h2).mono fun e w' h => fin h⟩

set_option maxRecDepth 100000 in
set_option maxHeartbeats 4000000 in
theorem reads_any (F F0 S : Int) (a1 a2 : Option Addr) (n m c1 c2 : Nat) (t g : Nat → Int) (w : World) (h1 : Hid (Open.RowsIn w a1 n 1 (fun i _ => t i))) (h2 : Hid (Open.RowsIn w a2 m 1 (fun i _ => g i))) :
    Calls Try.prog 11 #[.agg #[.int .i64 F, .int .i64 F0, .int .i64 S], .slice a1 n c1, .slice a2 m c2] w fun e w' => e = .returned (.bool true) ∧ Below w.heap.size w w' := by
  have hn0 := h1.out.1
  have hm0 := h2.out.1
  by_cases hn : 300 < n
  · go_enter Try.func11, Try.ntmps11
    go_wp2_with fail
    refine (works_any _).mono ?_
    rintro e1 w2 ⟨rfl, hb2⟩
    go_wp2_with fail
    go_ret
    exact ⟨rfl, by first | exact hb2 | exact Kit.below_in _ hb2⟩
  by_cases hm : 300 < m
  · have hn' : n ≤ 300 := by omega
    go_enter Try.func11, Try.ntmps11
    go_wp2_with fail
    refine (works_any _).mono ?_
    rintro e1 w2 ⟨rfl, hb2⟩
    go_wp2_with fail
    go_ret
    exact ⟨rfl, by first | exact hb2 | exact Kit.below_in _ hb2⟩
  have hn' : n ≤ 300 := by omega
  have hm' : m ≤ 300 := by omega
  obtain ⟨e0, k, hk⟩ : ∃ (e0 : Int) (k : Nat), if bad F F0 S ∨ n ≠ m then e0 = 2 ∧ k = 0 else e0 = 0 ∧ k = n := by
    by_cases h : bad F F0 S ∨ n ≠ m
    · exact ⟨2, 0, by rw [if_pos h]; exact ⟨rfl, rfl⟩⟩
    · exact ⟨0, n, by rw [if_neg h]; exact ⟨rfl, rfl⟩⟩
  have HK := Lib.hid hk
  have C1 := Lib.hid (fun w => of_any F F0 S w)
  have C := Lib.hid (fun w h1 h2 => prog_any F F0 S a1 a2 n m c1 c2 t g e0 k w hn' hm' h1 h2 HK)
  clear hk
  go_enter Try.func11, Try.ntmps11
  go_wp2_with fail
  refine (C1.out _).mono ?_
  rintro e1 w2 ⟨rfl, hb2⟩
  have BX := Lib.hid ((Kit.Box.new w _ _).next hb2)
  have bc := BX.out.cell
  have hb2 := Kit.below_in _ hb2
  have HB := Lib.hid hb2
  have r1 := Kit.rows_next h1 hb2
  have r2 := Kit.rows_next h2 hb2
  clear hb2
  go_wp2_with fail
  refine (C.out _ r1 r2).1.mono ?_
  rintro e1 w3 ⟨a, c, rfl, hr⟩
  have HB := Kit.below_hid HB hr.out.bel
  have r1 := Kit.rows_next r1 hr.out.bel
  have r2 := Kit.rows_next r2 hr.out.bel
  have ra := Lib.hid hr.out.rows
  have BX := Lib.hid (BX.out.next hr.out.bel)
  clear bc
  have bc := BX.out.cell
  clear hr
  go_wp2_with fail
  refine (C.out _ r1 r2).2.mono ?_
  rintro e1 w4 ⟨b, c', rfl, hr⟩
  have HB := Kit.below_hid HB hr.out.bel
  have ra := Kit.rows_next ra hr.out.bel
  have rb := Lib.hid hr.out.rows
  clear hr
  go_wp2_with fail
  refine (Same.same_walk _ _ _ _ _ _ _ ra rb).mono ?_
  rintro e1 w5 ⟨rfl, hb5⟩
  have HB := Kit.below_hid HB hb5
  clear hb5
  go_wp2_with fail
  refine (works_any _).mono ?_
  rintro e1 w6 ⟨rfl, hb6⟩
  have HB := Kit.below_hid HB hb6
  clear hb6
  go_wp2_with fail
  go_ret
  exact ⟨rfl, HB.out⟩
theorem law (F F0 S : Int) (a1 : Option Addr) (n c1 : Nat) (t : Nat → Int) (a2 : Option Addr) (m c2 : Nat) (g : Nat → Int) (w : World) (b1 : -9223372036854775808 ≤ F ∧ F ≤ 9223372036854775807) (b2 : -9223372036854775808 ≤ F0 ∧ F0 ≤ 9223372036854775807) (b3 : -9223372036854775808 ≤ S ∧ S ≤ 9223372036854775807)
    (h1 : Hid (Open.RowsIn w a1 n 1 (fun i _ => t i))) (h2 : Hid (Open.RowsIn w a2 m 1 (fun i _ => g i))) :
    Calls Try.prog 11 #[.agg #[.int .i64 F, .int .i64 F0, .int .i64 S], .slice a1 n c1, .slice a2 m c2] w fun e w' => e = .returned (.bool true) ∧ Below w.heap.size w w' :=
  reads_any F F0 S a1 a2 n m c1 c2 t g w h1 h2
end Go.Proofs.Ytgifhcjbaljenaa.BatW
