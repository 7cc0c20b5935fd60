/- THE WALK OF WideRounds. -/
import Derived.Test.YtaoghiijgcdbgaaLaw01
namespace Go.Proofs.Ytaoghiijgcdbgaa.Law01
open Go.RowKit Base WideA WideB
set_option linter.unusedVariables false
set_option linter.unusedSimpArgs false

/-- the walk, from the two quotients on -/
theorem rounds_walk (a b c : Int) (x y z p u v s : Nat) (w : World) (hx : a / 2 = x) (hy : b / 2 = y) (hz : 1 + c / 2 = z) (bx : x ≤ 2147483647) (byy : y ≤ 2147483647) (bz : 1 ≤ z) (bz' : z ≤ 2147483648) (hc : 0 ≤ c) (hc' : c ≤ 4294967295)
    (ha : 0 ≤ a) (ha' : a ≤ 4294967295) (hb : 0 ≤ b) (hb' : b ≤ 4294967295)
    (C1 : Hid (∀ w, Calls Try.prog 22 #[.int .i64 x, .int .i64 y, .int .i64 z, .bool false] w fun e w' => e = .returned (.tuple #[.int .i64 u, .int .i64 0]) ∧ Below w.heap.size w w'))
    (C2 : Hid (∀ w, Calls Try.prog 22 #[.int .i64 x, .int .i64 y, .int .i64 z, .bool true] w fun e w' => e = .returned (.tuple #[.int .i64 v, .int .i64 0]) ∧ Below w.heap.size w w'))
    (W1 : wrap64 ((x : Int) * (y : Int)) = p) (W2 : Hid (IntKind.i64.wrap ((u : Int) * (z : Int)) = s)) (W2' : Hid (wrap64 ((u : Int) * (z : Int)) = s)) (hpb : p ≤ 4611686014132420609) (hu : u ≤ p) (h1 : s ≤ p) (h2 : (p : Int) - s < z) (h3 : u ≤ v) (h4 : v ≤ u + 1)
    (k1 : Bool) (e1 : Hid (((v : Int) == (u : Int)) = k1)) (r : Nat) (W3 : Hid ((p : Int) % (z : Int) = r)) (e2 : Hid (((r : Int) == 0) = k1)) :
    Calls Try.prog 7 #[.int .u32 a, .int .u32 b, .int .u32 c] w fun e w' => e = .returned (.bool true) ∧ Below w.heap.size w w' := by
  go_enter Try.func7, Try.ntmps7
  go_wp2_with fail
  refine (C1.out _).mono ?_
  rintro e1 w1 ⟨rfl, hb1⟩
  go_wp2_with fail
  refine (C2.out _).mono ?_
  rintro e1 w2 ⟨rfl, hb2⟩
  have hB := Lib.hid (hb1.trans (hb2.mono hb1.size))
  clear hb1 hb2 W1 C1 C2 hx hy hz bx byy
  have W2 := W2.out
  have W2' := W2'.out
  have W3 := W3.out
  have e1 := e1.out
  have e2 := e2.out
  go_wp2_with fail
  refine (works_any _).mono ?_
  rintro e1 w7 ⟨rfl, hb7⟩
  go_wp2_with fail
  go_ret
  exact ⟨rfl, hB.out.trans (hb7.mono hB.out.size)⟩

theorem wr64 {a : Int} {n : Nat} (h : a = (n : Int)) (hn : n ≤ 9223372036854775807) : wrap64 a = n ∧ IntKind.i64.wrap a = n := by
  subst h; exact ⟨IntWalk.wrap64_in _ ⟨by omega, by omega⟩, IntWalk.i64_in _ ⟨by omega, by omega⟩⟩
theorem eqb (u v r : Nat) (h : (r = 0 ∧ v = u) ∨ (0 < r ∧ v = u + 1)) : ((v : Int) == (u : Int)) = decide (r = 0) ∧ ((r : Int) == 0) = decide (r = 0) ∧ u ≤ v ∧ v ≤ u + 1 := by
  rcases h with ⟨rfl, rfl⟩ | ⟨h, rfl⟩
  · simp
  · refine ⟨?_, ?_, by omega, by omega⟩
    · rw [decide_eq_false (by omega)]; simp; omega
    · rw [decide_eq_false (by omega)]; simp; omega
theorem lez {s r p z : Nat} (h : s + r = p) (hr : r < z) : s ≤ p ∧ (p : Int) - s < z := by omega
theorem bound31 {a : Int} (h0 : 0 ≤ a) (h : a ≤ 4294967295) : ∃ x : Nat, a / 2 = x ∧ x ≤ 2147483647 := ⟨(a / 2).toNat, by omega, by omega⟩
theorem bound31' {a : Int} (h0 : 0 ≤ a) (h : a ≤ 4294967295) : ∃ x : Nat, 1 + a / 2 = x ∧ 1 ≤ x ∧ x ≤ 2147483648 := ⟨(1 + a / 2).toNat, by omega, by omega, by omega⟩

theorem rounds_any (a b c : Int) (w : World) (ha : 0 ≤ a) (ha' : a ≤ 4294967295) (hb : 0 ≤ b) (hb' : b ≤ 4294967295) (hc : 0 ≤ c) (hc' : c ≤ 4294967295) :
    Calls Try.prog 7 #[.int .u32 a, .int .u32 b, .int .u32 c] w fun e w' => e = .returned (.bool true) ∧ Below w.heap.size w w' := by
  obtain ⟨x, hx, bx⟩ := bound31 ha ha'
  obtain ⟨y, hy, byy⟩ := bound31 hb hb'
  obtain ⟨z, hz, bz, bz'⟩ := bound31' hc hc'
  obtain ⟨p, u, v, r, hp, hpb, m1, m2, hs, hr, hm, hu, hv⟩ := rounds_num x y z bx byy bz bz'
  have c1 := fun w => md_any x y z false w (by omega) (by omega) (by omega) (by omega) (by omega) (by omega)
  have c2 := fun w => md_any x y z true w (by omega) (by omega) (by omega) (by omega) (by omega) (by omega)
  rw [m1] at c1
  rw [m2] at c2
  obtain ⟨g1, g2, g3, g4⟩ := eqb u v r hv
  obtain ⟨l1, l2⟩ := lez hs hr
  have W1 := wr64 (a := (x : Int) * (y : Int)) (n := p) (by rw [← Int.natCast_mul, hp]) (Nat.le_trans hpb (by decide))
  have W2 := wr64 (a := (u : Int) * (z : Int)) (n := u * z) (Int.natCast_mul u z).symm (Nat.le_trans l1 (Nat.le_trans hpb (by decide)))
  exact rounds_walk a b c x y z p u v (u * z) w hx hy hz bx byy bz bz' hc hc' ha ha' hb hb' c1 c2 W1.1 W2.2 W2.1 hpb hu l1 l2 g3 g4 (decide (r = 0)) g1 r (by rw [← hm]; exact (Int.natCast_emod p z).symm) g2

end Go.Proofs.Ytaoghiijgcdbgaa.Law01
