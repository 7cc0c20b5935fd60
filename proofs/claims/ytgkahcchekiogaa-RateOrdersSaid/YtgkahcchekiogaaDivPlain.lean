/- Long division of two words by one, digit by digit (base 2^32): the plain laws behind math/bits.Div64. -/
import Derived.Laws.Bits64b
import Derived.WalkKit
import Derived.Lib.BitFns
namespace Go.Proofs.Ytgkahcchekiogaa.DivPlain

/-- the digit that is looked for -/
def dig (U u1 Y : Int) : Int := (U * 4294967296 + u1) / Y

structure Inv (U u1 Y q r : Int) : Prop where
  q0 : 0 ≤ q
  q1 : q ≤ 18446744073709551615
  r0 : 0 ≤ r
  r1 : r < 4294967296
  sum : q * (Y / 4294967296) + r = U
  low : dig U u1 Y ≤ q

theorem split (Y : Int) : Y = Y / 4294967296 * 4294967296 + Y % 4294967296 := by omega

theorem dig_nonneg {U u1 Y : Int} (hU : 0 ≤ U) (h1 : 0 ≤ u1) (hY : 0 < Y) : 0 ≤ dig U u1 Y := Int.ediv_nonneg (by omega) (by omega)

theorem dig_lt {U u1 Y : Int} (hU : U < Y) (h1 : u1 < 4294967296) (hY : 0 < Y) : dig U u1 Y < 4294967296 := by
  unfold dig
  refine Int.ediv_lt_of_lt_mul hY ?_
  omega

theorem mulSplit (q Y : Int) : q * Y = q * (Y / 4294967296) * 4294967296 + q * (Y % 4294967296) := by
  have hs := split Y
  conv => lhs; rw [hs, Int.mul_add, ← Int.mul_assoc]

theorem start {U u1 Y : Int} (hU : 0 ≤ U) (hU' : U ≤ 18446744073709551615) (h1' : u1 < 4294967296) (hY : 9223372036854775808 ≤ Y) (hY' : Y ≤ 18446744073709551615) :
    Inv U u1 Y (U / (Y / 4294967296)) (U - U / (Y / 4294967296) * (Y / 4294967296)) := by
  have hp : 0 < Y / 4294967296 := by omega
  have hm := Int.emod_nonneg U (b := Y / 4294967296) (by omega)
  have hl := Int.emod_lt_of_pos U hp
  have hd := Int.mul_ediv_add_emod U (Y / 4294967296)
  rw [Int.mul_comm] at hd
  refine ⟨Int.ediv_nonneg hU (by omega), Int.le_trans (Int.ediv_le_self _ hU) hU', by omega, by omega, by omega, ?_⟩
  unfold dig
  have : (U * 4294967296 + u1) / Y < U / (Y / 4294967296) + 1 := by
    refine Int.ediv_lt_of_lt_mul (by omega) ?_
    have hz : 0 ≤ U / (Y / 4294967296) := Int.ediv_nonneg hU (by omega)
    have e := mulSplit (U / (Y / 4294967296) + 1) Y
    have e2 : (U / (Y / 4294967296) + 1) * (Y / 4294967296) = U / (Y / 4294967296) * (Y / 4294967296) + Y / 4294967296 := by rw [Int.add_mul, Int.one_mul]
    rw [e2] at e
    have hn : 0 ≤ (U / (Y / 4294967296) + 1) * (Y % 4294967296) := Int.mul_nonneg (by omega) (by omega)
    rw [e]
    omega
  omega

theorem qY {U Y q r : Int} (h : q * (Y / 4294967296) + r = U) : q * Y = (U - r) * 4294967296 + q * (Y % 4294967296) := by
  have hs := split Y
  have : q * (Y / 4294967296 * 4294967296) = q * (Y / 4294967296) * 4294967296 := (Int.mul_assoc _ _ _).symm
  conv => lhs; rw [hs, Int.mul_add, this]
  have : q * (Y / 4294967296) = U - r := by omega
  rw [this]

theorem step {U u1 Y q r : Int} (h : Inv U u1 Y q r) (hU0 : 0 ≤ U) (h0 : 0 ≤ u1) (hU : U < Y) (h1 : u1 < 4294967296) (hY : 9223372036854775808 ≤ Y)
    (hq : 4294967296 ≤ q ∨ 4294967296 * r + u1 < q * (Y % 4294967296)) : dig U u1 Y ≤ q - 1 ∧ 1 ≤ q := by
  have hd := dig_nonneg hU0 h0 (show 0 < Y by omega)
  have : dig U u1 Y < q := by
    unfold dig
    refine Int.ediv_lt_of_lt_mul (by omega) ?_
    rcases hq with hq | hq
    · have : 4294967296 * Y ≤ q * Y := Int.mul_le_mul_of_nonneg_right hq (by omega)
      omega
    · rw [qY h.sum]; omega
  omega

theorem next {U u1 Y q r : Int} (h : Inv U u1 Y q r) (hU0 : 0 ≤ U) (h0 : 0 ≤ u1) (hU : U < Y) (h1 : u1 < 4294967296) (hY : 9223372036854775808 ≤ Y)
    (hq : 4294967296 ≤ q ∨ 4294967296 * r + u1 < q * (Y % 4294967296)) (hr : r + Y / 4294967296 < 4294967296) : Inv U u1 Y (q - 1) (r + Y / 4294967296) := by
  have s := step h hU0 h0 hU h1 hY hq
  have := h.q1; have := h.r0; have e := h.sum
  refine ⟨by omega, by omega, by omega, hr, ?_, s.1⟩
  rw [Int.sub_mul]; omega

/-- the test says no -/
theorem exact1 {U u1 Y q r : Int} (h : Inv U u1 Y q r) (hY : 9223372036854775808 ≤ Y) (hq : q * (Y % 4294967296) ≤ 4294967296 * r + u1) : q = dig U u1 Y := by
  have : q ≤ dig U u1 Y := by
    unfold dig
    refine Int.le_ediv_of_mul_le (by omega) ?_
    rw [qY h.sum]; omega
  have := h.low
  omega

/-- the rest has become too great -/
theorem exact2 {U u1 Y q r : Int} (h : Inv U u1 Y q r) (hU0 : 0 ≤ U) (h0 : 0 ≤ u1) (hU : U < Y) (h1 : u1 < 4294967296) (hY : 9223372036854775808 ≤ Y)
    (hq : 4294967296 ≤ q ∨ 4294967296 * r + u1 < q * (Y % 4294967296)) (hr : 4294967296 ≤ r + Y / 4294967296) : q - 1 = dig U u1 Y := by
  have s := step h hU0 h0 hU h1 hY hq
  have e := h.sum
  have e' : (q - 1) * (Y / 4294967296) + (r + Y / 4294967296) = U := by rw [Int.sub_mul]; omega
  have hlt : q - 1 < 4294967296 := by
    refine Int.lt_of_not_ge fun hge => ?_
    have : 4294967296 * (Y / 4294967296) ≤ (q - 1) * (Y / 4294967296) := Int.mul_le_mul_of_nonneg_right hge (by omega)
    omega
  have : q - 1 ≤ dig U u1 Y := by
    unfold dig
    refine Int.le_ediv_of_mul_le (by omega) ?_
    rw [qY e']
    have : (q - 1) * (Y % 4294967296) ≤ 4294967296 * (Y % 4294967296) := Int.mul_le_mul_of_nonneg_right (by omega) (by omega)
    omega
  omega

theorem wq {q Y : Int} (h0 : 0 ≤ q) (h1 : q < 4294967296) : IntKind.u64.wrap (q * (Y % 4294967296)) = q * (Y % 4294967296) := by
  have a : 0 ≤ q * (Y % 4294967296) := Int.mul_nonneg h0 (by omega)
  have b : q * (Y % 4294967296) ≤ 4294967296 * (Y % 4294967296) := Int.mul_le_mul_of_nonneg_right (by omega) (by omega)
  rw [IntKind.wrap_u64]; omega

/-- what is left behind a digit -/
theorem rest {U u1 Y q : Int} (hq : q = dig U u1 Y) (hY : 9223372036854775808 ≤ Y) (hY' : Y ≤ 18446744073709551615) :
    IntKind.u64.wrap (IntKind.u64.wrap (IntKind.u64.wrap (U * 4294967296) + u1) - IntKind.u64.wrap (q * Y)) = (U * 4294967296 + u1) % Y := by
  have hm := Int.emod_nonneg (U * 4294967296 + u1) (b := Y) (by omega)
  have hl := Int.emod_lt_of_pos (U * 4294967296 + u1) (show 0 < Y by omega)
  have hd := Int.mul_ediv_add_emod (U * 4294967296 + u1) Y
  have : q * Y = (U * 4294967296 + u1) - (U * 4294967296 + u1) % Y := by
    rw [hq, dig, Int.mul_comm]; omega
  rw [this]
  simp only [IntKind.wrap_u64]
  omega

theorem two {N y t U L Y u1 u0 V q1 q0 : Int} (hy : 0 < y) (ht : 0 < t) (hN : U * 18446744073709551616 + L = N * t) (hY : Y = y * t) (hL : L = u1 * 4294967296 + u0)
    (h1 : q1 = dig U u1 Y) (hV : V = (U * 4294967296 + u1) % Y) (h0 : q0 = dig V u0 Y) : q1 * 4294967296 + q0 = N / y := by
  have hYp : 0 < Y := by rw [hY]; exact Int.mul_pos hy ht
  have d1 := Int.mul_ediv_add_emod (U * 4294967296 + u1) Y
  have d0 := Int.mul_ediv_add_emod (V * 4294967296 + u0) Y
  have m0 := Int.emod_nonneg (V * 4294967296 + u0) (b := Y) (by omega)
  have l0 := Int.emod_lt_of_pos (V * 4294967296 + u0) hYp
  have e : N / y = N * t / Y := by rw [hY, Int.mul_ediv_mul_of_pos_left _ _ ht]
  rw [e, ← hN]
  rw [dig] at h1 h0
  rw [← h1, ← hV] at d1
  rw [← h0] at d0
  have : (V * 4294967296 + u0) % Y = (U * 18446744073709551616 + L) - Y * (q1 * 4294967296 + q0) := by
    rw [Int.mul_add, ← Int.mul_assoc]; omega
  have hb : U * 18446744073709551616 + L = (V * 4294967296 + u0) % Y + Y * (q1 * 4294967296 + q0) := by omega
  rw [hb, Int.add_mul_ediv_left _ _ (by omega), Int.ediv_eq_zero_of_lt m0 l0]
  omega

theorem orU (s : Nat) (hi lo : Nat) (hs : s ≤ 63) (hl : lo < 18446744073709551616) (hh : hi * 2 ^ s < 18446744073709551616) :
    bits .or .u64 ((hi : Int) * 2 ^ s) ((lo : Int) / 2 ^ (64 - s)) = (hi : Int) * 2 ^ s + (lo : Int) / 2 ^ (64 - s) := by
  have e : (2 : Nat) ^ (64 - s) * 2 ^ s = 18446744073709551616 := by
    rw [← Nat.pow_add]; rw [show 64 - s + s = 64 from by omega]
  have hp : 0 < (2 : Nat) ^ (64 - s) := Nat.two_pow_pos _
  have hb : lo / 2 ^ (64 - s) < 2 ^ s := by
    refine Nat.div_lt_of_lt_mul ?_
    rw [e]; exact hl
  have h := bits_or_u64_nat (hi * 2 ^ s) (lo / 2 ^ (64 - s)) hh (Nat.lt_of_le_of_lt (Nat.div_le_self _ _) hl)
  have ho := Nat.two_pow_add_eq_or_of_lt hb hi
  rw [Nat.mul_comm] at ho
  rw [← ho] at h
  simpa using h

theorem shl (s : Nat) (lo : Nat) (hs : s ≤ 63) : (lo / 2 ^ (64 - s)) * 18446744073709551616 + lo * 2 ^ s % 18446744073709551616 = lo * 2 ^ s := by
  have e : (2 : Nat) ^ (64 - s) * 2 ^ s = 18446744073709551616 := by
    rw [← Nat.pow_add]; rw [show 64 - s + s = 64 from by omega]
  have : lo * 2 ^ s / 18446744073709551616 = lo / 2 ^ (64 - s) := by
    rw [← e, Nat.mul_div_mul_right _ _ (Nat.two_pow_pos s)]
  rw [← this]
  omega

theorem aux_bd : ∀ (f x : Nat), x < 2 ^ f → x ≠ 0 → 1 ≤ Lib.bitLenAux f x ∧ 2 ^ (Lib.bitLenAux f x - 1) ≤ x ∧ x < 2 ^ Lib.bitLenAux f x
  | 0, x, h, h0 => by simp at h; omega
  | f + 1, x, h, h0 => by
    simp only [Lib.bitLenAux, if_neg h0]
    by_cases hx : x / 2 = 0
    · have : x = 1 := by omega
      subst this
      have : Lib.bitLenAux f (1 / 2) = 0 := by cases f <;> simp [Lib.bitLenAux]
      rw [this]; simp
    · have ih := aux_bd f (x / 2) (by rw [Nat.pow_succ] at h; omega) hx
      obtain ⟨i1, i2, i3⟩ := ih
      refine ⟨by omega, ?_, ?_⟩
      · rw [show 1 + Lib.bitLenAux f (x / 2) - 1 = (Lib.bitLenAux f (x / 2) - 1) + 1 from by omega, Nat.pow_succ]; omega
      · rw [show 1 + Lib.bitLenAux f (x / 2) = Lib.bitLenAux f (x / 2) + 1 from by omega, Nat.pow_succ]; omega

/-- how far a divisor is shifted -/
theorem shift (y : Nat) (h0 : y ≠ 0) (h1 : y < 18446744073709551616) : ∃ s : Nat, s ≤ 63 ∧ 64 - (Lib.bitLen y : Int) = (s : Int) ∧ 9223372036854775808 ≤ y * 2 ^ s ∧ y * 2 ^ s < 18446744073709551616 := by
  obtain ⟨a, b, c⟩ := aux_bd 64 y h1 h0
  have hle := Lib.bitLen_le y 64 (by omega) h1
  have ha : 1 ≤ Lib.bitLen y := a
  have hb : 2 ^ (Lib.bitLen y - 1) ≤ y := b
  have hc : y < 2 ^ Lib.bitLen y := c
  refine ⟨64 - Lib.bitLen y, by omega, by omega, ?_, ?_⟩
  · have e : (2 : Nat) ^ (Lib.bitLen y - 1) * 2 ^ (64 - Lib.bitLen y) = 9223372036854775808 := by
      rw [← Nat.pow_add, show Lib.bitLen y - 1 + (64 - Lib.bitLen y) = 63 from by omega]
    rw [← e]; exact Nat.mul_le_mul_right _ hb
  · have e : (2 : Nat) ^ (Lib.bitLen y) * 2 ^ (64 - Lib.bitLen y) = 18446744073709551616 := by
      rw [← Nat.pow_add, show Lib.bitLen y + (64 - Lib.bitLen y) = 64 from by omega]
    rw [← e]; exact Nat.mul_lt_mul_of_pos_right hc (Nat.two_pow_pos _)
end Go.Proofs.Ytgkahcchekiogaa.DivPlain
