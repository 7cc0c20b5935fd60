/- math/bits.Div64: the quotient of two words by one. -/
import Derived.Test.YtgkahcchekiogaaWideA
import Derived.Test.YtgkahcchekiogaaDivPlain
import Derived.BigQuiet
import Derived.Deep.QuietTactic
import Derived.Lib.Hide
import Derived.Deep.DeepCutAuto
import Derived.Deep.CutBlock
namespace Go.Proofs.Ytgkahcchekiogaa.Div64
set_option linter.unusedVariables false
open Go.RowKit WideA DivPlain

set_option maxHeartbeats 1000000 in
theorem div_zero (lo y : Int) (w : World) (hl : 0 ≤ lo) (hl' : lo ≤ 18446744073709551615) (hy : 0 < y) (hy' : y ≤ 18446744073709551615) :
    Calls Try.prog 158 #[.int .u64 0, .int .u64 lo, .int .u64 y] w fun e w' => e = .returned (.tuple #[.int .u64 (lo / y), .int .u64 (lo % y)]) ∧ ∃ n, w' = w.drewN n := by
  have h1 : (y == 0) = false := by simp; omega
  go_enter Try.func158, Try.ntmps158
  go_wp2
  go_quiet (fail)
  go_wp2
  go_ret2
  exact ⟨rfl, _, rfl⟩

theorem lzs_any (s : Nat) (x : Int) (w : World) (h0 : 0 ≤ x) (h1 : x ≤ 18446744073709551615) (hs : 64 - (Lib.bitLen x.toNat : Int) = s) :
    Calls Try.prog 171 #[.int .u64 x] w fun e w' => e = .returned (.int .i64 s) ∧ w = w' := by
  refine (lz64_any x w h0 h1).mono fun e w' h => ?_
  obtain ⟨rfl, rfl⟩ := h
  exact ⟨ret_int hs, rfl⟩

/-- what the division answers: the quotient, and some rest -/
def DivPost (q : Int) (w : World) (e : Ending) (w' : World) : Prop := ∃ r : Int, e = .returned (.tuple #[.int .u64 q, .int .u64 r]) ∧ w = w'

set_option maxHeartbeats 4000000 in
theorem div_walk (s : Nat) (hi lo y Y U H L : Int) (w : World) (hh : 0 < hi) (hl : 0 ≤ lo) (hl' : lo ≤ 18446744073709551615) (hy : hi < y) (hy' : y ≤ 18446744073709551615)
    (hs : s ≤ 63) (hb : Hid (64 - (Lib.bitLen y.toNat : Int) = s)) (eY : IntKind.u64.wrap (y * 2 ^ s) = Y) (eH : IntKind.u64.wrap (hi * 2 ^ s) = H)
    (eO : bits .or .u64 H (lo / 2 ^ (64 - s)) = U) (eL : IntKind.u64.wrap (lo * 2 ^ s) = L)
    (b1 : 9223372036854775808 ≤ Y) (b2 : Y ≤ 18446744073709551615) (b3 : 0 ≤ U) (b4 : U < Y) (b5 : 0 ≤ L) (b6 : L ≤ 18446744073709551615) :
    Calls Try.prog 158 #[.int .u64 hi, .int .u64 lo, .int .u64 y] w (DivPost (dig U (L / 4294967296) Y * 4294967296 + dig ((U * 4294967296 + L / 4294967296) % Y) (L % 4294967296) Y) w) := by
  have h1 : (y == 0) = false := by simp; omega
  have h2 : (hi == 0) = false := by simp; omega
  have hm : min s 64 = s := by omega
  have e1 : IntKind.u64.wrap (s : Int) = s := by rw [IntKind.wrap_u64]; omega
  have n1 : ¬ Y / 4294967296 = 0 := by omega
  have eMY : bits .and .u64 Y 4294967295 = Y % 4294967296 := and_low32 Y (by omega) (by omega)
  have eML : bits .and .u64 L 4294967295 = L % 4294967296 := and_low32 L b5 (by omega)
  have I := DivPlain.start (u1 := L / 4294967296) b3 (show U ≤ 18446744073709551615 by omega) (by omega) b1 b2
  obtain ⟨Q, hQ⟩ : ∃ Q, U / (Y / 4294967296) = Q := ⟨_, rfl⟩
  rw [hQ] at I
  have eQ : IntKind.u64.wrap Q = Q := by have := I.q0; have := I.q1; rw [IntKind.wrap_u64]; omega
  obtain ⟨M, hM⟩ : ∃ M, Q * (Y / 4294967296) = M := ⟨_, rfl⟩
  obtain ⟨R, hR⟩ : ∃ R, U - M = R := ⟨_, rfl⟩
  rw [hM, hR] at I
  have bR0 := I.r0; have bR1 := I.r1
  have bM : 0 ≤ M ∧ M ≤ U := ⟨by rw [← hM]; exact Int.mul_nonneg I.q0 (by omega), by omega⟩
  have eM : IntKind.u64.wrap M = M := by rw [IntKind.wrap_u64]; omega
  have eR : IntKind.u64.wrap R = R := by rw [IntKind.wrap_u64]; omega
  have HI := Lib.hid I
  clear I bM
  go_enter Try.func158, Try.ntmps158
  go_upto_block 0 with (go_at_call 171; refine (lzs_any s y _ (by omega) (by omega) hb.out).mono ?_; rintro e w' ⟨rfl, rfl⟩)
  go_cut [15] (fun q wc => q = .int .u64 (dig U (L / 4294967296) Y) ∧ wc = w)
  case first =>
    have HQ := Lib.hid hQ; have HM := Lib.hid hM; have HR := Lib.hid hR
    clear eQ hQ hM hR eM eR bR0 bR1 eMY eML e1 hm h1 h2 eY eH eO eL
    go_wp2_with fail
    go_loop [15, 16] (fun q r => ∃ a b : Int, q = .int .u64 a ∧ r = .int .u64 b ∧ Hid (DivPlain.Inv U (L / 4294967296) Y a b)) (fun q _ => (intOf q).toNat)
    case atStart => exact ⟨Q, R, by simp only [HQ.out], rfl, HI⟩
    case round =>
      clear HI HQ HM HR
      obtain ⟨a, b, rfl, rfl, J⟩ := hrel
      have a0 := J.out.q0; have a1 := J.out.q1; have c0 := J.out.r0; have c1 := J.out.r1
      by_cases hq : 4294967296 ≤ a
      · have hx := Lib.hid (show 4294967296 ≤ a ∨ 4294967296 * b + L / 4294967296 < a * (Y % 4294967296) from .inl hq)
        have hs1 := (DivPlain.step J.out (by omega) (by omega) (by omega) (by omega) b1 hx.out).2
        by_cases hr : b + Y / 4294967296 < 4294967296
        · have JN := Lib.hid (DivPlain.next J.out (by omega) (by omega) (by omega) (by omega) b1 hx.out hr)
          go_wp2_with fail
          go_round
          case rel => exact ⟨a - 1, b + Y / 4294967296, rfl, rfl, JN⟩
          case measure => simp [intOf]; omega
        · have ht := Lib.hid (DivPlain.exact2 J.out (by omega) (by omega) (by omega) (by omega) b1 hx.out (by omega))
          go_wp2_with fail
          go_meet
          exact ⟨by rw [ht.out], rfl⟩
      · have ew := wq (Y := Y) a0 (by omega)
        by_cases hq2 : 4294967296 * b + L / 4294967296 < a * (Y % 4294967296)
        · have hx := Lib.hid (show 4294967296 ≤ a ∨ 4294967296 * b + L / 4294967296 < a * (Y % 4294967296) from .inr hq2)
          have hs1 := (DivPlain.step J.out (by omega) (by omega) (by omega) (by omega) b1 hx.out).2
          by_cases hr : b + Y / 4294967296 < 4294967296
          · have JN := Lib.hid (DivPlain.next J.out (by omega) (by omega) (by omega) (by omega) b1 hx.out hr)
            go_wp2_with fail
            go_round
            case rel => exact ⟨a - 1, b + Y / 4294967296, rfl, rfl, JN⟩
            case measure => simp [intOf]; omega
          · have ht := Lib.hid (DivPlain.exact2 J.out (by omega) (by omega) (by omega) (by omega) b1 hx.out (by omega))
            go_wp2_with fail
            go_meet
            exact ⟨by rw [ht.out], rfl⟩
        · have ht := Lib.hid (exact1 J.out b1 (show a * (Y % 4294967296) ≤ 4294967296 * b + L / 4294967296 by omega))
          go_wp2_with fail
          go_meet
          exact ⟨by rw [ht.out], rfl⟩
  case rest =>
    obtain ⟨hcut, rfl⟩ := hcut
    subst hcut
    clear HI eQ hQ hM hR eM eR bR0 bR1 eY eH eO eL eMY eML hb

    have d0 := dig_nonneg (u1 := L / 4294967296) b3 (by omega) (show 0 < Y by omega)
    have d1 := dig_lt (u1 := L / 4294967296) b4 (by omega) (show 0 < Y by omega)
    have eV := DivPlain.rest (U := U) (u1 := L / 4294967296) rfl b1 b2
    have v0 := Int.emod_nonneg (U * 4294967296 + L / 4294967296) (b := Y) (by omega)
    have v1 := Int.emod_lt_of_pos (U * 4294967296 + L / 4294967296) (show 0 < Y by omega)
    generalize (U * 4294967296 + L / 4294967296) % Y = V at *
    generalize dig U (L / 4294967296) Y = D at *
    have I := DivPlain.start (u1 := L % 4294967296) v0 (show V ≤ 18446744073709551615 by omega) (by omega) b1 b2
    obtain ⟨Q, hQ⟩ : ∃ Q, V / (Y / 4294967296) = Q := ⟨_, rfl⟩
    rw [hQ] at I
    have eQ : IntKind.u64.wrap Q = Q := by have := I.q0; have := I.q1; rw [IntKind.wrap_u64]; omega
    obtain ⟨M, hM⟩ : ∃ M, Q * (Y / 4294967296) = M := ⟨_, rfl⟩
    obtain ⟨R, hR⟩ : ∃ R, V - M = R := ⟨_, rfl⟩
    rw [hM, hR] at I
    have bR0 := I.r0; have bR1 := I.r1
    have bM : 0 ≤ M ∧ M ≤ V := ⟨by rw [← hM]; exact Int.mul_nonneg I.q0 (by omega), by omega⟩
    have eM : IntKind.u64.wrap M = M := by rw [IntKind.wrap_u64]; omega
    have eR : IntKind.u64.wrap R = R := by rw [IntKind.wrap_u64]; omega
    have HI := Lib.hid I
    clear I bM
    go_upto_block 2 with fail
    go_cut [18] (fun q wd => q = .int .u64 (dig V (L % 4294967296) Y) ∧ wd = wc)
    case first =>
      have HQ := Lib.hid hQ; have HM := Lib.hid hM; have HR := Lib.hid hR
      clear eQ hQ hM hR eM eR bR0 bR1 e1 hm h1 h2 eV
      go_wp2_with fail
      go_loop [18, 16] (fun q r => ∃ a b : Int, q = .int .u64 a ∧ r = .int .u64 b ∧ Hid (DivPlain.Inv V (L % 4294967296) Y a b)) (fun q _ => (intOf q).toNat)
      case atStart => exact ⟨Q, R, by simp only [HQ.out], rfl, HI⟩
      case round =>
        clear HI HQ HM HR
        obtain ⟨a, b, rfl, rfl, J⟩ := hrel
        have a0 := J.out.q0; have a1 := J.out.q1; have c0 := J.out.r0; have c1 := J.out.r1
        by_cases hq : 4294967296 ≤ a
        · have hx := Lib.hid (show 4294967296 ≤ a ∨ 4294967296 * b + L % 4294967296 < a * (Y % 4294967296) from .inl hq)
          have hs1 := (DivPlain.step J.out (by omega) (by omega) (by omega) (by omega) b1 hx.out).2
          by_cases hr : b + Y / 4294967296 < 4294967296
          · have JN := Lib.hid (DivPlain.next J.out (by omega) (by omega) (by omega) (by omega) b1 hx.out hr)
            go_wp2_with fail
            go_round
            case rel => exact ⟨a - 1, b + Y / 4294967296, rfl, rfl, JN⟩
            case measure => simp [intOf]; omega
          · have ht := Lib.hid (DivPlain.exact2 J.out (by omega) (by omega) (by omega) (by omega) b1 hx.out (by omega))
            go_wp2_with fail
            go_meet
            exact ⟨by rw [ht.out], rfl⟩
        · have ew := wq (Y := Y) a0 (by omega)
          by_cases hq2 : 4294967296 * b + L % 4294967296 < a * (Y % 4294967296)
          · have hx := Lib.hid (show 4294967296 ≤ a ∨ 4294967296 * b + L % 4294967296 < a * (Y % 4294967296) from .inr hq2)
            have hs1 := (DivPlain.step J.out (by omega) (by omega) (by omega) (by omega) b1 hx.out).2
            by_cases hr : b + Y / 4294967296 < 4294967296
            · have JN := Lib.hid (DivPlain.next J.out (by omega) (by omega) (by omega) (by omega) b1 hx.out hr)
              go_wp2_with fail
              go_round
              case rel => exact ⟨a - 1, b + Y / 4294967296, rfl, rfl, JN⟩
              case measure => simp [intOf]; omega
            · have ht := Lib.hid (DivPlain.exact2 J.out (by omega) (by omega) (by omega) (by omega) b1 hx.out (by omega))
              go_wp2_with fail
              go_meet
              exact ⟨by rw [ht.out], rfl⟩
          · have ht := Lib.hid (exact1 J.out b1 (show a * (Y % 4294967296) ≤ 4294967296 * b + L % 4294967296 by omega))
            go_wp2_with fail
            go_meet
            exact ⟨by rw [ht.out], rfl⟩
    case rest =>
      obtain ⟨hcut, rfl⟩ := hcut
      subst hcut
      clear HI eQ hQ hM hR eM eR bR0 bR1 eV
      have f0 := dig_nonneg (u1 := L % 4294967296) v0 (by omega) (show 0 < Y by omega)
      have f1 := dig_lt (u1 := L % 4294967296) v1 (by omega) (show 0 < Y by omega)
      generalize dig V (L % 4294967296) Y = F at *
      go_wp2_with fail
      go_ret2
      exact ⟨_, rfl, rfl⟩

/-- EVERY DIVISION of two words by one whose quotient is one word. -/
theorem div_any (hi lo y : Int) (w : World) (hh : 0 < hi) (hl : 0 ≤ lo) (hl' : lo ≤ 18446744073709551615) (hy : hi < y) (hy' : y ≤ 18446744073709551615) :
    Calls Try.prog 158 #[.int .u64 hi, .int .u64 lo, .int .u64 y] w (DivPost ((hi * 18446744073709551616 + lo) / y) w) := by
  obtain ⟨s, hs, hb, hY1, hY2⟩ := shift y.toNat (by omega) (by omega)
  have t0 : 0 < (2 : Int) ^ s := Int.pow_pos (by omega)
  have hyt : ((y.toNat : Nat) : Int) = y := by omega
  have hht : ((hi.toNat : Nat) : Int) = hi := by omega
  have hlt : ((lo.toNat : Nat) : Int) = lo := by omega
  have ey : ((y.toNat * 2 ^ s : Nat) : Int) = y * 2 ^ s := by rw [Int.natCast_mul, hyt, Int.natCast_pow]; rfl
  have eh : ((hi.toNat * 2 ^ s : Nat) : Int) = hi * 2 ^ s := by rw [Int.natCast_mul, hht, Int.natCast_pow]; rfl
  have el : ((lo.toNat * 2 ^ s : Nat) : Int) = lo * 2 ^ s := by rw [Int.natCast_mul, hlt, Int.natCast_pow]; rfl
  have ed : ((lo.toNat / 2 ^ (64 - s) : Nat) : Int) = lo / 2 ^ (64 - s) := by rw [Int.natCast_ediv, hlt, Int.natCast_pow]; rfl
  have hY1' : 9223372036854775808 ≤ y * 2 ^ s := by omega
  have hY2' : y * 2 ^ s < 18446744073709551616 := by omega
  have hH0 : 0 ≤ hi * 2 ^ s := Int.mul_nonneg (by omega) (by omega)
  have hH1 : hi * 2 ^ s + 2 ^ s ≤ y * 2 ^ s := by
    have : (hi + 1) * 2 ^ s ≤ y * 2 ^ s := Int.mul_le_mul_of_nonneg_right (by omega) (by omega)
    rw [Int.add_mul] at this; omega
  have eO := orU s hi.toNat lo.toNat hs (by omega) (by omega)
  rw [hht, hlt] at eO
  have hS := shl s lo.toNat hs
  have hS' : lo / 2 ^ (64 - s) * 18446744073709551616 + lo * 2 ^ s % 18446744073709551616 = lo * 2 ^ s := by
    rw [← el, ← ed]; omega
  have hq0 : 0 ≤ lo / 2 ^ (64 - s) := Int.ediv_nonneg hl (Int.le_of_lt (Int.pow_pos (by omega)))
  have hq1 : lo / 2 ^ (64 - s) < 2 ^ s := by
    refine Int.lt_of_not_ge fun hge => ?_
    have h1 : lo * 2 ^ s < 18446744073709551616 * 2 ^ s := Int.mul_lt_mul_of_pos_right (by omega) t0
    omega
  have k := div_walk s hi lo y (y * 2 ^ s) (hi * 2 ^ s + lo / 2 ^ (64 - s)) (hi * 2 ^ s) (lo * 2 ^ s % 18446744073709551616) w hh hl hl' hy hy' hs (by rw [hb]; rfl)
    (by rw [IntKind.wrap_u64]; omega) (by rw [IntKind.wrap_u64]; omega) eO (by rw [IntKind.wrap_u64])
    hY1' (by omega) (by omega) (by omega) (by omega) (by omega)
  rw [two (N := hi * 18446744073709551616 + lo) (y := y) (t := 2 ^ s) (U := hi * 2 ^ s + lo / 2 ^ (64 - s)) (L := lo * 2 ^ s % 18446744073709551616) (Y := y * 2 ^ s) (u1 := lo * 2 ^ s % 18446744073709551616 / 4294967296) (u0 := lo * 2 ^ s % 18446744073709551616 % 4294967296) (V := ((hi * 2 ^ s + lo / 2 ^ (64 - s)) * 4294967296 + lo * 2 ^ s % 18446744073709551616 / 4294967296) % (y * 2 ^ s)) (by omega) t0 ?_ rfl (by omega) rfl rfl rfl] at k
  · exact k
  · rw [Int.add_mul (hi * 18446744073709551616) lo, Int.mul_right_comm hi]; omega

end Go.Proofs.Ytgkahcchekiogaa.Div64
