/- Walks of the small functions of package wide and of math/bits: what each computes. -/
import Derived.Test.YtgkahcchekiogaaProg
import Derived.WalkKit
import Derived.Lib.Mul64
import Derived.Lib.BitFns
import Derived.Laws.Bits64b
import Derived.Shelf.Bits.Mul64
namespace Go.Proofs.Ytgkahcchekiogaa.WideA
open Go.RowKit

/-- a sum that stays at the ends -/
def satI (a b : Int) : Int := if 9223372036854775807 < a + b then 9223372036854775807 else if a + b < -9223372036854775808 then -9223372036854775808 else a + b
def clampI (n f t : Int) : Int := if n < f then f else if t < n then t else n

theorem ret_int {k : IntKind} {a b : Int} (h : a = b) : Ending.returned (.int k a) = .returned (.int k b) := by rw [h]
theorem w64 (n : Int) : wrap64 n = (n + 9223372036854775808) % 18446744073709551616 - 9223372036854775808 := by
  unfold wrap64; first | rfl | omega

theorem clamp_any (n f t : Int) (w : World) :
    Calls Try.prog 119 #[.int .i64 n, .int .i64 f, .int .i64 t] w fun e w' => e = .returned (.int .i64 (clampI n f t)) ∧ w = w' := by
  go_enter Try.func119, Try.ntmps119
  go_wp2
  all_goals go_ret
  all_goals refine ⟨ret_int ?_, rfl⟩
  all_goals (unfold clampI; (repeat' split) <;> omega)


theorem satr_any (a b : Int) (w : World) (ha : -9223372036854775808 ≤ a) (ha' : a ≤ 9223372036854775807) (hb : -9223372036854775808 ≤ b) (hb' : b ≤ 9223372036854775807) :
    Calls Try.prog 52 #[.int .i64 a, .int .i64 b] w fun e w' => e = .returned (.int .i64 (satI a b)) ∧ w = w' := by
  go_enter Try.func52, Try.ntmps52
  go_wp2
  all_goals go_ret
  all_goals refine ⟨ret_int ?_, rfl⟩
  all_goals (unfold satI; try rw [w64] at *)
  all_goals (repeat' split) <;> omega

theorem sat_any (a b : Int) (w : World) (ha : -9223372036854775808 ≤ a) (ha' : a ≤ 9223372036854775807) (hb : -9223372036854775808 ≤ b) (hb' : b ≤ 9223372036854775807) :
    Calls Try.prog 112 #[.int .i64 a, .int .i64 b] w fun e w' => e = .returned (.int .i64 (satI a b)) ∧ w = w' := by
  go_enter Try.func112, Try.ntmps112
  go_wp2
  all_goals go_ret
  all_goals refine ⟨ret_int ?_, rfl⟩
  all_goals (unfold satI; try rw [w64] at *)
  all_goals (repeat' split) <;> omega

theorem len8_at (i : Int) (h : i.toNat < Lib.len8tab.size) : ((Lib.len8tab[i.toNat]'h).toNat : Int) = Lib.len8 i := by
  unfold Lib.len8; rw [getElem?_pos Lib.len8tab i.toNat h]; rfl

theorem lc (x i : Int) (k p : Nat) (h0 : 0 ≤ i) (h1 : i ≤ 255) (he : i.toNat = x.toNat / p) (hs : Lib.bitLen x.toNat = k + Lib.bitLen (x.toNat / p)) (hk : k ≤ 56) :
    wrap64 ((k : Int) + wrap64 (Lib.len8 i)) = (Lib.bitLen x.toNat : Int) := by
  have l := Lib.bitLen_le8' i h0 h1
  rw [Lib.len8_of i h0 h1, hs, ← he, w64, w64]
  omega
theorem lc0 (x : Int) (h0 : 0 ≤ x) (h1 : x ≤ 255) : wrap64 (wrap64 (Lib.len8 x)) = (Lib.bitLen x.toNat : Int) := by
  have l := Lib.bitLen_le8' x h0 h1
  rw [Lib.len8_of x h0 h1, w64, w64]
  omega

set_option maxHeartbeats 4000000 in
set_option maxRecDepth 100000 in
theorem len64_any (x : Int) (w : World) (h0 : 0 ≤ x) (h1 : x ≤ 18446744073709551615) :
    Calls Try.prog 173 #[.int .u64 x] w fun e w' => e = .returned (.int .i64 (Lib.bitLen x.toNat)) ∧ w = w' := by
  go_enter Try.func173, Try.ntmps173
  have hs : Lib.len8tab.size = 256 := Lib.len8tab_size
  go_wp2
  all_goals go_ret
  all_goals (refine ⟨ret_int ?_, rfl⟩; simp only [len8_at])
  all_goals first
    | exact lc x _ 56 72057594037927936 (by omega) (by omega) (by omega) (Lib.bitLen_shift56 _ (by omega) (by omega)) (by omega)
    | exact lc x _ 48 281474976710656 (by omega) (by omega) (by omega) (Lib.bitLen_shift48 _ (by omega) (by omega)) (by omega)
    | exact lc x _ 40 1099511627776 (by omega) (by omega) (by omega) (Lib.bitLen_shift40 _ (by omega) (by omega)) (by omega)
    | exact lc x _ 32 4294967296 (by omega) (by omega) (by omega) (Lib.bitLen_shift32 _ (by omega) (by omega)) (by omega)
    | exact lc x _ 24 16777216 (by omega) (by omega) (by omega) (Lib.bitLen_shift24 _ (by omega) (by omega)) (by omega)
    | exact lc x _ 16 65536 (by omega) (by omega) (by omega) (Lib.bitLen_shift16 _ (by omega) (by omega)) (by omega)
    | exact lc x _ 8 256 (by omega) (by omega) (by omega) (Lib.bitLen_shift8 _ (by omega) (by omega)) (by omega)
    | exact lc0 x (by omega) (by omega)

theorem lz64_any (x : Int) (w : World) (h0 : 0 ≤ x) (h1 : x ≤ 18446744073709551615) :
    Calls Try.prog 171 #[.int .u64 x] w fun e w' => e = .returned (.int .i64 (64 - Lib.bitLen x.toNat)) ∧ w = w' := by
  have hl := Lib.bitLen_le x.toNat 64 (by omega) (by omega)
  go_enter Try.func171, Try.ntmps171
  go_wp2_with (go_at_call 173; refine (len64_any x _ h0 h1).mono ?_; rintro e w' ⟨rfl, rfl⟩)
  go_ret
  exact ⟨rfl, rfl⟩

set_option maxHeartbeats 1000000 in
theorem mul64_nat (x y : Nat) (hx : x < 18446744073709551616) (hy : y < 18446744073709551616) (w : World) :
    Calls Try.prog 156 #[.int .u64 x, .int .u64 y] w fun e w' => e = .returned (.tuple #[.int .u64 ((x * y / 18446744073709551616 : Nat) : Int), .int .u64 ((x * y % 18446744073709551616 : Nat) : Int)]) ∧ w = w' := by
  obtain ⟨bd, bt, bw, hhi⟩ := Lib.mul64_hi x y hx hy
  have ba := Lib.half_mul_le (a := x / 4294967296) (b := y / 4294967296) (by omega) (by omega)
  have bb := Lib.half_mul_le (a := x / 4294967296) (b := y % 4294967296) (by omega) (by omega)
  have bc := Lib.half_mul_le (a := x % 4294967296) (b := y / 4294967296) (by omega) (by omega)
  have ba' : x / 4294967296 * (y / 4294967296) < 18446744073709551616 := by omega
  have bb' : x / 4294967296 * (y % 4294967296) < 18446744073709551616 := by omega
  have bc' : x % 4294967296 * (y / 4294967296) < 18446744073709551616 := by omega
  have bh1 : x / 4294967296 * (y / 4294967296) + (x / 4294967296 * (y % 4294967296) + x % 4294967296 * (y % 4294967296) / 4294967296) / 4294967296 < 18446744073709551616 := by omega
  have bh : x / 4294967296 * (y / 4294967296) + (x / 4294967296 * (y % 4294967296) + x % 4294967296 * (y % 4294967296) / 4294967296) / 4294967296 + ((x / 4294967296 * (y % 4294967296) + x % 4294967296 * (y % 4294967296) / 4294967296) % 4294967296 + x % 4294967296 * (y / 4294967296)) / 4294967296 < 18446744073709551616 := by omega
  go_enter Try.func156, Try.ntmps156
  go_wp2
  simp only [Mul64.maskN x hx, Mul64.maskN y hy, Mul64.divN, Mul64.mulN, Mul64.addN, Mul64.wrapN _ bd, Mul64.wrapN _ bb', Mul64.wrapN _ bt, Mul64.maskN _ bt, Mul64.wrapN _ bc', Mul64.wrapN _ bw, Mul64.wrapN _ ba', Mul64.wrapN _ bh1, Mul64.wrapN _ bh, Mul64.wrapM (x * y)]
  rw [hhi]
  go_ret2
  exact ⟨rfl, rfl⟩
theorem mul64_any (x y : Int) (w : World) (hx : 0 ≤ x) (hx' : x ≤ 9223372036854775807) (hy : 0 ≤ y) (hy' : y ≤ 9223372036854775807) :
    Calls Try.prog 156 #[.int .u64 x, .int .u64 y] w fun e w' => e = .returned (.tuple #[.int .u64 (x * y / 18446744073709551616), .int .u64 (x * y % 18446744073709551616)]) ∧ w = w' := by
  obtain ⟨x, rfl⟩ := Int.eq_ofNat_of_zero_le hx
  obtain ⟨y, rfl⟩ := Int.eq_ofNat_of_zero_le hy
  exact mul64_nat x y (by omega) (by omega) w

theorem times_any (a b : Int) (w : World) (ha : 0 ≤ a) (ha' : a ≤ 9223372036854775807) (hb : 0 ≤ b) (hb' : b ≤ 9223372036854775807) :
    Calls Try.prog 123 #[.int .i64 a, .int .i64 b] w fun e w' => e = .returned (.agg #[.int .u64 (a * b / 18446744073709551616), .int .u64 (a * b % 18446744073709551616)]) ∧ Below w.heap.size w w' := by
  go_enter Try.func123, Try.ntmps123
  go_wp2_with (go_at_call 156; refine (mul64_any a b _ ha ha' hb hb').mono ?_; rintro e w' ⟨rfl, rfl⟩)
  exact bodyPost_ret (v := .agg #[.int .u64 (a * b / 18446744073709551616), .int .u64 (a * b % 18446744073709551616)]) (by simp [results, Try.results123, go_sem]) rfl ⟨rfl, ((Below.refl _ _).alloc (Nat.le_refl _) _)⟩

end Go.Proofs.Ytgkahcchekiogaa.WideA
