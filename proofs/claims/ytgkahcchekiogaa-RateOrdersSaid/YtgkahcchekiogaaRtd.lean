/- The reference of rate: Hyper. -/
import Derived.Test.YtgkahcchekiogaaRtc
namespace Go.Proofs.Ytgkahcchekiogaa.Rtd
open Go.RowKit Base Kit WideA Rta Rtb Rtc
set_option linter.unusedVariables false
set_option linter.unusedSimpArgs false
theorem q_facts {m y : Nat} (hm : 1 ≤ m) (hy : 1 ≤ y) : ∃ q, 1 ≤ q ∧ q ≤ y ∧ m * q = Nat.lcm m y ∧ (m * q) % y = 0 ∧ ∀ t, 1 ≤ t → t < q → (m * t) % y ≠ 0 := by
  have h1 := (by_lcm hm hy).1
  have hg : 0 < Nat.gcd m y := Nat.gcd_pos_of_pos_left _ (by omega)
  refine ⟨y / Nat.gcd m y, ?_, Nat.div_le_self _ _, h1, ?_, fun t ht hlt h => ?_⟩
  · exact Nat.div_pos (Nat.le_of_dvd (by omega) (Nat.gcd_dvd_right m y)) hg
  · rw [h1]; exact Nat.mod_eq_zero_of_dvd (Nat.dvd_lcm_right m y)
  · have h2 := Nat.le_of_dvd (Nat.mul_pos (by omega) (by omega)) (Nat.lcm_dvd (Nat.dvd_mul_right m t) (Nat.dvd_of_mod_eq_zero h))
    rw [← h1] at h2
    have := Nat.le_of_mul_le_mul_left h2 (by omega)
    omega
theorem lcm_ge {m y : Nat} (hm : 1 ≤ m) (hy : 1 ≤ y) : y ≤ Nat.lcm m y := Nat.le_of_dvd (Nat.lcm_pos (by omega) (by omega)) (Nat.dvd_lcm_right m y)
set_option maxRecDepth 100000 in
set_option maxHeartbeats 2000000 in
theorem Hyperr_any (a : Option Addr) (n c : Nat) (f : Nat → Nat → Int) (r e : Int) (w : World) (h : Hid (Open.RowsIn w a n 3 f)) (hr : Hid (hyP f n = (r, e))) :
    Calls Try.prog 46 #[.slice a n c] w fun e' w' => e' = .returned (.tuple #[.int .i64 r, .int .i64 e]) ∧ Below w.heap.size w w' := by
  have hn := h.out.1
  go_enter Try.func46, Try.ntmps46
  go_wp2_with fail
  go_loopw [4, 5] (fun s i wr => ∃ k m : Nat, k ≤ n ∧ i = .int .i64 k ∧ s = .int .i64 (m : Int) ∧ Hid (hyR f k = some m) ∧ Hid (Below w.heap.size w wr)) (fun _ i _ => n - (intOf i).toNat)
  case atStart => exact ⟨0, 1, Nat.zero_le _, rfl, rfl, Lib.hid rfl, Lib.hid (Below.refl _ _)⟩
  case round =>
    obtain ⟨k, m, hk, rfl, rfl, HM, HB⟩ := hrel
    obtain ⟨m0, m1⟩ := hyR_bd HM.out
    by_cases hl : k < n
    · obtain ⟨b, off, rfl, hlt, c0, c1, c2, i0, i1, i2⟩ := rows_at3 h k hl
      replace c1 := keep HB.out c1 hlt
      have HE := Lib.hid (show hyR f (k + 1) = hyS m (f k 1) from by show (match hyR f k with | none => none | some n => hyS n (f k 1)) = _; rw [HM.out])
      clear c0 c2 i0 i2
      generalize f k 1 = y1 at *
      by_cases hp : y1 ≤ 0
      · have HF : Hid (hyR f (k + 1) = some m) := Lib.hid (by rw [HE.out]; unfold hyS; rw [if_pos hp])
        go_wp2_with fail
        go_roundw
        case rel => exact ⟨k + 1, m, by omega, by go_num, rfl, HF, HB⟩
        case measure => simp [intOf]; omega
      obtain ⟨y, rfl⟩ : ∃ y : Nat, y1 = (y : Int) := ⟨y1.toNat, by omega⟩
      have hy : 1 ≤ y := by omega
      have hyS1 := Lib.hid (show hyS m (y : Int) = if 1000000 < Nat.lcm m y then none else some (Nat.lcm m y) from by unfold hyS; rw [if_neg hp, Int.toNat_natCast])
      replace hp : (0 : Int) < (y : Int) := by omega
      by_cases h6 : 1000000 < y
      · have HN : Hid ((0, 6) = (r, e)) := Lib.hid (by
          rw [← hr.out]
          exact (hyP_none (k := k + 1) (by rw [HE.out, hyS1.out, if_pos (by have := lcm_ge m0 hy; omega)]) (by omega)).symm)
        replace h6 : (1000000 : Int) < (y : Int) := by omega
        go_wp2_with fail
        go_ret2
        exact ⟨Kit.ret_pair HN.out, HB.out⟩
      obtain ⟨q, q0, q1, q2, q3, q4⟩ := q_facts m0 hy
      have hmq : m * q ≤ 1000000 * 1000000 := Nat.mul_le_mul m1 (by omega)
      replace q2 := Lib.hid q2
      replace q3 := Lib.hid q3
      replace q4 := Lib.hid q4
      have h6 : (y : Int) ≤ 1000000 := by omega
      go_wp2_with fail
      go_loopw [7, 8] (fun s i wr => ∃ j M : Nat, j < q ∧ i = .int .i64 j ∧ s = .int .i64 (M : Int) ∧ Hid (M = m * (j + 1)) ∧ Hid (Below w.heap.size w wr)) (fun _ i _ => q - (intOf i).toNat)
      case atStart => exact ⟨0, m, by omega, rfl, rfl, Lib.hid (by omega), HB⟩
      case round =>
        clear HB c1
        obtain ⟨j, M, hj, rfl, rfl, HJ, HB⟩ := hrel
        have hM : M ≤ m * q := by rw [HJ.out]; exact Nat.mul_le_mul_left m (by omega)
        have hM0 : (0 : Int) ≤ (M : Int) := by omega
        have hM1 : (M : Int) ≤ 1000000000000 := by omega
        have hjy : (j : Int) < (y : Int) := by omega
        by_cases hlast : j + 1 < q
        · have hne : M % y ≠ 0 := by rw [HJ.out]; exact q4.out (j + 1) (by omega) hlast
          have hne' : ((M : Int) % (y : Int) != 0) = true := by
            rw [bne_iff_ne]
            intro h9
            rw [show (M : Int) % (y : Int) = ((M % y : Nat) : Int) from (Int.natCast_emod M y).symm] at h9
            omega
          have HJ' : Hid (M + m = m * (j + 1 + 1)) := Lib.hid (by rw [HJ.out, Nat.mul_add m (j + 1) 1]; omega)
          clear hne hM hmq
          go_wp2_with fail
          go_roundw
          case rel => exact ⟨j + 1, M + m, by omega, by go_num, by go_num, HJ', HB⟩
          case measure => simp [intOf]; omega
        · obtain rfl : q = j + 1 := by omega
          have hz : M % y = 0 := by rw [HJ.out]; exact q3.out
          have hz' : ((M : Int) % (y : Int) != 0) = false := by
            rw [bne_eq_false_iff_eq, show (M : Int) % (y : Int) = ((M % y : Nat) : Int) from (Int.natCast_emod M y).symm]
            omega
          have hL : Nat.lcm m y = M := by rw [HJ.out]; exact q2.out.symm
          have hz1 := hyS1.out
          rw [hL] at hz1
          clear hz hL hM hmq
          by_cases hb : 1000000 < M
          · have HN : Hid ((0, 6) = (r, e)) := Lib.hid (by
              rw [← hr.out]
              exact (hyP_none (k := k + 1) (by rw [HE.out, hz1, if_pos hb]) (by omega)).symm)
            replace hb : (1000000 : Int) < (M : Int) := by omega
            clear hz1
            go_wp2_with fail
            go_ret2
            exact ⟨Kit.ret_pair HN.out, HB.out⟩
          · have HF : Hid (hyR f (k + 1) = some M) := Lib.hid (by rw [HE.out, hz1, if_neg hb])
            replace hb : (M : Int) ≤ 1000000 := by omega
            clear hz1
            go_wp2_with fail
            go_roundw
            case rel => exact ⟨k + 1, M, by omega, by go_num, rfl, HF, HB⟩
            case measure => simp [intOf]; omega
    · obtain rfl : k = n := by omega
      have HR : Hid (((m : Int), (0 : Int)) = (r, e)) := Lib.hid (by rw [← hr.out]; unfold hyP; rw [HM.out])
      go_wp2_with fail
      go_ret2
      exact ⟨Kit.ret_pair HR.out, HB.out⟩
end Go.Proofs.Ytgkahcchekiogaa.Rtd
