/- Package rate: Hyper. -/
import Derived.Test.YtgkahcchekiogaaRtb
namespace Go.Proofs.Ytgkahcchekiogaa.Rtc
open Go.RowKit Base Kit WideA Rta Rtb
set_option linter.unusedVariables false
set_option linter.unusedSimpArgs false
/-- the whole period, so far: none, past the most -/
def hyS (n : Nat) (p : Int) : Option Nat := if p ≤ 0 then some n else if 1000000 < Nat.lcm n p.toNat then none else some (Nat.lcm n p.toNat)
def hyR (f : Nat → Nat → Int) : Nat → Option Nat
  | 0 => some 1
  | k + 1 => match hyR f k with
    | none => none
    | some n => hyS n (f k 1)
def hyP (f : Nat → Nat → Int) (n : Nat) : Int × Int := match hyR f n with
  | none => (0, 6)
  | some m => ((m : Int), 0)
theorem hyR_bd {f : Nat → Nat → Int} : ∀ {k m : Nat}, hyR f k = some m → 1 ≤ m ∧ m ≤ 1000000
  | 0, m, h => by unfold hyR at h; cases h; omega
  | k + 1, m, h => by
    unfold hyR at h
    cases hk : hyR f k with
    | none => rw [hk] at h; cases h
    | some n =>
      rw [hk] at h
      have h1 := hyR_bd hk
      dsimp only at h
      unfold hyS at h
      split at h
      · cases h; exact h1
      · split at h
        · cases h
        · cases h
          rename_i hp hl
          have : 0 < Nat.lcm n (f k 1).toNat := Nat.lcm_pos (by omega) (by omega)
          omega
theorem hyR_none {f : Nat → Nat → Int} {k : Nat} (h : hyR f k = none) : ∀ d, hyR f (k + d) = none
  | 0 => h
  | d + 1 => by
    show hyR f ((k + d) + 1) = none
    unfold hyR
    rw [hyR_none h d]
theorem hyP_none {f : Nat → Nat → Int} {k n : Nat} (h : hyR f k = none) (hk : k ≤ n) : hyP f n = (0, 6) := by
  unfold hyP
  rw [show n = k + (n - k) by omega, hyR_none h]
theorem by_lcm {m y : Nat} (hm : 1 ≤ m) (hy : 1 ≤ y) : m * (y / Nat.gcd m y) = Nat.lcm m y ∧ (1000000 / m < y / Nat.gcd m y ↔ 1000000 < Nat.lcm m y) := by
  have h1 : m * (y / Nat.gcd m y) = Nat.lcm m y := by
    unfold Nat.lcm
    rw [Nat.mul_div_assoc _ (Nat.gcd_dvd_right m y)]
  refine ⟨h1, ?_⟩
  rw [Nat.div_lt_iff_lt_mul (by omega), ← h1, Nat.mul_comm]
set_option maxRecDepth 100000 in
set_option maxHeartbeats 2000000 in
theorem Hyper_any (a : Option Addr) (n c : Nat) (f : Nat → Nat → Int) (r e : Int) (w : World) (h : Hid (Open.RowsIn w a n 3 f)) (hr : Hid (hyP f n = (r, e))) :
    Calls Try.prog 45 #[.slice a n c] w fun e' w' => e' = .returned (.tuple #[.int .i64 r, .int .i64 e]) ∧ Below w.heap.size w w' := by
  have hn := h.out.1
  go_enter Try.func45, Try.ntmps45
  go_wp2_with fail
  go_loopw [4, 10] (fun s i wr => ∃ k m : Nat, k ≤ n ∧ i = .int .i64 k ∧ s = .int .i64 (m : Int) ∧ Hid (hyR f k = some m) ∧ Hid (Below w.heap.size w wr)) (fun _ i _ => n - (intOf i).toNat)
  case atStart => exact ⟨0, 1, Nat.zero_le _, rfl, rfl, Lib.hid rfl, Lib.hid (Below.refl _ _)⟩
  case round =>
    obtain ⟨k, m, hk, rfl, rfl, HM, HB⟩ := hrel
    obtain ⟨m0, m1⟩ := hyR_bd HM.out
    by_cases hl : k < n
    · obtain ⟨b, off, rfl, hlt, c0, c1, c2, i0, i1, i2⟩ := rows_at3 h k hl
      replace c0 := keep HB.out c0 hlt
      replace c1 := keep HB.out c1 hlt
      replace c2 := keep HB.out c2 hlt
      have HE := Lib.hid (show hyR f (k + 1) = hyS m (f k 1) from by show (match hyR f k with | none => none | some n => hyS n (f k 1)) = _; rw [HM.out])
      generalize f k 0 = y0 at *
      generalize f k 1 = y1 at *
      generalize f k 2 = y2 at *
      have X := Lib.hid (Box.new wr #[.int .i64 y0, .int .i64 y1, .int .i64 y2] 102)
      have HB1 := Lib.hid (HB.out.alloc HB.out.size (.cells #[.int .i64 y0, .int .i64 y1, .int .i64 y2] 102))
      have C := fun w => periodic_any y0 y1 y2 w
      by_cases hp : y1 ≤ 0
      · have HF : Hid (hyR f (k + 1) = some m) := Lib.hid (by rw [HE.out]; unfold hyS; rw [if_pos hp])
        rw [show decide (0 < y1) = false from decide_eq_false (by omega)] at C
        replace C := Lib.hid C
        go_wp2_with fail
        refine (C.out _).mono ?_
        rintro e1 w5 ⟨rfl, k5⟩
        have HB5 := below_hid HB1 k5
        clear k5
        go_wp2_with fail
        go_roundw
        case rel => exact ⟨k + 1, m, by omega, by go_num, rfl, HF, HB5⟩
        case measure => simp [intOf]; omega
      · rw [show decide (0 < y1) = true from decide_eq_true (by omega)] at C
        replace C := Lib.hid C
        obtain ⟨y, rfl⟩ : ∃ y : Nat, y1 = (y : Int) := ⟨y1.toNat, by omega⟩
        have hy : 1 ≤ y := by omega
        obtain ⟨q1, q2⟩ := by_lcm m0 hy
        have hyS1 : hyS m (y : Int) = if 1000000 < Nat.lcm m y then none else some (Nat.lcm m y) := by unfold hyS; rw [if_neg hp, Int.toNat_natCast]
        obtain ⟨i10, i11⟩ := i1
        have hg1 : 0 < Nat.gcd m y := Nat.gcd_pos_of_pos_left _ (by omega)
        have hyle : y ≤ 9223372036854775807 := by omega
        have D := Lib.hid (fun w => common_any m y ((Nat.gcd m y : Nat) : Int) w (by omega) hyle (Lib.hid rfl))
        have hqle : y / Nat.gcd m y ≤ y := Nat.div_le_self _ _
        have hdv : ((y : Int) / ((Nat.gcd m y : Nat) : Int)) = ((y / Nat.gcd m y : Nat) : Int) := (Int.natCast_ediv y (Nat.gcd m y)).symm
        generalize Nat.gcd m y = g at *
        generalize y / g = q at *
        have hg2 : (0 : Int) < (g : Int) := by omega
        have hy2 : (0 : Int) ≤ (y : Int) := by omega
        clear hp
        go_wp2_with fail
        refine (C.out _).mono ?_
        rintro e1 w5 ⟨rfl, k5⟩
        have HB5 := below_hid HB1 k5
        have X5 := Lib.hid (X.out.next k5)
        have xc := X5.out.cell
        clear k5
        replace q1 := Lib.hid q1
        replace q2 := Lib.hid q2
        replace hyS1 := Lib.hid hyS1
        go_wp2_with fail
        go_quiet ((go_at_call 110; exact Calls.quiet_of (D.out _)))
        have hd9 : (1000000 : Int) / (m : Int) = ((1000000 / m : Nat) : Int) := (Int.natCast_ediv 1000000 m).symm
        have hm9 : (0 : Int) < (m : Int) := by omega
        have hq0 : (0 : Int) ≤ (q : Int) := by omega
        have q1 := q1.out
        have q2 := q2.out
        have hmul : (m : Int) * (q : Int) = ((Nat.lcm m y : Nat) : Int) := by rw [← q1]; exact (Int.natCast_mul m q).symm
        have hz1 := hyS1.out
        clear q1
        generalize Nat.lcm m y = L at *
        generalize 1000000 / m = d at *
        by_cases hb : d < q
        · have HN : Hid ((0, 6) = (r, e)) := Lib.hid (by
            rw [← hr.out]
            exact (hyP_none (k := k + 1) (by rw [HE.out, hz1, if_pos (q2.1 hb)]) (by omega)).symm)
          replace hb : (d : Int) < (q : Int) := by omega
          clear q2 hz1
          go_wp2_with fail
          go_ret2
          exact ⟨Kit.ret_pair HN.out, below_drewN' HB5.out _⟩
        · have hL : ¬ 1000000 < L := fun h9 => hb (q2.2 h9)
          have HF : Hid (hyR f (k + 1) = some L) := Lib.hid (by rw [HE.out, hz1, if_neg hL])
          replace hb : (q : Int) ≤ (d : Int) := by omega
          have hL1 : (L : Int) ≤ 1000000 := by omega
          have hL0 : (0 : Int) ≤ (L : Int) := by omega
          clear q2 hz1
          go_wp2_with fail
          go_roundw
          case rel => exact ⟨k + 1, L, by omega, by go_num, rfl, HF, Lib.hid (below_drewN' HB5.out _)⟩
          case measure => simp [intOf]; omega
    · obtain rfl : k = n := by omega
      have HR : Hid (((m : Int), (0 : Int)) = (r, e)) := Lib.hid (by rw [← hr.out]; unfold hyP; rw [HM.out])
      go_wp2_with fail
      go_ret2
      exact ⟨Kit.ret_pair HR.out, HB.out⟩
end Go.Proofs.Ytgkahcchekiogaa.Rtc
