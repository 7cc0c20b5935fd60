/- Package rate: Total. -/
import Derived.Test.YtgkahcchekiogaaRtd
import Derived.Test.YtgkahcchekiogaaFitB
namespace Go.Proofs.Ytgkahcchekiogaa.Rte
open Go.RowKit Base Kit WideA WideB Plain Rta Rtb Rtc Rtd
set_option linter.unusedVariables false
set_option linter.unusedSimpArgs false
def tmS (h p : Int) : Int := if p ≤ 0 then h else h / p
def mxS (t c : Int) : Int := if (md t c 1 false).2 = 0 then (md t c 1 false).1 else 9223372036854775807
def toR (f : Nat → Nat → Int) (h : Int) : Nat → Int
  | 0 => 0
  | k + 1 => satI (toR f h k) (mxS (tmS h (f k 1)) (max 0 (f k 2)))
def toP (f : Nat → Nat → Int) (n : Nat) : Int × Int := if (hyP f n).2 = 0 then (toR f (hyP f n).1 n, 0) else (0, (hyP f n).2)
theorem mxS_bd (t c : Int) : 0 ≤ mxS t c ∧ mxS t c ≤ 9223372036854775807 := by
  have := FitB.md_bd t c 1 false (fun _ _ _ => trivial)
  unfold mxS; split <;> omega
theorem toR_bd {f : Nat → Nat → Int} {h : Int} : ∀ {n : Nat}, 0 ≤ toR f h n ∧ toR f h n ≤ 9223372036854775807
  | 0 => by unfold toR; omega
  | n + 1 => by
    have h1 := toR_bd (f := f) (h := h) (n := n)
    have h2 := mxS_bd (tmS h (f n 1)) (max 0 (f n 2))
    unfold toR
    exact satI_bd h1.1 h1.2 h2.1 h2.2
set_option maxRecDepth 100000 in
set_option maxHeartbeats 4000000 in
theorem Total_any (a : Option Addr) (n c : Nat) (f : Nat → Nat → Int) (r e : Int) (w : World) (h : Hid (Open.RowsIn w a n 3 f)) (hr : Hid (toP f n = (r, e))) :
    Calls Try.prog 50 #[.slice a n c] w fun e' w' => e' = .returned (.tuple #[.int .i64 r, .int .i64 e]) ∧ Below w.heap.size w w' := by
  have hn := h.out.1
  have hr := hr.out
  obtain ⟨⟨H, E⟩, hh⟩ : ∃ z, hyP f n = z := ⟨_, rfl⟩
  have C0 := Lib.hid (fun w' h => Hyper_any a n c f H E w' h (Lib.hid hh))
  unfold toP at hr
  rw [hh] at hr
  dsimp only at hr
  have hH : E = 0 → 1 ≤ H ∧ H ≤ 1000000 := by
    intro h9
    unfold hyP at hh
    cases hk : hyR f n with
    | none => rw [hk] at hh; simp only [Prod.mk.injEq] at hh; omega
    | some m => rw [hk] at hh; simp only [Prod.mk.injEq] at hh; have := hyR_bd hk; omega
  clear hh
  by_cases hE : E = 0
  rotate_left
  · rw [if_neg hE] at hr
    simp only [Prod.mk.injEq] at hr
    obtain ⟨rfl, rfl⟩ := hr
    replace hE : (E != 0) = true := by rw [bne_iff_ne]; exact hE
    clear hH
    go_enter Try.func50, Try.ntmps50
    go_wp2_with fail
    refine (C0.out _ h).mono ?_
    rintro e1 w5 ⟨rfl, k5⟩
    have HB := Lib.hid k5
    clear k5
    go_wp2_with fail
    go_ret2
    exact ⟨rfl, HB.out⟩
  rw [if_pos hE] at hr
  simp only [Prod.mk.injEq] at hr
  obtain ⟨hr9, rfl⟩ := hr
  obtain ⟨H0, H1⟩ := hH hE
  subst hE
  clear hH
  have HR := Lib.hid hr9
  clear hr9
  go_enter Try.func50, Try.ntmps50
  go_wp2_with fail
  refine (C0.out _ h).mono ?_
  rintro e1 w5 ⟨rfl, k5⟩
  have HB := Lib.hid k5
  clear k5
  go_wp2_with fail
  go_loopw [6, 22] (fun s i wr => ∃ k : Nat, k ≤ n ∧ i = .int .i64 k ∧ s = .int .i64 (toR f H k) ∧ Hid (Below w.heap.size w wr)) (fun _ i _ => n - (intOf i).toNat)
  case atStart => exact ⟨0, Nat.zero_le _, rfl, rfl, HB⟩
  case round =>
    clear HB
    obtain ⟨k, hk, rfl, rfl, HB⟩ := hrel
    by_cases hl : k < n
    · obtain ⟨b, off, rfl, hlt, c0, c1, c2, i0, i1, i2⟩ := rows_at3 h k hl
      replace c0 := keep HB.out c0 hlt
      replace c1 := keep HB.out c1 hlt
      replace c2 := keep HB.out c2 hlt
      obtain ⟨s0, s1⟩ := toR_bd (f := f) (h := H) (n := k)
      have HE := Lib.hid (show toR f H (k + 1) = satI (toR f H k) (mxS (tmS H (f k 1)) (max 0 (f k 2))) from rfl)
      generalize toR f H k = s at *
      generalize f k 0 = y0 at *
      generalize f k 1 = y1 at *
      generalize f k 2 = y2 at *
      obtain ⟨i10, i11⟩ := i1
      obtain ⟨i20, i21⟩ := i2
      have X := Lib.hid (Box.new wr #[.int .i64 y0, .int .i64 y1, .int .i64 y2] 102)
      have HB1 := Lib.hid (HB.out.alloc HB.out.size (.cells #[.int .i64 y0, .int .i64 y1, .int .i64 y2] 102))
      have C := fun w => periodic_any y0 y1 y2 w
      obtain ⟨t, ht⟩ : ∃ t, tmS H y1 = t := ⟨_, rfl⟩
      have ht1 : 0 ≤ t ∧ t ≤ 1000000 := by
        rw [← ht]; unfold tmS
        split
        · omega
        · exact ⟨Int.ediv_nonneg (by omega) (by omega), Int.le_trans (Int.ediv_le_self _ (by omega)) H1⟩
      obtain ⟨t0, t1⟩ := ht1
      rw [ht] at HE
      obtain ⟨x, hx⟩ : ∃ x, max 0 y2 = x := ⟨_, rfl⟩
      rw [hx] at HE
      have hx0 : 0 ≤ x ∧ x ≤ 9223372036854775807 := by omega
      obtain ⟨x0, x1⟩ := hx0
      have M := fun w => mul_any t x w (by omega) (by omega) (by omega) x1
      have hmb := FitB.md_bd t x 1 false (fun _ _ _ => trivial)
      have hms : mxS t x = if (md t x 1 false).2 = 0 then (md t x 1 false).1 else 9223372036854775807 := rfl
      rw [hms] at HE
      clear hms
      generalize (md t x 1 false).1 = u at *
      generalize (md t x 1 false).2 = v at *
      obtain ⟨u0, u1, v0, v1⟩ := hmb
      replace M := Lib.hid M
      have wv : (v = 0 ∧ (v != 0) = false) ∨ (v ≠ 0 ∧ (v != 0) = true) := by
        by_cases h9 : v = 0
        · exact .inl ⟨h9, by rw [bne_eq_false_iff_eq]; exact h9⟩
        · exact .inr ⟨h9, by rw [bne_iff_ne]; exact h9⟩
      have wx : (y2 ≤ 0 ∧ x = 0) ∨ (0 < y2 ∧ x = y2) := by omega
      by_cases hp : y1 ≤ 0
      · have ht : t = H := by rw [← ht]; unfold tmS; rw [if_pos hp]
        rw [show decide (0 < y1) = false from decide_eq_false (by omega)] at C
        replace C := Lib.hid C
        subst ht
        rcases wx with ⟨x2, rfl⟩ | ⟨x2, rfl⟩
        · rcases wv with ⟨v2, v3⟩ | ⟨v2, v3⟩
          · have HF : Hid (toR f t (k + 1) = satI s u) := Lib.hid (by rw [HE.out, if_pos v2])
            have D := Lib.hid (fun w => sat_any s u w (by omega) (by omega) (by omega) (by omega))
            clear v2
            try clear hx
            go_wp2_with fail
            refine (C.out _).mono ?_
            rintro e1 w6 ⟨rfl, k6⟩
            have HB6 := below_hid HB1 k6
            have X6 := Lib.hid (X.out.next k6)
            have xc := X6.out.cell
            clear k6
            go_wp2_with fail
            refine (M.out _).mono ?_
            rintro e1 w7 ⟨rfl, k7⟩
            have HB7 := below_hid HB6 k7
            clear k7 xc
            go_wp2_with fail
            refine (D.out _).mono ?_
            rintro e1 w8 ⟨rfl, e8⟩
            cases e8
            go_wp2_with fail
            go_roundw
            case rel => exact ⟨k + 1, by omega, by go_num, by rw [HF.out], HB7⟩
            case measure => simp [intOf]; omega
          · have HF : Hid (toR f t (k + 1) = satI s 9223372036854775807) := Lib.hid (by rw [HE.out, if_neg v2])
            have D := Lib.hid (fun w => sat_any s 9223372036854775807 w (by omega) (by omega) (by omega) (by omega))
            clear v2
            try clear hx
            go_wp2_with fail
            refine (C.out _).mono ?_
            rintro e1 w6 ⟨rfl, k6⟩
            have HB6 := below_hid HB1 k6
            have X6 := Lib.hid (X.out.next k6)
            have xc := X6.out.cell
            clear k6
            go_wp2_with fail
            refine (M.out _).mono ?_
            rintro e1 w7 ⟨rfl, k7⟩
            have HB7 := below_hid HB6 k7
            clear k7 xc
            go_wp2_with fail
            refine (D.out _).mono ?_
            rintro e1 w8 ⟨rfl, e8⟩
            cases e8
            go_wp2_with fail
            go_roundw
            case rel => exact ⟨k + 1, by omega, by go_num, by rw [HF.out], HB7⟩
            case measure => simp [intOf]; omega
        · rcases wv with ⟨v2, v3⟩ | ⟨v2, v3⟩
          · have HF : Hid (toR f t (k + 1) = satI s u) := Lib.hid (by rw [HE.out, if_pos v2])
            have D := Lib.hid (fun w => sat_any s u w (by omega) (by omega) (by omega) (by omega))
            clear v2
            try clear hx
            go_wp2_with fail
            refine (C.out _).mono ?_
            rintro e1 w6 ⟨rfl, k6⟩
            have HB6 := below_hid HB1 k6
            have X6 := Lib.hid (X.out.next k6)
            have xc := X6.out.cell
            clear k6
            go_wp2_with fail
            refine (M.out _).mono ?_
            rintro e1 w7 ⟨rfl, k7⟩
            have HB7 := below_hid HB6 k7
            clear k7 xc
            go_wp2_with fail
            refine (D.out _).mono ?_
            rintro e1 w8 ⟨rfl, e8⟩
            cases e8
            go_wp2_with fail
            go_roundw
            case rel => exact ⟨k + 1, by omega, by go_num, by rw [HF.out], HB7⟩
            case measure => simp [intOf]; omega
          · have HF : Hid (toR f t (k + 1) = satI s 9223372036854775807) := Lib.hid (by rw [HE.out, if_neg v2])
            have D := Lib.hid (fun w => sat_any s 9223372036854775807 w (by omega) (by omega) (by omega) (by omega))
            clear v2
            try clear hx
            go_wp2_with fail
            refine (C.out _).mono ?_
            rintro e1 w6 ⟨rfl, k6⟩
            have HB6 := below_hid HB1 k6
            have X6 := Lib.hid (X.out.next k6)
            have xc := X6.out.cell
            clear k6
            go_wp2_with fail
            refine (M.out _).mono ?_
            rintro e1 w7 ⟨rfl, k7⟩
            have HB7 := below_hid HB6 k7
            clear k7 xc
            go_wp2_with fail
            refine (D.out _).mono ?_
            rintro e1 w8 ⟨rfl, e8⟩
            cases e8
            go_wp2_with fail
            go_roundw
            case rel => exact ⟨k + 1, by omega, by go_num, by rw [HF.out], HB7⟩
            case measure => simp [intOf]; omega
      · have hq : H / y1 = t := by rw [← ht]; unfold tmS; rw [if_neg hp]
        rw [show decide (0 < y1) = true from decide_eq_true (by omega)] at C
        replace C := Lib.hid C
        replace hp : 0 < y1 := by omega
        have hH0 : 0 ≤ H := by omega
        clear ht
        rcases wx with ⟨x2, rfl⟩ | ⟨x2, rfl⟩
        · rcases wv with ⟨v2, v3⟩ | ⟨v2, v3⟩
          · have HF : Hid (toR f H (k + 1) = satI s u) := Lib.hid (by rw [HE.out, if_pos v2])
            have D := Lib.hid (fun w => sat_any s u w (by omega) (by omega) (by omega) (by omega))
            clear v2
            try clear hx
            go_wp2_with fail
            refine (C.out _).mono ?_
            rintro e1 w6 ⟨rfl, k6⟩
            have HB6 := below_hid HB1 k6
            have X6 := Lib.hid (X.out.next k6)
            have xc := X6.out.cell
            clear k6
            go_wp2_with fail
            refine (M.out _).mono ?_
            rintro e1 w7 ⟨rfl, k7⟩
            have HB7 := below_hid HB6 k7
            clear k7 xc
            go_wp2_with fail
            refine (D.out _).mono ?_
            rintro e1 w8 ⟨rfl, e8⟩
            cases e8
            go_wp2_with fail
            go_roundw
            case rel => exact ⟨k + 1, by omega, by go_num, by rw [HF.out], HB7⟩
            case measure => simp [intOf]; omega
          · have HF : Hid (toR f H (k + 1) = satI s 9223372036854775807) := Lib.hid (by rw [HE.out, if_neg v2])
            have D := Lib.hid (fun w => sat_any s 9223372036854775807 w (by omega) (by omega) (by omega) (by omega))
            clear v2
            try clear hx
            go_wp2_with fail
            refine (C.out _).mono ?_
            rintro e1 w6 ⟨rfl, k6⟩
            have HB6 := below_hid HB1 k6
            have X6 := Lib.hid (X.out.next k6)
            have xc := X6.out.cell
            clear k6
            go_wp2_with fail
            refine (M.out _).mono ?_
            rintro e1 w7 ⟨rfl, k7⟩
            have HB7 := below_hid HB6 k7
            clear k7 xc
            go_wp2_with fail
            refine (D.out _).mono ?_
            rintro e1 w8 ⟨rfl, e8⟩
            cases e8
            go_wp2_with fail
            go_roundw
            case rel => exact ⟨k + 1, by omega, by go_num, by rw [HF.out], HB7⟩
            case measure => simp [intOf]; omega
        · rcases wv with ⟨v2, v3⟩ | ⟨v2, v3⟩
          · have HF : Hid (toR f H (k + 1) = satI s u) := Lib.hid (by rw [HE.out, if_pos v2])
            have D := Lib.hid (fun w => sat_any s u w (by omega) (by omega) (by omega) (by omega))
            clear v2
            try clear hx
            go_wp2_with fail
            refine (C.out _).mono ?_
            rintro e1 w6 ⟨rfl, k6⟩
            have HB6 := below_hid HB1 k6
            have X6 := Lib.hid (X.out.next k6)
            have xc := X6.out.cell
            clear k6
            go_wp2_with fail
            refine (M.out _).mono ?_
            rintro e1 w7 ⟨rfl, k7⟩
            have HB7 := below_hid HB6 k7
            clear k7 xc
            go_wp2_with fail
            refine (D.out _).mono ?_
            rintro e1 w8 ⟨rfl, e8⟩
            cases e8
            go_wp2_with fail
            go_roundw
            case rel => exact ⟨k + 1, by omega, by go_num, by rw [HF.out], HB7⟩
            case measure => simp [intOf]; omega
          · have HF : Hid (toR f H (k + 1) = satI s 9223372036854775807) := Lib.hid (by rw [HE.out, if_neg v2])
            have D := Lib.hid (fun w => sat_any s 9223372036854775807 w (by omega) (by omega) (by omega) (by omega))
            clear v2
            try clear hx
            go_wp2_with fail
            refine (C.out _).mono ?_
            rintro e1 w6 ⟨rfl, k6⟩
            have HB6 := below_hid HB1 k6
            have X6 := Lib.hid (X.out.next k6)
            have xc := X6.out.cell
            clear k6
            go_wp2_with fail
            refine (M.out _).mono ?_
            rintro e1 w7 ⟨rfl, k7⟩
            have HB7 := below_hid HB6 k7
            clear k7 xc
            go_wp2_with fail
            refine (D.out _).mono ?_
            rintro e1 w8 ⟨rfl, e8⟩
            cases e8
            go_wp2_with fail
            go_roundw
            case rel => exact ⟨k + 1, by omega, by go_num, by rw [HF.out], HB7⟩
            case measure => simp [intOf]; omega
    · obtain rfl : k = n := by omega
      go_wp2_with fail
      go_ret2
      exact ⟨Kit.ret_pair (by rw [HR.out]), HB.out⟩
end Go.Proofs.Ytgkahcchekiogaa.Rte
