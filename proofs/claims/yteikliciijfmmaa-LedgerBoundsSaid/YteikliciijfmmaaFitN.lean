/- The law of fit: Both. -/
import Derived.Test.YteikliciijfmmaaFitL
namespace Go.Proofs.Yteikliciijfmmaa.FitN
open Go.RowKit Base Kit WideA WideB Plain FitA FitB FitC Conf FitL
set_option linter.unusedVariables false
set_option linter.unusedSimpArgs false

theorem ceil_le (x f t : Int) (hf : 1 ≤ f) : (x + (f - 1)) / f ≤ t ↔ x ≤ t * f := by
  constructor
  · intro h
    have h1 : (x + (f - 1)) / f < t + 1 := by omega
    rw [Int.ediv_lt_iff_lt_mul (by omega)] at h1
    have : (t + 1) * f = t * f + f := by rw [Int.add_mul]; omega
    omega
  · intro h
    have h1 : (x + (f - 1)) / f < t + 1 := by
      rw [Int.ediv_lt_iff_lt_mul (by omega)]
      have : (t + 1) * f = t * f + f := by rw [Int.add_mul]; omega
      omega
    omega
theorem both_plain (fq sw cyc len : Int) (c0 : 0 ≤ cyc) (c1 : cyc ≤ 1099511627776) (l1 : len ≤ 1099511627776) (s0 : 0 ≤ sw) (s1 : sw ≤ len) (f0 : 1 ≤ fq) (f1 : fq ≤ 1048576) :
    (sp fq sw len).2 = 0 ∧ ft fq sw cyc len = decide (cyc ≤ (sp fq sw len).1) := by
  have hp : 0 ≤ (len - sw) * fq := Int.mul_nonneg (by omega) (by omega)
  have hp2 : (len - sw) * fq ≤ 1099511627776 * 1048576 := Int.mul_le_mul (by omega) f1 (by omega) (by omega)
  have hsp : sp fq sw len = ((len - sw) * fq / 1000, 0) := by
    unfold sp md mdQ
    rw [if_neg (by omega), if_neg (by omega), if_neg (by omega)]
    simp only [Bool.false_eq_true, if_false]
    rw [if_pos (by omega)]
  have hq : (cyc * 1000 + (fq - 1)) / fq ≤ cyc * 1000 := by rw [ceil_le _ _ _ f0]; have := Int.mul_le_mul_of_nonneg_left f0 (show 0 ≤ cyc * 1000 by omega); omega
  have hq0 : 0 ≤ (cyc * 1000 + (fq - 1)) / fq := Int.ediv_nonneg (by omega) (by omega)
  have hmd : md cyc 1000 fq true = ((cyc * 1000 + (fq - 1)) / fq, 0) := by
    unfold md mdQ
    rw [if_neg (by omega)]
    simp only [if_true]
    rw [if_pos (by omega)]
  have hnd : nd fq sw cyc = (sw + (cyc * 1000 + (fq - 1)) / fq, 0) := by
    unfold nd
    rw [if_neg (by omega), hmd]
    simp only [ne_eq, not_true_eq_false, if_false]
    rw [if_neg (by omega)]
  refine ⟨by rw [hsp], ?_⟩
  unfold ft
  rw [hnd, hsp]
  have h1 := ceil_le (cyc * 1000) fq (len - sw) f0
  simp only [decide_true, Bool.true_and, decide_eq_decide]
  constructor
  · intro h
    have := h1.1 (by omega)
    omega
  · intro h
    have := h1.2 (by omega)
    omega

set_option maxRecDepth 100000 in
set_option maxHeartbeats 2000000 in
theorem both_law (p : PowC) (cyc len : Int) (w : World) (hp : p.Ok w) (h1 : I64 cyc) (h2 : I64 len) :
    Calls Try.prog 4 #[.agg #[.slice p.la p.ln p.lc, .slice p.na p.nn p.nc, .int .i64 p.sw, .int .i64 p.id, .int .i64 p.ch, .int .i64 p.qu, .int .i64 p.sl, .int .i64 p.pp], .int .i64 cyc, .int .i64 len] w fun e w' => e = .returned (.bool true) ∧ Below w.heap.size w w' := by
  obtain ⟨la, ln, lc, lf, na, nn, nc, nf, sw, id, ch, qu, sl, pp⟩ := p
  obtain ⟨hl, hn, hsw, -, -, -, -, -⟩ := hp
  dsimp only at hl hn hsw ⊢
  have hm := hl.out.1
  by_cases hbad : 100 < ln ∨ cyc < 0 ∨ 1099511627776 < cyc ∨ len < 0 ∨ 1099511627776 < len ∨ sw < 0 ∨ len < sw
  · have ways : 100 < ln ∨ (ln ≤ 100 ∧ cyc < 0) ∨ (ln ≤ 100 ∧ 0 ≤ cyc ∧ 1099511627776 < cyc) ∨ (ln ≤ 100 ∧ 0 ≤ cyc ∧ cyc ≤ 1099511627776 ∧ len < 0) ∨ (ln ≤ 100 ∧ 0 ≤ cyc ∧ cyc ≤ 1099511627776 ∧ 0 ≤ len ∧ 1099511627776 < len) ∨ (ln ≤ 100 ∧ 0 ≤ cyc ∧ cyc ≤ 1099511627776 ∧ 0 ≤ len ∧ len ≤ 1099511627776 ∧ sw < 0) ∨ (ln ≤ 100 ∧ 0 ≤ cyc ∧ cyc ≤ 1099511627776 ∧ 0 ≤ len ∧ len ≤ 1099511627776 ∧ 0 ≤ sw ∧ len < sw) := by omega
    clear hbad
    rcases ways with k | ⟨k1, k⟩ | ⟨k1, k2, k⟩ | ⟨k1, k2, k3, k⟩ | ⟨k1, k2, k3, k4, k⟩ | ⟨k1, k2, k3, k4, k5, k⟩ | ⟨k1, k2, k3, k4, k5, k6, k⟩
    all_goals
      go_enter Try.func4, Try.ntmps4
      go_wp2_with fail
      refine (works_any _).mono ?_
      rintro e1 w2 ⟨rfl, hb2⟩
      go_wp2_with fail
      go_ret
      exact ⟨rfl, below_in _ hb2⟩
  have k1 : ln ≤ 100 := by omega
  have k2 : 0 ≤ cyc := by omega
  have k3 : cyc ≤ 1099511627776 := by omega
  have k4 : 0 ≤ len := by omega
  have k5 : len ≤ 1099511627776 := by omega
  have k6 : 0 ≤ sw := by omega
  have k7 : sw ≤ len := by omega
  clear hbad
  obtain ⟨fq, hfq⟩ : ∃ fq, top ln lf 0 = fq := ⟨_, rfl⟩
  obtain ⟨pw, hpw⟩ : ∃ pw, top ln lf 1 = pw := ⟨_, rfl⟩
  have C10 := fun w h => topr_any la ln lc lf (.slice na nn nc) (.int .i64 sw) (.int .i64 id) (.int .i64 ch) (.int .i64 qu) (.int .i64 sl) (.int .i64 pp) w h
  rw [hfq, hpw] at C10
  have C10 := Lib.hid C10
  have hfd := fun w => run_field fq pw w
  by_cases hf : fq < 1 ∨ 1048576 < fq
  · have ways : fq < 1 ∨ (1 ≤ fq ∧ 1048576 < fq) := by omega
    clear hf hfq hpw
    rcases ways with k | ⟨k8, k⟩
    all_goals
      go_enter Try.func4, Try.ntmps4
      go_wp2_with fail
      refine (C10.out _ (rows_alloc hl _)).mono ?_
      rintro e1 w3 ⟨rfl, hb3⟩
      have HB := Lib.hid (below_in _ hb3)
      clear hb3
      go_wp2_with fail
      refine (works_any _).mono ?_
      rintro e1 w2 ⟨rfl, hb2⟩
      go_wp2_with fail
      go_ret
      exact ⟨rfl, (below_hid HB hb2).out⟩
  have f0 : 1 ≤ fq := by omega
  have f1 : fq ≤ 1048576 := by omega
  clear hf
  obtain ⟨e0, hft⟩ := both_plain fq sw cyc len k2 k3 k5 k6 k7 f0 f1
  obtain ⟨s, hs⟩ : ∃ s, (sp fq sw len).1 = s := ⟨_, rfl⟩
  rw [hs] at hft
  have C3 := Lib.hid (fun w h => supply_any la ln lc lf (.slice na nn nc) sw (.int .i64 id) (.int .i64 ch) (.int .i64 qu) (.int .i64 sl) (.int .i64 pp) len s 0 w h hsw h2 (Lib.hid (by rw [hfq, ← hs, ← e0])))
  obtain ⟨ok, hok⟩ : ∃ ok, decide (cyc ≤ s) = ok := ⟨_, rfl⟩
  rw [hok] at hft
  have C7 := Lib.hid (fun w h => fits_any la ln lc lf (.slice na nn nc) sw (.int .i64 id) (.int .i64 ch) (.int .i64 qu) (.int .i64 sl) (.int .i64 pp) cyc len ok w h hsw h1 (Lib.hid (by rw [hfq]; exact hft)))
  clear hft hs hfq hpw e0
  cases ok
  · have kk : s < cyc := by simpa using hok
    clear hok
    go_enter Try.func4, Try.ntmps4
    go_wp2_with fail
    have S : Hid (St w _ _ _ _ _ _ _) := Lib.hid ⟨((Below.refl _ _).alloc (Nat.le_refl _) _), Box.new w #[.slice la ln lc, .slice na nn nc, .int .i64 sw, .int .i64 id, .int .i64 ch, .int .i64 qu, .int .i64 sl, .int .i64 pp] 25, rows_alloc hl _⟩
    have bc := S.out.box.cell
    generalize w.alloc (.cells #[.slice la ln lc, .slice na nn nc, .int .i64 sw, .int .i64 id, .int .i64 ch, .int .i64 qu, .int .i64 sl, .int .i64 pp] 25) = w1 at S bc ⊢
    refine (C10.out _ S.out.rows).mono ?_
    rintro e1 w2 ⟨rfl, hb2⟩
    have S := st_next S hb2
    clear hb2 bc
    rename_i w9
    have bc := S.out.box.cell
    go_wp2_with fail
    refine (C3.out _ S.out.rows).mono ?_
    rintro e1 w2 ⟨rfl, hb2⟩
    have S := st_next S hb2
    clear hb2 bc
    rename_i w9
    have bc := S.out.box.cell
    go_wp2_with fail
    refine (C7.out _ S.out.rows).mono ?_
    rintro e1 w2 ⟨rfl, hb2⟩
    have S := st_next S hb2
    clear hb2 bc
    rename_i w9
    have bc := S.out.box.cell
    go_wp2_with fail
    refine (works_any _).mono ?_
    rintro e1 w2 ⟨rfl, hb2⟩
    have S := st_next S hb2
    clear hb2 bc
    rename_i w9
    have bc := S.out.box.cell
    go_wp2_with fail
    go_ret
    refine ⟨?_, S.out.bel⟩
    first | rfl | exact ret_bool (by simp; omega)
  · have kk : cyc ≤ s := by simpa using hok
    clear hok
    go_enter Try.func4, Try.ntmps4
    go_wp2_with fail
    have S : Hid (St w _ _ _ _ _ _ _) := Lib.hid ⟨((Below.refl _ _).alloc (Nat.le_refl _) _), Box.new w #[.slice la ln lc, .slice na nn nc, .int .i64 sw, .int .i64 id, .int .i64 ch, .int .i64 qu, .int .i64 sl, .int .i64 pp] 25, rows_alloc hl _⟩
    have bc := S.out.box.cell
    generalize w.alloc (.cells #[.slice la ln lc, .slice na nn nc, .int .i64 sw, .int .i64 id, .int .i64 ch, .int .i64 qu, .int .i64 sl, .int .i64 pp] 25) = w1 at S bc ⊢
    refine (C10.out _ S.out.rows).mono ?_
    rintro e1 w2 ⟨rfl, hb2⟩
    have S := st_next S hb2
    clear hb2 bc
    rename_i w9
    have bc := S.out.box.cell
    go_wp2_with fail
    refine (C3.out _ S.out.rows).mono ?_
    rintro e1 w2 ⟨rfl, hb2⟩
    have S := st_next S hb2
    clear hb2 bc
    rename_i w9
    have bc := S.out.box.cell
    go_wp2_with fail
    refine (C7.out _ S.out.rows).mono ?_
    rintro e1 w2 ⟨rfl, hb2⟩
    have S := st_next S hb2
    clear hb2 bc
    rename_i w9
    have bc := S.out.box.cell
    go_wp2_with fail
    refine (works_any _).mono ?_
    rintro e1 w2 ⟨rfl, hb2⟩
    have S := st_next S hb2
    clear hb2 bc
    rename_i w9
    have bc := S.out.box.cell
    go_wp2_with fail
    go_ret
    refine ⟨?_, S.out.bel⟩
    first | rfl | exact ret_bool (by simp; omega)
end Go.Proofs.Yteikliciijfmmaa.FitN
