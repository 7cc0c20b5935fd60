/- Whether a platform may be: the program's check. -/
import Derived.Test.YtgkahcchekiogaaPowB
namespace Go.Proofs.Ytgkahcchekiogaa.PowC
open Go.RowKit Base Kit Conf PowA PowB
set_option linter.unusedVariables false
set_option linter.unusedSimpArgs false

/-- what stays: the configuration's block -/
structure Pst (w0 w : World) (p : PowC) : Prop where
  bel : Below w0.heap.size w0 w
  box : Box w w0.heap.size #[.slice p.la p.ln p.lc, .slice p.na p.nn p.nc, .int .i64 p.sw, .int .i64 p.id, .int .i64 p.ch, .int .i64 p.qu, .int .i64 p.sl, .int .i64 p.pp] 25
theorem pst_next {w0 w w1 : World} {p : PowC} (h : Hid (Pst w0 w p)) (k : Below w.heap.size w w1) : Hid (Pst w0 w1 p) := Lib.hid ⟨below_next h.out.bel k, h.out.box.next k⟩
theorem pst_in (w : World) (p : PowC) : Hid (Pst w (w.alloc (.cells #[.slice p.la p.ln p.lc, .slice p.na p.nn p.nc, .int .i64 p.sw, .int .i64 p.id, .int .i64 p.ch, .int .i64 p.qu, .int .i64 p.sl, .int .i64 p.pp] 25)) p) := Lib.hid ⟨(Below.refl _ _).alloc (Nat.le_refl _) _, Box.new _ _ _⟩
theorem frI_cases {P : Nat → Bool} {n : Nat} : (fb P n < n ∧ frI P n = (fb P n : Int)) ∨ (fb P n = n ∧ frI P n = -1) := by
  have := fb_le P n
  unfold frI
  by_cases h : fb P n < n
  · exact .inl ⟨h, if_pos h⟩
  · exact .inr ⟨by omega, if_neg h⟩
set_option maxRecDepth 100000 in
set_option maxHeartbeats 4000000 in
theorem power_any (p : PowC) (w : World) (ok : p.Ok w) (er k : Int) (hr : Hid (powR p = (er, k))) :
    Calls Try.prog 34 #[.agg #[.slice p.la p.ln p.lc, .slice p.na p.nn p.nc, .int .i64 p.sw, .int .i64 p.id, .int .i64 p.ch, .int .i64 p.qu, .int .i64 p.sl, .int .i64 p.pp]] w fun e w' => e = .returned (.tuple #[.int .i64 er, .int .i64 k]) ∧ Below w.heap.size w w' := by
  have S := pst_in w p
  have hm := ok.lev.out.1
  have hm2 := ok.nap.out.1
  have HL := ok.lev
  have HN := ok.nap
  have hr := hr.out
  unfold powR at hr
  clear ok
  by_cases h1 : p.ln < 1 ∨ 6 < p.ln
  · rw [if_pos h1] at hr
    obtain ⟨rfl, rfl⟩ : er = 27 ∧ k = 0 := by simp only [Prod.mk.injEq] at hr; exact ⟨hr.1.symm, hr.2.symm⟩
    have C1 := Lib.hid (fun w => in_any p.ln 1 6 false w (Lib.hid (inB_not.2 (by omega))))
    clear hr h1
    go_enter Try.func34, Try.ntmps34
    go_wp2_with fail
    generalize w.alloc (.cells #[.slice p.la p.ln p.lc, .slice p.na p.nn p.nc, .int .i64 p.sw, .int .i64 p.id, .int .i64 p.ch, .int .i64 p.qu, .int .i64 p.sl, .int .i64 p.pp] 25) = w1 at S ⊢
    refine (C1.out _).mono ?_
    rintro e1 w9 ⟨rfl, rfl⟩
    go_wp2_with fail
    go_ret2
    exact ⟨rfl, S.out.bel⟩
  · rw [if_neg h1] at hr
    have C1 := Lib.hid (fun w => in_any p.ln 1 6 true w (Lib.hid (inB_iff.2 (by omega))))
    have hln : p.ln ≤ 6 := by omega
    obtain ⟨z, hz⟩ : ∃ z, frI (lev p.lf) p.ln = z := ⟨_, rfl⟩
    have C2 := Lib.hid (fun w h => first_lev p.la p.ln p.lc p.lf z w h (by omega) (Lib.hid hz))
    rcases frI_cases (P := lev p.lf) (n := p.ln) with ⟨hf, hz2⟩ | ⟨hf, hz2⟩
    · rw [if_pos hf] at hr
      rw [hz] at hz2
      rw [← hz2] at hr
      have z0 : 0 ≤ z := by omega
      obtain ⟨rfl, rfl⟩ : er = 27 ∧ z = k := by simp only [Prod.mk.injEq] at hr; exact ⟨hr.1.symm, hr.2⟩
      clear hr hz hz2 hf h1
      go_enter Try.func34, Try.ntmps34
      go_wp2_with fail
      generalize w.alloc (.cells #[.slice p.la p.ln p.lc, .slice p.na p.nn p.nc, .int .i64 p.sw, .int .i64 p.id, .int .i64 p.ch, .int .i64 p.qu, .int .i64 p.sl, .int .i64 p.pp] 25) = w1 at S ⊢
      have bc := S.out.box.cell
      refine (C1.out _).mono ?_
      rintro e1 w9 ⟨rfl, rfl⟩
      go_wp2_with fail
      refine (C2.out _ (Lib.hid (rows_below HL.out S.out.bel (Nat.le_refl _)))).mono ?_
      rintro e1 w2 ⟨rfl, hb2⟩
      have S := pst_next S hb2
      clear hb2 bc
      go_wp2_with fail
      go_ret2
      exact ⟨rfl, S.out.bel⟩
    · rw [if_neg (by omega)] at hr
      rw [hz] at hz2
      subst hz2
      obtain ⟨r, hrr⟩ : ∃ r, rest p = r := ⟨_, rfl⟩
      rw [hrr] at hr
      unfold rest at hrr
      obtain ⟨r0, e0⟩ : ∃ r, allN p.nf p.nn = r := ⟨_, rfl⟩
      obtain ⟨r1, e1⟩ : ∃ r, inB p.sw 0 100000000 = r := ⟨_, rfl⟩
      obtain ⟨r2, e2⟩ : ∃ r, inB p.id 0 1000000 = r := ⟨_, rfl⟩
      obtain ⟨r3, e3⟩ : ∃ r, inB p.ch 0 1000000 = r := ⟨_, rfl⟩
      obtain ⟨r4, e4⟩ : ∃ r, inB p.qu 1 1000000000 = r := ⟨_, rfl⟩
      obtain ⟨r5, e5⟩ : ∃ r, inB p.sl 1 1000000 = r := ⟨_, rfl⟩
      obtain ⟨r6, e6⟩ : ∃ r, inB p.pp 0 100000 = r := ⟨_, rfl⟩
      rw [e0, e1, e2, e3, e4, e5, e6] at hrr
      have D0 := Lib.hid (fun w h => all_nap p.na p.nn p.nc p.nf r0 w h (Lib.hid e0))
      have D1 := Lib.hid (fun w => in_any _ _ _ _ w (Lib.hid e1))
      have D2 := Lib.hid (fun w => in_any _ _ _ _ w (Lib.hid e2))
      have D3 := Lib.hid (fun w => in_any _ _ _ _ w (Lib.hid e3))
      have D4 := Lib.hid (fun w => in_any _ _ _ _ w (Lib.hid e4))
      have D5 := Lib.hid (fun w => in_any _ _ _ _ w (Lib.hid e5))
      have D6 := Lib.hid (fun w => in_any _ _ _ _ w (Lib.hid e6))
      clear e0 e1 e2 e3 e4 e5 e6 hz h1 hf
      have HR := Lib.hid hr
      have HRR := Lib.hid hrr
      clear hr hrr
      go_enter Try.func34, Try.ntmps34
      go_wp2_with fail
      generalize w.alloc (.cells #[.slice p.la p.ln p.lc, .slice p.na p.nn p.nc, .int .i64 p.sw, .int .i64 p.id, .int .i64 p.ch, .int .i64 p.qu, .int .i64 p.sl, .int .i64 p.pp] 25) = w1 at S ⊢
      have bc := S.out.box.cell
      refine (C1.out _).mono ?_
      rintro e1 w9 ⟨rfl, rfl⟩
      go_wp2_with fail
      refine (C2.out _ (Lib.hid (rows_below HL.out S.out.bel (Nat.le_refl _)))).mono ?_
      rintro e1 w2 ⟨rfl, hb2⟩
      have S := pst_next S hb2
      clear hb2 bc
      have bc := S.out.box.cell
      go_wp2_with fail
      refine (D0.out _ (Lib.hid (rows_below HN.out S.out.bel (Nat.le_refl _)))).mono ?_
      rintro e1 w3 ⟨rfl, hb3⟩
      have S := pst_next S hb3
      clear hb3 bc
      have bc := S.out.box.cell
      cases r0
      ·
        obtain rfl : false = r := by have e := HRR.out; simpa using e
        obtain ⟨rfl, rfl⟩ : er = 27 ∧ (p.ln : Int) = k := by have hr := HR.out; simp only [Bool.false_eq_true, if_false, Prod.mk.injEq] at hr; exact ⟨hr.1.symm, hr.2⟩
        go_wp2_with fail
        go_ret2
        exact ⟨rfl, S.out.bel⟩
      ·
        go_wp2_with fail
        refine (D1.out _).mono ?_
        rintro e1 w9 ⟨rfl, rfl⟩
        cases r1
        ·
          obtain rfl : false = r := by have e := HRR.out; simpa using e
          obtain ⟨rfl, rfl⟩ : er = 27 ∧ (p.ln : Int) = k := by have hr := HR.out; simp only [Bool.false_eq_true, if_false, Prod.mk.injEq] at hr; exact ⟨hr.1.symm, hr.2⟩
          go_wp2_with fail
          go_ret2
          exact ⟨rfl, S.out.bel⟩
        ·
          go_wp2_with fail
          refine (D2.out _).mono ?_
          rintro e1 w9 ⟨rfl, rfl⟩
          cases r2
          ·
            obtain rfl : false = r := by have e := HRR.out; simpa using e
            obtain ⟨rfl, rfl⟩ : er = 27 ∧ (p.ln : Int) = k := by have hr := HR.out; simp only [Bool.false_eq_true, if_false, Prod.mk.injEq] at hr; exact ⟨hr.1.symm, hr.2⟩
            go_wp2_with fail
            go_ret2
            exact ⟨rfl, S.out.bel⟩
          ·
            go_wp2_with fail
            refine (D3.out _).mono ?_
            rintro e1 w9 ⟨rfl, rfl⟩
            cases r3
            ·
              obtain rfl : false = r := by have e := HRR.out; simpa using e
              obtain ⟨rfl, rfl⟩ : er = 27 ∧ (p.ln : Int) = k := by have hr := HR.out; simp only [Bool.false_eq_true, if_false, Prod.mk.injEq] at hr; exact ⟨hr.1.symm, hr.2⟩
              go_wp2_with fail
              go_ret2
              exact ⟨rfl, S.out.bel⟩
            ·
              go_wp2_with fail
              refine (D4.out _).mono ?_
              rintro e1 w9 ⟨rfl, rfl⟩
              cases r4
              ·
                obtain rfl : false = r := by have e := HRR.out; simpa using e
                obtain ⟨rfl, rfl⟩ : er = 27 ∧ (p.ln : Int) = k := by have hr := HR.out; simp only [Bool.false_eq_true, if_false, Prod.mk.injEq] at hr; exact ⟨hr.1.symm, hr.2⟩
                go_wp2_with fail
                go_ret2
                exact ⟨rfl, S.out.bel⟩
              ·
                go_wp2_with fail
                refine (D5.out _).mono ?_
                rintro e1 w9 ⟨rfl, rfl⟩
                cases r5
                ·
                  obtain rfl : false = r := by have e := HRR.out; simpa using e
                  obtain ⟨rfl, rfl⟩ : er = 27 ∧ (p.ln : Int) = k := by have hr := HR.out; simp only [Bool.false_eq_true, if_false, Prod.mk.injEq] at hr; exact ⟨hr.1.symm, hr.2⟩
                  go_wp2_with fail
                  go_ret2
                  exact ⟨rfl, S.out.bel⟩
                ·
                  go_wp2_with fail
                  refine (D6.out _).mono ?_
                  rintro e1 w9 ⟨rfl, rfl⟩
                  cases r6
                  ·
                    obtain rfl : false = r := by have e := HRR.out; simpa using e
                    obtain ⟨rfl, rfl⟩ : er = 27 ∧ (p.ln : Int) = k := by have hr := HR.out; simp only [Bool.false_eq_true, if_false, Prod.mk.injEq] at hr; exact ⟨hr.1.symm, hr.2⟩
                    go_wp2_with fail
                    go_ret2
                    exact ⟨rfl, S.out.bel⟩
                  · obtain rfl : true = r := HRR.out
                    obtain ⟨rfl, rfl⟩ : er = 0 ∧ k = 0 := by have hr := HR.out; simp only [if_true, Prod.mk.injEq] at hr; exact ⟨hr.1.symm, hr.2.symm⟩
                    go_wp2_with fail
                    go_ret2
                    exact ⟨rfl, S.out.bel⟩
end Go.Proofs.Ytgkahcchekiogaa.PowC
