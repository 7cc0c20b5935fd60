import Derived.Deep.QuietTactic
import Derived.BigQuiet
import Derived.IntWalk
import Derived.Test.YtlafeijkpnpdeaaGreatMg12

/- Whether a platform may be: the document's answer. -/
namespace Go.Proofs.YtlafeijkpnpdeaaGreat.PowR
open Go.RowKit Base Kit Conf PowA PowB PowC
set_option linter.unusedVariables false
set_option linter.unusedSimpArgs false

theorem lev_out {f : Nat → Nat → Int} {k : Nat} (h : inB (f k 0) 1 10000 = false ∨ inB (f k 1) 0 1000000 = false) (hl : ∀ j, j < k → lev f j = true) : lev f k = false := by
  have b := ah_bd k hl
  cases e : lev f k
  · rfl
  · have l := lvB_bd e
    rcases h with h | h
    · have := inB_not.1 h; omega
    · have := inB_not.1 h; omega
theorem lev_zero {f : Nat → Nat → Int} (h0 : inB (f 0 0) 1 10000 = true) (h1 : inB (f 0 1) 0 1000000 = true) : lev f 0 = true := by
  unfold lev lvB
  have a := inB_iff.1 h0
  simp only [ah, if_true, h1, Bool.and_true]
  rw [inB_iff.2 (by omega)]; simp
theorem lev_succ {f : Nat → Nat → Int} {m : Nat} (h0 : inB (f (m + 1) 0) 1 10000 = true) (h1 : inB (f (m + 1) 1) 0 1000000 = true) :
    lev f (m + 1) = (decide (f m 0 < f (m + 1) 0) && decide (f m 1 * f (m + 1) 0 ≤ f (m + 1) 1 * f m 0)) := by
  unfold lev lvB
  have a := inB_iff.1 h0
  simp only [lev_ah, h1, Bool.and_true]
  have e : inB (f (m + 1) 0) (f m 0 + 1) 10000 = decide (f m 0 < f (m + 1) 0) := by
    unfold inB
    rw [show decide (f (m + 1) 0 ≤ 10000) = true from by simpa using a.2, Bool.and_true]
    congr 1
  rw [e]
theorem wr_in' {x y : Int} (hx : 0 ≤ x) (hx' : x ≤ 1000000) (hy : 0 ≤ y) (hy' : y ≤ 10000) : IntKind.i64.wrap (x * y) = x * y := by
  have h1 : 0 ≤ x * y := Int.mul_nonneg hx hy
  have h2 : x * y ≤ 1000000 * 10000 := Int.mul_le_mul hx' hy' hy (by omega)
  exact IntWalk.i64_in _ (by omega)

set_option maxRecDepth 100000 in
set_option maxHeartbeats 8000000 in
theorem powerr_any (p : PowC) (w : World) (ok : p.Ok w) (er kr : Int) (hr : Hid (powR p = (er, kr))) :
    Calls Tryz.prog 41 #[.agg #[.slice p.la p.ln p.lc, .slice p.na p.nn p.nc, .int .i64 p.sw, .int .i64 p.id, .int .i64 p.ch, .int .i64 p.qu, .int .i64 p.sl, .int .i64 p.pp]] w fun e w' => e = .returned (.tuple #[.int .i64 er, .int .i64 kr]) ∧ Below w.heap.size w w' := by
  have S := pst_in w p
  have hm := ok.lev.out.1
  have hm2 := ok.nap.out.1
  have HL := ok.lev
  have HN := ok.nap
  have hr := hr.out
  unfold powR at hr
  clear ok
  by_cases h1 : p.ln < 1 ∨ 6 < p.ln
  · rw [if_pos h1] at hr
    obtain ⟨rfl, rfl⟩ : er = 27 ∧ kr = 0 := by simp only [Prod.mk.injEq] at hr; exact ⟨hr.1.symm, hr.2.symm⟩
    have ways : (p.ln : Int) < 1 ∨ (1 ≤ (p.ln : Int) ∧ 6 < (p.ln : Int)) := by omega
    clear hr h1
    rcases ways with h2 | ⟨h2, h3⟩
    all_goals
      go_enter Tryz.func41, Tryz.ntmps41
      go_wp2_with fail
      generalize w.alloc (.cells #[.slice p.la p.ln p.lc, .slice p.na p.nn p.nc, .int .i64 p.sw, .int .i64 p.id, .int .i64 p.ch, .int .i64 p.qu, .int .i64 p.sl, .int .i64 p.pp] 28) = w1 at S ⊢
      go_ret2
      exact ⟨rfl, S.out.bel⟩
  · rw [if_neg h1] at hr
    have h2 : 1 ≤ (p.ln : Int) := by omega
    have h3 : (p.ln : Int) ≤ 6 := by omega
    have HR := Lib.hid hr
    clear hr h1
    go_enter Tryz.func41, Tryz.ntmps41
    go_wp2_with fail
    generalize w.alloc (.cells #[.slice p.la p.ln p.lc, .slice p.na p.nn p.nc, .int .i64 p.sw, .int .i64 p.id, .int .i64 p.ch, .int .i64 p.qu, .int .i64 p.sl, .int .i64 p.pp] 28) = w1 at S ⊢
    have bc := S.out.box.cell
    go_wp2_with fail
    clear bc
    go_loopw [5] (fun i wr => ∃ k : Nat, k ≤ p.ln ∧ i = .int .i64 k ∧ Hid (∀ j, j < k → lev p.lf j = true) ∧ Hid (Pst w wr p)) (fun i _ => p.ln - (intOf i).toNat)
    case atStart => exact ⟨0, by omega, rfl, Lib.hid (fun j hj => by omega), S⟩
    case round =>
      clear S
      obtain ⟨k, hk, rfl, HA, S⟩ := hrel
      have bc := S.out.box.cell
      by_cases hlt : k < p.ln
      · obtain ⟨b, off, ea, hbl, c0, c1, i0, i1⟩ := rows_at2 HL k hlt
        have c0 := keep S.out.bel c0 hbl
        have c1 := keep S.out.bel c1 hbl
        rw [ea] at bc
        have EA := Lib.hid ea
        clear ea
        obtain ⟨r0, e0⟩ : ∃ r, inB (p.lf k 0) 1 10000 = r := ⟨_, rfl⟩
        obtain ⟨r1, e1⟩ : ∃ r, inB (p.lf k 1) 0 1000000 = r := ⟨_, rfl⟩
        have E0 := Lib.hid e0
        have E1 := Lib.hid e1
        have D0 := Lib.hid (fun w => outr_any _ _ _ _ w (Lib.hid e0))
        have D1 := Lib.hid (fun w => outr_any _ _ _ _ w (Lib.hid e1))
        clear e0 e1
        obtain ⟨x0, ex0⟩ : ∃ z, p.lf k 0 = z := ⟨_, rfl⟩
        obtain ⟨x1, ex1⟩ : ∃ z, p.lf k 1 = z := ⟨_, rfl⟩
        rw [ex0] at c0 i0 D0
        rw [ex1] at c1 i1 D1
        have EX0 := Lib.hid ex0
        have EX1 := Lib.hid ex1
        clear ex0 ex1
        have S2 := pst_next S ((Below.refl wr.heap.size wr).alloc (Nat.le_refl _) (.cells #[.int .i64 x0, .int .i64 x1] 88))
        go_wp2_with fail
        refine (D0.out _).mono ?_
        rintro e1 w9 ⟨rfl, rfl⟩
        cases r0
        · go_wp2_with fail
          go_ret2
          have e := HR.out
          rw [fb_hit HA.out (lev_out (.inl E0.out) HA.out) p.ln hlt, if_pos hlt] at e
          simp only [Prod.mk.injEq] at e
          obtain ⟨rfl, rfl⟩ := e
          exact ⟨rfl, S2.out.bel⟩
        · go_wp2_with fail
          refine (D1.out _).mono ?_
          rintro e1 w9 ⟨rfl, rfl⟩
          cases r1
          · go_wp2_with fail
            go_ret2
            have e := HR.out
            rw [fb_hit HA.out (lev_out (.inr E1.out) HA.out) p.ln hlt, if_pos hlt] at e
            simp only [Prod.mk.injEq] at e
            obtain ⟨rfl, rfl⟩ := e
            exact ⟨rfl, S2.out.bel⟩
          · have G0 := inB_iff.1 E0.out
            have G1 := inB_iff.1 E1.out
            rw [EX0.out] at G0
            rw [EX1.out] at G1
            obtain ⟨g00, g01⟩ := G0
            obtain ⟨g10, g11⟩ := G1
            have X0 := Lib.hid (Box.new wr #[.int .i64 x0, .int .i64 x1] 88)
            have xc := X0.out.cell
            have bc2 := S2.out.box.cell
            rw [EA.out] at bc2
            by_cases hk0 : k = 0
            · subst hk0
              go_wp2_with fail
              go_quiet (fail)
              go_wp2_with fail
              go_roundw
              case rel => exact ⟨1, by omega, rfl, Lib.hid (fun j hj => by
                obtain rfl : j = 0 := by omega
                exact lev_zero E0.out E1.out), pst_next S2 ⟨rfl, rfl, rfl, Nat.le_refl _, fun _ _ => rfl⟩⟩
              case measure => simp [intOf]; omega
            · have hk1 : (1 : Int) ≤ (k : Int) := by omega
              have hkn : 0 < k := by omega
              have hk2 : (0 : Int) ≤ (k : Int) - 1 := by omega
              have hk3 : (k : Int) - 1 < (p.ln : Int) := by omega
              obtain ⟨b', off', ea', hbl', c2, c3, i2, i3⟩ := rows_at2 HL (k - 1) (by omega)
              rw [EA.out] at ea'
              simp only [Option.some.injEq, Addr.mk.injEq, and_true] at ea'
              obtain ⟨rfl, rfl⟩ := ea'
              obtain ⟨l0, l1, l2, l3⟩ := ah_bd k HA.out
              have lk : lev p.lf k = (decide (p.lf (k - 1) 0 < x0) && decide (p.lf (k - 1) 1 * x0 ≤ x1 * p.lf (k - 1) 0)) := by
                obtain ⟨m, rfl⟩ : ∃ m, k = m + 1 := ⟨k - 1, by omega⟩
                rw [lev_succ E0.out E1.out, EX0.out, EX1.out, Nat.add_sub_cancel]
              simp only [ah, if_neg hk0] at l0 l1 l2 l3
              have c2 := keep S2.out.bel c2 hbl'
              have c3 := keep S2.out.bel c3 hbl'
              generalize p.lf (k - 1) 0 = a0 at *
              generalize p.lf (k - 1) 1 = a1 at *
              have p1 := wr_in' (x := x1) (y := a0) g10 g11 l0 l1
              have p2 := wr_in' (x := a1) (y := x0) l2 l3 (by omega) g01
              obtain ⟨P, hP⟩ : ∃ P, x1 * a0 = P := ⟨_, rfl⟩
              obtain ⟨Q, hQ⟩ : ∃ Q, a1 * x0 = Q := ⟨_, rfl⟩
              rw [hP, hQ] at lk
              have LK := Lib.hid lk
              have P1 := Lib.hid (p1.trans hP); have P2 := Lib.hid (p2.trans hQ)
              clear lk p1 p2 i2 i3 hk0 hP hQ
              by_cases t1 : x0 ≤ a0
              · have hl : lev p.lf k = false := by rw [LK.out]; simp; omega
                have HLV := Lib.hid hl
                clear hl
                go_wp2_with fail
                have hw0 : IntKind.i64.wrap ((k : Int) - 1) = (k : Int) - 1 := IntWalk.i64_in _ (by omega)
                have hw1 : ((k : Int) - 1).toNat = k - 1 := by omega
                go_quiet (fail)
                clear hw0 hw1
                go_wp2_with fail
                go_ret2
                have e := HR.out
                rw [fb_hit HA.out HLV.out p.ln hlt, if_pos hlt] at e
                simp only [Prod.mk.injEq] at e
                obtain ⟨rfl, rfl⟩ := e
                exact ⟨rfl, below_drewN' S2.out.bel _⟩
              · have t1 : a0 < x0 := by omega
                by_cases t2 : P < Q
                · have hl : lev p.lf k = false := by rw [LK.out]; simp; omega
                  have HLV := Lib.hid hl
                  clear hl
                  go_wp2_with fail
                  have hw0 : IntKind.i64.wrap ((k : Int) - 1) = (k : Int) - 1 := IntWalk.i64_in _ (by omega)
                  have hw1 : ((k : Int) - 1).toNat = k - 1 := by omega
                  have hw2 := P1.out
                  have hw3 := P2.out
                  go_quiet (fail)
                  clear hw0 hw1 hw2 hw3
                  go_wp2_with fail
                  go_ret2
                  have e := HR.out
                  rw [fb_hit HA.out HLV.out p.ln hlt, if_pos hlt] at e
                  simp only [Prod.mk.injEq] at e
                  obtain ⟨rfl, rfl⟩ := e
                  exact ⟨rfl, below_drewN' S2.out.bel _⟩
                · have t2 : Q ≤ P := by omega
                  have hl : lev p.lf k = true := by rw [LK.out]; simp; omega
                  have HLV := Lib.hid hl
                  clear hl
                  go_wp2_with fail
                  have hw0 : IntKind.i64.wrap ((k : Int) - 1) = (k : Int) - 1 := IntWalk.i64_in _ (by omega)
                  have hw1 : ((k : Int) - 1).toNat = k - 1 := by omega
                  have hw2 := P1.out
                  have hw3 := P2.out
                  go_quiet (fail)
                  clear hw0 hw1 hw2 hw3
                  go_wp2_with fail
                  go_roundw
                  case rel => exact ⟨k + 1, by omega, by go_num, Lib.hid (fun j hj => by
                    by_cases e : j = k
                    · rw [e]; exact HLV.out
                    · exact HA.out j (by omega)), pst_next S2 ⟨rfl, rfl, rfl, Nat.le_refl _, fun _ _ => rfl⟩⟩
                  case measure => simp [intOf]; omega
      · obtain rfl : k = p.ln := by omega
        have e := HR.out
        rw [fb_all p.ln HA.out, if_neg (by omega)] at e
        have HR2 := Lib.hid e
        clear e HR hlt
        by_cases hn4 : 4 < p.nn
        · have hn4' : 4 < (p.nn : Int) := by omega
          have er2 : rest p = false := by unfold rest allN; rw [show decide (p.nn ≤ 4) = false from by simpa using hn4]; simp
          have e := HR2.out
          rw [er2] at e
          simp only [Bool.false_eq_true, if_false, Prod.mk.injEq] at e
          obtain ⟨rfl, rfl⟩ := e
          clear er2
          go_wp2_with fail
          go_ret2
          exact ⟨rfl, S.out.bel⟩
        · have hn4' : (p.nn : Int) ≤ 4 := by omega
          go_wp2_with fail
          clear bc
          go_loopw [7] (fun i wr => ∃ k : Nat, k ≤ p.nn ∧ i = .int .i64 k ∧ Hid (∀ j, j < k → nap p.nf j = true) ∧ Hid (Pst w wr p)) (fun i _ => p.nn - (intOf i).toNat)
          case atStart => exact ⟨0, by omega, rfl, Lib.hid (fun j hj => by omega), S⟩
          case round =>
            clear S
            obtain ⟨k, hk, rfl, HB, S⟩ := hrel
            have bc := S.out.box.cell
            by_cases hlt : k < p.nn
            · obtain ⟨b, off, ea, hbl, c0, c1, c2, i0, i1, i2⟩ := rows_at3 HN k hlt
              have c0 := keep S.out.bel c0 hbl
              have c1 := keep S.out.bel c1 hbl
              have c2 := keep S.out.bel c2 hbl
              rw [ea] at bc
              have EA := Lib.hid ea
              clear ea
              obtain ⟨r0, e0⟩ : ∃ r, inB (p.nf k 0) 0 1000000 = r := ⟨_, rfl⟩
              obtain ⟨r1, e1⟩ : ∃ r, inB (p.nf k 1) 0 100000000 = r := ⟨_, rfl⟩
              obtain ⟨r2, e2⟩ : ∃ r, inB (p.nf k 2) 0 100000000 = r := ⟨_, rfl⟩
              have lk : nap p.nf k = (r0 && r1 && r2) := by rw [← e0, ← e1, ← e2]; rfl
              have LK := Lib.hid lk
              have D0 := Lib.hid (fun w => outr_any _ _ _ _ w (Lib.hid e0))
              have D1 := Lib.hid (fun w => outr_any _ _ _ _ w (Lib.hid e1))
              have D2 := Lib.hid (fun w => outr_any _ _ _ _ w (Lib.hid e2))
              clear e0 e1 e2 lk
              generalize p.nf k 0 = y0 at *
              generalize p.nf k 1 = y1 at *
              generalize p.nf k 2 = y2 at *
              go_wp2_with fail
              refine (D0.out _).mono ?_
              rintro e1 w9 ⟨rfl, rfl⟩
              cases r0
              ·
                have er2 : rest p = false := by
                  have e : fb (nap p.nf) p.nn = k := fb_hit HB.out (by rw [LK.out]; rfl) p.nn hlt
                  unfold rest allN; rw [e, show decide (k = p.nn) = false from by simp; omega]; simp
                have e := HR2.out
                rw [er2] at e
                simp only [Bool.false_eq_true, if_false, Prod.mk.injEq] at e
                obtain ⟨rfl, rfl⟩ := e
                clear er2
                go_wp2_with fail
                go_ret2
                exact ⟨rfl, S.out.bel⟩
              · go_wp2_with fail
                refine (D1.out _).mono ?_
                rintro e1 w9 ⟨rfl, rfl⟩
                cases r1
                ·
                  have er2 : rest p = false := by
                    have e : fb (nap p.nf) p.nn = k := fb_hit HB.out (by rw [LK.out]; rfl) p.nn hlt
                    unfold rest allN; rw [e, show decide (k = p.nn) = false from by simp; omega]; simp
                  have e := HR2.out
                  rw [er2] at e
                  simp only [Bool.false_eq_true, if_false, Prod.mk.injEq] at e
                  obtain ⟨rfl, rfl⟩ := e
                  clear er2
                  go_wp2_with fail
                  go_ret2
                  exact ⟨rfl, S.out.bel⟩
                · go_wp2_with fail
                  refine (D2.out _).mono ?_
                  rintro e1 w9 ⟨rfl, rfl⟩
                  cases r2
                  ·
                    have er2 : rest p = false := by
                      have e : fb (nap p.nf) p.nn = k := fb_hit HB.out (by rw [LK.out]; rfl) p.nn hlt
                      unfold rest allN; rw [e, show decide (k = p.nn) = false from by simp; omega]; simp
                    have e := HR2.out
                    rw [er2] at e
                    simp only [Bool.false_eq_true, if_false, Prod.mk.injEq] at e
                    obtain ⟨rfl, rfl⟩ := e
                    clear er2
                    go_wp2_with fail
                    go_ret2
                    exact ⟨rfl, S.out.bel⟩
                  · go_wp2_with fail
                    go_roundw
                    case rel => exact ⟨k + 1, by omega, by go_num, Lib.hid (fun j hj => by
                      by_cases e : j = k
                      · rw [e]; exact LK.out
                      · exact HB.out j (by omega)), S⟩
                    case measure => simp [intOf]; omega
            · obtain rfl : k = p.nn := by omega
              have ea : allN p.nf p.nn = true := by unfold allN; rw [fb_all p.nn HB.out]; simp; omega
              obtain ⟨r, hrr⟩ : ∃ r, rest p = r := ⟨_, rfl⟩
              have e := HR2.out
              rw [hrr] at e
              unfold rest at hrr
              rw [ea, Bool.true_and] at hrr
              obtain ⟨r1, e1⟩ : ∃ r, inB p.sw 0 100000000 = r := ⟨_, rfl⟩
              obtain ⟨r2, e2⟩ : ∃ r, inB p.id 0 1000000 = r := ⟨_, rfl⟩
              obtain ⟨r3, e3⟩ : ∃ r, inB p.ch 0 1000000 = r := ⟨_, rfl⟩
              obtain ⟨r4, e4⟩ : ∃ r, inB p.qu 1 1000000000 = r := ⟨_, rfl⟩
              obtain ⟨r5, e5⟩ : ∃ r, inB p.sl 1 1000000 = r := ⟨_, rfl⟩
              obtain ⟨r6, e6⟩ : ∃ r, inB p.pp 0 100000 = r := ⟨_, rfl⟩
              rw [e1, e2, e3, e4, e5, e6] at hrr
              have D1 := Lib.hid (fun w => outr_any _ _ _ _ w (Lib.hid e1))
              have D2 := Lib.hid (fun w => outr_any _ _ _ _ w (Lib.hid e2))
              have D3 := Lib.hid (fun w => outr_any _ _ _ _ w (Lib.hid e3))
              have D4 := Lib.hid (fun w => outr_any _ _ _ _ w (Lib.hid e4))
              have D5 := Lib.hid (fun w => outr_any _ _ _ _ w (Lib.hid e5))
              have D6 := Lib.hid (fun w => outr_any _ _ _ _ w (Lib.hid e6))
              have HR3 := Lib.hid e
              have HRR := Lib.hid hrr
              clear e1 e2 e3 e4 e5 e6 hrr e ea hlt HB
              go_wp2_with fail
              refine (D1.out _).mono ?_
              rintro e1 w9 ⟨rfl, rfl⟩
              cases r1
              ·
                obtain rfl : false = r := by have e := HRR.out; simpa using e
                obtain ⟨rfl, rfl⟩ : er = 27 ∧ (p.ln : Int) = kr := by have hr := HR3.out; simp only [Bool.false_eq_true, if_false, Prod.mk.injEq] at hr; exact ⟨hr.1.symm, hr.2⟩
                go_wp2_with fail
                go_ret2
                exact ⟨rfl, S.out.bel⟩
              · go_wp2_with fail
                refine (D2.out _).mono ?_
                rintro e1 w9 ⟨rfl, rfl⟩
                cases r2
                ·
                  obtain rfl : false = r := by have e := HRR.out; simpa using e
                  obtain ⟨rfl, rfl⟩ : er = 27 ∧ (p.ln : Int) = kr := by have hr := HR3.out; simp only [Bool.false_eq_true, if_false, Prod.mk.injEq] at hr; exact ⟨hr.1.symm, hr.2⟩
                  go_wp2_with fail
                  go_ret2
                  exact ⟨rfl, S.out.bel⟩
                · go_wp2_with fail
                  refine (D3.out _).mono ?_
                  rintro e1 w9 ⟨rfl, rfl⟩
                  cases r3
                  ·
                    obtain rfl : false = r := by have e := HRR.out; simpa using e
                    obtain ⟨rfl, rfl⟩ : er = 27 ∧ (p.ln : Int) = kr := by have hr := HR3.out; simp only [Bool.false_eq_true, if_false, Prod.mk.injEq] at hr; exact ⟨hr.1.symm, hr.2⟩
                    go_wp2_with fail
                    go_ret2
                    exact ⟨rfl, S.out.bel⟩
                  · go_wp2_with fail
                    refine (D4.out _).mono ?_
                    rintro e1 w9 ⟨rfl, rfl⟩
                    cases r4
                    ·
                      obtain rfl : false = r := by have e := HRR.out; simpa using e
                      obtain ⟨rfl, rfl⟩ : er = 27 ∧ (p.ln : Int) = kr := by have hr := HR3.out; simp only [Bool.false_eq_true, if_false, Prod.mk.injEq] at hr; exact ⟨hr.1.symm, hr.2⟩
                      go_wp2_with fail
                      go_ret2
                      exact ⟨rfl, S.out.bel⟩
                    · go_wp2_with fail
                      refine (D5.out _).mono ?_
                      rintro e1 w9 ⟨rfl, rfl⟩
                      cases r5
                      ·
                        obtain rfl : false = r := by have e := HRR.out; simpa using e
                        obtain ⟨rfl, rfl⟩ : er = 27 ∧ (p.ln : Int) = kr := by have hr := HR3.out; simp only [Bool.false_eq_true, if_false, Prod.mk.injEq] at hr; exact ⟨hr.1.symm, hr.2⟩
                        go_wp2_with fail
                        go_ret2
                        exact ⟨rfl, S.out.bel⟩
                      · go_wp2_with fail
                        refine (D6.out _).mono ?_
                        rintro e1 w9 ⟨rfl, rfl⟩
                        cases r6
                        ·
                          obtain rfl : false = r := by have e := HRR.out; simpa using e
                          obtain ⟨rfl, rfl⟩ : er = 27 ∧ (p.ln : Int) = kr := by have hr := HR3.out; simp only [Bool.false_eq_true, if_false, Prod.mk.injEq] at hr; exact ⟨hr.1.symm, hr.2⟩
                          go_wp2_with fail
                          go_ret2
                          exact ⟨rfl, S.out.bel⟩
                        · obtain rfl : true = r := HRR.out
                          obtain ⟨rfl, rfl⟩ : er = 0 ∧ kr = 0 := by have hr := HR3.out; simp only [if_true, Prod.mk.injEq] at hr; exact ⟨hr.1.symm, hr.2.symm⟩
                          go_wp2_with fail
                          go_ret2
                          exact ⟨rfl, S.out.bel⟩
end Go.Proofs.YtlafeijkpnpdeaaGreat.PowR

/- valid.first over any closure: processes, ports, semaphores. -/
namespace Go.Proofs.YtlafeijkpnpdeaaGreat.Vfa
open Go.RowKit Base Kit Conf PowA
set_option linter.unusedVariables false
set_option linter.unusedSimpArgs false
/-- what stands ahead: nothing, of the first one -/
def ahI (x : Nat → Int) (k : Nat) : Int := match k with | 0 => 0 | k + 1 => x k
def ahB (x : Nat → Bool) (k : Nat) : Bool := match k with | 0 => false | k + 1 => x k
def allB (P : Nat → Bool) (n most : Nat) : Bool := decide (n ≤ most) && decide (fb P n = n)
set_option maxRecDepth 100000 in
set_option maxHeartbeats 2000000 in
theorem first_proc (a : Option Addr) (n c : Nat) (x0 : Nat → Int) (x1 : Nat → Int) (x2 : Nat → Int) (P : Nat → Bool) (h : FuncId) (caps : Array Value) (r : Int) (w : World) (hrow : Hid (∀ k, k < n → ∃ b off, a = some ⟨b, off, none⟩ ∧ b < w.heap.size ∧ w.cell? ⟨b, off + k * 3, none⟩ = some (.int .i64 (x0 k)) ∧ w.cell? ⟨b, off + k * 3 + 1, none⟩ = some (.int .i64 (x1 k)) ∧ w.cell? ⟨b, off + k * 3 + 2, none⟩ = some (.int .i64 (x2 k)))) (hn : n ≤ 1000) (hen : ∀ args w, (callFunc h args).run Tryz.prog w = .ok (.enter h args) w)
    (hcl : Hid (∀ k wr, k < n → Below w.heap.size w wr → (∀ j, j < k → P j = true) → Calls Tryz.prog h (#[.agg #[.int .i64 (x0 k), .int .i64 (x1 k), .int .i64 (x2 k)], .agg #[.int .i64 (ahI x0 k), .int .i64 (ahI x1 k), .int .i64 (ahI x2 k)]] ++ caps) wr fun e w' => e = .returned (.bool (P k)) ∧ Below wr.heap.size wr w')) (hr : Hid (frI P n = r)) :
    Calls Tryz.prog 106 #[.slice a n c, .func (.func h) #[] caps] w fun e w' => e = .returned (.int .i64 r) ∧ Below w.heap.size w w' := by
  go_enter Tryz.func106, Tryz.ntmps106
  go_wp2_with fail
  have B0 : Hid (Box (w.alloc (.cells #[.int .i64 0, .int .i64 0, .int .i64 0] 86)) w.heap.size #[.int .i64 (ahI x0 0), .int .i64 (ahI x1 0), .int .i64 (ahI x2 0)] 86) := Lib.hid (Box.new w _ _)
  have HB0 : Hid (Below w.heap.size w (w.alloc (.cells #[.int .i64 0, .int .i64 0, .int .i64 0] 86))) := Lib.hid ((Below.refl w.heap.size w).alloc (Nat.le_refl _) _)
  generalize w.alloc (.cells #[.int .i64 0, .int .i64 0, .int .i64 0] 86) = W at B0 HB0 ⊢
  go_loopw [10] (fun i wr => ∃ k : Nat, k ≤ n ∧ i = .int .i64 k ∧ Hid (∀ j, j < k → P j = true) ∧ Hid (Below w.heap.size w wr) ∧ Hid (Box wr w.heap.size #[.int .i64 (ahI x0 k), .int .i64 (ahI x1 k), .int .i64 (ahI x2 k)] 86)) (fun i _ => n - (intOf i).toNat)
  case atStart => exact ⟨0, by omega, rfl, Lib.hid (fun j hj => by omega), HB0, B0⟩
  case round =>
    clear B0 HB0
    obtain ⟨k, hk, rfl, HL, HB, B1⟩ := hrel
    by_cases hlt : k < n
    · obtain ⟨b, off, rfl, hbl, c0, c1, c2⟩ := hrow.out k hlt
      have c0 := keep HB.out c0 hbl
      have c1 := keep HB.out c1 hbl
      have c2 := keep HB.out c2 hbl
      obtain ⟨v, hv⟩ : ∃ v, P k = v := ⟨_, rfl⟩
      have HV := Lib.hid hv
      have C := hcl.out k _ hlt (HB.out.alloc HB.out.size (.cells #[.int .i64 (x0 k), .int .i64 (x1 k), .int .i64 (x2 k)] 86)) HL.out
      rw [hv] at C
      have C := Lib.hid C
      have bl := B1.out.lt
      have bc := (B1.out.alloc (.cells #[.int .i64 (x0 k), .int .i64 (x1 k), .int .i64 (x2 k)] 86)).cell
      have HS := Lib.hid (show (#[.int .i64 (ahI x0 (k + 1)), .int .i64 (ahI x1 (k + 1)), .int .i64 (ahI x2 (k + 1))] : Array Value) = #[.int .i64 (x0 k), .int .i64 (x1 k), .int .i64 (x2 k)] from rfl)
      clear hv
      generalize x0 k = y0 at *
      generalize ahI x0 k = z0 at *
      generalize x1 k = y1 at *
      generalize ahI x1 k = z1 at *
      generalize x2 k = y2 at *
      generalize ahI x2 k = z2 at *
      have X := Lib.hid (Box.new wr #[.int .i64 (y0), .int .i64 (y1), .int .i64 (y2)] 86)
      cases v
      · go_wp2_with fail
        refine C.out.mono ?_
        rintro e1 w5 ⟨rfl, k5⟩
        have HB5 := Lib.hid (HB.out.trans (((Below.refl w.heap.size wr).alloc (by omega) _).trans (k5.mono (by simp; omega))))
        clear k5 bc
        go_wp2_with fail
        go_ret
        refine ⟨Kit.ret_int ?_, HB5.out⟩
        have e := hr.out
        unfold frI at e
        rw [fb_hit HL.out HV.out n hlt, if_pos hlt] at e
        exact e
      · go_wp2_with fail
        refine C.out.mono ?_
        rintro e1 w5 ⟨rfl, k5⟩
        have HB5 := Lib.hid (HB.out.trans (((Below.refl w.heap.size wr).alloc (by omega) _).trans (k5.mono (by simp; omega))))
        have X5 := Lib.hid (X.out.next k5)
        have B5 := Lib.hid ((B1.out.alloc (.cells #[.int .i64 (y0), .int .i64 (y1), .int .i64 (y2)] 86)).next k5)
        have xc := X5.out.cell
        have bc5 := B5.out.cell
        have bf5 := B5.out.frozen
        clear k5 bc
        go_wp2_with fail
        go_roundw
        case rel => exact ⟨k + 1, by omega, by go_num, Lib.hid (fun j hj => by
          by_cases e : j = k
          · subst e; exact HV.out
          · exact HL.out j (by omega)), Lib.hid (((HB5.out.setCell (by simp) _).setCell (by simp) _).setCell (by simp) _), by rw [HS.out]; exact Lib.hid (((B5.out.set 0 _).set 1 _).set 2 _)⟩
        case measure => simp [intOf]; omega
    · obtain rfl : k = n := by omega
      go_wp2_with fail
      go_ret
      refine ⟨Kit.ret_int ?_, HB.out⟩
      have e := hr.out
      unfold frI at e
      rw [fb_all k HL.out, if_neg (by omega)] at e
      exact e
set_option maxRecDepth 100000 in
set_option maxHeartbeats 2000000 in
theorem first_port (a : Option Addr) (n c : Nat) (x0 : Nat → Bool) (x1 : Nat → Bool) (x2 : Nat → Int) (x3 : Nat → Int) (P : Nat → Bool) (h : FuncId) (caps : Array Value) (r : Int) (w : World) (hrow : Hid (∀ k, k < n → ∃ b off, a = some ⟨b, off, none⟩ ∧ b < w.heap.size ∧ w.cell? ⟨b, off + k * 4, none⟩ = some (.bool (x0 k)) ∧ w.cell? ⟨b, off + k * 4 + 1, none⟩ = some (.bool (x1 k)) ∧ w.cell? ⟨b, off + k * 4 + 2, none⟩ = some (.int .i64 (x2 k)) ∧ w.cell? ⟨b, off + k * 4 + 3, none⟩ = some (.int .i64 (x3 k)))) (hn : n ≤ 1000) (hen : ∀ args w, (callFunc h args).run Tryz.prog w = .ok (.enter h args) w)
    (hcl : Hid (∀ k wr, k < n → Below w.heap.size w wr → (∀ j, j < k → P j = true) → Calls Tryz.prog h (#[.agg #[.bool (x0 k), .bool (x1 k), .int .i64 (x2 k), .int .i64 (x3 k)], .agg #[.bool (ahB x0 k), .bool (ahB x1 k), .int .i64 (ahI x2 k), .int .i64 (ahI x3 k)]] ++ caps) wr fun e w' => e = .returned (.bool (P k)) ∧ Below wr.heap.size wr w')) (hr : Hid (frI P n = r)) :
    Calls Tryz.prog 108 #[.slice a n c, .func (.func h) #[] caps] w fun e w' => e = .returned (.int .i64 r) ∧ Below w.heap.size w w' := by
  go_enter Tryz.func108, Tryz.ntmps108
  go_wp2_with fail
  have B0 : Hid (Box (w.alloc (.cells #[.bool false, .bool false, .int .i64 0, .int .i64 0] 130)) w.heap.size #[.bool (ahB x0 0), .bool (ahB x1 0), .int .i64 (ahI x2 0), .int .i64 (ahI x3 0)] 130) := Lib.hid (Box.new w _ _)
  have HB0 : Hid (Below w.heap.size w (w.alloc (.cells #[.bool false, .bool false, .int .i64 0, .int .i64 0] 130))) := Lib.hid ((Below.refl w.heap.size w).alloc (Nat.le_refl _) _)
  generalize w.alloc (.cells #[.bool false, .bool false, .int .i64 0, .int .i64 0] 130) = W at B0 HB0 ⊢
  go_loopw [10] (fun i wr => ∃ k : Nat, k ≤ n ∧ i = .int .i64 k ∧ Hid (∀ j, j < k → P j = true) ∧ Hid (Below w.heap.size w wr) ∧ Hid (Box wr w.heap.size #[.bool (ahB x0 k), .bool (ahB x1 k), .int .i64 (ahI x2 k), .int .i64 (ahI x3 k)] 130)) (fun i _ => n - (intOf i).toNat)
  case atStart => exact ⟨0, by omega, rfl, Lib.hid (fun j hj => by omega), HB0, B0⟩
  case round =>
    clear B0 HB0
    obtain ⟨k, hk, rfl, HL, HB, B1⟩ := hrel
    by_cases hlt : k < n
    · obtain ⟨b, off, rfl, hbl, c0, c1, c2, c3⟩ := hrow.out k hlt
      have c0 := keep HB.out c0 hbl
      have c1 := keep HB.out c1 hbl
      have c2 := keep HB.out c2 hbl
      have c3 := keep HB.out c3 hbl
      obtain ⟨v, hv⟩ : ∃ v, P k = v := ⟨_, rfl⟩
      have HV := Lib.hid hv
      have C := hcl.out k _ hlt (HB.out.alloc HB.out.size (.cells #[.bool (x0 k), .bool (x1 k), .int .i64 (x2 k), .int .i64 (x3 k)] 130)) HL.out
      rw [hv] at C
      have C := Lib.hid C
      have bl := B1.out.lt
      have bc := (B1.out.alloc (.cells #[.bool (x0 k), .bool (x1 k), .int .i64 (x2 k), .int .i64 (x3 k)] 130)).cell
      have HS := Lib.hid (show (#[.bool (ahB x0 (k + 1)), .bool (ahB x1 (k + 1)), .int .i64 (ahI x2 (k + 1)), .int .i64 (ahI x3 (k + 1))] : Array Value) = #[.bool (x0 k), .bool (x1 k), .int .i64 (x2 k), .int .i64 (x3 k)] from rfl)
      clear hv
      generalize x0 k = y0 at *
      generalize ahB x0 k = z0 at *
      generalize x1 k = y1 at *
      generalize ahB x1 k = z1 at *
      generalize x2 k = y2 at *
      generalize ahI x2 k = z2 at *
      generalize x3 k = y3 at *
      generalize ahI x3 k = z3 at *
      have X := Lib.hid (Box.new wr #[.bool (y0), .bool (y1), .int .i64 (y2), .int .i64 (y3)] 130)
      cases v
      · go_wp2_with fail
        refine C.out.mono ?_
        rintro e1 w5 ⟨rfl, k5⟩
        have HB5 := Lib.hid (HB.out.trans (((Below.refl w.heap.size wr).alloc (by omega) _).trans (k5.mono (by simp; omega))))
        clear k5 bc
        go_wp2_with fail
        go_ret
        refine ⟨Kit.ret_int ?_, HB5.out⟩
        have e := hr.out
        unfold frI at e
        rw [fb_hit HL.out HV.out n hlt, if_pos hlt] at e
        exact e
      · go_wp2_with fail
        refine C.out.mono ?_
        rintro e1 w5 ⟨rfl, k5⟩
        have HB5 := Lib.hid (HB.out.trans (((Below.refl w.heap.size wr).alloc (by omega) _).trans (k5.mono (by simp; omega))))
        have X5 := Lib.hid (X.out.next k5)
        have B5 := Lib.hid ((B1.out.alloc (.cells #[.bool (y0), .bool (y1), .int .i64 (y2), .int .i64 (y3)] 130)).next k5)
        have xc := X5.out.cell
        have bc5 := B5.out.cell
        have bf5 := B5.out.frozen
        clear k5 bc
        go_wp2_with fail
        go_roundw
        case rel => exact ⟨k + 1, by omega, by go_num, Lib.hid (fun j hj => by
          by_cases e : j = k
          · subst e; exact HV.out
          · exact HL.out j (by omega)), Lib.hid ((((HB5.out.setCell (by simp) _).setCell (by simp) _).setCell (by simp) _).setCell (by simp) _), by rw [HS.out]; exact Lib.hid ((((B5.out.set 0 _).set 1 _).set 2 _).set 3 _)⟩
        case measure => simp [intOf]; omega
    · obtain rfl : k = n := by omega
      go_wp2_with fail
      go_ret
      refine ⟨Kit.ret_int ?_, HB.out⟩
      have e := hr.out
      unfold frI at e
      rw [fb_all k HL.out, if_neg (by omega)] at e
      exact e
set_option maxRecDepth 100000 in
set_option maxHeartbeats 2000000 in
theorem first_sem (a : Option Addr) (n c : Nat) (x0 : Nat → Int) (x1 : Nat → Int) (P : Nat → Bool) (h : FuncId) (caps : Array Value) (r : Int) (w : World) (hrow : Hid (∀ k, k < n → ∃ b off, a = some ⟨b, off, none⟩ ∧ b < w.heap.size ∧ w.cell? ⟨b, off + k * 2, none⟩ = some (.int .i64 (x0 k)) ∧ w.cell? ⟨b, off + k * 2 + 1, none⟩ = some (.int .i64 (x1 k)))) (hn : n ≤ 1000) (hen : ∀ args w, (callFunc h args).run Tryz.prog w = .ok (.enter h args) w)
    (hcl : Hid (∀ k wr, k < n → Below w.heap.size w wr → (∀ j, j < k → P j = true) → Calls Tryz.prog h (#[.agg #[.int .i64 (x0 k), .int .i64 (x1 k)], .agg #[.int .i64 (ahI x0 k), .int .i64 (ahI x1 k)]] ++ caps) wr fun e w' => e = .returned (.bool (P k)) ∧ Below wr.heap.size wr w')) (hr : Hid (frI P n = r)) :
    Calls Tryz.prog 131 #[.slice a n c, .func (.func h) #[] caps] w fun e w' => e = .returned (.int .i64 r) ∧ Below w.heap.size w w' := by
  go_enter Tryz.func131, Tryz.ntmps131
  go_wp2_with fail
  have B0 : Hid (Box (w.alloc (.cells #[.int .i64 0, .int .i64 0] 160)) w.heap.size #[.int .i64 (ahI x0 0), .int .i64 (ahI x1 0)] 160) := Lib.hid (Box.new w _ _)
  have HB0 : Hid (Below w.heap.size w (w.alloc (.cells #[.int .i64 0, .int .i64 0] 160))) := Lib.hid ((Below.refl w.heap.size w).alloc (Nat.le_refl _) _)
  generalize w.alloc (.cells #[.int .i64 0, .int .i64 0] 160) = W at B0 HB0 ⊢
  go_loopw [10] (fun i wr => ∃ k : Nat, k ≤ n ∧ i = .int .i64 k ∧ Hid (∀ j, j < k → P j = true) ∧ Hid (Below w.heap.size w wr) ∧ Hid (Box wr w.heap.size #[.int .i64 (ahI x0 k), .int .i64 (ahI x1 k)] 160)) (fun i _ => n - (intOf i).toNat)
  case atStart => exact ⟨0, by omega, rfl, Lib.hid (fun j hj => by omega), HB0, B0⟩
  case round =>
    clear B0 HB0
    obtain ⟨k, hk, rfl, HL, HB, B1⟩ := hrel
    by_cases hlt : k < n
    · obtain ⟨b, off, rfl, hbl, c0, c1⟩ := hrow.out k hlt
      have c0 := keep HB.out c0 hbl
      have c1 := keep HB.out c1 hbl
      obtain ⟨v, hv⟩ : ∃ v, P k = v := ⟨_, rfl⟩
      have HV := Lib.hid hv
      have C := hcl.out k _ hlt (HB.out.alloc HB.out.size (.cells #[.int .i64 (x0 k), .int .i64 (x1 k)] 160)) HL.out
      rw [hv] at C
      have C := Lib.hid C
      have bl := B1.out.lt
      have bc := (B1.out.alloc (.cells #[.int .i64 (x0 k), .int .i64 (x1 k)] 160)).cell
      have HS := Lib.hid (show (#[.int .i64 (ahI x0 (k + 1)), .int .i64 (ahI x1 (k + 1))] : Array Value) = #[.int .i64 (x0 k), .int .i64 (x1 k)] from rfl)
      clear hv
      generalize x0 k = y0 at *
      generalize ahI x0 k = z0 at *
      generalize x1 k = y1 at *
      generalize ahI x1 k = z1 at *
      have X := Lib.hid (Box.new wr #[.int .i64 (y0), .int .i64 (y1)] 160)
      cases v
      · go_wp2_with fail
        refine C.out.mono ?_
        rintro e1 w5 ⟨rfl, k5⟩
        have HB5 := Lib.hid (HB.out.trans (((Below.refl w.heap.size wr).alloc (by omega) _).trans (k5.mono (by simp; omega))))
        clear k5 bc
        go_wp2_with fail
        go_ret
        refine ⟨Kit.ret_int ?_, HB5.out⟩
        have e := hr.out
        unfold frI at e
        rw [fb_hit HL.out HV.out n hlt, if_pos hlt] at e
        exact e
      · go_wp2_with fail
        refine C.out.mono ?_
        rintro e1 w5 ⟨rfl, k5⟩
        have HB5 := Lib.hid (HB.out.trans (((Below.refl w.heap.size wr).alloc (by omega) _).trans (k5.mono (by simp; omega))))
        have X5 := Lib.hid (X.out.next k5)
        have B5 := Lib.hid ((B1.out.alloc (.cells #[.int .i64 (y0), .int .i64 (y1)] 160)).next k5)
        have xc := X5.out.cell
        have bc5 := B5.out.cell
        have bf5 := B5.out.frozen
        clear k5 bc
        go_wp2_with fail
        go_roundw
        case rel => exact ⟨k + 1, by omega, by go_num, Lib.hid (fun j hj => by
          by_cases e : j = k
          · subst e; exact HV.out
          · exact HL.out j (by omega)), Lib.hid ((HB5.out.setCell (by simp) _).setCell (by simp) _), by rw [HS.out]; exact Lib.hid ((B5.out.set 0 _).set 1 _)⟩
        case measure => simp [intOf]; omega
    · obtain rfl : k = n := by omega
      go_wp2_with fail
      go_ret
      refine ⟨Kit.ret_int ?_, HB.out⟩
      have e := hr.out
      unfold frI at e
      rw [fb_all k HL.out, if_neg (by omega)] at e
      exact e
end Go.Proofs.YtlafeijkpnpdeaaGreat.Vfa

/- valid.first over any closure: pools, numbers, regions, windows. -/
namespace Go.Proofs.YtlafeijkpnpdeaaGreat.Vfb
open Go.RowKit Base Kit Conf PowA Vfa
set_option linter.unusedVariables false
set_option linter.unusedSimpArgs false
set_option maxRecDepth 100000 in
set_option maxHeartbeats 2000000 in
theorem first_pool (a : Option Addr) (n c : Nat) (x0 : Nat → Int) (x1 : Nat → Int) (P : Nat → Bool) (h : FuncId) (caps : Array Value) (r : Int) (w : World) (hrow : Hid (∀ k, k < n → ∃ b off, a = some ⟨b, off, none⟩ ∧ b < w.heap.size ∧ w.cell? ⟨b, off + k * 2, none⟩ = some (.int .i64 (x0 k)) ∧ w.cell? ⟨b, off + k * 2 + 1, none⟩ = some (.int .i64 (x1 k)))) (hn : n ≤ 1000) (hen : ∀ args w, (callFunc h args).run Tryz.prog w = .ok (.enter h args) w)
    (hcl : Hid (∀ k wr, k < n → Below w.heap.size w wr → (∀ j, j < k → P j = true) → Calls Tryz.prog h (#[.agg #[.int .i64 (x0 k), .int .i64 (x1 k)], .agg #[.int .i64 (ahI x0 k), .int .i64 (ahI x1 k)]] ++ caps) wr fun e w' => e = .returned (.bool (P k)) ∧ Below wr.heap.size wr w')) (hr : Hid (frI P n = r)) :
    Calls Tryz.prog 133 #[.slice a n c, .func (.func h) #[] caps] w fun e w' => e = .returned (.int .i64 r) ∧ Below w.heap.size w w' := by
  go_enter Tryz.func133, Tryz.ntmps133
  go_wp2_with fail
  have B0 : Hid (Box (w.alloc (.cells #[.int .i64 0, .int .i64 0] 162)) w.heap.size #[.int .i64 (ahI x0 0), .int .i64 (ahI x1 0)] 162) := Lib.hid (Box.new w _ _)
  have HB0 : Hid (Below w.heap.size w (w.alloc (.cells #[.int .i64 0, .int .i64 0] 162))) := Lib.hid ((Below.refl w.heap.size w).alloc (Nat.le_refl _) _)
  generalize w.alloc (.cells #[.int .i64 0, .int .i64 0] 162) = W at B0 HB0 ⊢
  go_loopw [10] (fun i wr => ∃ k : Nat, k ≤ n ∧ i = .int .i64 k ∧ Hid (∀ j, j < k → P j = true) ∧ Hid (Below w.heap.size w wr) ∧ Hid (Box wr w.heap.size #[.int .i64 (ahI x0 k), .int .i64 (ahI x1 k)] 162)) (fun i _ => n - (intOf i).toNat)
  case atStart => exact ⟨0, by omega, rfl, Lib.hid (fun j hj => by omega), HB0, B0⟩
  case round =>
    clear B0 HB0
    obtain ⟨k, hk, rfl, HL, HB, B1⟩ := hrel
    by_cases hlt : k < n
    · obtain ⟨b, off, rfl, hbl, c0, c1⟩ := hrow.out k hlt
      have c0 := keep HB.out c0 hbl
      have c1 := keep HB.out c1 hbl
      obtain ⟨v, hv⟩ : ∃ v, P k = v := ⟨_, rfl⟩
      have HV := Lib.hid hv
      have C := hcl.out k _ hlt (HB.out.alloc HB.out.size (.cells #[.int .i64 (x0 k), .int .i64 (x1 k)] 162)) HL.out
      rw [hv] at C
      have C := Lib.hid C
      have bl := B1.out.lt
      have bc := (B1.out.alloc (.cells #[.int .i64 (x0 k), .int .i64 (x1 k)] 162)).cell
      have HS := Lib.hid (show (#[.int .i64 (ahI x0 (k + 1)), .int .i64 (ahI x1 (k + 1))] : Array Value) = #[.int .i64 (x0 k), .int .i64 (x1 k)] from rfl)
      clear hv
      generalize x0 k = y0 at *
      generalize ahI x0 k = z0 at *
      generalize x1 k = y1 at *
      generalize ahI x1 k = z1 at *
      have X := Lib.hid (Box.new wr #[.int .i64 (y0), .int .i64 (y1)] 162)
      cases v
      · go_wp2_with fail
        refine C.out.mono ?_
        rintro e1 w5 ⟨rfl, k5⟩
        have HB5 := Lib.hid (HB.out.trans (((Below.refl w.heap.size wr).alloc (by omega) _).trans (k5.mono (by simp; omega))))
        clear k5 bc
        go_wp2_with fail
        go_ret
        refine ⟨Kit.ret_int ?_, HB5.out⟩
        have e := hr.out
        unfold frI at e
        rw [fb_hit HL.out HV.out n hlt, if_pos hlt] at e
        exact e
      · go_wp2_with fail
        refine C.out.mono ?_
        rintro e1 w5 ⟨rfl, k5⟩
        have HB5 := Lib.hid (HB.out.trans (((Below.refl w.heap.size wr).alloc (by omega) _).trans (k5.mono (by simp; omega))))
        have X5 := Lib.hid (X.out.next k5)
        have B5 := Lib.hid ((B1.out.alloc (.cells #[.int .i64 (y0), .int .i64 (y1)] 162)).next k5)
        have xc := X5.out.cell
        have bc5 := B5.out.cell
        have bf5 := B5.out.frozen
        clear k5 bc
        go_wp2_with fail
        go_roundw
        case rel => exact ⟨k + 1, by omega, by go_num, Lib.hid (fun j hj => by
          by_cases e : j = k
          · subst e; exact HV.out
          · exact HL.out j (by omega)), Lib.hid ((HB5.out.setCell (by simp) _).setCell (by simp) _), by rw [HS.out]; exact Lib.hid ((B5.out.set 0 _).set 1 _)⟩
        case measure => simp [intOf]; omega
    · obtain rfl : k = n := by omega
      go_wp2_with fail
      go_ret
      refine ⟨Kit.ret_int ?_, HB.out⟩
      have e := hr.out
      unfold frI at e
      rw [fb_all k HL.out, if_neg (by omega)] at e
      exact e
set_option maxRecDepth 100000 in
set_option maxHeartbeats 2000000 in
theorem first_num (a : Option Addr) (n c : Nat) (x0 : Nat → Int) (P : Nat → Bool) (h : FuncId) (caps : Array Value) (r : Int) (w : World) (hrow : Hid (∀ k, k < n → ∃ b off, a = some ⟨b, off, none⟩ ∧ b < w.heap.size ∧ w.cell? ⟨b, off + k, none⟩ = some (.int .i64 (x0 k)))) (hn : n ≤ 1000) (hen : ∀ args w, (callFunc h args).run Tryz.prog w = .ok (.enter h args) w)
    (hcl : Hid (∀ k wr, k < n → Below w.heap.size w wr → (∀ j, j < k → P j = true) → Calls Tryz.prog h (#[.int .i64 (x0 k), .int .i64 (ahI x0 k)] ++ caps) wr fun e w' => e = .returned (.bool (P k)) ∧ Below wr.heap.size wr w')) (hr : Hid (frI P n = r)) :
    Calls Tryz.prog 115 #[.slice a n c, .func (.func h) #[] caps] w fun e w' => e = .returned (.int .i64 r) ∧ Below w.heap.size w w' := by
  go_enter Tryz.func115, Tryz.ntmps115
  go_wp2_with fail
  have HB0 := Lib.hid (Below.refl w.heap.size w)
  go_loopw [5, 10] (fun v i wr => ∃ k : Nat, k ≤ n ∧ i = .int .i64 k ∧ v = .int .i64 (ahI x0 k) ∧ Hid (∀ j, j < k → P j = true) ∧ Hid (Below w.heap.size w wr)) (fun _ i _ => n - (intOf i).toNat)
  case atStart => exact ⟨0, by omega, rfl, rfl, Lib.hid (fun j hj => by omega), HB0⟩
  case round =>
    clear HB0
    obtain ⟨k, hk, rfl, rfl, HL, HB⟩ := hrel
    by_cases hlt : k < n
    · obtain ⟨b, off, rfl, hbl, c0⟩ := hrow.out k hlt
      have c0 := keep HB.out c0 hbl
      obtain ⟨v, hv⟩ : ∃ v, P k = v := ⟨_, rfl⟩
      have HV := Lib.hid hv
      have C := hcl.out k _ hlt HB.out HL.out
      rw [hv] at C
      have C := Lib.hid C
      clear hv
      have HZ := Lib.hid (show ahI x0 (k + 1) = x0 k from rfl)
      generalize x0 k = y0 at *
      generalize ahI x0 k = z0 at *
      cases v
      · go_wp2_with fail
        refine C.out.mono ?_
        rintro e1 w5 ⟨rfl, k5⟩
        have HB5 := Lib.hid (HB.out.trans (k5.mono HB.out.size))
        clear k5
        go_wp2_with fail
        go_ret
        refine ⟨Kit.ret_int ?_, HB5.out⟩
        have e := hr.out
        unfold frI at e
        rw [fb_hit HL.out HV.out n hlt, if_pos hlt] at e
        exact e
      · go_wp2_with fail
        refine C.out.mono ?_
        rintro e1 w5 ⟨rfl, k5⟩
        have HB5 := Lib.hid (HB.out.trans (k5.mono HB.out.size))
        clear k5
        go_wp2_with fail
        go_roundw
        case rel => exact ⟨k + 1, by omega, by go_num, by rw [HZ.out], Lib.hid (fun j hj => by
          by_cases e : j = k
          · subst e; exact HV.out
          · exact HL.out j (by omega)), HB5⟩
        case measure => simp [intOf]; omega
    · obtain rfl : k = n := by omega
      go_wp2_with fail
      go_ret
      refine ⟨Kit.ret_int ?_, HB.out⟩
      have e := hr.out
      unfold frI at e
      rw [fb_all k HL.out, if_neg (by omega)] at e
      exact e
set_option maxRecDepth 100000 in
set_option maxHeartbeats 2000000 in
theorem first_reg (a : Option Addr) (n c : Nat) (x0 : Nat → Int) (x1 : Nat → Int) (x2 : Nat → Bool) (P : Nat → Bool) (h : FuncId) (caps : Array Value) (r : Int) (w : World) (hrow : Hid (∀ k, k < n → ∃ b off, a = some ⟨b, off, none⟩ ∧ b < w.heap.size ∧ w.cell? ⟨b, off + k * 3, none⟩ = some (.int .i64 (x0 k)) ∧ w.cell? ⟨b, off + k * 3 + 1, none⟩ = some (.int .i64 (x1 k)) ∧ w.cell? ⟨b, off + k * 3 + 2, none⟩ = some (.bool (x2 k)))) (hn : n ≤ 1000) (hen : ∀ args w, (callFunc h args).run Tryz.prog w = .ok (.enter h args) w)
    (hcl : Hid (∀ k wr, k < n → Below w.heap.size w wr → (∀ j, j < k → P j = true) → Calls Tryz.prog h (#[.agg #[.int .i64 (x0 k), .int .i64 (x1 k), .bool (x2 k)], .agg #[.int .i64 (ahI x0 k), .int .i64 (ahI x1 k), .bool (ahB x2 k)]] ++ caps) wr fun e w' => e = .returned (.bool (P k)) ∧ Below wr.heap.size wr w')) (hr : Hid (frI P n = r)) :
    Calls Tryz.prog 104 #[.slice a n c, .func (.func h) #[] caps] w fun e w' => e = .returned (.int .i64 r) ∧ Below w.heap.size w w' := by
  go_enter Tryz.func104, Tryz.ntmps104
  go_wp2_with fail
  have B0 : Hid (Box (w.alloc (.cells #[.int .i64 0, .int .i64 0, .bool false] 84)) w.heap.size #[.int .i64 (ahI x0 0), .int .i64 (ahI x1 0), .bool (ahB x2 0)] 84) := Lib.hid (Box.new w _ _)
  have HB0 : Hid (Below w.heap.size w (w.alloc (.cells #[.int .i64 0, .int .i64 0, .bool false] 84))) := Lib.hid ((Below.refl w.heap.size w).alloc (Nat.le_refl _) _)
  generalize w.alloc (.cells #[.int .i64 0, .int .i64 0, .bool false] 84) = W at B0 HB0 ⊢
  go_loopw [10] (fun i wr => ∃ k : Nat, k ≤ n ∧ i = .int .i64 k ∧ Hid (∀ j, j < k → P j = true) ∧ Hid (Below w.heap.size w wr) ∧ Hid (Box wr w.heap.size #[.int .i64 (ahI x0 k), .int .i64 (ahI x1 k), .bool (ahB x2 k)] 84)) (fun i _ => n - (intOf i).toNat)
  case atStart => exact ⟨0, by omega, rfl, Lib.hid (fun j hj => by omega), HB0, B0⟩
  case round =>
    clear B0 HB0
    obtain ⟨k, hk, rfl, HL, HB, B1⟩ := hrel
    by_cases hlt : k < n
    · obtain ⟨b, off, rfl, hbl, c0, c1, c2⟩ := hrow.out k hlt
      have c0 := keep HB.out c0 hbl
      have c1 := keep HB.out c1 hbl
      have c2 := keep HB.out c2 hbl
      obtain ⟨v, hv⟩ : ∃ v, P k = v := ⟨_, rfl⟩
      have HV := Lib.hid hv
      have C := hcl.out k _ hlt (HB.out.alloc HB.out.size (.cells #[.int .i64 (x0 k), .int .i64 (x1 k), .bool (x2 k)] 84)) HL.out
      rw [hv] at C
      have C := Lib.hid C
      have bl := B1.out.lt
      have bc := (B1.out.alloc (.cells #[.int .i64 (x0 k), .int .i64 (x1 k), .bool (x2 k)] 84)).cell
      have HS := Lib.hid (show (#[.int .i64 (ahI x0 (k + 1)), .int .i64 (ahI x1 (k + 1)), .bool (ahB x2 (k + 1))] : Array Value) = #[.int .i64 (x0 k), .int .i64 (x1 k), .bool (x2 k)] from rfl)
      clear hv
      generalize x0 k = y0 at *
      generalize ahI x0 k = z0 at *
      generalize x1 k = y1 at *
      generalize ahI x1 k = z1 at *
      generalize x2 k = y2 at *
      generalize ahB x2 k = z2 at *
      have X := Lib.hid (Box.new wr #[.int .i64 (y0), .int .i64 (y1), .bool (y2)] 84)
      cases v
      · go_wp2_with fail
        refine C.out.mono ?_
        rintro e1 w5 ⟨rfl, k5⟩
        have HB5 := Lib.hid (HB.out.trans (((Below.refl w.heap.size wr).alloc (by omega) _).trans (k5.mono (by simp; omega))))
        clear k5 bc
        go_wp2_with fail
        go_ret
        refine ⟨Kit.ret_int ?_, HB5.out⟩
        have e := hr.out
        unfold frI at e
        rw [fb_hit HL.out HV.out n hlt, if_pos hlt] at e
        exact e
      · go_wp2_with fail
        refine C.out.mono ?_
        rintro e1 w5 ⟨rfl, k5⟩
        have HB5 := Lib.hid (HB.out.trans (((Below.refl w.heap.size wr).alloc (by omega) _).trans (k5.mono (by simp; omega))))
        have X5 := Lib.hid (X.out.next k5)
        have B5 := Lib.hid ((B1.out.alloc (.cells #[.int .i64 (y0), .int .i64 (y1), .bool (y2)] 84)).next k5)
        have xc := X5.out.cell
        have bc5 := B5.out.cell
        have bf5 := B5.out.frozen
        clear k5 bc
        go_wp2_with fail
        go_roundw
        case rel => exact ⟨k + 1, by omega, by go_num, Lib.hid (fun j hj => by
          by_cases e : j = k
          · subst e; exact HV.out
          · exact HL.out j (by omega)), Lib.hid (((HB5.out.setCell (by simp) _).setCell (by simp) _).setCell (by simp) _), by rw [HS.out]; exact Lib.hid (((B5.out.set 0 _).set 1 _).set 2 _)⟩
        case measure => simp [intOf]; omega
    · obtain rfl : k = n := by omega
      go_wp2_with fail
      go_ret
      refine ⟨Kit.ret_int ?_, HB.out⟩
      have e := hr.out
      unfold frI at e
      rw [fb_all k HL.out, if_neg (by omega)] at e
      exact e
set_option maxRecDepth 100000 in
set_option maxHeartbeats 2000000 in
theorem first_win (a : Option Addr) (n c : Nat) (x0 : Nat → Int) (x1 : Nat → Int) (x2 : Nat → Int) (P : Nat → Bool) (h : FuncId) (caps : Array Value) (r : Int) (w : World) (hrow : Hid (∀ k, k < n → ∃ b off, a = some ⟨b, off, none⟩ ∧ b < w.heap.size ∧ w.cell? ⟨b, off + k * 3, none⟩ = some (.int .i64 (x0 k)) ∧ w.cell? ⟨b, off + k * 3 + 1, none⟩ = some (.int .i64 (x1 k)) ∧ w.cell? ⟨b, off + k * 3 + 2, none⟩ = some (.int .i64 (x2 k)))) (hn : n ≤ 1000) (hen : ∀ args w, (callFunc h args).run Tryz.prog w = .ok (.enter h args) w)
    (hcl : Hid (∀ k wr, k < n → Below w.heap.size w wr → (∀ j, j < k → P j = true) → Calls Tryz.prog h (#[.agg #[.int .i64 (x0 k), .int .i64 (x1 k), .int .i64 (x2 k)], .agg #[.int .i64 (ahI x0 k), .int .i64 (ahI x1 k), .int .i64 (ahI x2 k)]] ++ caps) wr fun e w' => e = .returned (.bool (P k)) ∧ Below wr.heap.size wr w')) (hr : Hid (frI P n = r)) :
    Calls Tryz.prog 121 #[.slice a n c, .func (.func h) #[] caps] w fun e w' => e = .returned (.int .i64 r) ∧ Below w.heap.size w w' := by
  go_enter Tryz.func121, Tryz.ntmps121
  go_wp2_with fail
  have B0 : Hid (Box (w.alloc (.cells #[.int .i64 0, .int .i64 0, .int .i64 0] 54)) w.heap.size #[.int .i64 (ahI x0 0), .int .i64 (ahI x1 0), .int .i64 (ahI x2 0)] 54) := Lib.hid (Box.new w _ _)
  have HB0 : Hid (Below w.heap.size w (w.alloc (.cells #[.int .i64 0, .int .i64 0, .int .i64 0] 54))) := Lib.hid ((Below.refl w.heap.size w).alloc (Nat.le_refl _) _)
  generalize w.alloc (.cells #[.int .i64 0, .int .i64 0, .int .i64 0] 54) = W at B0 HB0 ⊢
  go_loopw [10] (fun i wr => ∃ k : Nat, k ≤ n ∧ i = .int .i64 k ∧ Hid (∀ j, j < k → P j = true) ∧ Hid (Below w.heap.size w wr) ∧ Hid (Box wr w.heap.size #[.int .i64 (ahI x0 k), .int .i64 (ahI x1 k), .int .i64 (ahI x2 k)] 54)) (fun i _ => n - (intOf i).toNat)
  case atStart => exact ⟨0, by omega, rfl, Lib.hid (fun j hj => by omega), HB0, B0⟩
  case round =>
    clear B0 HB0
    obtain ⟨k, hk, rfl, HL, HB, B1⟩ := hrel
    by_cases hlt : k < n
    · obtain ⟨b, off, rfl, hbl, c0, c1, c2⟩ := hrow.out k hlt
      have c0 := keep HB.out c0 hbl
      have c1 := keep HB.out c1 hbl
      have c2 := keep HB.out c2 hbl
      obtain ⟨v, hv⟩ : ∃ v, P k = v := ⟨_, rfl⟩
      have HV := Lib.hid hv
      have C := hcl.out k _ hlt (HB.out.alloc HB.out.size (.cells #[.int .i64 (x0 k), .int .i64 (x1 k), .int .i64 (x2 k)] 54)) HL.out
      rw [hv] at C
      have C := Lib.hid C
      have bl := B1.out.lt
      have bc := (B1.out.alloc (.cells #[.int .i64 (x0 k), .int .i64 (x1 k), .int .i64 (x2 k)] 54)).cell
      have HS := Lib.hid (show (#[.int .i64 (ahI x0 (k + 1)), .int .i64 (ahI x1 (k + 1)), .int .i64 (ahI x2 (k + 1))] : Array Value) = #[.int .i64 (x0 k), .int .i64 (x1 k), .int .i64 (x2 k)] from rfl)
      clear hv
      generalize x0 k = y0 at *
      generalize ahI x0 k = z0 at *
      generalize x1 k = y1 at *
      generalize ahI x1 k = z1 at *
      generalize x2 k = y2 at *
      generalize ahI x2 k = z2 at *
      have X := Lib.hid (Box.new wr #[.int .i64 (y0), .int .i64 (y1), .int .i64 (y2)] 54)
      cases v
      · go_wp2_with fail
        refine C.out.mono ?_
        rintro e1 w5 ⟨rfl, k5⟩
        have HB5 := Lib.hid (HB.out.trans (((Below.refl w.heap.size wr).alloc (by omega) _).trans (k5.mono (by simp; omega))))
        clear k5 bc
        go_wp2_with fail
        go_ret
        refine ⟨Kit.ret_int ?_, HB5.out⟩
        have e := hr.out
        unfold frI at e
        rw [fb_hit HL.out HV.out n hlt, if_pos hlt] at e
        exact e
      · go_wp2_with fail
        refine C.out.mono ?_
        rintro e1 w5 ⟨rfl, k5⟩
        have HB5 := Lib.hid (HB.out.trans (((Below.refl w.heap.size wr).alloc (by omega) _).trans (k5.mono (by simp; omega))))
        have X5 := Lib.hid (X.out.next k5)
        have B5 := Lib.hid ((B1.out.alloc (.cells #[.int .i64 (y0), .int .i64 (y1), .int .i64 (y2)] 54)).next k5)
        have xc := X5.out.cell
        have bc5 := B5.out.cell
        have bf5 := B5.out.frozen
        clear k5 bc
        go_wp2_with fail
        go_roundw
        case rel => exact ⟨k + 1, by omega, by go_num, Lib.hid (fun j hj => by
          by_cases e : j = k
          · subst e; exact HV.out
          · exact HL.out j (by omega)), Lib.hid (((HB5.out.setCell (by simp) _).setCell (by simp) _).setCell (by simp) _), by rw [HS.out]; exact Lib.hid (((B5.out.set 0 _).set 1 _).set 2 _)⟩
        case measure => simp [intOf]; omega
    · obtain rfl : k = n := by omega
      go_wp2_with fail
      go_ret
      refine ⟨Kit.ret_int ?_, HB.out⟩
      have e := hr.out
      unfold frI at e
      rw [fb_all k HL.out, if_neg (by omega)] at e
      exact e
end Go.Proofs.YtlafeijkpnpdeaaGreat.Vfb
