/- The law RateSums. -/
import Derived.Test.YtgkahcchekiogaaRl2
import Derived.Test.YtgkahcchekiogaaRts
namespace Go.Proofs.Ytgkahcchekiogaa.Rl3
open Go.RowKit Base Kit WideA WideB Plain Conf2 Rta Rtb Rtc Rtd Rte Rtp Rts Rtw Rl2
set_option linter.unusedVariables false
set_option linter.unusedSimpArgs false
structure Qb (w0 w : World) (q : PartC) : Prop where
  bel : Below w0.heap.size w0 w
  box : Box w w0.heap.size #[.slice q.ra q.rn q.rc, .slice q.pa q.pn q.pc, .slice q.oa q.on q.oc, .slice q.sa q.sn q.sc, .int .i64 q.fl, .slice q.qa q.qn q.qc, .slice q.ta q.tn q.tc, .int .i64 q.cap, .int .i64 q.bud, .int .i64 q.lad, .slice q.ca q.cn q.cc] 72
theorem qb_next {w0 w w1 : World} {q : PartC} (h : Hid (Qb w0 w q)) (k : Below w.heap.size w w1) : Hid (Qb w0 w1 q) := Lib.hid ⟨below_next h.out.bel k, h.out.box.next k⟩
theorem SS_bd {f : Nat → Nat → Int} {n : Nat} (h : ∀ k, k < n → I64 (f k 2)) : ∀ j, 0 ≤ SS f n j ∧ SS f n j ≤ 9223372036854775807
  | 0 => by unfold SS; omega
  | j + 1 => by
    have h1 := SS_bd h j
    have h2 := wtR_bd (f := f) (win := (j : Int)) (n := n) h
    unfold SS
    exact satI_bd h1.1 h1.2 h2.1 h2.2
set_option maxRecDepth 100000 in
set_option maxHeartbeats 8000000 in
theorem sums_law (q : PartC) (w : World) (ok : q.Ok w) : Calls Try.prog 11 #[.agg #[.slice q.ra q.rn q.rc, .slice q.pa q.pn q.pc, .slice q.oa q.on q.oc, .slice q.sa q.sn q.sc, .int .i64 q.fl, .slice q.qa q.qn q.qc, .slice q.ta q.tn q.tc, .int .i64 q.cap, .int .i64 q.bud, .int .i64 q.lad, .slice q.ca q.cn q.cc]] w fun e w' => e = .returned (.bool true) ∧ Below w.heap.size w w' := by
  have hn := ok.proc.out.1
  have OK := Lib.hid (fun w' (h : Below w.heap.size w w') => ok.below h (Nat.le_refl _))
  have CW := Lib.hid (fun w' => works_any w')
  have S : Hid (Qb w (w.alloc (.cells #[.slice q.ra q.rn q.rc, .slice q.pa q.pn q.pc, .slice q.oa q.on q.oc, .slice q.sa q.sn q.sc, .int .i64 q.fl, .slice q.qa q.qn q.qc, .slice q.ta q.tn q.tc, .int .i64 q.cap, .int .i64 q.bud, .int .i64 q.lad, .slice q.ca q.cn q.cc] 72)) q) := Lib.hid ⟨(Below.refl _ _).alloc (Nat.le_refl _) _, Box.new _ _ _⟩
  have bc := S.out.box.cell
  have IP : Hid (∀ k, k < q.pn → I64 (q.pf k 2)) := Lib.hid (fun k hk => ok.proc.out.2.2 k hk 2 (by omega))
  by_cases h20 : 20 < q.pn
  · replace h20 : (20 : Int) < (q.pn : Int) := by omega
    go_enter Try.func11, Try.ntmps11
    go_wp2_with fail
    generalize w.alloc (.cells #[.slice q.ra q.rn q.rc, .slice q.pa q.pn q.pc, .slice q.oa q.on q.oc, .slice q.sa q.sn q.sc, .int .i64 q.fl, .slice q.qa q.qn q.qc, .slice q.ta q.tn q.tc, .int .i64 q.cap, .int .i64 q.bud, .int .i64 q.lad, .slice q.ca q.cn q.cc] 72) = W at *
    refine (CW.out _).mono ?_
    rintro e1 w5 ⟨rfl, k5⟩
    have S := qb_next S k5
    clear k5 bc
    have bc := S.out.box.cell
    go_wp2_with fail
    go_ret
    exact ⟨rfl, S.out.bel⟩
  replace h20 : (q.pn : Int) ≤ 20 := by omega
  cases hm : hyR q.pf q.pn with
  | none =>
    have hh : hyP q.pf q.pn = (0, 6) := by unfold hyP; rw [hm]
    have C1 := Lib.hid (fun w' (h : q.Ok w') => Hyperr_any q.pa q.pn q.pc q.pf 0 6 w' h.proc (Lib.hid hh))
    have C2 := Lib.hid (fun w' (h : q.Ok w') => Peak_any q.pa q.pn q.pc q.pf 0 6 w' h.proc (Lib.hid (by unfold pkP; rw [hh]; rfl)))
    have C3 := Lib.hid (fun w' (h : q.Ok w') => Total_any q.pa q.pn q.pc q.pf 0 6 w' h.proc (Lib.hid (by unfold toP; rw [hh]; rfl)))
    have C4 := Lib.hid (fun w' (h : q.Ok w') => RFits_any q false w' h (Lib.hid (by unfold ftP; rw [hh]; rfl)))
    clear hh hm
    go_enter Try.func11, Try.ntmps11
    go_wp2_with fail
    generalize w.alloc (.cells #[.slice q.ra q.rn q.rc, .slice q.pa q.pn q.pc, .slice q.oa q.on q.oc, .slice q.sa q.sn q.sc, .int .i64 q.fl, .slice q.qa q.qn q.qc, .slice q.ta q.tn q.tc, .int .i64 q.cap, .int .i64 q.bud, .int .i64 q.lad, .slice q.ca q.cn q.cc] 72) = W at *
    refine (C1.out _ (OK.out _ S.out.bel)).mono ?_
    rintro e1 w5 ⟨rfl, k5⟩
    have S := qb_next S k5
    clear k5 bc
    have bc := S.out.box.cell
    go_wp2_with fail
    refine (C2.out _ (OK.out _ S.out.bel)).mono ?_
    rintro e1 w5 ⟨rfl, k5⟩
    have S := qb_next S k5
    clear k5 bc
    have bc := S.out.box.cell
    go_wp2_with fail
    refine (C3.out _ (OK.out _ S.out.bel)).mono ?_
    rintro e1 w5 ⟨rfl, k5⟩
    have S := qb_next S k5
    clear k5 bc
    have bc := S.out.box.cell
    go_wp2_with fail
    refine (C4.out _ (OK.out _ S.out.bel)).mono ?_
    rintro e1 w5 ⟨rfl, k5⟩
    have S := qb_next S k5
    clear k5 bc
    have bc := S.out.box.cell
    go_wp2_with fail
    refine (CW.out _).mono ?_
    rintro e1 w5 ⟨rfl, k5⟩
    have S := qb_next S k5
    clear k5 bc
    have bc := S.out.box.cell
    go_wp2_with fail
    go_ret
    exact ⟨rfl, S.out.bel⟩
  | some m =>
    have hh : hyP q.pf q.pn = ((m : Int), 0) := by unfold hyP; rw [hm]
    obtain ⟨m0, m1⟩ := hyR_bd hm
    obtain ⟨y, hy⟩ : ∃ y, wtR q.pf 0 q.pn = y := ⟨_, rfl⟩
    have hyb := wtR_bd (f := q.pf) (win := 0) (n := q.pn) IP.out
    obtain ⟨t, ht⟩ : ∃ t, toR q.pf (m : Int) q.pn = t := ⟨_, rfl⟩
    obtain ⟨g, hg⟩ : ∃ g, decide (y ≤ q.cap) = g := ⟨_, rfl⟩
    have C1 := Lib.hid (fun w' (h : q.Ok w') => Hyperr_any q.pa q.pn q.pc q.pf (m : Int) 0 w' h.proc (Lib.hid hh))
    have C2 := Lib.hid (fun w' (h : q.Ok w') => Peak_any q.pa q.pn q.pc q.pf y 0 w' h.proc (Lib.hid (by unfold pkP; rw [hh, hy]; rfl)))
    have C3 := Lib.hid (fun w' (h : q.Ok w') => Total_any q.pa q.pn q.pc q.pf t 0 w' h.proc (Lib.hid (by unfold toP; rw [hh, ← ht]; rfl)))
    have C4 := Lib.hid (fun w' (h : q.Ok w') => RFits_any q g w' h (Lib.hid (by unfold ftP; rw [hh, hy, ← hg]; simp)))
    have TS : Hid (SS q.pf q.pn m = t) := Lib.hid (by rw [total_sums IP.out (hyR_dvd hm), ht])
    have WL : Hid (∀ j : Nat, wtR q.pf (j : Int) q.pn ≤ y) := Lib.hid (fun j => by rw [← hy]; exact wt_le q.pn IP.out)
    rw [hy] at hyb
    have W0 : Hid (wtR q.pf ((0 : Nat) : Int) q.pn = y) := Lib.hid hy
    clear hh hm hy ht
    obtain ⟨y0, y1⟩ := hyb
    by_cases h3 : 3000 < m
    · replace h3 : (3000 : Int) < (m : Int) := by omega
      go_enter Try.func11, Try.ntmps11
      go_wp2_with fail
      generalize w.alloc (.cells #[.slice q.ra q.rn q.rc, .slice q.pa q.pn q.pc, .slice q.oa q.on q.oc, .slice q.sa q.sn q.sc, .int .i64 q.fl, .slice q.qa q.qn q.qc, .slice q.ta q.tn q.tc, .int .i64 q.cap, .int .i64 q.bud, .int .i64 q.lad, .slice q.ca q.cn q.cc] 72) = W at *
      refine (C1.out _ (OK.out _ S.out.bel)).mono ?_
      rintro e1 w5 ⟨rfl, k5⟩
      have S := qb_next S k5
      clear k5 bc
      have bc := S.out.box.cell
      go_wp2_with fail
      refine (C2.out _ (OK.out _ S.out.bel)).mono ?_
      rintro e1 w5 ⟨rfl, k5⟩
      have S := qb_next S k5
      clear k5 bc
      have bc := S.out.box.cell
      go_wp2_with fail
      refine (C3.out _ (OK.out _ S.out.bel)).mono ?_
      rintro e1 w5 ⟨rfl, k5⟩
      have S := qb_next S k5
      clear k5 bc
      have bc := S.out.box.cell
      go_wp2_with fail
      refine (CW.out _).mono ?_
      rintro e1 w5 ⟨rfl, k5⟩
      have S := qb_next S k5
      clear k5 bc
      have bc := S.out.box.cell
      go_wp2_with fail
      go_ret
      exact ⟨rfl, S.out.bel⟩
    replace h3 : (m : Int) ≤ 3000 := by omega
    go_enter Try.func11, Try.ntmps11
    go_wp2_with fail
    generalize w.alloc (.cells #[.slice q.ra q.rn q.rc, .slice q.pa q.pn q.pc, .slice q.oa q.on q.oc, .slice q.sa q.sn q.sc, .int .i64 q.fl, .slice q.qa q.qn q.qc, .slice q.ta q.tn q.tc, .int .i64 q.cap, .int .i64 q.bud, .int .i64 q.lad, .slice q.ca q.cn q.cc] 72) = W at *
    refine (C1.out _ (OK.out _ S.out.bel)).mono ?_
    rintro e1 w5 ⟨rfl, k5⟩
    have S := qb_next S k5
    clear k5 bc
    have bc := S.out.box.cell
    go_wp2_with fail
    refine (C2.out _ (OK.out _ S.out.bel)).mono ?_
    rintro e1 w5 ⟨rfl, k5⟩
    have S := qb_next S k5
    clear k5 bc
    have bc := S.out.box.cell
    go_wp2_with fail
    refine (C3.out _ (OK.out _ S.out.bel)).mono ?_
    rintro e1 w5 ⟨rfl, k5⟩
    have S := qb_next S k5
    clear k5 bc
    have bc := S.out.box.cell
    go_wp2_with fail
    go_loopw [11, 12, 13, 14] (fun a b s i wr => ∃ j : Nat, j ≤ m ∧ i = .int .i64 j ∧ a = .int .i64 (if j = 0 then -1 else y) ∧ b = .int .i64 0 ∧ s = .int .i64 (SS q.pf q.pn j) ∧ Hid (Qb w wr q)) (fun _ _ _ i _ => m - (intOf i).toNat)
    case atStart => exact ⟨0, Nat.zero_le _, rfl, rfl, rfl, rfl, S⟩
    case round =>
      clear S bc
      obtain ⟨j, hj, rfl, rfl, rfl, rfl, S⟩ := hrel
      have bc := S.out.box.cell
      by_cases hl : j < m
      · obtain ⟨x, hx⟩ : ∃ x, wtR q.pf (j : Int) q.pn = x := ⟨_, rfl⟩
        have C5 := Lib.hid (fun w' (h : q.Ok w') => Wantsr_any q.pa q.pn q.pc q.pf (j : Int) x w' h.proc ⟨by omega, by omega⟩ (Lib.hid hx))
        have hxb := wtR_bd (f := q.pf) (win := (j : Int)) (n := q.pn) IP.out
        have hxy := WL.out j
        have HS := Lib.hid (show SS q.pf q.pn (j + 1) = satI (SS q.pf q.pn j) (wtR q.pf (j : Int) q.pn) from rfl)
        obtain ⟨s0, s1⟩ := SS_bd IP.out j
        rw [hx] at HS hxb hxy
        obtain ⟨x0, x1⟩ := hxb
        generalize SS q.pf q.pn j = s at *
        have D := Lib.hid (fun w => satr_any s x w (by omega) (by omega) (by omega) (by omega))
        by_cases hz : j = 0
        · subst hz
          have hxy2 : x = y := by rw [← hx]; exact W0.out
          subst hxy2
          rw [if_pos rfl]
          clear hx
          go_wp2_with fail
          refine (C5.out _ (OK.out _ S.out.bel)).mono ?_
          rintro e1 w5 ⟨rfl, k5⟩
          have S := qb_next S k5
          clear k5 bc
          have bc := S.out.box.cell
          go_wp2_with fail
          refine (D.out _).mono ?_
          rintro e1 w6 ⟨rfl, e8⟩
          cases e8
          go_wp2_with fail
          go_roundw
          case rel => exact ⟨0 + 1, by omega, by go_num, by rw [if_neg (Nat.succ_ne_zero _)], rfl, by rw [HS.out], S⟩
          case measure => simp [intOf]; omega
        · rw [if_neg hz]
          clear hx
          go_wp2_with fail
          refine (C5.out _ (OK.out _ S.out.bel)).mono ?_
          rintro e1 w5 ⟨rfl, k5⟩
          have S := qb_next S k5
          clear k5 bc
          have bc := S.out.box.cell
          go_wp2_with fail
          refine (D.out _).mono ?_
          rintro e1 w6 ⟨rfl, e8⟩
          cases e8
          go_wp2_with fail
          go_roundw
          case rel => exact ⟨j + 1, by omega, by go_num, by rw [if_neg (Nat.succ_ne_zero _)], rfl, by rw [HS.out], S⟩
          case measure => simp [intOf]; omega
      · obtain rfl : j = m := by omega
        rw [if_neg (by omega), TS.out]
        have SD : Hid (Qb w _ q) := qb_next S (Below.refl _ _).drew
        have RB := Lib.hid (fun (w' : World) (h : Hid (Qb w w' q)) => show (∀ i, w'.cell? ⟨w.heap.size, i, none⟩ = (#[.slice q.ra q.rn q.rc, .slice q.pa q.pn q.pc, .slice q.oa q.on q.oc, .slice q.sa q.sn q.sc, .int .i64 q.fl, .slice q.qa q.qn q.qc, .slice q.ta q.tn q.tc, .int .i64 q.cap, .int .i64 q.bud, .int .i64 q.lad, .slice q.ca q.cn q.cc] : Array Value)[i]?) ∧ Hid (Qb w w' q) from ⟨h.out.box.cell, h⟩)
        go_wp2_with fail
        go_region_held3 (fun w' => (∀ i, w'.cell? ⟨w.heap.size, i, none⟩ = (#[.slice q.ra q.rn q.rc, .slice q.pa q.pn q.pc, .slice q.oa q.on q.oc, .slice q.sa q.sn q.sc, .int .i64 q.fl, .slice q.qa q.qn q.qc, .slice q.ta q.tn q.tc, .int .i64 q.cap, .int .i64 q.bud, .int .i64 q.lad, .slice q.ca q.cn q.cc] : Array Value)[i]?) ∧ Hid (Qb w w' q))
          (first | exact RB.out _ S5 | exact RB.out _ SD)
          (first
            | (go_at_call 51; go_split_ands; rename_i hS; refine (C4.out _ (OK.out _ hS.out.bel)).mono ?_; rintro e1 w5 ⟨rfl, k5⟩; have S5 := qb_next hS k5)
            | (go_at_call 44; go_split_ands; rename_i hS; refine (CW.out _).mono ?_; rintro e1 w5 ⟨rfl, k5⟩; have S5 := qb_next hS k5))
        all_goals
          go_wp2_with fail
          go_ret
          exact ⟨rfl, S5.out.bel⟩
end Go.Proofs.Ytgkahcchekiogaa.Rl3
