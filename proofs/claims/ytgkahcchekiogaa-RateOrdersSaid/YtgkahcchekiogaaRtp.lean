/- Package rate: Peak, Fits. -/
import Derived.Test.YtgkahcchekiogaaRte
import Derived.Test.YtgkahcchekiogaaPart
namespace Go.Proofs.Ytgkahcchekiogaa.Rtp
open Go.RowKit Base Kit WideA WideB Plain Conf2 Rta Rtb Rtc Rtd Rte
set_option linter.unusedVariables false
set_option linter.unusedSimpArgs false
def pkP (f : Nat → Nat → Int) (n : Nat) : Int × Int := if (hyP f n).2 = 0 then (wtR f 0 n, 0) else (0, (hyP f n).2)
set_option maxHeartbeats 2000000 in
theorem Peak_any (a : Option Addr) (n c : Nat) (f : Nat → Nat → Int) (r e : Int) (w : World) (h : Hid (Open.RowsIn w a n 3 f)) (hr : Hid (pkP f n = (r, e))) :
    Calls Try.prog 49 #[.slice a n c] w fun e' w' => e' = .returned (.tuple #[.int .i64 r, .int .i64 0, .int .i64 e]) ∧ Below w.heap.size w w' := by
  have hr := hr.out
  obtain ⟨⟨H, E⟩, hh⟩ : ∃ z, hyP f n = z := ⟨_, rfl⟩
  have C0 := Lib.hid (fun w' h => Hyper_any a n c f H E w' h (Lib.hid hh))
  unfold pkP at hr
  rw [hh] at hr
  dsimp only at hr
  clear hh
  by_cases hE : E = 0
  · rw [if_pos hE] at hr
    simp only [Prod.mk.injEq] at hr
    obtain ⟨hr9, rfl⟩ := hr
    subst hE
    have C1 := Lib.hid (fun w' h => Wants_any a n c f 0 r w' h ⟨by omega, by omega⟩ (Lib.hid hr9))
    clear hr9
    go_enter Try.func49, Try.ntmps49
    go_wp2_with fail
    refine (C0.out _ h).mono ?_
    rintro e1 w5 ⟨rfl, k5⟩
    have HB := Lib.hid k5
    clear k5
    go_wp2_with fail
    refine (C1.out _ (Lib.hid (rows_below h.out HB.out (Nat.le_refl _)))).mono ?_
    rintro e1 w6 ⟨rfl, k5⟩
    have HB := below_hid HB k5
    clear k5
    go_wp2_with fail
    go_ret3
    exact ⟨rfl, HB.out⟩
  · rw [if_neg hE] at hr
    simp only [Prod.mk.injEq] at hr
    obtain ⟨rfl, rfl⟩ := hr
    replace hE : (E != 0) = true := by rw [bne_iff_ne]; exact hE
    go_enter Try.func49, Try.ntmps49
    go_wp2_with fail
    refine (C0.out _ h).mono ?_
    rintro e1 w5 ⟨rfl, k5⟩
    have HB := Lib.hid k5
    clear k5
    go_wp2_with fail
    go_ret3
    exact ⟨rfl, HB.out⟩
def ftP (q : PartC) : Bool := decide ((hyP q.pf q.pn).2 = 0) && decide (wtR q.pf 0 q.pn ≤ q.cap)
set_option maxHeartbeats 2000000 in
theorem RFits_any (q : PartC) (r : Bool) (w : World) (ok : q.Ok w) (hr : Hid (ftP q = r)) :
    Calls Try.prog 51 #[.agg #[.slice q.ra q.rn q.rc, .slice q.pa q.pn q.pc, .slice q.oa q.on q.oc, .slice q.sa q.sn q.sc, .int .i64 q.fl, .slice q.qa q.qn q.qc, .slice q.ta q.tn q.tc, .int .i64 q.cap, .int .i64 q.bud, .int .i64 q.lad, .slice q.ca q.cn q.cc]] w fun e' w' => e' = .returned (.bool r) ∧ Below w.heap.size w w' := by
  have hr := hr.out
  unfold ftP at hr
  have X := Lib.hid (Box.new w #[.slice q.ra q.rn q.rc, .slice q.pa q.pn q.pc, .slice q.oa q.on q.oc, .slice q.sa q.sn q.sc, .int .i64 q.fl, .slice q.qa q.qn q.qc, .slice q.ta q.tn q.tc, .int .i64 q.cap, .int .i64 q.bud, .int .i64 q.lad, .slice q.ca q.cn q.cc] 72)
  have HB := Lib.hid ((Below.refl w.heap.size w).alloc (Nat.le_refl _) (.cells #[.slice q.ra q.rn q.rc, .slice q.pa q.pn q.pc, .slice q.oa q.on q.oc, .slice q.sa q.sn q.sc, .int .i64 q.fl, .slice q.qa q.qn q.qc, .slice q.ta q.tn q.tc, .int .i64 q.cap, .int .i64 q.bud, .int .i64 q.lad, .slice q.ca q.cn q.cc] 72))
  have xc := X.out.cell
  by_cases hE : (hyP q.pf q.pn).2 = 0
  · have hp : pkP q.pf q.pn = (wtR q.pf 0 q.pn, 0) := by unfold pkP; rw [if_pos hE]
    have C := Lib.hid (fun w' h => Peak_any q.pa q.pn q.pc q.pf (wtR q.pf 0 q.pn) 0 w' h (Lib.hid hp))
    rw [decide_eq_true hE, Bool.true_and] at hr
    clear hE hp
    generalize wtR q.pf 0 q.pn = x at *
    go_enter Try.func51, Try.ntmps51
    go_wp2_with fail
    generalize w.alloc (.cells #[.slice q.ra q.rn q.rc, .slice q.pa q.pn q.pc, .slice q.oa q.on q.oc, .slice q.sa q.sn q.sc, .int .i64 q.fl, .slice q.qa q.qn q.qc, .slice q.ta q.tn q.tc, .int .i64 q.cap, .int .i64 q.bud, .int .i64 q.lad, .slice q.ca q.cn q.cc] 72) = W at *
    refine (C.out _ (ok.below HB.out (Nat.le_refl _)).proc).mono ?_
    rintro e1 w5 ⟨rfl, k5⟩
    have HB := below_hid HB k5
    have X := Lib.hid (X.out.next k5)
    clear k5 xc
    have xc := X.out.cell
    go_wp2_with fail
    go_ret
    exact ⟨ret_bool (by rw [← hr]), HB.out⟩
  · have hp : pkP q.pf q.pn = (0, (hyP q.pf q.pn).2) := by unfold pkP; rw [if_neg hE]
    have C := Lib.hid (fun w' h => Peak_any q.pa q.pn q.pc q.pf 0 (hyP q.pf q.pn).2 w' h (Lib.hid hp))
    rw [decide_eq_false hE, Bool.false_and] at hr
    subst hr
    replace hE : ((hyP q.pf q.pn).2 == 0) = false := by rw [beq_eq_false_iff_ne]; exact hE
    clear hp
    generalize (hyP q.pf q.pn).2 = x at *
    go_enter Try.func51, Try.ntmps51
    go_wp2_with fail
    generalize w.alloc (.cells #[.slice q.ra q.rn q.rc, .slice q.pa q.pn q.pc, .slice q.oa q.on q.oc, .slice q.sa q.sn q.sc, .int .i64 q.fl, .slice q.qa q.qn q.qc, .slice q.ta q.tn q.tc, .int .i64 q.cap, .int .i64 q.bud, .int .i64 q.lad, .slice q.ca q.cn q.cc] 72) = W at *
    refine (C.out _ (ok.below HB.out (Nat.le_refl _)).proc).mono ?_
    rintro e1 w5 ⟨rfl, k5⟩
    have HB := below_hid HB k5
    clear k5 xc
    go_wp2_with fail
    go_ret
    exact ⟨rfl, HB.out⟩
end Go.Proofs.Ytgkahcchekiogaa.Rtp
