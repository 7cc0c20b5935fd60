/- Package valid: Part. -/
import Derived.Test.YtgkahcchekiogaaVpa
namespace Go.Proofs.Ytgkahcchekiogaa.Vpb
open Go.RowKit Base Kit Conf Conf2 PowA PowB Vfa Vfb Val Vld Vpa
set_option linter.unusedVariables false
set_option linter.unusedSimpArgs false
set_option maxRecDepth 100000 in
set_option maxHeartbeats 2000000 in
theorem Part_any (q : PartC) (w : World) (ok : q.Ok w) (r : Int) (hr : Hid (PartR q = r)) :
    Calls Try.prog 32 #[.agg #[.slice q.ra q.rn q.rc, .slice q.pa q.pn q.pc, .slice q.oa q.on q.oc, .slice q.sa q.sn q.sc, .int .i64 q.fl, .slice q.qa q.qn q.qc, .slice q.ta q.tn q.tc, .int .i64 q.cap, .int .i64 q.bud, .int .i64 q.lad, .slice q.ca q.cn q.cc]] w fun e w' => e = .returned (.int .i64 r) ∧ Below w.heap.size w w' := by
  have okh := fun w1 (h : Below w.heap.size w w1) => ok.below h (Nat.le_refl _)
  have hr := hr.out
  have hpn := ok.proc.out.1
  have hcn := ok.act.out.1
  unfold PartR procsB lastB at hr
  obtain ⟨r0, e0⟩ : ∃ z, regsB q = z := ⟨_, rfl⟩
  obtain ⟨r1, e1⟩ : ∃ z, allB (fun k => procB (q.pf k 0) (q.pf k 1) (q.pf k 2)) q.pn 8 = z := ⟨_, rfl⟩
  obtain ⟨r2, e2⟩ : ∃ z, portsB q = z := ⟨_, rfl⟩
  obtain ⟨r3, e3⟩ : ∃ z, objB q = z := ⟨_, rfl⟩
  obtain ⟨r4, e4⟩ : ∃ z, inB q.cap 1 1000000000 = z := ⟨_, rfl⟩
  obtain ⟨r5, e5⟩ : ∃ z, inB q.bud 0 1125899906842624 = z := ⟨_, rfl⟩
  obtain ⟨r6, e6⟩ : ∃ z, inB q.lad 0 4 = z := ⟨_, rfl⟩
  obtain ⟨r7, e7⟩ : ∃ z, actsB q = z := ⟨_, rfl⟩
  rw [e0, e1, e2, e3, e4, e5, e6, e7] at hr
  have C0 := Lib.hid (fun w1 h => regions_any q.ra q.rn q.rc q.rb q.rs q.rw r0 w1 (okh w1 h).reg ok.regI (Lib.hid e0))
  have C1 := Lib.hid (fun w1 h => all_proc q.pa q.pn q.pc 8 (fun k => q.pf k 0) (fun k => q.pf k 1) (fun k => q.pf k 2) procB 83 r1 w1 (ri3 (okh w1 h).proc) ok.proc.out.1 (by omega) (fun args w => by go_simp) (Lib.hid (fun a b c w => proc_any a b c w)) (Lib.hid e1))
  have C2 := Lib.hid (fun w1 h => all_port q.oa q.on q.oc 8 q.oq q.oi q.os q.od portB 85 r2 w1 (rv4 (okh w1 h).port) ok.port.out.1 (by omega) (fun args w => by go_simp) (Lib.hid (fun a b c d w => port_any a b c d w)) (Lib.hid e2))
  have C3 := Lib.hid (fun w1 h => objects_any q w1 (okh w1 h) r3 (Lib.hid e3))
  have C4 := Lib.hid (fun w => in_any q.cap 1 1000000000 r4 w (Lib.hid e4))
  have C5 := Lib.hid (fun w => in_any q.bud 0 1125899906842624 r5 w (Lib.hid e5))
  have C6 := Lib.hid (fun w => in_any q.lad 0 4 r6 w (Lib.hid e6))
  have C7 := Lib.hid (fun w1 h => all_num q.ca q.cn q.cc 5 (fun k => q.cf k) actB 88 r7 w1 (ri1 (okh w1 h).act) ok.act.out.1 (by omega) (fun args w => by go_simp) (Lib.hid (fun a w => act_any a w)) (Lib.hid e7))
  clear e0 e1 e2 e3 e4 e5 e6 e7 okh
  cases r0
  · rw [if_pos rfl] at hr
    subst hr
    have S := qs_in w q
    have bc := S.out.box.cell
    go_enter Try.func32, Try.ntmps32
    go_wp2_with fail
    generalize w.alloc (.cells #[.slice q.ra q.rn q.rc, .slice q.pa q.pn q.pc, .slice q.oa q.on q.oc, .slice q.sa q.sn q.sc, .int .i64 q.fl, .slice q.qa q.qn q.qc, .slice q.ta q.tn q.tc, .int .i64 q.cap, .int .i64 q.bud, .int .i64 q.lad, .slice q.ca q.cn q.cc] 72) = W at S bc ⊢
    refine (C0.out _ S.out.bel).mono ?_
    rintro e1 w5 ⟨rfl, k5⟩
    have S := qs_next S k5
    clear k5 bc
    have bc := S.out.box.cell
    go_wp2_with fail
    go_ret
    exact ⟨rfl, S.out.bel⟩
  · rw [if_neg (by decide)] at hr
    by_cases hp0 : q.pn = 0
    · rw [show decide (1 ≤ q.pn) = false from by rw [hp0]; rfl, Bool.false_and, if_pos rfl] at hr
      subst hr
      have hp1 : ((q.pn : Int) == 0) = true := by rw [beq_iff_eq]; omega
      clear hp0
      have S := qs_in w q
      have bc := S.out.box.cell
      go_enter Try.func32, Try.ntmps32
      go_wp2_with fail
      generalize w.alloc (.cells #[.slice q.ra q.rn q.rc, .slice q.pa q.pn q.pc, .slice q.oa q.on q.oc, .slice q.sa q.sn q.sc, .int .i64 q.fl, .slice q.qa q.qn q.qc, .slice q.ta q.tn q.tc, .int .i64 q.cap, .int .i64 q.bud, .int .i64 q.lad, .slice q.ca q.cn q.cc] 72) = W at S bc ⊢
      refine (C0.out _ S.out.bel).mono ?_
      rintro e1 w5 ⟨rfl, k5⟩
      have S := qs_next S k5
      clear k5 bc
      have bc := S.out.box.cell
      go_wp2_with fail
      go_ret
      exact ⟨rfl, S.out.bel⟩
    · have hp1 : ((q.pn : Int) == 0) = false := by rw [beq_eq_false_iff_ne]; omega
      rw [show decide (1 ≤ q.pn) = true from by rw [decide_eq_true_iff]; omega, Bool.true_and] at hr
      clear hp0
      cases r1
      · rw [if_pos rfl] at hr
        subst hr
        have S := qs_in w q
        have bc := S.out.box.cell
        go_enter Try.func32, Try.ntmps32
        go_wp2_with fail
        generalize w.alloc (.cells #[.slice q.ra q.rn q.rc, .slice q.pa q.pn q.pc, .slice q.oa q.on q.oc, .slice q.sa q.sn q.sc, .int .i64 q.fl, .slice q.qa q.qn q.qc, .slice q.ta q.tn q.tc, .int .i64 q.cap, .int .i64 q.bud, .int .i64 q.lad, .slice q.ca q.cn q.cc] 72) = W at S bc ⊢
        refine (C0.out _ S.out.bel).mono ?_
        rintro e1 w5 ⟨rfl, k5⟩
        have S := qs_next S k5
        clear k5 bc
        have bc := S.out.box.cell
        go_wp2_with fail
        refine (C1.out _ S.out.bel).mono ?_
        rintro e1 w5 ⟨rfl, k5⟩
        have S := qs_next S k5
        clear k5 bc
        have bc := S.out.box.cell
        go_wp2_with fail
        go_ret
        exact ⟨rfl, S.out.bel⟩
      · rw [if_neg (by decide)] at hr
        cases r2
        · rw [if_pos rfl] at hr
          subst hr
          have S := qs_in w q
          have bc := S.out.box.cell
          go_enter Try.func32, Try.ntmps32
          go_wp2_with fail
          generalize w.alloc (.cells #[.slice q.ra q.rn q.rc, .slice q.pa q.pn q.pc, .slice q.oa q.on q.oc, .slice q.sa q.sn q.sc, .int .i64 q.fl, .slice q.qa q.qn q.qc, .slice q.ta q.tn q.tc, .int .i64 q.cap, .int .i64 q.bud, .int .i64 q.lad, .slice q.ca q.cn q.cc] 72) = W at S bc ⊢
          refine (C0.out _ S.out.bel).mono ?_
          rintro e1 w5 ⟨rfl, k5⟩
          have S := qs_next S k5
          clear k5 bc
          have bc := S.out.box.cell
          go_wp2_with fail
          refine (C1.out _ S.out.bel).mono ?_
          rintro e1 w5 ⟨rfl, k5⟩
          have S := qs_next S k5
          clear k5 bc
          have bc := S.out.box.cell
          go_wp2_with fail
          refine (C2.out _ S.out.bel).mono ?_
          rintro e1 w5 ⟨rfl, k5⟩
          have S := qs_next S k5
          clear k5 bc
          have bc := S.out.box.cell
          go_wp2_with fail
          go_ret
          exact ⟨rfl, S.out.bel⟩
        · rw [if_neg (by decide)] at hr
          cases r3
          · rw [if_pos rfl] at hr
            subst hr
            have S := qs_in w q
            have bc := S.out.box.cell
            go_enter Try.func32, Try.ntmps32
            go_wp2_with fail
            generalize w.alloc (.cells #[.slice q.ra q.rn q.rc, .slice q.pa q.pn q.pc, .slice q.oa q.on q.oc, .slice q.sa q.sn q.sc, .int .i64 q.fl, .slice q.qa q.qn q.qc, .slice q.ta q.tn q.tc, .int .i64 q.cap, .int .i64 q.bud, .int .i64 q.lad, .slice q.ca q.cn q.cc] 72) = W at S bc ⊢
            refine (C0.out _ S.out.bel).mono ?_
            rintro e1 w5 ⟨rfl, k5⟩
            have S := qs_next S k5
            clear k5 bc
            have bc := S.out.box.cell
            go_wp2_with fail
            refine (C1.out _ S.out.bel).mono ?_
            rintro e1 w5 ⟨rfl, k5⟩
            have S := qs_next S k5
            clear k5 bc
            have bc := S.out.box.cell
            go_wp2_with fail
            refine (C2.out _ S.out.bel).mono ?_
            rintro e1 w5 ⟨rfl, k5⟩
            have S := qs_next S k5
            clear k5 bc
            have bc := S.out.box.cell
            go_wp2_with fail
            refine (C3.out _ S.out.bel).mono ?_
            rintro e1 w5 ⟨rfl, k5⟩
            have S := qs_next S k5
            clear k5 bc
            have bc := S.out.box.cell
            go_wp2_with fail
            go_ret
            exact ⟨rfl, S.out.bel⟩
          · rw [if_neg (by decide)] at hr
            cases r4
            · rw [Bool.false_and, Bool.false_and, Bool.false_and, Bool.false_and, if_pos rfl] at hr
              subst hr
              have S := qs_in w q
              have bc := S.out.box.cell
              go_enter Try.func32, Try.ntmps32
              go_wp2_with fail
              generalize w.alloc (.cells #[.slice q.ra q.rn q.rc, .slice q.pa q.pn q.pc, .slice q.oa q.on q.oc, .slice q.sa q.sn q.sc, .int .i64 q.fl, .slice q.qa q.qn q.qc, .slice q.ta q.tn q.tc, .int .i64 q.cap, .int .i64 q.bud, .int .i64 q.lad, .slice q.ca q.cn q.cc] 72) = W at S bc ⊢
              refine (C0.out _ S.out.bel).mono ?_
              rintro e1 w5 ⟨rfl, k5⟩
              have S := qs_next S k5
              clear k5 bc
              have bc := S.out.box.cell
              go_wp2_with fail
              refine (C1.out _ S.out.bel).mono ?_
              rintro e1 w5 ⟨rfl, k5⟩
              have S := qs_next S k5
              clear k5 bc
              have bc := S.out.box.cell
              go_wp2_with fail
              refine (C2.out _ S.out.bel).mono ?_
              rintro e1 w5 ⟨rfl, k5⟩
              have S := qs_next S k5
              clear k5 bc
              have bc := S.out.box.cell
              go_wp2_with fail
              refine (C3.out _ S.out.bel).mono ?_
              rintro e1 w5 ⟨rfl, k5⟩
              have S := qs_next S k5
              clear k5 bc
              have bc := S.out.box.cell
              go_wp2_with fail
              refine (C4.out _).mono ?_
              rintro e1 w5 ⟨rfl, e9⟩
              cases e9
              go_wp2_with fail
              go_ret
              exact ⟨rfl, S.out.bel⟩
            · cases r5
              · rw [Bool.true_and, Bool.false_and, Bool.false_and, Bool.false_and, if_pos rfl] at hr
                subst hr
                have S := qs_in w q
                have bc := S.out.box.cell
                go_enter Try.func32, Try.ntmps32
                go_wp2_with fail
                generalize w.alloc (.cells #[.slice q.ra q.rn q.rc, .slice q.pa q.pn q.pc, .slice q.oa q.on q.oc, .slice q.sa q.sn q.sc, .int .i64 q.fl, .slice q.qa q.qn q.qc, .slice q.ta q.tn q.tc, .int .i64 q.cap, .int .i64 q.bud, .int .i64 q.lad, .slice q.ca q.cn q.cc] 72) = W at S bc ⊢
                refine (C0.out _ S.out.bel).mono ?_
                rintro e1 w5 ⟨rfl, k5⟩
                have S := qs_next S k5
                clear k5 bc
                have bc := S.out.box.cell
                go_wp2_with fail
                refine (C1.out _ S.out.bel).mono ?_
                rintro e1 w5 ⟨rfl, k5⟩
                have S := qs_next S k5
                clear k5 bc
                have bc := S.out.box.cell
                go_wp2_with fail
                refine (C2.out _ S.out.bel).mono ?_
                rintro e1 w5 ⟨rfl, k5⟩
                have S := qs_next S k5
                clear k5 bc
                have bc := S.out.box.cell
                go_wp2_with fail
                refine (C3.out _ S.out.bel).mono ?_
                rintro e1 w5 ⟨rfl, k5⟩
                have S := qs_next S k5
                clear k5 bc
                have bc := S.out.box.cell
                go_wp2_with fail
                refine (C4.out _).mono ?_
                rintro e1 w5 ⟨rfl, e9⟩
                cases e9
                go_wp2_with fail
                refine (C5.out _).mono ?_
                rintro e1 w5 ⟨rfl, e9⟩
                cases e9
                go_wp2_with fail
                go_ret
                exact ⟨rfl, S.out.bel⟩
              · cases r6
                · rw [Bool.true_and, Bool.true_and, Bool.false_and, Bool.false_and, if_pos rfl] at hr
                  subst hr
                  have S := qs_in w q
                  have bc := S.out.box.cell
                  go_enter Try.func32, Try.ntmps32
                  go_wp2_with fail
                  generalize w.alloc (.cells #[.slice q.ra q.rn q.rc, .slice q.pa q.pn q.pc, .slice q.oa q.on q.oc, .slice q.sa q.sn q.sc, .int .i64 q.fl, .slice q.qa q.qn q.qc, .slice q.ta q.tn q.tc, .int .i64 q.cap, .int .i64 q.bud, .int .i64 q.lad, .slice q.ca q.cn q.cc] 72) = W at S bc ⊢
                  refine (C0.out _ S.out.bel).mono ?_
                  rintro e1 w5 ⟨rfl, k5⟩
                  have S := qs_next S k5
                  clear k5 bc
                  have bc := S.out.box.cell
                  go_wp2_with fail
                  refine (C1.out _ S.out.bel).mono ?_
                  rintro e1 w5 ⟨rfl, k5⟩
                  have S := qs_next S k5
                  clear k5 bc
                  have bc := S.out.box.cell
                  go_wp2_with fail
                  refine (C2.out _ S.out.bel).mono ?_
                  rintro e1 w5 ⟨rfl, k5⟩
                  have S := qs_next S k5
                  clear k5 bc
                  have bc := S.out.box.cell
                  go_wp2_with fail
                  refine (C3.out _ S.out.bel).mono ?_
                  rintro e1 w5 ⟨rfl, k5⟩
                  have S := qs_next S k5
                  clear k5 bc
                  have bc := S.out.box.cell
                  go_wp2_with fail
                  refine (C4.out _).mono ?_
                  rintro e1 w5 ⟨rfl, e9⟩
                  cases e9
                  go_wp2_with fail
                  refine (C5.out _).mono ?_
                  rintro e1 w5 ⟨rfl, e9⟩
                  cases e9
                  go_wp2_with fail
                  refine (C6.out _).mono ?_
                  rintro e1 w5 ⟨rfl, e9⟩
                  cases e9
                  go_wp2_with fail
                  go_ret
                  exact ⟨rfl, S.out.bel⟩
                · by_cases h5 : q.cn = 5
                  · have h5' : ((q.cn : Int) != 5) = false := by rw [bne_eq_false_iff_eq]; omega
                    rw [show decide (q.cn = 5) = true from by simpa using h5, Bool.true_and, Bool.true_and, Bool.true_and, Bool.true_and] at hr
                    clear h5
                    cases r7
                    · rw [if_pos rfl] at hr
                      subst hr
                      have S := qs_in w q
                      have bc := S.out.box.cell
                      go_enter Try.func32, Try.ntmps32
                      go_wp2_with fail
                      generalize w.alloc (.cells #[.slice q.ra q.rn q.rc, .slice q.pa q.pn q.pc, .slice q.oa q.on q.oc, .slice q.sa q.sn q.sc, .int .i64 q.fl, .slice q.qa q.qn q.qc, .slice q.ta q.tn q.tc, .int .i64 q.cap, .int .i64 q.bud, .int .i64 q.lad, .slice q.ca q.cn q.cc] 72) = W at S bc ⊢
                      refine (C0.out _ S.out.bel).mono ?_
                      rintro e1 w5 ⟨rfl, k5⟩
                      have S := qs_next S k5
                      clear k5 bc
                      have bc := S.out.box.cell
                      go_wp2_with fail
                      refine (C1.out _ S.out.bel).mono ?_
                      rintro e1 w5 ⟨rfl, k5⟩
                      have S := qs_next S k5
                      clear k5 bc
                      have bc := S.out.box.cell
                      go_wp2_with fail
                      refine (C2.out _ S.out.bel).mono ?_
                      rintro e1 w5 ⟨rfl, k5⟩
                      have S := qs_next S k5
                      clear k5 bc
                      have bc := S.out.box.cell
                      go_wp2_with fail
                      refine (C3.out _ S.out.bel).mono ?_
                      rintro e1 w5 ⟨rfl, k5⟩
                      have S := qs_next S k5
                      clear k5 bc
                      have bc := S.out.box.cell
                      go_wp2_with fail
                      refine (C4.out _).mono ?_
                      rintro e1 w5 ⟨rfl, e9⟩
                      cases e9
                      go_wp2_with fail
                      refine (C5.out _).mono ?_
                      rintro e1 w5 ⟨rfl, e9⟩
                      cases e9
                      go_wp2_with fail
                      refine (C6.out _).mono ?_
                      rintro e1 w5 ⟨rfl, e9⟩
                      cases e9
                      go_wp2_with fail
                      refine (C7.out _ S.out.bel).mono ?_
                      rintro e1 w5 ⟨rfl, k5⟩
                      have S := qs_next S k5
                      clear k5 bc
                      have bc := S.out.box.cell
                      go_wp2_with fail
                      go_ret
                      exact ⟨rfl, S.out.bel⟩
                    · rw [if_neg (by decide)] at hr
                      subst hr
                      have S := qs_in w q
                      have bc := S.out.box.cell
                      go_enter Try.func32, Try.ntmps32
                      go_wp2_with fail
                      generalize w.alloc (.cells #[.slice q.ra q.rn q.rc, .slice q.pa q.pn q.pc, .slice q.oa q.on q.oc, .slice q.sa q.sn q.sc, .int .i64 q.fl, .slice q.qa q.qn q.qc, .slice q.ta q.tn q.tc, .int .i64 q.cap, .int .i64 q.bud, .int .i64 q.lad, .slice q.ca q.cn q.cc] 72) = W at S bc ⊢
                      refine (C0.out _ S.out.bel).mono ?_
                      rintro e1 w5 ⟨rfl, k5⟩
                      have S := qs_next S k5
                      clear k5 bc
                      have bc := S.out.box.cell
                      go_wp2_with fail
                      refine (C1.out _ S.out.bel).mono ?_
                      rintro e1 w5 ⟨rfl, k5⟩
                      have S := qs_next S k5
                      clear k5 bc
                      have bc := S.out.box.cell
                      go_wp2_with fail
                      refine (C2.out _ S.out.bel).mono ?_
                      rintro e1 w5 ⟨rfl, k5⟩
                      have S := qs_next S k5
                      clear k5 bc
                      have bc := S.out.box.cell
                      go_wp2_with fail
                      refine (C3.out _ S.out.bel).mono ?_
                      rintro e1 w5 ⟨rfl, k5⟩
                      have S := qs_next S k5
                      clear k5 bc
                      have bc := S.out.box.cell
                      go_wp2_with fail
                      refine (C4.out _).mono ?_
                      rintro e1 w5 ⟨rfl, e9⟩
                      cases e9
                      go_wp2_with fail
                      refine (C5.out _).mono ?_
                      rintro e1 w5 ⟨rfl, e9⟩
                      cases e9
                      go_wp2_with fail
                      refine (C6.out _).mono ?_
                      rintro e1 w5 ⟨rfl, e9⟩
                      cases e9
                      go_wp2_with fail
                      refine (C7.out _ S.out.bel).mono ?_
                      rintro e1 w5 ⟨rfl, k5⟩
                      have S := qs_next S k5
                      clear k5 bc
                      have bc := S.out.box.cell
                      go_wp2_with fail
                      go_ret
                      exact ⟨rfl, S.out.bel⟩
                  · have h5' : ((q.cn : Int) != 5) = true := by rw [bne_iff_ne]; omega
                    rw [show decide (q.cn = 5) = false from by simpa using h5, Bool.true_and, Bool.true_and, Bool.true_and, Bool.false_and, if_pos rfl] at hr
                    clear h5
                    subst hr
                    have S := qs_in w q
                    have bc := S.out.box.cell
                    go_enter Try.func32, Try.ntmps32
                    go_wp2_with fail
                    generalize w.alloc (.cells #[.slice q.ra q.rn q.rc, .slice q.pa q.pn q.pc, .slice q.oa q.on q.oc, .slice q.sa q.sn q.sc, .int .i64 q.fl, .slice q.qa q.qn q.qc, .slice q.ta q.tn q.tc, .int .i64 q.cap, .int .i64 q.bud, .int .i64 q.lad, .slice q.ca q.cn q.cc] 72) = W at S bc ⊢
                    refine (C0.out _ S.out.bel).mono ?_
                    rintro e1 w5 ⟨rfl, k5⟩
                    have S := qs_next S k5
                    clear k5 bc
                    have bc := S.out.box.cell
                    go_wp2_with fail
                    refine (C1.out _ S.out.bel).mono ?_
                    rintro e1 w5 ⟨rfl, k5⟩
                    have S := qs_next S k5
                    clear k5 bc
                    have bc := S.out.box.cell
                    go_wp2_with fail
                    refine (C2.out _ S.out.bel).mono ?_
                    rintro e1 w5 ⟨rfl, k5⟩
                    have S := qs_next S k5
                    clear k5 bc
                    have bc := S.out.box.cell
                    go_wp2_with fail
                    refine (C3.out _ S.out.bel).mono ?_
                    rintro e1 w5 ⟨rfl, k5⟩
                    have S := qs_next S k5
                    clear k5 bc
                    have bc := S.out.box.cell
                    go_wp2_with fail
                    refine (C4.out _).mono ?_
                    rintro e1 w5 ⟨rfl, e9⟩
                    cases e9
                    go_wp2_with fail
                    refine (C5.out _).mono ?_
                    rintro e1 w5 ⟨rfl, e9⟩
                    cases e9
                    go_wp2_with fail
                    refine (C6.out _).mono ?_
                    rintro e1 w5 ⟨rfl, e9⟩
                    cases e9
                    go_wp2_with fail
                    go_ret
                    exact ⟨rfl, S.out.bel⟩
end Go.Proofs.Ytgkahcchekiogaa.Vpb
