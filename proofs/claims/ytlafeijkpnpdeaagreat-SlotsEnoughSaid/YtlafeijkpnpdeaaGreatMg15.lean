import Derived.Test.YtlafeijkpnpdeaaGreatMg14

/- Package valid: Part. -/
namespace Go.Proofs.YtlafeijkpnpdeaaGreat.Vpb
open Go.RowKit Base Kit Conf Conf2 PowA PowB Vfa Vfb Val Vld Vpa
set_option linter.unusedVariables false
set_option linter.unusedSimpArgs false
set_option maxRecDepth 100000 in
set_option maxHeartbeats 2000000 in
theorem Part_any (q : PartC) (w : World) (ok : q.Ok w) (r : Int) (hr : Hid (PartR q = r)) :
    Calls Tryz.prog 50 #[.agg #[.slice q.ra q.rn q.rc, .slice q.pa q.pn q.pc, .slice q.oa q.on q.oc, .slice q.sa q.sn q.sc, .int .i64 q.fl, .slice q.qa q.qn q.qc, .slice q.ta q.tn q.tc, .int .i64 q.cap, .int .i64 q.bud, .int .i64 q.lad, .slice q.ca q.cn q.cc]] w fun e w' => e = .returned (.int .i64 r) ∧ Below w.heap.size w w' := by
  have okh := fun w1 (h : Below w.heap.size w w1) => ok.below h (Nat.le_refl _)
  have hr := hr.out
  have hpn := ok.proc.out.1
  have hcn := ok.act.out.1
  unfold PartR procsB lastB at hr
  obtain ⟨r0, e0⟩ : ∃ z, regsB q = z := ⟨_, rfl⟩
  obtain ⟨r1, e1⟩ : ∃ z, allB (fun k => procB (q.pf k 0) (q.pf k 1) (q.pf k 2)) q.pn 8 = z := ⟨_, rfl⟩
  obtain ⟨r2, e2⟩ : ∃ z, portsB q = z := ⟨_, rfl⟩
  obtain ⟨r3, e3⟩ : ∃ z, objB q = z := ⟨_, rfl⟩
  obtain ⟨r4, e4⟩ : ∃ z, inB q.cap 1 1000000000 = z := ⟨_, rfl⟩
  obtain ⟨r5, e5⟩ : ∃ z, inB q.bud 0 1125899906842624 = z := ⟨_, rfl⟩
  obtain ⟨r6, e6⟩ : ∃ z, inB q.lad 0 4 = z := ⟨_, rfl⟩
  obtain ⟨r7, e7⟩ : ∃ z, actsB q = z := ⟨_, rfl⟩
  rw [e0, e1, e2, e3, e4, e5, e6, e7] at hr
  have C0 := Lib.hid (fun w1 h => regions_any q.ra q.rn q.rc q.rb q.rs q.rw r0 w1 (okh w1 h).reg ok.regI (Lib.hid e0))
  have C1 := Lib.hid (fun w1 h => all_proc q.pa q.pn q.pc 8 (fun k => q.pf k 0) (fun k => q.pf k 1) (fun k => q.pf k 2) procB 77 r1 w1 (ri3 (okh w1 h).proc) ok.proc.out.1 (by omega) (fun args w => by go_simp) (Lib.hid (fun a b c w => proc_any a b c w)) (Lib.hid e1))
  have C2 := Lib.hid (fun w1 h => all_port q.oa q.on q.oc 8 q.oq q.oi q.os q.od portB 79 r2 w1 (rv4 (okh w1 h).port) ok.port.out.1 (by omega) (fun args w => by go_simp) (Lib.hid (fun a b c d w => port_any a b c d w)) (Lib.hid e2))
  have C3 := Lib.hid (fun w1 h => objects_any q w1 (okh w1 h) r3 (Lib.hid e3))
  have C4 := Lib.hid (fun w => in_any q.cap 1 1000000000 r4 w (Lib.hid e4))
  have C5 := Lib.hid (fun w => in_any q.bud 0 1125899906842624 r5 w (Lib.hid e5))
  have C6 := Lib.hid (fun w => in_any q.lad 0 4 r6 w (Lib.hid e6))
  have C7 := Lib.hid (fun w1 h => all_num q.ca q.cn q.cc 5 (fun k => q.cf k) actB 82 r7 w1 (ri1 (okh w1 h).act) ok.act.out.1 (by omega) (fun args w => by go_simp) (Lib.hid (fun a w => act_any a w)) (Lib.hid e7))
  clear e0 e1 e2 e3 e4 e5 e6 e7 okh
  cases r0
  · rw [if_pos rfl] at hr
    subst hr
    have S := qs_in w q
    have bc := S.out.box.cell
    go_enter Tryz.func50, Tryz.ntmps50
    go_wp2_with fail
    generalize w.alloc (.cells #[.slice q.ra q.rn q.rc, .slice q.pa q.pn q.pc, .slice q.oa q.on q.oc, .slice q.sa q.sn q.sc, .int .i64 q.fl, .slice q.qa q.qn q.qc, .slice q.ta q.tn q.tc, .int .i64 q.cap, .int .i64 q.bud, .int .i64 q.lad, .slice q.ca q.cn q.cc] 61) = W at S bc ⊢
    refine (C0.out _ S.out.bel).mono ?_
    rintro e1 w5 ⟨rfl, k5⟩
    have S := qs_next S k5
    clear k5 bc
    have bc := S.out.box.cell
    go_wp2_with fail
    go_ret
    exact ⟨rfl, S.out.bel⟩
  · rw [if_neg (by decide)] at hr
    by_cases hp0 : q.pn = 0
    · rw [show decide (1 ≤ q.pn) = false from by rw [hp0]; rfl, Bool.false_and, if_pos rfl] at hr
      subst hr
      have hp1 : ((q.pn : Int) == 0) = true := by rw [beq_iff_eq]; omega
      clear hp0
      have S := qs_in w q
      have bc := S.out.box.cell
      go_enter Tryz.func50, Tryz.ntmps50
      go_wp2_with fail
      generalize w.alloc (.cells #[.slice q.ra q.rn q.rc, .slice q.pa q.pn q.pc, .slice q.oa q.on q.oc, .slice q.sa q.sn q.sc, .int .i64 q.fl, .slice q.qa q.qn q.qc, .slice q.ta q.tn q.tc, .int .i64 q.cap, .int .i64 q.bud, .int .i64 q.lad, .slice q.ca q.cn q.cc] 61) = W at S bc ⊢
      refine (C0.out _ S.out.bel).mono ?_
      rintro e1 w5 ⟨rfl, k5⟩
      have S := qs_next S k5
      clear k5 bc
      have bc := S.out.box.cell
      go_wp2_with fail
      go_ret
      exact ⟨rfl, S.out.bel⟩
    · have hp1 : ((q.pn : Int) == 0) = false := by rw [beq_eq_false_iff_ne]; omega
      rw [show decide (1 ≤ q.pn) = true from by rw [decide_eq_true_iff]; omega, Bool.true_and] at hr
      clear hp0
      cases r1
      · rw [if_pos rfl] at hr
        subst hr
        have S := qs_in w q
        have bc := S.out.box.cell
        go_enter Tryz.func50, Tryz.ntmps50
        go_wp2_with fail
        generalize w.alloc (.cells #[.slice q.ra q.rn q.rc, .slice q.pa q.pn q.pc, .slice q.oa q.on q.oc, .slice q.sa q.sn q.sc, .int .i64 q.fl, .slice q.qa q.qn q.qc, .slice q.ta q.tn q.tc, .int .i64 q.cap, .int .i64 q.bud, .int .i64 q.lad, .slice q.ca q.cn q.cc] 61) = W at S bc ⊢
        refine (C0.out _ S.out.bel).mono ?_
        rintro e1 w5 ⟨rfl, k5⟩
        have S := qs_next S k5
        clear k5 bc
        have bc := S.out.box.cell
        go_wp2_with fail
        refine (C1.out _ S.out.bel).mono ?_
        rintro e1 w5 ⟨rfl, k5⟩
        have S := qs_next S k5
        clear k5 bc
        have bc := S.out.box.cell
        go_wp2_with fail
        go_ret
        exact ⟨rfl, S.out.bel⟩
      · rw [if_neg (by decide)] at hr
        cases r2
        · rw [if_pos rfl] at hr
          subst hr
          have S := qs_in w q
          have bc := S.out.box.cell
          go_enter Tryz.func50, Tryz.ntmps50
          go_wp2_with fail
          generalize w.alloc (.cells #[.slice q.ra q.rn q.rc, .slice q.pa q.pn q.pc, .slice q.oa q.on q.oc, .slice q.sa q.sn q.sc, .int .i64 q.fl, .slice q.qa q.qn q.qc, .slice q.ta q.tn q.tc, .int .i64 q.cap, .int .i64 q.bud, .int .i64 q.lad, .slice q.ca q.cn q.cc] 61) = W at S bc ⊢
          refine (C0.out _ S.out.bel).mono ?_
          rintro e1 w5 ⟨rfl, k5⟩
          have S := qs_next S k5
          clear k5 bc
          have bc := S.out.box.cell
          go_wp2_with fail
          refine (C1.out _ S.out.bel).mono ?_
          rintro e1 w5 ⟨rfl, k5⟩
          have S := qs_next S k5
          clear k5 bc
          have bc := S.out.box.cell
          go_wp2_with fail
          refine (C2.out _ S.out.bel).mono ?_
          rintro e1 w5 ⟨rfl, k5⟩
          have S := qs_next S k5
          clear k5 bc
          have bc := S.out.box.cell
          go_wp2_with fail
          go_ret
          exact ⟨rfl, S.out.bel⟩
        · rw [if_neg (by decide)] at hr
          cases r3
          · rw [if_pos rfl] at hr
            subst hr
            have S := qs_in w q
            have bc := S.out.box.cell
            go_enter Tryz.func50, Tryz.ntmps50
            go_wp2_with fail
            generalize w.alloc (.cells #[.slice q.ra q.rn q.rc, .slice q.pa q.pn q.pc, .slice q.oa q.on q.oc, .slice q.sa q.sn q.sc, .int .i64 q.fl, .slice q.qa q.qn q.qc, .slice q.ta q.tn q.tc, .int .i64 q.cap, .int .i64 q.bud, .int .i64 q.lad, .slice q.ca q.cn q.cc] 61) = W at S bc ⊢
            refine (C0.out _ S.out.bel).mono ?_
            rintro e1 w5 ⟨rfl, k5⟩
            have S := qs_next S k5
            clear k5 bc
            have bc := S.out.box.cell
            go_wp2_with fail
            refine (C1.out _ S.out.bel).mono ?_
            rintro e1 w5 ⟨rfl, k5⟩
            have S := qs_next S k5
            clear k5 bc
            have bc := S.out.box.cell
            go_wp2_with fail
            refine (C2.out _ S.out.bel).mono ?_
            rintro e1 w5 ⟨rfl, k5⟩
            have S := qs_next S k5
            clear k5 bc
            have bc := S.out.box.cell
            go_wp2_with fail
            refine (C3.out _ S.out.bel).mono ?_
            rintro e1 w5 ⟨rfl, k5⟩
            have S := qs_next S k5
            clear k5 bc
            have bc := S.out.box.cell
            go_wp2_with fail
            go_ret
            exact ⟨rfl, S.out.bel⟩
          · rw [if_neg (by decide)] at hr
            cases r4
            · rw [Bool.false_and, Bool.false_and, Bool.false_and, Bool.false_and, if_pos rfl] at hr
              subst hr
              have S := qs_in w q
              have bc := S.out.box.cell
              go_enter Tryz.func50, Tryz.ntmps50
              go_wp2_with fail
              generalize w.alloc (.cells #[.slice q.ra q.rn q.rc, .slice q.pa q.pn q.pc, .slice q.oa q.on q.oc, .slice q.sa q.sn q.sc, .int .i64 q.fl, .slice q.qa q.qn q.qc, .slice q.ta q.tn q.tc, .int .i64 q.cap, .int .i64 q.bud, .int .i64 q.lad, .slice q.ca q.cn q.cc] 61) = W at S bc ⊢
              refine (C0.out _ S.out.bel).mono ?_
              rintro e1 w5 ⟨rfl, k5⟩
              have S := qs_next S k5
              clear k5 bc
              have bc := S.out.box.cell
              go_wp2_with fail
              refine (C1.out _ S.out.bel).mono ?_
              rintro e1 w5 ⟨rfl, k5⟩
              have S := qs_next S k5
              clear k5 bc
              have bc := S.out.box.cell
              go_wp2_with fail
              refine (C2.out _ S.out.bel).mono ?_
              rintro e1 w5 ⟨rfl, k5⟩
              have S := qs_next S k5
              clear k5 bc
              have bc := S.out.box.cell
              go_wp2_with fail
              refine (C3.out _ S.out.bel).mono ?_
              rintro e1 w5 ⟨rfl, k5⟩
              have S := qs_next S k5
              clear k5 bc
              have bc := S.out.box.cell
              go_wp2_with fail
              refine (C4.out _).mono ?_
              rintro e1 w5 ⟨rfl, e9⟩
              cases e9
              go_wp2_with fail
              go_ret
              exact ⟨rfl, S.out.bel⟩
            · cases r5
              · rw [Bool.true_and, Bool.false_and, Bool.false_and, Bool.false_and, if_pos rfl] at hr
                subst hr
                have S := qs_in w q
                have bc := S.out.box.cell
                go_enter Tryz.func50, Tryz.ntmps50
                go_wp2_with fail
                generalize w.alloc (.cells #[.slice q.ra q.rn q.rc, .slice q.pa q.pn q.pc, .slice q.oa q.on q.oc, .slice q.sa q.sn q.sc, .int .i64 q.fl, .slice q.qa q.qn q.qc, .slice q.ta q.tn q.tc, .int .i64 q.cap, .int .i64 q.bud, .int .i64 q.lad, .slice q.ca q.cn q.cc] 61) = W at S bc ⊢
                refine (C0.out _ S.out.bel).mono ?_
                rintro e1 w5 ⟨rfl, k5⟩
                have S := qs_next S k5
                clear k5 bc
                have bc := S.out.box.cell
                go_wp2_with fail
                refine (C1.out _ S.out.bel).mono ?_
                rintro e1 w5 ⟨rfl, k5⟩
                have S := qs_next S k5
                clear k5 bc
                have bc := S.out.box.cell
                go_wp2_with fail
                refine (C2.out _ S.out.bel).mono ?_
                rintro e1 w5 ⟨rfl, k5⟩
                have S := qs_next S k5
                clear k5 bc
                have bc := S.out.box.cell
                go_wp2_with fail
                refine (C3.out _ S.out.bel).mono ?_
                rintro e1 w5 ⟨rfl, k5⟩
                have S := qs_next S k5
                clear k5 bc
                have bc := S.out.box.cell
                go_wp2_with fail
                refine (C4.out _).mono ?_
                rintro e1 w5 ⟨rfl, e9⟩
                cases e9
                go_wp2_with fail
                refine (C5.out _).mono ?_
                rintro e1 w5 ⟨rfl, e9⟩
                cases e9
                go_wp2_with fail
                go_ret
                exact ⟨rfl, S.out.bel⟩
              · cases r6
                · rw [Bool.true_and, Bool.true_and, Bool.false_and, Bool.false_and, if_pos rfl] at hr
                  subst hr
                  have S := qs_in w q
                  have bc := S.out.box.cell
                  go_enter Tryz.func50, Tryz.ntmps50
                  go_wp2_with fail
                  generalize w.alloc (.cells #[.slice q.ra q.rn q.rc, .slice q.pa q.pn q.pc, .slice q.oa q.on q.oc, .slice q.sa q.sn q.sc, .int .i64 q.fl, .slice q.qa q.qn q.qc, .slice q.ta q.tn q.tc, .int .i64 q.cap, .int .i64 q.bud, .int .i64 q.lad, .slice q.ca q.cn q.cc] 61) = W at S bc ⊢
                  refine (C0.out _ S.out.bel).mono ?_
                  rintro e1 w5 ⟨rfl, k5⟩
                  have S := qs_next S k5
                  clear k5 bc
                  have bc := S.out.box.cell
                  go_wp2_with fail
                  refine (C1.out _ S.out.bel).mono ?_
                  rintro e1 w5 ⟨rfl, k5⟩
                  have S := qs_next S k5
                  clear k5 bc
                  have bc := S.out.box.cell
                  go_wp2_with fail
                  refine (C2.out _ S.out.bel).mono ?_
                  rintro e1 w5 ⟨rfl, k5⟩
                  have S := qs_next S k5
                  clear k5 bc
                  have bc := S.out.box.cell
                  go_wp2_with fail
                  refine (C3.out _ S.out.bel).mono ?_
                  rintro e1 w5 ⟨rfl, k5⟩
                  have S := qs_next S k5
                  clear k5 bc
                  have bc := S.out.box.cell
                  go_wp2_with fail
                  refine (C4.out _).mono ?_
                  rintro e1 w5 ⟨rfl, e9⟩
                  cases e9
                  go_wp2_with fail
                  refine (C5.out _).mono ?_
                  rintro e1 w5 ⟨rfl, e9⟩
                  cases e9
                  go_wp2_with fail
                  refine (C6.out _).mono ?_
                  rintro e1 w5 ⟨rfl, e9⟩
                  cases e9
                  go_wp2_with fail
                  go_ret
                  exact ⟨rfl, S.out.bel⟩
                · by_cases h5 : q.cn = 5
                  · have h5' : ((q.cn : Int) != 5) = false := by rw [bne_eq_false_iff_eq]; omega
                    rw [show decide (q.cn = 5) = true from by simpa using h5, Bool.true_and, Bool.true_and, Bool.true_and, Bool.true_and] at hr
                    clear h5
                    cases r7
                    · rw [if_pos rfl] at hr
                      subst hr
                      have S := qs_in w q
                      have bc := S.out.box.cell
                      go_enter Tryz.func50, Tryz.ntmps50
                      go_wp2_with fail
                      generalize w.alloc (.cells #[.slice q.ra q.rn q.rc, .slice q.pa q.pn q.pc, .slice q.oa q.on q.oc, .slice q.sa q.sn q.sc, .int .i64 q.fl, .slice q.qa q.qn q.qc, .slice q.ta q.tn q.tc, .int .i64 q.cap, .int .i64 q.bud, .int .i64 q.lad, .slice q.ca q.cn q.cc] 61) = W at S bc ⊢
                      refine (C0.out _ S.out.bel).mono ?_
                      rintro e1 w5 ⟨rfl, k5⟩
                      have S := qs_next S k5
                      clear k5 bc
                      have bc := S.out.box.cell
                      go_wp2_with fail
                      refine (C1.out _ S.out.bel).mono ?_
                      rintro e1 w5 ⟨rfl, k5⟩
                      have S := qs_next S k5
                      clear k5 bc
                      have bc := S.out.box.cell
                      go_wp2_with fail
                      refine (C2.out _ S.out.bel).mono ?_
                      rintro e1 w5 ⟨rfl, k5⟩
                      have S := qs_next S k5
                      clear k5 bc
                      have bc := S.out.box.cell
                      go_wp2_with fail
                      refine (C3.out _ S.out.bel).mono ?_
                      rintro e1 w5 ⟨rfl, k5⟩
                      have S := qs_next S k5
                      clear k5 bc
                      have bc := S.out.box.cell
                      go_wp2_with fail
                      refine (C4.out _).mono ?_
                      rintro e1 w5 ⟨rfl, e9⟩
                      cases e9
                      go_wp2_with fail
                      refine (C5.out _).mono ?_
                      rintro e1 w5 ⟨rfl, e9⟩
                      cases e9
                      go_wp2_with fail
                      refine (C6.out _).mono ?_
                      rintro e1 w5 ⟨rfl, e9⟩
                      cases e9
                      go_wp2_with fail
                      refine (C7.out _ S.out.bel).mono ?_
                      rintro e1 w5 ⟨rfl, k5⟩
                      have S := qs_next S k5
                      clear k5 bc
                      have bc := S.out.box.cell
                      go_wp2_with fail
                      go_ret
                      exact ⟨rfl, S.out.bel⟩
                    · rw [if_neg (by decide)] at hr
                      subst hr
                      have S := qs_in w q
                      have bc := S.out.box.cell
                      go_enter Tryz.func50, Tryz.ntmps50
                      go_wp2_with fail
                      generalize w.alloc (.cells #[.slice q.ra q.rn q.rc, .slice q.pa q.pn q.pc, .slice q.oa q.on q.oc, .slice q.sa q.sn q.sc, .int .i64 q.fl, .slice q.qa q.qn q.qc, .slice q.ta q.tn q.tc, .int .i64 q.cap, .int .i64 q.bud, .int .i64 q.lad, .slice q.ca q.cn q.cc] 61) = W at S bc ⊢
                      refine (C0.out _ S.out.bel).mono ?_
                      rintro e1 w5 ⟨rfl, k5⟩
                      have S := qs_next S k5
                      clear k5 bc
                      have bc := S.out.box.cell
                      go_wp2_with fail
                      refine (C1.out _ S.out.bel).mono ?_
                      rintro e1 w5 ⟨rfl, k5⟩
                      have S := qs_next S k5
                      clear k5 bc
                      have bc := S.out.box.cell
                      go_wp2_with fail
                      refine (C2.out _ S.out.bel).mono ?_
                      rintro e1 w5 ⟨rfl, k5⟩
                      have S := qs_next S k5
                      clear k5 bc
                      have bc := S.out.box.cell
                      go_wp2_with fail
                      refine (C3.out _ S.out.bel).mono ?_
                      rintro e1 w5 ⟨rfl, k5⟩
                      have S := qs_next S k5
                      clear k5 bc
                      have bc := S.out.box.cell
                      go_wp2_with fail
                      refine (C4.out _).mono ?_
                      rintro e1 w5 ⟨rfl, e9⟩
                      cases e9
                      go_wp2_with fail
                      refine (C5.out _).mono ?_
                      rintro e1 w5 ⟨rfl, e9⟩
                      cases e9
                      go_wp2_with fail
                      refine (C6.out _).mono ?_
                      rintro e1 w5 ⟨rfl, e9⟩
                      cases e9
                      go_wp2_with fail
                      refine (C7.out _ S.out.bel).mono ?_
                      rintro e1 w5 ⟨rfl, k5⟩
                      have S := qs_next S k5
                      clear k5 bc
                      have bc := S.out.box.cell
                      go_wp2_with fail
                      go_ret
                      exact ⟨rfl, S.out.bel⟩
                  · have h5' : ((q.cn : Int) != 5) = true := by rw [bne_iff_ne]; omega
                    rw [show decide (q.cn = 5) = false from by simpa using h5, Bool.true_and, Bool.true_and, Bool.true_and, Bool.false_and, if_pos rfl] at hr
                    clear h5
                    subst hr
                    have S := qs_in w q
                    have bc := S.out.box.cell
                    go_enter Tryz.func50, Tryz.ntmps50
                    go_wp2_with fail
                    generalize w.alloc (.cells #[.slice q.ra q.rn q.rc, .slice q.pa q.pn q.pc, .slice q.oa q.on q.oc, .slice q.sa q.sn q.sc, .int .i64 q.fl, .slice q.qa q.qn q.qc, .slice q.ta q.tn q.tc, .int .i64 q.cap, .int .i64 q.bud, .int .i64 q.lad, .slice q.ca q.cn q.cc] 61) = W at S bc ⊢
                    refine (C0.out _ S.out.bel).mono ?_
                    rintro e1 w5 ⟨rfl, k5⟩
                    have S := qs_next S k5
                    clear k5 bc
                    have bc := S.out.box.cell
                    go_wp2_with fail
                    refine (C1.out _ S.out.bel).mono ?_
                    rintro e1 w5 ⟨rfl, k5⟩
                    have S := qs_next S k5
                    clear k5 bc
                    have bc := S.out.box.cell
                    go_wp2_with fail
                    refine (C2.out _ S.out.bel).mono ?_
                    rintro e1 w5 ⟨rfl, k5⟩
                    have S := qs_next S k5
                    clear k5 bc
                    have bc := S.out.box.cell
                    go_wp2_with fail
                    refine (C3.out _ S.out.bel).mono ?_
                    rintro e1 w5 ⟨rfl, k5⟩
                    have S := qs_next S k5
                    clear k5 bc
                    have bc := S.out.box.cell
                    go_wp2_with fail
                    refine (C4.out _).mono ?_
                    rintro e1 w5 ⟨rfl, e9⟩
                    cases e9
                    go_wp2_with fail
                    refine (C5.out _).mono ?_
                    rintro e1 w5 ⟨rfl, e9⟩
                    cases e9
                    go_wp2_with fail
                    refine (C6.out _).mono ?_
                    rintro e1 w5 ⟨rfl, e9⟩
                    cases e9
                    go_wp2_with fail
                    go_ret
                    exact ⟨rfl, S.out.bel⟩
end Go.Proofs.YtlafeijkpnpdeaaGreat.Vpb

/- The reference of valid: objects. -/
namespace Go.Proofs.YtlafeijkpnpdeaaGreat.Vpr
open Go.RowKit Base Kit Conf Conf2 PowA PowB Vfa Vfb Val Vld Vpa
set_option linter.unusedVariables false
set_option linter.unusedSimpArgs false
theorem all_bad {P : Nat → Bool} {n m k : Nat} (hk : k < n) (h : P k = false) : allB P n m = false := by
  unfold allB
  rw [Bool.and_eq_false_iff, decide_eq_false_iff_not, decide_eq_false_iff_not]
  right
  intro e
  have := fb_iff.1 e k hk
  rw [h] at this; cases this
theorem all_good {P : Nat → Bool} {n m : Nat} (hn : n ≤ m) (h : ∀ k, k < n → P k = true) : allB P n m = true := by
  unfold allB
  rw [Bool.and_eq_true, decide_eq_true_iff, decide_eq_true_iff]
  exact ⟨hn, fb_iff.2 h⟩
theorem all_many {P : Nat → Bool} {n m : Nat} (hn : ¬ n ≤ m) : allB P n m = false := by
  unfold allB
  rw [Bool.and_eq_false_iff, decide_eq_false_iff_not]
  exact .inl hn
set_option maxRecDepth 100000 in
set_option maxHeartbeats 4000000 in
theorem objectsr_any (q : PartC) (w : World) (ok : q.Ok w) (r : Bool) (hr : Hid (objB q = r)) :
    Calls Tryz.prog 67 #[.agg #[.slice q.ra q.rn q.rc, .slice q.pa q.pn q.pc, .slice q.oa q.on q.oc, .slice q.sa q.sn q.sc, .int .i64 q.fl, .slice q.qa q.qn q.qc, .slice q.ta q.tn q.tc, .int .i64 q.cap, .int .i64 q.bud, .int .i64 q.lad, .slice q.ca q.cn q.cc]] w fun e w' => e = .returned (.bool r) ∧ Below w.heap.size w w' := by
  have R0 := ri2 ok.sem
  have R1 := ri2 ok.pool
  have R2 := ri1 ok.slate
  have h0 := ok.sem.out.1
  have h1 := ok.pool.out.1
  have h2 := ok.slate.out.1
  have hr := hr.out
  unfold objB at hr
  obtain ⟨rf, ef⟩ : ∃ z, inB q.fl 0 8 = z := ⟨_, rfl⟩
  rw [ef] at hr
  have C := Lib.hid (fun w => outr_any q.fl 0 8 rf w (Lib.hid ef))
  clear ef
  have S := qs_in w q
  have bc := S.out.box.cell
  by_cases n0 : q.sn ≤ 4
  rotate_left
  · rw [show semsB q = false from all_many n0, Bool.false_and, Bool.false_and, Bool.false_and] at hr
    subst hr
    have n0 : 4 < q.sn := by omega
    go_enter Tryz.func67, Tryz.ntmps67
    go_wp2_with fail
    go_ret
    exact ⟨rfl, S.out.bel⟩
  by_cases n1 : q.qn ≤ 4
  rotate_left
  · rw [show poolsB q = false from all_many n1, Bool.and_false, Bool.false_and] at hr
    subst hr
    have n1 : 4 < q.qn := by omega
    go_enter Tryz.func67, Tryz.ntmps67
    go_wp2_with fail
    go_ret
    exact ⟨rfl, S.out.bel⟩
  by_cases n2 : q.tn ≤ 4
  rotate_left
  · rw [show slatesB q = false from all_many n2, Bool.and_false] at hr
    subst hr
    have n2 : 4 < q.tn := by omega
    go_enter Tryz.func67, Tryz.ntmps67
    go_wp2_with fail
    go_ret
    exact ⟨rfl, S.out.bel⟩
  cases rf
  · rw [Bool.and_false, Bool.false_and, Bool.false_and] at hr
    subst hr
    go_enter Tryz.func67, Tryz.ntmps67
    go_wp2_with fail
    generalize w.alloc (.cells #[.slice q.ra q.rn q.rc, .slice q.pa q.pn q.pc, .slice q.oa q.on q.oc, .slice q.sa q.sn q.sc, .int .i64 q.fl, .slice q.qa q.qn q.qc, .slice q.ta q.tn q.tc, .int .i64 q.cap, .int .i64 q.bud, .int .i64 q.lad, .slice q.ca q.cn q.cc] 61) = W at S bc ⊢
    refine (C.out _).mono ?_
    rintro e1 w5 ⟨rfl, e9⟩
    cases e9
    go_wp2_with fail
    go_ret
    exact ⟨rfl, S.out.bel⟩
  · rw [Bool.and_true] at hr
    have HR := Lib.hid hr
    clear hr
    go_enter Tryz.func67, Tryz.ntmps67
    go_wp2_with fail
    generalize w.alloc (.cells #[.slice q.ra q.rn q.rc, .slice q.pa q.pn q.pc, .slice q.oa q.on q.oc, .slice q.sa q.sn q.sc, .int .i64 q.fl, .slice q.qa q.qn q.qc, .slice q.ta q.tn q.tc, .int .i64 q.cap, .int .i64 q.bud, .int .i64 q.lad, .slice q.ca q.cn q.cc] 61) = W at S bc ⊢
    refine (C.out _).mono ?_
    rintro e1 w5 ⟨rfl, e9⟩
    cases e9
    go_wp2_with fail
    have HB0 : Hid (Qs w W q) := S
    clear S
    go_loopw [3] (fun i wr => ∃ k : Nat, k ≤ q.sn ∧ i = .int .i64 k ∧ Hid (∀ j, j < k → semB (q.sf j 0) (q.sf j 1) = true) ∧ Hid (Qs w wr q)) (fun i _ => q.sn - (intOf i).toNat)
    case atStart => exact ⟨0, Nat.zero_le _, rfl, Lib.hid (fun j hj => by omega), HB0⟩
    case round =>
      clear HB0 bc
      obtain ⟨k, hk, rfl, HL, Sr⟩ := hrel
      have bc := Sr.out.box.cell
      by_cases hl : k < q.sn
      · obtain ⟨b, off, ea, hbl, c0, c1⟩ := R0.out k hl
        replace c0 := keep Sr.out.bel c0 hbl
        replace c1 := keep Sr.out.bel c1 hbl
        rw [ea] at bc
        clear ea
        have C2 : Hid (wr.cell? ⟨w.heap.size, 3, none⟩ = some (.slice (some ⟨b, off, none⟩) q.sn q.sc)) := Lib.hid (bc 3)
        obtain ⟨v, hv⟩ : ∃ v, semB (q.sf k 0) (q.sf k 1) = v := ⟨_, rfl⟩
        have HV := Lib.hid hv
        unfold semB at hv
        have HR0 := Lib.hid (fun (h : semB (q.sf k 0) (q.sf k 1) = false) => show r = false from by rw [← HR.out, show semsB q = false from all_bad hl h, Bool.false_and, Bool.false_and])
        have HX := Lib.hid (fun (h : semB (q.sf k 0) (q.sf k 1) = true) => show ∀ j, j < k + 1 → semB (q.sf j 0) (q.sf j 1) = true from fun j hj => if e : j = k then by rw [e]; exact h else HL.out j (by omega))
        generalize q.sf k 0 = x0 at *
        generalize q.sf k 1 = x1 at *
        obtain ⟨u0, d0⟩ : ∃ z, inB x1 1 1000 = z := ⟨_, rfl⟩
        obtain ⟨u1, d1⟩ : ∃ z, inB x0 0 x1 = z := ⟨_, rfl⟩
        rw [d0, d1] at hv
        have D0 := fun w => outr_any x1 1 1000 u0 w (Lib.hid d0)
        have D1 := fun w => outr_any x0 0 x1 u1 w (Lib.hid d1)
        clear hbl hk d0 d1
        cases u0
        · rw [Bool.false_and] at hv
          subst hv
          obtain rfl := HR0.out HV.out
          simp only [Bool.not_true, Bool.not_false] at D0 D1
          have D0 := Lib.hid D0
          have D1 := Lib.hid D1
          go_wp2_with fail
          go_quiet (first
            | (go_at_call_of 39 (Value.int IntKind.i64 1000); exact Calls.quiet_of_same ((D0.out _).mono (fun e w' h => ⟨h.1, h.2.symm⟩)))
            | (go_at_call_of 39 (Value.int IntKind.i64 0); exact Calls.quiet_of_same ((D1.out _).mono (fun e w' h => ⟨h.1, h.2.symm⟩))))
          go_wp2_with fail
          go_ret
          exact ⟨rfl, below_drewN' Sr.out.bel _⟩
        · rw [Bool.true_and] at hv
          cases u1
          · subst hv
            obtain rfl := HR0.out HV.out
            simp only [Bool.not_true, Bool.not_false] at D0 D1
            have D0 := Lib.hid D0
            have D1 := Lib.hid D1
            go_wp2_with fail
            go_quiet (first
              | (go_at_call_of 39 (Value.int IntKind.i64 1000); exact Calls.quiet_of_same ((D0.out _).mono (fun e w' h => ⟨h.1, h.2.symm⟩)))
              | (go_at_call_of 39 (Value.int IntKind.i64 0); exact Calls.quiet_of_same ((D1.out _).mono (fun e w' h => ⟨h.1, h.2.symm⟩))))
            go_wp2_with fail
            go_ret
            exact ⟨rfl, below_drewN' Sr.out.bel _⟩
          · subst hv
            simp only [Bool.not_true, Bool.not_false] at D0 D1
            have D0 := Lib.hid D0
            have D1 := Lib.hid D1
            go_wp2_with fail
            go_quiet (first
              | (go_at_call_of 39 (Value.int IntKind.i64 1000); exact Calls.quiet_of_same ((D0.out _).mono (fun e w' h => ⟨h.1, h.2.symm⟩)))
              | (go_at_call_of 39 (Value.int IntKind.i64 0); exact Calls.quiet_of_same ((D1.out _).mono (fun e w' h => ⟨h.1, h.2.symm⟩))))
            go_wp2_with fail
            go_roundw
            case rel => exact ⟨k + 1, by omega, by go_num, Lib.hid (HX.out HV.out), Lib.hid ⟨below_drewN' Sr.out.bel _, Sr.out.box.drewN _⟩⟩
            case measure => simp [intOf]; omega
      · obtain rfl : k = q.sn := by omega
        have HS := Lib.hid (show semsB q = true from all_good n0 HL.out)
        clear HL hl hk
        have HB0 := Sr
        go_wp2_with fail
        go_loopw [4] (fun i wr => ∃ k : Nat, k ≤ q.qn ∧ i = .int .i64 k ∧ Hid (∀ j, j < k → poolB (q.qf j 0) (q.qf j 1) = true) ∧ Hid (Qs w wr q)) (fun i _ => q.qn - (intOf i).toNat)
        case atStart => exact ⟨0, Nat.zero_le _, rfl, Lib.hid (fun j hj => by omega), HB0⟩
        case round =>
          clear HB0 bc Sr
          obtain ⟨k, hk, rfl, HL, Sr⟩ := hrel
          have bc := Sr.out.box.cell
          by_cases hl : k < q.qn
          · obtain ⟨b, off, ea, hbl, c0, c1⟩ := R1.out k hl
            have c0 := keep Sr.out.bel c0 hbl
            have c1 := keep Sr.out.bel c1 hbl
            rw [ea] at bc
            clear ea
            obtain ⟨v, hv⟩ : ∃ v, poolB (q.qf k 0) (q.qf k 1) = v := ⟨_, rfl⟩
            have HV := Lib.hid hv
            unfold poolB at hv
            have HR0 := Lib.hid (fun (h : poolB (q.qf k 0) (q.qf k 1) = false) => show r = false from by rw [← HR.out, show poolsB q = false from all_bad hl h, Bool.and_false, Bool.false_and])
            have HX := Lib.hid (fun (h : poolB (q.qf k 0) (q.qf k 1) = true) => show ∀ j, j < k + 1 → poolB (q.qf j 0) (q.qf j 1) = true from fun j hj => if e : j = k then by rw [e]; exact h else HL.out j (by omega))
            generalize q.qf k 0 = x0 at *
            generalize q.qf k 1 = x1 at *
            obtain ⟨u0, d0⟩ : ∃ z, inB x0 1 64 = z := ⟨_, rfl⟩
            obtain ⟨u1, d1⟩ : ∃ z, inB x1 1 16 = z := ⟨_, rfl⟩
            rw [d0, d1] at hv
            have D0 := Lib.hid (fun w => outr_any x0 1 64 u0 w (Lib.hid d0))
            have D1 := Lib.hid (fun w => outr_any x1 1 16 u1 w (Lib.hid d1))
            clear d0 d1
            cases u0
            · rw [Bool.false_and] at hv
              subst hv
              obtain rfl := HR0.out HV.out
              go_wp2_with fail
              refine (D0.out _).mono ?_
              rintro e1 w5 ⟨rfl, e9⟩
              cases e9
              go_wp2_with fail
              go_ret
              exact ⟨rfl, Sr.out.bel⟩
            · rw [Bool.true_and] at hv
              cases u1
              · subst hv
                obtain rfl := HR0.out HV.out
                go_wp2_with fail
                refine (D0.out _).mono ?_
                rintro e1 w5 ⟨rfl, e9⟩
                cases e9
                go_wp2_with fail
                refine (D1.out _).mono ?_
                rintro e1 w5 ⟨rfl, e9⟩
                cases e9
                go_wp2_with fail
                go_ret
                exact ⟨rfl, Sr.out.bel⟩
              · subst hv
                go_wp2_with fail
                refine (D0.out _).mono ?_
                rintro e1 w5 ⟨rfl, e9⟩
                cases e9
                go_wp2_with fail
                refine (D1.out _).mono ?_
                rintro e1 w5 ⟨rfl, e9⟩
                cases e9
                go_wp2_with fail
                go_roundw
                case rel => exact ⟨k + 1, by omega, by go_num, Lib.hid (HX.out HV.out), Sr⟩
                case measure => simp [intOf]; omega
          · obtain rfl : k = q.qn := by omega
            have HP := Lib.hid (show poolsB q = true from all_good n1 HL.out)
            clear HL hl hk
            have HB0 := Sr
            go_wp2_with fail
            go_loopw [5] (fun i wr => ∃ k : Nat, k ≤ q.tn ∧ i = .int .i64 k ∧ Hid (∀ j, j < k → slateB (q.tf j) = true) ∧ Hid (Qs w wr q)) (fun i _ => q.tn - (intOf i).toNat)
            case atStart => exact ⟨0, Nat.zero_le _, rfl, Lib.hid (fun j hj => by omega), HB0⟩
            case round =>
              clear HB0 bc Sr
              obtain ⟨k, hk, rfl, HL, Sr⟩ := hrel
              have bc := Sr.out.box.cell
              by_cases hl : k < q.tn
              · obtain ⟨b, off, ea, hbl, c0⟩ := R2.out k hl
                have c0 := keep Sr.out.bel c0 hbl
                rw [ea] at bc
                clear ea
                obtain ⟨u0, d0⟩ : ∃ z, slateB (q.tf k) = z := ⟨_, rfl⟩
                have HV := Lib.hid d0
                have HR0 := Lib.hid (fun (h : slateB (q.tf k) = false) => show r = false from by rw [← HR.out, show slatesB q = false from all_bad hl h, Bool.and_false])
                have D0 := Lib.hid (fun w => outr_any (q.tf k) 1 64 u0 w (Lib.hid d0))
                clear d0
                have HX := Lib.hid (fun (h : slateB (q.tf k) = true) => show ∀ j, j < k + 1 → slateB (q.tf j) = true from fun j hj => if e : j = k then by rw [e]; exact h else HL.out j (by omega))
                generalize q.tf k = x0 at *
                cases u0
                · obtain rfl := HR0.out HV.out
                  go_wp2_with fail
                  refine (D0.out _).mono ?_
                  rintro e1 w5 ⟨rfl, e9⟩
                  cases e9
                  go_wp2_with fail
                  go_ret
                  exact ⟨rfl, Sr.out.bel⟩
                · go_wp2_with fail
                  refine (D0.out _).mono ?_
                  rintro e1 w5 ⟨rfl, e9⟩
                  cases e9
                  go_wp2_with fail
                  go_roundw
                  case rel => exact ⟨k + 1, by omega, by go_num, Lib.hid (HX.out HV.out), Sr⟩
                  case measure => simp [intOf]; omega
              · obtain rfl : k = q.tn := by omega
                have e := HR.out
                rw [HS.out, HP.out, show slatesB q = true from all_good n2 HL.out] at e
                subst e
                go_wp2_with fail
                go_ret
                exact ⟨rfl, Sr.out.bel⟩
end Go.Proofs.YtlafeijkpnpdeaaGreat.Vpr
