/- The law ValidChecks. -/
import Derived.Test.YtgkahcchekiogaaVwk
import Derived.Test.YtgkahcchekiogaaVkr
namespace Go.Proofs.Ytgkahcchekiogaa.Vl2
open Go.RowKit Base Kit Conf Conf2 PowA PowB Vfa Vfb Val Vld Vpa Vpb Vpr Vps Vsh Vsr Short Vcf Vch Vci Vnu Vmo Vck Vpl Vwk Vkr
set_option linter.unusedVariables false
set_option linter.unusedSimpArgs false
set_option maxRecDepth 100000 in
set_option maxHeartbeats 4000000 in
theorem checks_law (c : ConfC) (w : World) (ok : c.Ok w) : Calls Try.prog 5 #[.agg #[.slice c.pa c.pn c.pc, .slice c.ca c.cn c.cc, .slice c.ma c.mn c.mc, .slice c.w.la c.w.ln c.w.lc, .slice c.w.na c.w.nn c.w.nc, .int .i64 c.w.sw, .int .i64 c.w.id, .int .i64 c.w.ch, .int .i64 c.w.qu, .int .i64 c.w.sl, .int .i64 c.w.pp, .slice c.da c.dn c.dc, .slice c.ua c.un c.uc]] w fun e w' => e = .returned (.bool true) ∧ Below w.heap.size w w' := by
  have OK := Lib.hid (fun w' (h : Below w.heap.size w w') => ok.below h (Nat.le_refl _))
  have CS := Lib.hid (fun w' (h : c.Ok w') => short_any c w' h)
  have CW := Lib.hid (fun w' => works_any w')
  obtain ⟨⟨q0, t0⟩, g0⟩ : ∃ z, CheckR c = z := ⟨_, rfl⟩
  have C1 := Lib.hid (fun w' (h : c.Ok w') => Check_any c q0 t0 w' h (Lib.hid g0))
  have C2 := Lib.hid (fun w' (h : c.Ok w') => Checkr_any c q0 t0 w' h (Lib.hid g0))
  clear g0
  have S := cs_in w c
  have bc := S.out.box.cell
  go_enter Try.func5, Try.ntmps5
  go_wp2_with fail
  generalize w.alloc (.cells #[.slice c.pa c.pn c.pc, .slice c.ca c.cn c.cc, .slice c.ma c.mn c.mc, .slice c.w.la c.w.ln c.w.lc, .slice c.w.na c.w.nn c.w.nc, .int .i64 c.w.sw, .int .i64 c.w.id, .int .i64 c.w.ch, .int .i64 c.w.qu, .int .i64 c.w.sl, .int .i64 c.w.pp, .slice c.da c.dn c.dc, .slice c.ua c.un c.uc] 59) = W at *
  refine (CS.out _ (OK.out _ S.out.bel)).mono ?_
  rintro e1 w5 ⟨b, hb, rfl, k5⟩
  have S := cs_next S k5
  clear k5 bc
  have bc := S.out.box.cell
  cases b
  · clear hb
    go_wp2_with fail
    refine (CW.out _).mono ?_
    rintro e1 w5 ⟨rfl, k5⟩
    have S := cs_next S k5
    clear k5 bc
    have bc := S.out.box.cell
    go_wp2_with fail
    go_ret
    exact ⟨rfl, S.out.bel⟩
  clear hb
  go_wp2_with fail
  refine (C1.out _ (OK.out _ S.out.bel)).mono ?_
  rintro e1 w5 ⟨rfl, k5⟩
  have S := cs_next S k5
  clear k5 bc
  have bc := S.out.box.cell
  go_wp2_with fail
  refine (C2.out _ (OK.out _ S.out.bel)).mono ?_
  rintro e1 w5 ⟨rfl, k5⟩
  have S := cs_next S k5
  clear k5 bc
  have bc := S.out.box.cell
  go_wp2_with fail
  refine (CW.out _).mono ?_
  rintro e1 w5 ⟨rfl, k5⟩
  have S := cs_next S k5
  clear k5 bc
  have bc := S.out.box.cell
  go_wp2_with fail
  go_ret
  exact ⟨rfl, S.out.bel⟩
end Go.Proofs.Ytgkahcchekiogaa.Vl2
