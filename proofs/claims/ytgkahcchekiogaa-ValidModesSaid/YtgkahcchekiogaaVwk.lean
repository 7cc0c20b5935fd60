/- The laws of valid: works. -/
import Derived.Test.YtgkahcchekiogaaVpl
namespace Go.Proofs.Ytgkahcchekiogaa.Vwk
open Go.RowKit Base Kit Conf Conf2 PowA PowB Vfa Vfb Val Vld Vpa Vpb Vpr Vsh Short Vcf Vch Vci Vnu Vmo Vck Vpl
set_option linter.unusedVariables false
set_option linter.unusedSimpArgs false
set_option maxRecDepth 100000 in
set_option maxHeartbeats 4000000 in
theorem works_any (w : World) : Calls Try.prog 29 #[] w fun e w' => e = .returned (.bool true) ∧ Below w.heap.size w w' := by
  go_enter Try.func29, Try.ntmps29
  go_wp2_with fail
  refine (plain_any _).mono ?_
  rintro e1 w5 ⟨n, c, hc, rfl, ok, k5⟩
  have C1 := Lib.hid (fun w ok => Check_any c 0 0 w ok (Lib.hid (by rw [hc]; exact pl_check n)))
  have C2 := Lib.hid (fun w (ok : c.Ok w) => Check_any { c with pa := none, pn := 0, pc := 0 } 20 0 w ⟨Lib.hid rowsV_none, fun i hi => absurd hi (Nat.not_lt_zero i), ok.chans, ok.modes, ok.mode, ok.pow, ok.down, ok.up, ok.cap⟩ (Lib.hid (by rw [hc]; exact no_check n)))
  dsimp only at C2
  have OK := Lib.hid (fun w' (h : Below w5.heap.size w5 w') => ok.below h (Nat.le_refl _))
  have HB := Lib.hid k5
  have HW := k5.size
  clear hc ok k5
  have X := Lib.hid (Box.new w5 #[.slice c.pa c.pn c.pc, .slice c.ca c.cn c.cc, .slice c.ma c.mn c.mc, .slice c.w.la c.w.ln c.w.lc, .slice c.w.na c.w.nn c.w.nc, .int .i64 c.w.sw, .int .i64 c.w.id, .int .i64 c.w.ch, .int .i64 c.w.qu, .int .i64 c.w.sl, .int .i64 c.w.pp, .slice c.da c.dn c.dc, .slice c.ua c.un c.uc] 59)
  have H5 := Lib.hid ((Below.refl w5.heap.size w5).alloc (Nat.le_refl _) (.cells #[.slice c.pa c.pn c.pc, .slice c.ca c.cn c.cc, .slice c.ma c.mn c.mc, .slice c.w.la c.w.ln c.w.lc, .slice c.w.na c.w.nn c.w.nc, .int .i64 c.w.sw, .int .i64 c.w.id, .int .i64 c.w.ch, .int .i64 c.w.qu, .int .i64 c.w.sl, .int .i64 c.w.pp, .slice c.da c.dn c.dc, .slice c.ua c.un c.uc] 59))
  have HB := Lib.hid (HB.out.trans (H5.out.mono HB.out.size))
  go_wp2_with fail
  refine (C1.out _ (OK.out _ H5.out)).mono ?_
  rintro e1 w6 ⟨rfl, k6⟩
  have X := Lib.hid (X.out.next k6)
  have HB := below_hid HB k6
  have H5 := below_hid H5 k6
  clear k6
  have H6 := Lib.hid (H5.out.setCell (p := ⟨w5.heap.size, 0, none⟩) (Nat.le_refl _) (.slice none 0 0))
  have xc := X.out.cell
  have xf := X.out.frozen
  go_wp2_with fail
  refine (C2.out _ (OK.out _ H6.out)).mono ?_
  rintro e1 w7 ⟨rfl, k6⟩
  replace k6 := Lib.hid k6
  go_wp2_with fail
  go_ret
  exact ⟨rfl, below_next (HB.out.setCell (by simp; omega) _) k6.out⟩
end Go.Proofs.Ytgkahcchekiogaa.Vwk
