/- The reference of valid: is. -/
import Derived.Test.YtgkahcchekiogaaVci
namespace Go.Proofs.Ytgkahcchekiogaa.Vis
open Go.RowKit Base Kit Conf Conf2 PowA PowB Vfa Vfb Val Vld Vpa Vpr Short Vcf Vch Vci
set_option linter.unusedVariables false
set_option linter.unusedSimpArgs false
set_option maxRecDepth 100000 in
set_option maxHeartbeats 2000000 in
theorem is_any (c : ConfC) (p q : Int) (g : Bool) (w : World) (ok : c.Ok w) (ip : I64 p) (iq : I64 q) (hg : Hid ((findR c p q).1 = g)) :
    Calls Try.prog 97 #[.agg #[.slice c.pa c.pn c.pc, .slice c.ca c.cn c.cc, .slice c.ma c.mn c.mc, .slice c.w.la c.w.ln c.w.lc, .slice c.w.na c.w.nn c.w.nc, .int .i64 c.w.sw, .int .i64 c.w.id, .int .i64 c.w.ch, .int .i64 c.w.qu, .int .i64 c.w.sl, .int .i64 c.w.pp, .slice c.da c.dn c.dc, .slice c.ua c.un c.uc], .agg #[.int .i64 p, .int .i64 q]] w fun e w' => e = .returned (.bool g) ∧ Below w.heap.size w w' := by
  have h1 := ok.parts.out.1
  obtain ⟨ip0, ip1⟩ := ip
  obtain ⟨iq0, iq1⟩ := iq
  have hg := hg.out
  replace hg : isE c p q = g := by
    rw [← hg]; unfold findR
    cases h : isE c p q
    · rfl
    · rfl
  unfold isE at hg
  by_cases p0 : p < 0
  · obtain rfl : g = false := by rw [← hg, show inB p 0 ((c.pn : Int) - 1) = false from inB_not.2 (by omega)]; rfl
    clear hg
    have g0 : decide (0 ≤ p) = false := decide_eq_false (by omega)
    have S := cs_in w c
    go_enter Try.func97, Try.ntmps97
    go_wp2_with fail
    have S := cs_alloc S (.cells #[.int .i64 p, .int .i64 q] 151)
    have bc := S.out.box.cell
    have xc := (box_new1 w (.cells #[.slice c.pa c.pn c.pc, .slice c.ca c.cn c.cc, .slice c.ma c.mn c.mc, .slice c.w.la c.w.ln c.w.lc, .slice c.w.na c.w.nn c.w.nc, .int .i64 c.w.sw, .int .i64 c.w.id, .int .i64 c.w.ch, .int .i64 c.w.qu, .int .i64 c.w.sl, .int .i64 c.w.pp, .slice c.da c.dn c.dc, .slice c.ua c.un c.uc] 59) #[.int .i64 p, .int .i64 q] 151).cell
    generalize (w.alloc (.cells #[.slice c.pa c.pn c.pc, .slice c.ca c.cn c.cc, .slice c.ma c.mn c.mc, .slice c.w.la c.w.ln c.w.lc, .slice c.w.na c.w.nn c.w.nc, .int .i64 c.w.sw, .int .i64 c.w.id, .int .i64 c.w.ch, .int .i64 c.w.qu, .int .i64 c.w.sl, .int .i64 c.w.pp, .slice c.da c.dn c.dc, .slice c.ua c.un c.uc] 59)).alloc (.cells #[.int .i64 p, .int .i64 q] 151) = W at *
    go_quiet (fail)
    go_wp2_with fail
    go_ret
    exact ⟨rfl, below_drewN' S.out.bel _⟩
  by_cases p1 : (c.pn : Int) ≤ p
  · obtain rfl : g = false := by rw [← hg, show inB p 0 ((c.pn : Int) - 1) = false from inB_not.2 (by omega)]; rfl
    clear hg
    replace p0 : 0 ≤ p := by omega
    have g0 : decide (0 ≤ p) = true := decide_eq_true (by omega)
    have g1 : decide (p < (c.pn : Int)) = false := decide_eq_false (by omega)
    have S := cs_in w c
    go_enter Try.func97, Try.ntmps97
    go_wp2_with fail
    have S := cs_alloc S (.cells #[.int .i64 p, .int .i64 q] 151)
    have bc := S.out.box.cell
    have xc := (box_new1 w (.cells #[.slice c.pa c.pn c.pc, .slice c.ca c.cn c.cc, .slice c.ma c.mn c.mc, .slice c.w.la c.w.ln c.w.lc, .slice c.w.na c.w.nn c.w.nc, .int .i64 c.w.sw, .int .i64 c.w.id, .int .i64 c.w.ch, .int .i64 c.w.qu, .int .i64 c.w.sl, .int .i64 c.w.pp, .slice c.da c.dn c.dc, .slice c.ua c.un c.uc] 59) #[.int .i64 p, .int .i64 q] 151).cell
    generalize (w.alloc (.cells #[.slice c.pa c.pn c.pc, .slice c.ca c.cn c.cc, .slice c.ma c.mn c.mc, .slice c.w.la c.w.ln c.w.lc, .slice c.w.na c.w.nn c.w.nc, .int .i64 c.w.sw, .int .i64 c.w.id, .int .i64 c.w.ch, .int .i64 c.w.qu, .int .i64 c.w.sl, .int .i64 c.w.pp, .slice c.da c.dn c.dc, .slice c.ua c.un c.uc] 59)).alloc (.cells #[.int .i64 p, .int .i64 q] 151) = W at *
    go_quiet (fail)
    go_wp2_with fail
    go_ret
    exact ⟨rfl, below_drewN' S.out.bel _⟩
  rw [show inB p 0 ((c.pn : Int) - 1) = true from inB_iff.2 (by omega), Bool.true_and] at hg
  replace p0 : 0 ≤ p := by omega
  replace p1 : p < (c.pn : Int) := by omega
  have hk : p.toNat < c.pn := by omega
  have g0 : decide (0 ≤ p) = true := decide_eq_true (by omega)
  have g1 : decide (p < (c.pn : Int)) = true := decide_eq_true (by omega)
  obtain ⟨b, off, ea, hlt, u2⟩ : ∃ b off, c.pa = some ⟨b, off, none⟩ ∧ b < w.heap.size ∧ w.cell? ⟨b, off + p.toNat * 11 + 2, none⟩ = some (.slice (c.p p.toNat).oa (c.p p.toNat).on (c.p p.toNat).oc) := by
    obtain ⟨b, off, ea, hlt, _, _, u2, _, _, _, _, _, _, _, _⟩ := part_at ok.parts p.toNat hk
    exact ⟨b, off, ea, hlt, u2⟩
  replace ea := Lib.hid ea
  have h2 := (ok.part p.toNat hk).port.out.1
  generalize c.p p.toNat = P at *
  have HB := Lib.hid (((Below.refl w.heap.size w).alloc (Nat.le_refl _) (.cells #[.slice c.pa c.pn c.pc, .slice c.ca c.cn c.cc, .slice c.ma c.mn c.mc, .slice c.w.la c.w.ln c.w.lc, .slice c.w.na c.w.nn c.w.nc, .int .i64 c.w.sw, .int .i64 c.w.id, .int .i64 c.w.ch, .int .i64 c.w.qu, .int .i64 c.w.sl, .int .i64 c.w.pp, .slice c.da c.dn c.dc, .slice c.ua c.un c.uc] 59)).alloc (by simp) (.cells #[.int .i64 p, .int .i64 q] 151))
  replace u2 := keep HB.out u2 hlt
  clear HB
  by_cases q0 : q < 0
  · obtain rfl : g = false := by rw [← hg, inB_not]; omega
    clear hg
    have g2 : decide (0 ≤ q) = false := decide_eq_false (by omega)
    have S := cs_in w c
    go_enter Try.func97, Try.ntmps97
    go_wp2_with fail
    have S := cs_alloc S (.cells #[.int .i64 p, .int .i64 q] 151)
    have bc := S.out.box.cell
    have xc := (box_new1 w (.cells #[.slice c.pa c.pn c.pc, .slice c.ca c.cn c.cc, .slice c.ma c.mn c.mc, .slice c.w.la c.w.ln c.w.lc, .slice c.w.na c.w.nn c.w.nc, .int .i64 c.w.sw, .int .i64 c.w.id, .int .i64 c.w.ch, .int .i64 c.w.qu, .int .i64 c.w.sl, .int .i64 c.w.pp, .slice c.da c.dn c.dc, .slice c.ua c.un c.uc] 59) #[.int .i64 p, .int .i64 q] 151).cell
    generalize (w.alloc (.cells #[.slice c.pa c.pn c.pc, .slice c.ca c.cn c.cc, .slice c.ma c.mn c.mc, .slice c.w.la c.w.ln c.w.lc, .slice c.w.na c.w.nn c.w.nc, .int .i64 c.w.sw, .int .i64 c.w.id, .int .i64 c.w.ch, .int .i64 c.w.qu, .int .i64 c.w.sl, .int .i64 c.w.pp, .slice c.da c.dn c.dc, .slice c.ua c.un c.uc] 59)).alloc (.cells #[.int .i64 p, .int .i64 q] 151) = W at *
    rw [ea.out] at bc
    go_quiet (fail)
    go_wp2_with fail
    go_ret
    exact ⟨rfl, below_drewN' S.out.bel _⟩
  by_cases q1 : (P.on : Int) ≤ q
  · obtain rfl : g = false := by rw [← hg, inB_not]; omega
    clear hg
    replace q0 : 0 ≤ q := by omega
    have g2 : decide (0 ≤ q) = true := decide_eq_true (by omega)
    have g3 : decide (q < (P.on : Int)) = false := decide_eq_false (by omega)
    have S := cs_in w c
    go_enter Try.func97, Try.ntmps97
    go_wp2_with fail
    have S := cs_alloc S (.cells #[.int .i64 p, .int .i64 q] 151)
    have bc := S.out.box.cell
    have xc := (box_new1 w (.cells #[.slice c.pa c.pn c.pc, .slice c.ca c.cn c.cc, .slice c.ma c.mn c.mc, .slice c.w.la c.w.ln c.w.lc, .slice c.w.na c.w.nn c.w.nc, .int .i64 c.w.sw, .int .i64 c.w.id, .int .i64 c.w.ch, .int .i64 c.w.qu, .int .i64 c.w.sl, .int .i64 c.w.pp, .slice c.da c.dn c.dc, .slice c.ua c.un c.uc] 59) #[.int .i64 p, .int .i64 q] 151).cell
    generalize (w.alloc (.cells #[.slice c.pa c.pn c.pc, .slice c.ca c.cn c.cc, .slice c.ma c.mn c.mc, .slice c.w.la c.w.ln c.w.lc, .slice c.w.na c.w.nn c.w.nc, .int .i64 c.w.sw, .int .i64 c.w.id, .int .i64 c.w.ch, .int .i64 c.w.qu, .int .i64 c.w.sl, .int .i64 c.w.pp, .slice c.da c.dn c.dc, .slice c.ua c.un c.uc] 59)).alloc (.cells #[.int .i64 p, .int .i64 q] 151) = W at *
    rw [ea.out] at bc
    go_quiet (fail)
    go_wp2_with fail
    go_ret
    exact ⟨rfl, below_drewN' S.out.bel _⟩
  obtain rfl : g = true := by rw [← hg, inB_iff]; omega
  clear hg
  replace q0 : 0 ≤ q := by omega
  replace q1 : q < (P.on : Int) := by omega
  have g2 : decide (0 ≤ q) = true := decide_eq_true (by omega)
  have g3 : decide (q < (P.on : Int)) = true := decide_eq_true (by omega)
  have S := cs_in w c
  go_enter Try.func97, Try.ntmps97
  go_wp2_with fail
  have S := cs_alloc S (.cells #[.int .i64 p, .int .i64 q] 151)
  have bc := S.out.box.cell
  have xc := (box_new1 w (.cells #[.slice c.pa c.pn c.pc, .slice c.ca c.cn c.cc, .slice c.ma c.mn c.mc, .slice c.w.la c.w.ln c.w.lc, .slice c.w.na c.w.nn c.w.nc, .int .i64 c.w.sw, .int .i64 c.w.id, .int .i64 c.w.ch, .int .i64 c.w.qu, .int .i64 c.w.sl, .int .i64 c.w.pp, .slice c.da c.dn c.dc, .slice c.ua c.un c.uc] 59) #[.int .i64 p, .int .i64 q] 151).cell
  generalize (w.alloc (.cells #[.slice c.pa c.pn c.pc, .slice c.ca c.cn c.cc, .slice c.ma c.mn c.mc, .slice c.w.la c.w.ln c.w.lc, .slice c.w.na c.w.nn c.w.nc, .int .i64 c.w.sw, .int .i64 c.w.id, .int .i64 c.w.ch, .int .i64 c.w.qu, .int .i64 c.w.sl, .int .i64 c.w.pp, .slice c.da c.dn c.dc, .slice c.ua c.un c.uc] 59)).alloc (.cells #[.int .i64 p, .int .i64 q] 151) = W at *
  rw [ea.out] at bc
  go_quiet (fail)
  go_wp2_with fail
  go_ret
  exact ⟨rfl, below_drewN' S.out.bel _⟩
end Go.Proofs.Ytgkahcchekiogaa.Vis
