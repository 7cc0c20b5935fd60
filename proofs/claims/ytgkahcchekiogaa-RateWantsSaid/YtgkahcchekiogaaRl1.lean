/- The law RateWants. -/
import Derived.Test.YtgkahcchekiogaaRtw
namespace Go.Proofs.Ytgkahcchekiogaa.Rl1
open Go.RowKit Base Kit WideA WideB Plain Alt Rta Rtb Rtc Rtd Rte Rtf Rtg Rth Rti Rtw
set_option linter.unusedVariables false
set_option linter.unusedSimpArgs false
set_option maxRecDepth 100000 in
set_option maxHeartbeats 4000000 in
theorem wants_law (a : Option Addr) (n c : Nat) (f : Nat → Nat → Int) (win : Int) (w : World) (h : Hid (Open.RowsIn w a n 3 f)) (iw : I64 win) :
    Calls Try.prog 9 #[.slice a n c, .int .i64 win] w fun e w' => e = .returned (.bool true) ∧ Below w.heap.size w w' := by
  have hn := h.out.1
  have CW := Lib.hid (fun w' => works_any w')
  have HB := Lib.hid (Below.refl w.heap.size w)
  by_cases h100 : 100 < n
  · have h100 : (100 : Int) < (n : Int) := by omega
    go_enter Try.func9, Try.ntmps9
    go_wp2_with fail
    refine (CW.out _).mono ?_
    rintro e1 w5 ⟨rfl, k5⟩
    have HB := below_hid HB k5
    clear k5
    go_wp2_with fail
    go_ret
    exact ⟨rfl, HB.out⟩
  replace h100 : (n : Int) ≤ 100 := by omega
  obtain ⟨⟨r, e⟩, hh⟩ : ∃ z, hyP f n = z := ⟨_, rfl⟩
  obtain ⟨x, hx⟩ : ∃ x, wtR f win n = x := ⟨_, rfl⟩
  have RW := Lib.hid (fun w' (hb : Below w.heap.size w w') => Lib.hid (rows_below h.out hb (Nat.le_refl _)))
  have C1 := Lib.hid (fun w' h => Hyper_any a n c f r e w' h (Lib.hid hh))
  have C2 := Lib.hid (fun w' h => Hyperr_any a n c f r e w' h (Lib.hid hh))
  have C3 := Lib.hid (fun w' h => Wants_any a n c f win x w' h iw (Lib.hid hx))
  have C4 := Lib.hid (fun w' h => Wantsr_any a n c f win x w' h iw (Lib.hid hx))
  obtain ⟨iw0, iw1⟩ := iw
  clear hh hx
  go_enter Try.func9, Try.ntmps9
  go_wp2_with fail
  refine (C1.out _ (RW.out _ HB.out)).mono ?_
  rintro e1 w5 ⟨rfl, k5⟩
  have HB := below_hid HB k5
  clear k5
  go_wp2_with fail
  refine (C2.out _ (RW.out _ HB.out)).mono ?_
  rintro e1 w5 ⟨rfl, k5⟩
  have HB := below_hid HB k5
  clear k5
  go_wp2_with fail
  refine (C3.out _ (RW.out _ HB.out)).mono ?_
  rintro e1 w5 ⟨rfl, k5⟩
  have HB := below_hid HB k5
  clear k5
  go_wp2_with fail
  refine (C4.out _ (RW.out _ HB.out)).mono ?_
  rintro e1 w5 ⟨rfl, k5⟩
  have HB := below_hid HB k5
  clear k5
  go_wp2_with fail
  refine (CW.out _).mono ?_
  rintro e1 w5 ⟨rfl, k5⟩
  have HB := below_hid HB k5
  clear k5
  go_wp2_with fail
  go_ret
  exact ⟨rfl, HB.out⟩
end Go.Proofs.Ytgkahcchekiogaa.Rl1
