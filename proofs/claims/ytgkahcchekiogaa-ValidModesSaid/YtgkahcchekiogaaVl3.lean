/- The law ValidModes. -/
import Derived.Test.YtgkahcchekiogaaVwk
import Derived.Test.YtgkahcchekiogaaVcr
import Derived.Test.YtgkahcchekiogaaVmr
namespace Go.Proofs.Ytgkahcchekiogaa.Vl3
open Go.RowKit Base Kit Conf Conf2 PowA PowB Vfa Vfb Val Vld Vpa Vpb Vpr Vps Vsh Vsr Short Vcf Vch Vci Vnu Vmo Vck Vpl Vwk Vcr Vmr
set_option linter.unusedVariables false
set_option linter.unusedSimpArgs false
set_option maxRecDepth 100000 in
set_option maxHeartbeats 8000000 in
theorem modes_law (c : ConfC) (k : Int) (w : World) (ok : c.Ok w) (ik : I64 k) : Calls Try.prog 7 #[.agg #[.slice c.pa c.pn c.pc, .slice c.ca c.cn c.cc, .slice c.ma c.mn c.mc, .slice c.w.la c.w.ln c.w.lc, .slice c.w.na c.w.nn c.w.nc, .int .i64 c.w.sw, .int .i64 c.w.id, .int .i64 c.w.ch, .int .i64 c.w.qu, .int .i64 c.w.sl, .int .i64 c.w.pp, .slice c.da c.dn c.dc, .slice c.ua c.un c.uc], .int .i64 k] w fun e w' => e = .returned (.bool true) ∧ Below w.heap.size w w' := by
  have OK := Lib.hid (fun w' (h : Below w.heap.size w w') => ok.below h (Nat.le_refl _))
  have CS := Lib.hid (fun w' (h : c.Ok w') => short_any c w' h)
  have CW := Lib.hid (fun w' => works_any w')
  have h1 := ok.chans.out.1
  obtain ⟨r1, g1⟩ : ∃ z, ModeR c k = z := ⟨_, rfl⟩
  obtain ⟨r2, g2⟩ : ∃ z, ChanR c k = z := ⟨_, rfl⟩
  have C1 := Lib.hid (fun w' (h : c.Ok w') => Mode_any c k r1 w' h ik (Lib.hid g1))
  have C2 := Lib.hid (fun w' (h : c.Ok w') => Moder_any c k r1 w' h ik (Lib.hid g1))
  have C3 := Lib.hid (fun w' (h : c.Ok w') => Channel_any c k r2 w' h ik (Lib.hid g2))
  have C4 := Lib.hid (fun w' (h : c.Ok w') => Channelr_any c k r2 w' h ik (Lib.hid g2))
  obtain ⟨ik0, ik1⟩ := ik
  clear g1 g2
  have RC := Lib.hid (fun (w' : World) (h : Hid (Cs w w' w.heap.size c)) => show (∀ i, w'.cell? ⟨w.heap.size, i, none⟩ = (#[.slice c.pa c.pn c.pc, .slice c.ca c.cn c.cc, .slice c.ma c.mn c.mc, .slice c.w.la c.w.ln c.w.lc, .slice c.w.na c.w.nn c.w.nc, .int .i64 c.w.sw, .int .i64 c.w.id, .int .i64 c.w.ch, .int .i64 c.w.qu, .int .i64 c.w.sl, .int .i64 c.w.pp, .slice c.da c.dn c.dc, .slice c.ua c.un c.uc] : Array Value)[i]?) ∧ Hid (Cs w w' w.heap.size c) from ⟨h.out.box.cell, h⟩)
  have S := cs_in w c
  have bc := S.out.box.cell
  go_enter Try.func7, Try.ntmps7
  go_wp2_with fail
  generalize w.alloc (.cells #[.slice c.pa c.pn c.pc, .slice c.ca c.cn c.cc, .slice c.ma c.mn c.mc, .slice c.w.la c.w.ln c.w.lc, .slice c.w.na c.w.nn c.w.nc, .int .i64 c.w.sw, .int .i64 c.w.id, .int .i64 c.w.ch, .int .i64 c.w.qu, .int .i64 c.w.sl, .int .i64 c.w.pp, .slice c.da c.dn c.dc, .slice c.ua c.un c.uc] 59) = W at *
  refine (CS.out _ (OK.out _ S.out.bel)).mono ?_
  rintro e1 w5 ⟨b, hb, rfl, k5⟩
  have S := cs_next S k5
  clear k5 bc
  have bc := S.out.box.cell
  cases b
  · clear hb
    go_wp2_with fail
    refine (CW.out _).mono ?_
    rintro e1 w5 ⟨rfl, k5⟩
    have S := cs_next S k5
    clear k5 bc
    have bc := S.out.box.cell
    go_wp2_with fail
    go_ret
    exact ⟨rfl, S.out.bel⟩
  have hs := (hb.1 rfl).1.2.1
  clear hb
  go_wp2_with fail
  go_loopw [5] (fun i wr => ∃ j : Int, -1 ≤ j ∧ j ≤ (c.cn : Int) + 1 ∧ i = .int .i64 j ∧ Hid (Cs w wr w.heap.size c)) (fun i _ => ((c.cn : Int) + 1 - intOf i).toNat)
  case atStart => exact ⟨-1, by omega, by omega, rfl, S⟩
  case round =>
    clear S bc
    obtain ⟨j, hj0, hj1, rfl, S⟩ := hrel
    have bc := S.out.box.cell
    by_cases hl : j ≤ (c.cn : Int)
    · obtain ⟨r, hr⟩ : ∃ r, ChanR c j = r := ⟨_, rfl⟩
      have D1 := Lib.hid (fun w' (h : c.Ok w') => Channel_any c j r w' h ⟨by omega, by omega⟩ (Lib.hid hr))
      have D2 := Lib.hid (fun w' (h : c.Ok w') => Channelr_any c j r w' h ⟨by omega, by omega⟩ (Lib.hid hr))
      clear hr
      go_wp2_with fail
      have SD : Hid (Cs w _ w.heap.size c) := cs_next S (Below.refl _ _).drew
      go_region_held3 (fun w' => (∀ i, w'.cell? ⟨w.heap.size, i, none⟩ = (#[.slice c.pa c.pn c.pc, .slice c.ca c.cn c.cc, .slice c.ma c.mn c.mc, .slice c.w.la c.w.ln c.w.lc, .slice c.w.na c.w.nn c.w.nc, .int .i64 c.w.sw, .int .i64 c.w.id, .int .i64 c.w.ch, .int .i64 c.w.qu, .int .i64 c.w.sl, .int .i64 c.w.pp, .slice c.da c.dn c.dc, .slice c.ua c.un c.uc] : Array Value)[i]?) ∧ Hid (Cs w w' w.heap.size c))
        (first | exact RC.out _ S5 | exact RC.out _ SD)
        (first
          | (go_at_call 38; go_split_ands; rename_i hS; refine (D1.out _ (OK.out _ hS.out.bel)).mono ?_; rintro e1 w5 ⟨rfl, k5⟩; have S5 := cs_next hS k5)
          | (go_at_call 39; go_split_ands; rename_i hS; refine (D2.out _ (OK.out _ hS.out.bel)).mono ?_; rintro e1 w5 ⟨rfl, k5⟩; have S5 := cs_next hS k5))
      all_goals
        cases r <;> (
          go_wp2_with fail
          go_roundw
          case rel => exact ⟨j + 1, by omega, by omega, by go_num, S5⟩
          case measure => simp [intOf]; omega)
    · have hl : (c.cn : Int) < j := by omega
      go_wp2_with fail
      have SD : Hid (Cs w _ w.heap.size c) := cs_next S (Below.refl _ _).drew
      have e9 : (r1 == r1) = true := by simp
      cases r2
      all_goals
        go_region_held3 (fun w' => (∀ i, w'.cell? ⟨w.heap.size, i, none⟩ = (#[.slice c.pa c.pn c.pc, .slice c.ca c.cn c.cc, .slice c.ma c.mn c.mc, .slice c.w.la c.w.ln c.w.lc, .slice c.w.na c.w.nn c.w.nc, .int .i64 c.w.sw, .int .i64 c.w.id, .int .i64 c.w.ch, .int .i64 c.w.qu, .int .i64 c.w.sl, .int .i64 c.w.pp, .slice c.da c.dn c.dc, .slice c.ua c.un c.uc] : Array Value)[i]?) ∧ Hid (Cs w w' w.heap.size c))
          (first | exact RC.out _ S5 | exact RC.out _ SD)
          (first
            | (go_at_call 40; go_split_ands; rename_i hS; refine (C1.out _ (OK.out _ hS.out.bel)).mono ?_; rintro e1 w5 ⟨rfl, k5⟩; have S5 := cs_next hS k5)
            | (go_at_call 41; go_split_ands; rename_i hS; refine (C2.out _ (OK.out _ hS.out.bel)).mono ?_; rintro e1 w5 ⟨rfl, k5⟩; have S5 := cs_next hS k5)
            | (go_at_call 38; go_split_ands; rename_i hS; refine (C3.out _ (OK.out _ hS.out.bel)).mono ?_; rintro e1 w5 ⟨rfl, k5⟩; have S5 := cs_next hS k5)
            | (go_at_call 39; go_split_ands; rename_i hS; refine (C4.out _ (OK.out _ hS.out.bel)).mono ?_; rintro e1 w5 ⟨rfl, k5⟩; have S5 := cs_next hS k5)
            | (go_at_call 29; go_split_ands; rename_i hS; refine (CW.out _).mono ?_; rintro e1 w5 ⟨rfl, k5⟩; have S5 := cs_next hS k5))
        all_goals
          go_wp2_with fail
          go_ret
          exact ⟨rfl, S5.out.bel⟩
end Go.Proofs.Ytgkahcchekiogaa.Vl3
