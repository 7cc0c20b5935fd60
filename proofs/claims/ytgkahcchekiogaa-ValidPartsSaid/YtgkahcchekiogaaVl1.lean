/- The law ValidParts. -/
import Derived.Test.YtgkahcchekiogaaVwk
import Derived.Test.YtgkahcchekiogaaPowR
namespace Go.Proofs.Ytgkahcchekiogaa.Vl1
open Go.RowKit Base Kit Conf Conf2 PowA PowB Vfa Vfb Val Vld Vpa Vpb Vpr Vps Vsh Vsr Short Vcf Vch Vci Vnu Vmo Vck Vpl Vwk
set_option linter.unusedVariables false
set_option linter.unusedSimpArgs false
theorem neq_self (x : Int) : (x != x) = false := by simp
set_option maxRecDepth 100000 in
set_option maxHeartbeats 4000000 in
theorem parts_law (c : ConfC) (w : World) (ok : c.Ok w) : Calls Try.prog 6 #[.agg #[.slice c.pa c.pn c.pc, .slice c.ca c.cn c.cc, .slice c.ma c.mn c.mc, .slice c.w.la c.w.ln c.w.lc, .slice c.w.na c.w.nn c.w.nc, .int .i64 c.w.sw, .int .i64 c.w.id, .int .i64 c.w.ch, .int .i64 c.w.qu, .int .i64 c.w.sl, .int .i64 c.w.pp, .slice c.da c.dn c.dc, .slice c.ua c.un c.uc]] w fun e w' => e = .returned (.bool true) ∧ Below w.heap.size w w' := by
  have h1 := ok.parts.out.1
  have OK := Lib.hid (fun w' (h : Below w.heap.size w w') => ok.below h (Nat.le_refl _))
  have CS := Lib.hid (fun w' (h : c.Ok w') => short_any c w' h)
  have CW := Lib.hid (fun w' => works_any w')
  have S := cs_in w c
  have bc := S.out.box.cell
  go_enter Try.func6, Try.ntmps6
  go_wp2_with fail
  generalize w.alloc (.cells #[.slice c.pa c.pn c.pc, .slice c.ca c.cn c.cc, .slice c.ma c.mn c.mc, .slice c.w.la c.w.ln c.w.lc, .slice c.w.na c.w.nn c.w.nc, .int .i64 c.w.sw, .int .i64 c.w.id, .int .i64 c.w.ch, .int .i64 c.w.qu, .int .i64 c.w.sl, .int .i64 c.w.pp, .slice c.da c.dn c.dc, .slice c.ua c.un c.uc] 59) = W at *
  refine (CS.out _ (OK.out _ S.out.bel)).mono ?_
  rintro e1 w5 ⟨b, hb, rfl, k5⟩
  have S := cs_next S k5
  clear k5 bc
  have bc := S.out.box.cell
  cases b
  · clear hb
    go_wp2_with fail
    refine (CW.out _).mono ?_
    rintro e1 w5 ⟨rfl, k5⟩
    have S := cs_next S k5
    clear k5 bc
    have bc := S.out.box.cell
    go_wp2_with fail
    go_ret
    exact ⟨rfl, S.out.bel⟩
  · have hs := hb.1 rfl
    have hp := hs.1.1
    clear hb hs
    go_wp2_with fail
    go_loopw [3] (fun i wr => ∃ k : Nat, k ≤ c.pn ∧ i = .int .i64 k ∧ Hid (Cs w wr w.heap.size c)) (fun i _ => c.pn - (intOf i).toNat)
    case atStart => exact ⟨0, Nat.zero_le _, rfl, S⟩
    case round =>
      clear S bc
      obtain ⟨k, hk, rfl, S⟩ := hrel
      by_cases hl : k < c.pn
      · obtain ⟨r, hr⟩ : ∃ r, PartR (c.p k) = r := ⟨_, rfl⟩
        have C1 := Lib.hid (fun w' (h : c.Ok w') => Part_any (c.p k) w' (h.part k hl) r (Lib.hid hr))
        have C2 := Lib.hid (fun w' (h : c.Ok w') => Partr_any (c.p k) w' (h.part k hl) r (Lib.hid hr))
        obtain ⟨b, off, ea, hlt, u0, u1, u2, u3, u4, u5, u6, u7, u8, u9, u10⟩ := part_at ok.parts k hl
        have hr9 := neq_self r
        clear hr
        generalize c.p k = q at *
        have SK := Lib.hid (fun (w' : World) (h : Hid (Cs w w' w.heap.size c)) => show (∀ i, w'.cell? ⟨w.heap.size, i, none⟩ = (#[.slice (some ⟨b, off, none⟩) c.pn c.pc, .slice c.ca c.cn c.cc, .slice c.ma c.mn c.mc, .slice c.w.la c.w.ln c.w.lc, .slice c.w.na c.w.nn c.w.nc, .int .i64 c.w.sw, .int .i64 c.w.id, .int .i64 c.w.ch, .int .i64 c.w.qu, .int .i64 c.w.sl, .int .i64 c.w.pp, .slice c.da c.dn c.dc, .slice c.ua c.un c.uc] : Array Value)[i]?) ∧ w'.cell? ⟨b, off + k * 11, none⟩ = some (.slice q.ra q.rn q.rc) ∧ w'.cell? ⟨b, off + k * 11 + 1, none⟩ = some (.slice q.pa q.pn q.pc) ∧ w'.cell? ⟨b, off + k * 11 + 2, none⟩ = some (.slice q.oa q.on q.oc) ∧ w'.cell? ⟨b, off + k * 11 + 3, none⟩ = some (.slice q.sa q.sn q.sc) ∧ w'.cell? ⟨b, off + k * 11 + 4, none⟩ = some (.int .i64 q.fl) ∧ w'.cell? ⟨b, off + k * 11 + 5, none⟩ = some (.slice q.qa q.qn q.qc) ∧ w'.cell? ⟨b, off + k * 11 + 6, none⟩ = some (.slice q.ta q.tn q.tc) ∧ w'.cell? ⟨b, off + k * 11 + 7, none⟩ = some (.int .i64 q.cap) ∧ w'.cell? ⟨b, off + k * 11 + 8, none⟩ = some (.int .i64 q.bud) ∧ w'.cell? ⟨b, off + k * 11 + 9, none⟩ = some (.int .i64 q.lad) ∧ w'.cell? ⟨b, off + k * 11 + 10, none⟩ = some (.slice q.ca q.cn q.cc) ∧ Hid (Cs w w' w.heap.size c) from
          have bel := h.out.bel
          ⟨fun i => (h.out.box.cell i).trans (by rw [ea]), keep bel u0 hlt, keep bel u1 hlt, keep bel u2 hlt, keep bel u3 hlt, keep bel u4 hlt, keep bel u5 hlt, keep bel u6 hlt, keep bel u7 hlt, keep bel u8 hlt, keep bel u9 hlt, keep bel u10 hlt, h⟩)
        have bc := S.out.box.cell
        rw [ea] at bc
        clear u0 u1 u2 u3 u4 u5 u6 u7 u8 u9 u10 ea
        go_wp2_with fail
        have SD : Hid (Cs w _ w.heap.size c) := cs_next S (Below.refl _ _).drew
        go_region_held3 (fun w' => (∀ i, w'.cell? ⟨w.heap.size, i, none⟩ = (#[.slice (some ⟨b, off, none⟩) c.pn c.pc, .slice c.ca c.cn c.cc, .slice c.ma c.mn c.mc, .slice c.w.la c.w.ln c.w.lc, .slice c.w.na c.w.nn c.w.nc, .int .i64 c.w.sw, .int .i64 c.w.id, .int .i64 c.w.ch, .int .i64 c.w.qu, .int .i64 c.w.sl, .int .i64 c.w.pp, .slice c.da c.dn c.dc, .slice c.ua c.un c.uc] : Array Value)[i]?) ∧ w'.cell? ⟨b, off + k * 11, none⟩ = some (.slice q.ra q.rn q.rc) ∧ w'.cell? ⟨b, off + k * 11 + 1, none⟩ = some (.slice q.pa q.pn q.pc) ∧ w'.cell? ⟨b, off + k * 11 + 2, none⟩ = some (.slice q.oa q.on q.oc) ∧ w'.cell? ⟨b, off + k * 11 + 3, none⟩ = some (.slice q.sa q.sn q.sc) ∧ w'.cell? ⟨b, off + k * 11 + 4, none⟩ = some (.int .i64 q.fl) ∧ w'.cell? ⟨b, off + k * 11 + 5, none⟩ = some (.slice q.qa q.qn q.qc) ∧ w'.cell? ⟨b, off + k * 11 + 6, none⟩ = some (.slice q.ta q.tn q.tc) ∧ w'.cell? ⟨b, off + k * 11 + 7, none⟩ = some (.int .i64 q.cap) ∧ w'.cell? ⟨b, off + k * 11 + 8, none⟩ = some (.int .i64 q.bud) ∧ w'.cell? ⟨b, off + k * 11 + 9, none⟩ = some (.int .i64 q.lad) ∧ w'.cell? ⟨b, off + k * 11 + 10, none⟩ = some (.slice q.ca q.cn q.cc) ∧ Hid (Cs w w' w.heap.size c))
          (first | exact SK.out _ S5 | exact SK.out _ SD)
          (first
            | (go_at_call 32; go_split_ands; rename_i hS; refine (C1.out _ (OK.out _ hS.out.bel)).mono ?_; rintro e1 w5 ⟨rfl, k5⟩; have S5 := cs_next hS k5)
            | (go_at_call 33; go_split_ands; rename_i hS; refine (C2.out _ (OK.out _ hS.out.bel)).mono ?_; rintro e1 w5 ⟨rfl, k5⟩; have S5 := cs_next hS k5))
        all_goals
          go_wp2_with fail
          go_roundw
          case rel => exact ⟨k + 1, by omega, by go_num, S5⟩
          case measure => simp [intOf]; omega
      · obtain rfl : k = c.pn := by omega
        obtain ⟨⟨q2, t2⟩, g2⟩ : ∃ z, powR c.w = z := ⟨_, rfl⟩
        obtain ⟨⟨q3, t3⟩, g3⟩ : ∃ z, ShedR c.df c.uf c.dn c.un = z := ⟨_, rfl⟩
        have C1 := Lib.hid (fun w' (h : c.Ok w') => Go.Proofs.Ytgkahcchekiogaa.PowC.power_any c.w w' h.pow q2 t2 (Lib.hid g2))
        have C2 := Lib.hid (fun w' (h : c.Ok w') => Go.Proofs.Ytgkahcchekiogaa.PowR.powerr_any c.w w' h.pow q2 t2 (Lib.hid g2))
        have C3 := Lib.hid (fun w' (h : c.Ok w') => Shed_any c.da c.ua c.dn c.dc c.un c.uc c.df c.uf q3 t3 w' h.down h.up (Lib.hid g3))
        have C4 := Lib.hid (fun w' (h : c.Ok w') => Shedr_any c.da c.ua c.dn c.dc c.un c.uc c.df c.uf q3 t3 w' h.down h.up (Lib.hid g3))
        clear g2 g3
        have bc := S.out.box.cell
        go_wp2_with fail
        refine (C1.out _ (OK.out _ S.out.bel)).mono ?_
        rintro e1 w5 ⟨rfl, k5⟩
        have S := cs_next S k5
        clear k5 bc
        have bc := S.out.box.cell
        go_wp2_with fail
        refine (C2.out _ (OK.out _ S.out.bel)).mono ?_
        rintro e1 w5 ⟨rfl, k5⟩
        have S := cs_next S k5
        clear k5 bc
        have bc := S.out.box.cell
        go_wp2_with fail
        refine (C3.out _ (OK.out _ S.out.bel)).mono ?_
        rintro e1 w5 ⟨rfl, k5⟩
        have S := cs_next S k5
        clear k5 bc
        have bc := S.out.box.cell
        go_wp2_with fail
        refine (C4.out _ (OK.out _ S.out.bel)).mono ?_
        rintro e1 w5 ⟨rfl, k5⟩
        have S := cs_next S k5
        clear k5 bc
        have bc := S.out.box.cell
        go_wp2_with fail
        refine (CW.out _).mono ?_
        rintro e1 w5 ⟨rfl, k5⟩
        have S := cs_next S k5
        clear k5 bc
        have bc := S.out.box.cell
        go_wp2_with fail
        go_ret
        exact ⟨rfl, S.out.bel⟩
end Go.Proofs.Ytgkahcchekiogaa.Vl1
