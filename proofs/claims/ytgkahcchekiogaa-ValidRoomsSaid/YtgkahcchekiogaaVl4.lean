/- The law ValidRooms. -/
import Derived.Test.YtgkahcchekiogaaVwk
import Derived.Test.YtgkahcchekiogaaVrp
namespace Go.Proofs.Ytgkahcchekiogaa.Vl4
open Go.RowKit Base Kit Conf Conf2 PowA PowB Vfa Vfb Val Vld Vpa Vpb Vpr Vsh Short Vcf Vch Vci Vnu Vmo Vck Vpl Vwk Vrp FitA FitB FitC
set_option linter.unusedVariables false
set_option linter.unusedSimpArgs false
theorem win_bd {c : ConfC} {m : ModeC} {j : Nat} (h : inB m.fr 1 1000000000 = true) (h1 : ∀ i, i < m.wn → winP c m i = true) (hj : j < m.wn) :
    0 ≤ m.wf j 0 ∧ m.wf j 0 < (c.pn : Int) ∧ ahI (fun j => m.wf j 1) j + ahI (fun j => m.wf j 2) j ≤ m.wf j 1 ∧ 0 ≤ m.wf j 1 ∧ m.wf j 1 ≤ 1000000000 ∧ 1 ≤ m.wf j 2 ∧ m.wf j 2 ≤ 1000000000 := by
  have h2 := h1 j hj
  have h3 := win_ah h j (fun i hi => h1 i (by omega))
  have h4 := inB_iff.1 h
  unfold winP winB at h2
  simp only [Bool.and_eq_true, inB_iff] at h2
  omega
set_option maxRecDepth 100000 in
set_option maxHeartbeats 4000000 in
theorem rooms_law (c : ConfC) (w : World) (ok : c.Ok w) : Calls Try.prog 8 #[.agg #[.slice c.pa c.pn c.pc, .slice c.ca c.cn c.cc, .slice c.ma c.mn c.mc, .slice c.w.la c.w.ln c.w.lc, .slice c.w.na c.w.nn c.w.nc, .int .i64 c.w.sw, .int .i64 c.w.id, .int .i64 c.w.ch, .int .i64 c.w.qu, .int .i64 c.w.sl, .int .i64 c.w.pp, .slice c.da c.dn c.dc, .slice c.ua c.un c.uc]] w fun e w' => e = .returned (.bool true) ∧ Below w.heap.size w w' := by
  have h1 := ok.parts.out.1
  have h2 := ok.modes.out.1
  have OK := Lib.hid (fun w' (h : Below w.heap.size w w') => ok.below h (Nat.le_refl _))
  have CS := Lib.hid (fun w' (h : c.Ok w') => short_any c w' h)
  have CW := Lib.hid (fun w' => works_any w')
  obtain ⟨⟨q0, t0⟩, g0⟩ : ∃ z, CheckR c = z := ⟨_, rfl⟩
  have CK := Lib.hid (fun w' (h : c.Ok w') => Check_any c q0 t0 w' h (Lib.hid g0))
  replace g0 := Lib.hid g0
  have S := cs_in w c
  have bc := S.out.box.cell
  go_enter Try.func8, Try.ntmps8
  go_wp2_with fail
  generalize w.alloc (.cells #[.slice c.pa c.pn c.pc, .slice c.ca c.cn c.cc, .slice c.ma c.mn c.mc, .slice c.w.la c.w.ln c.w.lc, .slice c.w.na c.w.nn c.w.nc, .int .i64 c.w.sw, .int .i64 c.w.id, .int .i64 c.w.ch, .int .i64 c.w.qu, .int .i64 c.w.sl, .int .i64 c.w.pp, .slice c.da c.dn c.dc, .slice c.ua c.un c.uc] 59) = W at *
  refine (CS.out _ (OK.out _ S.out.bel)).mono ?_
  rintro e1 w5 ⟨b, hb, rfl, k5⟩
  have S := cs_next S k5
  clear k5 bc
  have bc := S.out.box.cell
  cases b
  · clear hb
    go_wp2_with fail
    refine (CW.out _).mono ?_
    rintro e1 w5 ⟨rfl, k5⟩
    have S := cs_next S k5
    clear k5 bc
    have bc := S.out.box.cell
    go_wp2_with fail
    go_ret
    exact ⟨rfl, S.out.bel⟩
  clear hb
  by_cases hq : q0 = 0
  rotate_left
  · have hq' : (q0 != 0) = true := by rw [bne_iff_ne]; exact hq
    clear hq
    go_wp2_with fail
    refine (CK.out _ (OK.out _ S.out.bel)).mono ?_
    rintro e1 w5 ⟨rfl, k5⟩
    have S := cs_next S k5
    clear k5 bc
    have bc := S.out.box.cell
    go_wp2_with fail
    refine (CW.out _).mono ?_
    rintro e1 w5 ⟨rfl, k5⟩
    have S := cs_next S k5
    clear k5 bc
    have bc := S.out.box.cell
    go_wp2_with fail
    go_ret
    exact ⟨rfl, S.out.bel⟩
  have GD : Hid (Vrp.Good c) := Lib.hid (check_good (by rw [g0.out]; exact hq))
  subst hq
  go_wp2_with fail
  refine (CK.out _ (OK.out _ S.out.bel)).mono ?_
  rintro e1 w5 ⟨rfl, k5⟩
  have S := cs_next S k5
  clear k5 bc
  have bc := S.out.box.cell
  go_wp2_with fail
  clear g0 CK
  go_loopw [5] (fun i wr => ∃ k : Nat, k ≤ c.mn ∧ i = .int .i64 k ∧ Hid (Cs w wr w.heap.size c)) (fun i _ => c.mn - (intOf i).toNat)
  case atStart => exact ⟨0, Nat.zero_le _, rfl, S⟩
  case round =>
    clear S bc
    obtain ⟨k, hk, rfl, S⟩ := hrel
    by_cases hl : k < c.mn
    · obtain ⟨b, off, ea, hlt, m0, m1⟩ := mode_at ok.modes k hl
      have G := GD.out.mode k hl
      have win := (ok.mode k hl).win
      have hwn := win.out.1
      replace ea := Lib.hid ea
      have FP : Hid (∀ j, j < (c.m k).wn → ft (top c.w.ln c.w.lf 0) c.w.sw (c.p ((c.m k).wf j 0).toNat).cap ((c.m k).wf j 2) = true) := Lib.hid G.2.2
      have WB := Lib.hid (fun j (hj : j < (c.m k).wn) => win_bd G.1 G.2.1 hj)
      have WE := Lib.hid (win_ah G.1 (c.m k).wn G.2.1).2.2
      clear G
      generalize c.m k = m at *
      obtain ⟨fr, wa, wn, wc, wf⟩ := m
      dsimp only at m0 m1 win hwn FP WB WE
      have bc := S.out.box.cell
      rw [ea.out] at bc
      have MC := Lib.hid (fun w' (h : Hid (Cs w w' w.heap.size c)) => (⟨keep h.out.bel m0 hlt, keep h.out.bel m1 hlt⟩ : w'.cell? ⟨b, off + k * 2, none⟩ = some (.int .i64 fr) ∧ w'.cell? ⟨b, off + k * 2 + 1, none⟩ = some (.slice wa wn wc)))
      clear m0 m1
      go_wp2_with fail
      go_loopw [6, 7] (fun e i wr => ∃ j : Nat, j ≤ wn ∧ i = .int .i64 j ∧ e = .int .i64 (ahI (fun j => wf j 1) j + ahI (fun j => wf j 2) j) ∧ Hid (Cs w wr w.heap.size c)) (fun _ i _ => wn - (intOf i).toNat)
      case atStart => exact ⟨0, Nat.zero_le _, rfl, rfl, S⟩
      case round =>
        clear S bc
        obtain ⟨j, hj, rfl, rfl, S⟩ := hrel
        obtain ⟨m0, m1⟩ := MC.out _ S
        have bc := S.out.box.cell
        rw [ea.out] at bc
        by_cases hl2 : j < wn
        · obtain ⟨b2, o2, e2, hlt2, u0, u1, u2, i0, i1, i2⟩ := rows_at3 win j hl2
          rw [e2] at m1
          clear e2
          replace u0 := keep S.out.bel u0 hlt2
          replace u1 := keep S.out.bel u1 hlt2
          replace u2 := keep S.out.bel u2 hlt2
          obtain ⟨x00, x01, xe, x10, x11, x20, x21⟩ := WB.out j hl2
          have fp := FP.out j hl2
          have HE := Lib.hid (show ahI (fun j => wf j 1) (j + 1) + ahI (fun j => wf j 2) (j + 1) = wf j 1 + wf j 2 from rfl)
          generalize ahI (fun j => wf j 1) j + ahI (fun j => wf j 2) j = E at *
          obtain ⟨b3, o3, e3, hlt3, p7⟩ : ∃ b off, c.pa = some ⟨b, off, none⟩ ∧ b < w.heap.size ∧ w.cell? ⟨b, off + (wf j 0).toNat * 11 + 7, none⟩ = some (.int .i64 (c.p (wf j 0).toNat).cap) := by
            obtain ⟨b, off, ea, hlt, _, _, _, _, _, _, _, u7, _, _, _⟩ := part_at ok.parts (wf j 0).toNat (by omega)
            exact ⟨b, off, ea, hlt, u7⟩
          have hcap := GD.out.cap (wf j 0).toNat (by omega)
          have icap := (ok.part (wf j 0).toNat (by omega)).cap
          generalize wf j 0 = x0 at *
          generalize wf j 1 = x1 at *
          generalize wf j 2 = x2 at *
          generalize (c.p x0.toNat).cap = cap at *
          obtain ⟨r0, r1, r2, r3⟩ := room_plain (top c.w.ln c.w.lf 0) c.w.sw cap x2 hcap.1 hcap.2 x21 GD.out.sw GD.out.fq.1 GD.out.fq.2 fp
          obtain ⟨⟨n1, n2⟩, hn⟩ : ∃ z, nd (top c.w.ln c.w.lf 0) c.w.sw cap = z := ⟨_, rfl⟩
          obtain ⟨⟨s1, s2⟩, hs⟩ : ∃ z, sp (top c.w.ln c.w.lf 0) c.w.sw x2 = z := ⟨_, rfl⟩
          rw [hn] at r0 r1
          rw [hs] at r2 r3
          dsimp only at r0 r1 r2 r3
          subst r0 r2
          have C1 := Lib.hid (fun w' (h : c.Ok w') => needr_any c.w.la c.w.ln c.w.lc c.w.lf (.slice c.w.na c.w.nn c.w.nc) c.w.sw (.int .i64 c.w.id) (.int .i64 c.w.ch) (.int .i64 c.w.qu) (.int .i64 c.w.sl) (.int .i64 c.w.pp) cap n1 0 w' h.pow.lev h.pow.sw icap (Lib.hid hn))
          have C2 := Lib.hid (fun w' (h : c.Ok w') => supply_any c.w.la c.w.ln c.w.lc c.w.lf (.slice c.w.na c.w.nn c.w.nc) c.w.sw (.int .i64 c.w.id) (.int .i64 c.w.ch) (.int .i64 c.w.qu) (.int .i64 c.w.sl) (.int .i64 c.w.pp) x2 s1 0 w' h.pow.lev h.pow.sw i2 (Lib.hid hs))
          clear hn hs fp icap i0 i1 i2 hcap
          replace e3 := Lib.hid e3
          have PC := Lib.hid (fun w' (h : Hid (Cs w w' w.heap.size c)) => keep h.out.bel p7 hlt3)
          clear p7
          go_wp2_with fail
          have S1 : Hid (Cs w _ w.heap.size c) := cs_next (cs_alloc S (.cells #[.int .i64 x0, .int .i64 x1, .int .i64 x2] 85)) (Below.refl _ _).drew
          have bw := (Box.new wr #[.int .i64 x0, .int .i64 x1, .int .i64 x2] 85).drew.cell
          clear bc m0 m1 u0 u1 u2
          have bc := S1.out.box.cell
          rw [ea.out, e3.out] at bc
          have BC := Lib.hid (fun w' (h : Hid (Cs w w' w.heap.size c)) => (by have := h.out.box.cell; rw [ea.out, e3.out] at this; exact this : ∀ i, w'.cell? ⟨w.heap.size, i, none⟩ = (#[.slice (some ⟨b3, o3, none⟩) c.pn c.pc, .slice c.ca c.cn c.cc, .slice (some ⟨b, off, none⟩) c.mn c.mc, .slice c.w.la c.w.ln c.w.lc, .slice c.w.na c.w.nn c.w.nc, .int .i64 c.w.sw, .int .i64 c.w.id, .int .i64 c.w.ch, .int .i64 c.w.qu, .int .i64 c.w.sl, .int .i64 c.w.pp, .slice c.da c.dn c.dc, .slice c.ua c.un c.uc] : Array Value)[i]?))
          go_region_held3 (fun w' => (∀ i, w'.cell? ⟨w.heap.size, i, none⟩ = (#[.slice (some ⟨b3, o3, none⟩) c.pn c.pc, .slice c.ca c.cn c.cc, .slice (some ⟨b, off, none⟩) c.mn c.mc, .slice c.w.la c.w.ln c.w.lc, .slice c.w.na c.w.nn c.w.nc, .int .i64 c.w.sw, .int .i64 c.w.id, .int .i64 c.w.ch, .int .i64 c.w.qu, .int .i64 c.w.sl, .int .i64 c.w.pp, .slice c.da c.dn c.dc, .slice c.ua c.un c.uc] : Array Value)[i]?) ∧ (∀ i, w'.cell? ⟨wr.heap.size, i, none⟩ = (#[.int .i64 x0, .int .i64 x1, .int .i64 x2] : Array Value)[i]?) ∧ w'.cell? ⟨b3, o3 + x0.toNat * 11 + 7, none⟩ = some (.int .i64 cap) ∧ Hid (Cs w w' w.heap.size c))
            (first | exact ⟨BC.out _ S5, rule_next bw k5 (by simp), PC.out _ S5, S5⟩ | exact ⟨bc, bw, PC.out _ S1, S1⟩)
            (first
              | (go_at_call 42; go_split_ands; rename_i hS; refine (C1.out _ (OK.out _ hS.out.bel)).mono ?_; rintro e1 w5 ⟨rfl, k5⟩; have S5 := cs_next hS k5))
          replace bw := rule_next bw k5 (by simp)
          clear k5 bc hS S1 S
          have bc := BC.out _ S5
          go_wp2_with fail
          refine (C2.out _ (OK.out _ S5.out.bel)).mono ?_
          rintro e1 w6 ⟨rfl, k6⟩
          have S6 := cs_next S5 k6
          replace bw := rule_next bw k6 (by simp)
          have p7 := PC.out _ S6
          clear k6 bc S5
          have bc := BC.out _ S6
          go_wp2_with fail
          go_roundw
          case rel => exact ⟨j + 1, by omega, by go_num, by rw [HE.out], S6⟩
          case measure => simp [intOf]; omega
        · obtain rfl : j = wn := by omega
          have we := WE.out
          generalize ahI (fun i => wf i 1) j + ahI (fun i => wf i 2) j = E at *
          clear WE
          go_wp2_with fail
          go_roundw
          case rel => exact ⟨k + 1, by omega, by go_num, S⟩
          case measure => simp [intOf]; omega
    · obtain rfl : k = c.mn := by omega
      have bc := S.out.box.cell
      go_wp2_with fail
      refine (CW.out _).mono ?_
      rintro e1 w5 ⟨rfl, k5⟩
      have S := cs_next S k5
      clear k5 bc
      have bc := S.out.box.cell
      go_wp2_with fail
      go_ret
      exact ⟨rfl, S.out.bel⟩
end Go.Proofs.Ytgkahcchekiogaa.Vl4
