/- The reference of valid: Mode. -/
import Derived.Test.YtgkahcchekiogaaVmo
import Derived.Test.YtgkahcchekiogaaVps
namespace Go.Proofs.Ytgkahcchekiogaa.Vmr
open Go.RowKit Base Kit Conf Conf2 PowA PowB Vfa Vfb Val Vld Vpa Vpr Vps Short Vcf Vmo FitA FitB FitC
set_option linter.unusedVariables false
set_option linter.unusedSimpArgs false
/-- a function's world: a configuration's box, and a mode's -/
structure Ms (w0 w : World) (mb : Nat) (c : ConfC) (fr : Int) (wa : Option Addr) (wn wc : Nat) : Prop where
  bel : Below w0.heap.size w0 w
  box : Box w w0.heap.size #[.slice c.pa c.pn c.pc, .slice c.ca c.cn c.cc, .slice c.ma c.mn c.mc, .slice c.w.la c.w.ln c.w.lc, .slice c.w.na c.w.nn c.w.nc, .int .i64 c.w.sw, .int .i64 c.w.id, .int .i64 c.w.ch, .int .i64 c.w.qu, .int .i64 c.w.sl, .int .i64 c.w.pp, .slice c.da c.dn c.dc, .slice c.ua c.un c.uc] 59
  mod : Box w mb #[.int .i64 fr, .slice wa wn wc] 83
theorem ms_next {w0 w w1 : World} {mb : Nat} {c : ConfC} {fr : Int} {wa : Option Addr} {wn wc : Nat} (h : Hid (Ms w0 w mb c fr wa wn wc)) (k : Below w.heap.size w w1) : Hid (Ms w0 w1 mb c fr wa wn wc) := Lib.hid ⟨below_next h.out.bel k, h.out.box.next k, h.out.mod.next k⟩
set_option maxRecDepth 100000 in
set_option maxHeartbeats 4000000 in
theorem Moder_any (c : ConfC) (k : Int) (r : Int) (w : World) (ok : c.Ok w) (ik : I64 k) (hr : Hid (ModeR c k = r)) :
    Calls Try.prog 41 #[.agg #[.slice c.pa c.pn c.pc, .slice c.ca c.cn c.cc, .slice c.ma c.mn c.mc, .slice c.w.la c.w.ln c.w.lc, .slice c.w.na c.w.nn c.w.nc, .int .i64 c.w.sw, .int .i64 c.w.id, .int .i64 c.w.ch, .int .i64 c.w.qu, .int .i64 c.w.sl, .int .i64 c.w.pp, .slice c.da c.dn c.dc, .slice c.ua c.un c.uc], .int .i64 k] w fun e w' => e = .returned (.int .i64 r) ∧ Below w.heap.size w w' := by
  have h1 := ok.modes.out.1
  have h2 := ok.parts.out.1
  obtain ⟨ik0, ik1⟩ := ik
  have hr := hr.out
  unfold ModeR at hr
  have S := cs_in w c
  have bc := S.out.box.cell
  by_cases k0 : k < 0
  · obtain rfl : r = 26 := by rw [← hr, if_neg (by rw [inB_iff]; omega)]
    clear hr
    go_enter Try.func41, Try.ntmps41
    go_wp2_with fail
    go_ret
    exact ⟨rfl, S.out.bel⟩
  by_cases k1 : (c.mn : Int) ≤ k
  · obtain rfl : r = 26 := by rw [← hr, if_neg (by rw [inB_iff]; omega)]
    clear hr
    have k0 : 0 ≤ k := by omega
    go_enter Try.func41, Try.ntmps41
    go_wp2_with fail
    go_ret
    exact ⟨rfl, S.out.bel⟩
  rw [if_pos (by rw [inB_iff]; omega)] at hr
  have hk : k.toNat < c.mn := by omega
  have hkI : k < (c.mn : Int) := by omega
  replace k0 : 0 ≤ k := by omega
  clear k1
  obtain ⟨b, off, ea, hlt, c0, c1⟩ := mode_at ok.modes k.toNat hk
  replace ea := Lib.hid ea
  have OK := Lib.hid (fun w' (h : Below w.heap.size w w') => ok.below h (Nat.le_refl _))
  have HB := (Below.refl w.heap.size w).alloc (Nat.le_refl _) (.cells #[.slice c.pa c.pn c.pc, .slice c.ca c.cn c.cc, .slice c.ma c.mn c.mc, .slice c.w.la c.w.ln c.w.lc, .slice c.w.na c.w.nn c.w.nc, .int .i64 c.w.sw, .int .i64 c.w.id, .int .i64 c.w.ch, .int .i64 c.w.qu, .int .i64 c.w.sl, .int .i64 c.w.pp, .slice c.da c.dn c.dc, .slice c.ua c.un c.uc] 59)
  replace c0 := keep HB c0 hlt
  replace c1 := keep HB c1 hlt
  have win := (ok.mode k.toNat hk).win
  have ifr := (ok.mode k.toNat hk).fr
  clear HB
  generalize c.m k.toNat = m at *
  obtain ⟨fr, wa, wn, wc, wf⟩ := m
  dsimp only at c0 c1 win ifr
  obtain ⟨if0, if1⟩ := ifr
  unfold ModeQ at hr
  dsimp only at hr
  have hwn := win.out.1
  obtain ⟨r1, d1⟩ : ∃ z, inB fr 1 1000000000 = z := ⟨_, rfl⟩
  have C1 := fun w => outr_any fr 1 1000000000 r1 w (Lib.hid d1)
  rw [d1] at hr
  cases r1
  · rw [Bool.false_and, if_neg (by decide)] at hr
    simp only [Bool.not_false] at C1
    replace C1 := Lib.hid C1
    subst hr
    clear d1 win
    clear bc
    have bc : ∀ i, (w.alloc (.cells #[.slice c.pa c.pn c.pc, .slice c.ca c.cn c.cc, .slice c.ma c.mn c.mc, .slice c.w.la c.w.ln c.w.lc, .slice c.w.na c.w.nn c.w.nc, .int .i64 c.w.sw, .int .i64 c.w.id, .int .i64 c.w.ch, .int .i64 c.w.qu, .int .i64 c.w.sl, .int .i64 c.w.pp, .slice c.da c.dn c.dc, .slice c.ua c.un c.uc] 59)).cell? ⟨w.heap.size, i, none⟩ = (#[.slice c.pa c.pn c.pc, .slice c.ca c.cn c.cc, .slice (some ⟨b, off, none⟩) c.mn c.mc, .slice c.w.la c.w.ln c.w.lc, .slice c.w.na c.w.nn c.w.nc, .int .i64 c.w.sw, .int .i64 c.w.id, .int .i64 c.w.ch, .int .i64 c.w.qu, .int .i64 c.w.sl, .int .i64 c.w.pp, .slice c.da c.dn c.dc, .slice c.ua c.un c.uc] : Array Value)[i]? := fun i => (S.out.box.cell i).trans (by rw [ea.out])
    go_enter Try.func41, Try.ntmps41
    go_wp2_with fail
    have M : Hid (Ms w ((w.alloc (.cells #[.slice c.pa c.pn c.pc, .slice c.ca c.cn c.cc, .slice c.ma c.mn c.mc, .slice c.w.la c.w.ln c.w.lc, .slice c.w.na c.w.nn c.w.nc, .int .i64 c.w.sw, .int .i64 c.w.id, .int .i64 c.w.ch, .int .i64 c.w.qu, .int .i64 c.w.sl, .int .i64 c.w.pp, .slice c.da c.dn c.dc, .slice c.ua c.un c.uc] 59)).alloc (.cells #[.int .i64 fr, .slice wa wn wc] 83)) (w.heap.size + 1) c fr wa wn wc) := Lib.hid ⟨S.out.bel.alloc S.out.bel.size _, S.out.box.alloc _, box_new1 w _ _ _⟩
    generalize (w.alloc (.cells #[.slice c.pa c.pn c.pc, .slice c.ca c.cn c.cc, .slice c.ma c.mn c.mc, .slice c.w.la c.w.ln c.w.lc, .slice c.w.na c.w.nn c.w.nc, .int .i64 c.w.sw, .int .i64 c.w.id, .int .i64 c.w.ch, .int .i64 c.w.qu, .int .i64 c.w.sl, .int .i64 c.w.pp, .slice c.da c.dn c.dc, .slice c.ua c.un c.uc] 59)).alloc (.cells #[.int .i64 fr, .slice wa wn wc] 83) = W2 at *
    clear bc S
    have bc := M.out.box.cell
    have mc := M.out.mod.cell
    refine (C1.out _).mono ?_
    rintro e1 w5 ⟨rfl, e9⟩
    cases e9
    go_wp2_with fail
    go_ret
    exact ⟨rfl, M.out.bel⟩
  rw [Bool.true_and] at hr
  simp only [Bool.not_true] at C1
  replace C1 := Lib.hid C1
  have f0 := inB_iff.1 d1
  obtain ⟨f0, f1⟩ := f0
  by_cases h16 : wn ≤ 16
  rotate_left
  · rw [decide_eq_false h16, Bool.false_and, if_neg (by decide)] at hr
    subst hr
    clear d1 win
    have h16 : (16 : Int) < (wn : Int) := by omega
    clear bc
    have bc : ∀ i, (w.alloc (.cells #[.slice c.pa c.pn c.pc, .slice c.ca c.cn c.cc, .slice c.ma c.mn c.mc, .slice c.w.la c.w.ln c.w.lc, .slice c.w.na c.w.nn c.w.nc, .int .i64 c.w.sw, .int .i64 c.w.id, .int .i64 c.w.ch, .int .i64 c.w.qu, .int .i64 c.w.sl, .int .i64 c.w.pp, .slice c.da c.dn c.dc, .slice c.ua c.un c.uc] 59)).cell? ⟨w.heap.size, i, none⟩ = (#[.slice c.pa c.pn c.pc, .slice c.ca c.cn c.cc, .slice (some ⟨b, off, none⟩) c.mn c.mc, .slice c.w.la c.w.ln c.w.lc, .slice c.w.na c.w.nn c.w.nc, .int .i64 c.w.sw, .int .i64 c.w.id, .int .i64 c.w.ch, .int .i64 c.w.qu, .int .i64 c.w.sl, .int .i64 c.w.pp, .slice c.da c.dn c.dc, .slice c.ua c.un c.uc] : Array Value)[i]? := fun i => (S.out.box.cell i).trans (by rw [ea.out])
    go_enter Try.func41, Try.ntmps41
    go_wp2_with fail
    have M : Hid (Ms w ((w.alloc (.cells #[.slice c.pa c.pn c.pc, .slice c.ca c.cn c.cc, .slice c.ma c.mn c.mc, .slice c.w.la c.w.ln c.w.lc, .slice c.w.na c.w.nn c.w.nc, .int .i64 c.w.sw, .int .i64 c.w.id, .int .i64 c.w.ch, .int .i64 c.w.qu, .int .i64 c.w.sl, .int .i64 c.w.pp, .slice c.da c.dn c.dc, .slice c.ua c.un c.uc] 59)).alloc (.cells #[.int .i64 fr, .slice wa wn wc] 83)) (w.heap.size + 1) c fr wa wn wc) := Lib.hid ⟨S.out.bel.alloc S.out.bel.size _, S.out.box.alloc _, box_new1 w _ _ _⟩
    generalize (w.alloc (.cells #[.slice c.pa c.pn c.pc, .slice c.ca c.cn c.cc, .slice c.ma c.mn c.mc, .slice c.w.la c.w.ln c.w.lc, .slice c.w.na c.w.nn c.w.nc, .int .i64 c.w.sw, .int .i64 c.w.id, .int .i64 c.w.ch, .int .i64 c.w.qu, .int .i64 c.w.sl, .int .i64 c.w.pp, .slice c.da c.dn c.dc, .slice c.ua c.un c.uc] 59)).alloc (.cells #[.int .i64 fr, .slice wa wn wc] 83) = W2 at *
    clear bc S
    have bc := M.out.box.cell
    have mc := M.out.mod.cell
    refine (C1.out _).mono ?_
    rintro e1 w5 ⟨rfl, e9⟩
    cases e9
    go_wp2_with fail
    go_ret
    exact ⟨rfl, M.out.bel⟩
  rw [decide_eq_true h16, Bool.true_and] at hr
  have HR := Lib.hid hr
  have D1 := Lib.hid d1
  have W3 := ri3 win
  have WI := Lib.hid (fun j (hj : j < wn) => (⟨win.out.2.2 j hj 0 (by omega), win.out.2.2 j hj 1 (by omega), win.out.2.2 j hj 2 (by omega)⟩ : I64 (wf j 0) ∧ I64 (wf j 1) ∧ I64 (wf j 2)))
  clear hr d1 win
  clear bc
  have bc : ∀ i, (w.alloc (.cells #[.slice c.pa c.pn c.pc, .slice c.ca c.cn c.cc, .slice c.ma c.mn c.mc, .slice c.w.la c.w.ln c.w.lc, .slice c.w.na c.w.nn c.w.nc, .int .i64 c.w.sw, .int .i64 c.w.id, .int .i64 c.w.ch, .int .i64 c.w.qu, .int .i64 c.w.sl, .int .i64 c.w.pp, .slice c.da c.dn c.dc, .slice c.ua c.un c.uc] 59)).cell? ⟨w.heap.size, i, none⟩ = (#[.slice c.pa c.pn c.pc, .slice c.ca c.cn c.cc, .slice (some ⟨b, off, none⟩) c.mn c.mc, .slice c.w.la c.w.ln c.w.lc, .slice c.w.na c.w.nn c.w.nc, .int .i64 c.w.sw, .int .i64 c.w.id, .int .i64 c.w.ch, .int .i64 c.w.qu, .int .i64 c.w.sl, .int .i64 c.w.pp, .slice c.da c.dn c.dc, .slice c.ua c.un c.uc] : Array Value)[i]? := fun i => (S.out.box.cell i).trans (by rw [ea.out])
  go_enter Try.func41, Try.ntmps41
  go_wp2_with fail
  have M : Hid (Ms w ((w.alloc (.cells #[.slice c.pa c.pn c.pc, .slice c.ca c.cn c.cc, .slice c.ma c.mn c.mc, .slice c.w.la c.w.ln c.w.lc, .slice c.w.na c.w.nn c.w.nc, .int .i64 c.w.sw, .int .i64 c.w.id, .int .i64 c.w.ch, .int .i64 c.w.qu, .int .i64 c.w.sl, .int .i64 c.w.pp, .slice c.da c.dn c.dc, .slice c.ua c.un c.uc] 59)).alloc (.cells #[.int .i64 fr, .slice wa wn wc] 83)) (w.heap.size + 1) c fr wa wn wc) := Lib.hid ⟨S.out.bel.alloc S.out.bel.size _, S.out.box.alloc _, box_new1 w _ _ _⟩
  generalize (w.alloc (.cells #[.slice c.pa c.pn c.pc, .slice c.ca c.cn c.cc, .slice c.ma c.mn c.mc, .slice c.w.la c.w.ln c.w.lc, .slice c.w.na c.w.nn c.w.nc, .int .i64 c.w.sw, .int .i64 c.w.id, .int .i64 c.w.ch, .int .i64 c.w.qu, .int .i64 c.w.sl, .int .i64 c.w.pp, .slice c.da c.dn c.dc, .slice c.ua c.un c.uc] 59)).alloc (.cells #[.int .i64 fr, .slice wa wn wc] 83) = W2 at *
  clear bc S
  have bc := M.out.box.cell
  have mc := M.out.mod.cell
  refine (C1.out _).mono ?_
  rintro e1 w5 ⟨rfl, e9⟩
  cases e9
  go_wp2_with fail
  go_loopw [6, 7] (fun e i wr => ∃ j : Nat, j ≤ wn ∧ i = .int .i64 j ∧ e = .int .i64 (ahI (fun j => wf j 1) j + ahI (fun j => wf j 2) j) ∧ Hid (∀ i, i < j → winP c ⟨fr, wa, wn, wc, wf⟩ i = true) ∧ Hid (Ms w wr (w.heap.size + 1) c fr wa wn wc)) (fun _ i _ => wn - (intOf i).toNat)
  case atStart => exact ⟨0, Nat.zero_le _, rfl, rfl, Lib.hid (fun i hi => by omega), M⟩
  case round =>
    clear M bc mc
    obtain ⟨j, hj, rfl, rfl, HL, M⟩ := hrel
    have bc := M.out.box.cell
    have mc := M.out.mod.cell
    have A := win_ah D1.out j HL.out
    by_cases hl : j < wn
    · obtain ⟨b2, o2, e2, hlt2, u0, u1, u2⟩ := W3.out j hl
      rw [e2] at mc
      replace e2 := Lib.hid e2
      replace u0 := keep M.out.bel u0 hlt2
      replace u1 := keep M.out.bel u1 hlt2
      replace u2 := keep M.out.bel u2 hlt2
      obtain ⟨i0, i1, i2⟩ := WI.out j hl
      have HX := Lib.hid (fun (h : winP c ⟨fr, wa, wn, wc, wf⟩ j = true) => show ∀ i, i < j + 1 → winP c ⟨fr, wa, wn, wc, wf⟩ i = true from fun i hi => if e : i = j then by rw [e]; exact h else HL.out i (by omega))
      have HF := Lib.hid (fun (h : winP c ⟨fr, wa, wn, wc, wf⟩ j = false) => show r = 26 from by
        rw [← HR.out, fb_hit HL.out h wn hl, decide_eq_false (by omega), if_neg (by decide)])
      have HE := Lib.hid (show ahI (fun j => wf j 1) (j + 1) + ahI (fun j => wf j 2) (j + 1) = wf j 1 + wf j 2 from rfl)
      unfold winP at HX HF
      dsimp only at A HX HF
      obtain ⟨⟨A1, A2⟩, ⟨A3, A4⟩, A5⟩ := A
      obtain ⟨E, hE⟩ : ∃ E, ahI (fun j => wf j 1) j + ahI (fun j => wf j 2) j = E := ⟨_, rfl⟩
      have hE0 : 0 ≤ E := by omega
      rw [hE] at HX HF A5 ⊢
      clear hE A1 A2 A3 A4
      generalize wf j 0 = x0 at *
      generalize wf j 1 = x1 at *
      generalize wf j 2 = x2 at *
      obtain ⟨i00, i01⟩ := i0
      obtain ⟨i10, i11⟩ := i1
      obtain ⟨i20, i21⟩ := i2
      have bw := (Box.new wr #[.int .i64 x0, .int .i64 x1, .int .i64 x2] 85).cell
      have M1 : Hid (Ms w (wr.alloc (.cells #[.int .i64 x0, .int .i64 x1, .int .i64 x2] 85)) (w.heap.size + 1) c fr wa wn wc) := ms_next M ((Below.refl _ _).alloc (Nat.le_refl _) _)
      have bc2 := M1.out.box.cell
      have mc2 := M1.out.mod.cell
      rw [e2.out] at mc2
      by_cases hv : winB c.pn fr x0 x1 x2 E = true
      · have HL := Lib.hid (HX.out hv)
        unfold winB at hv
        simp only [Bool.and_eq_true, inB_iff] at hv
        obtain ⟨⟨v0, v1⟩, ⟨v2, v3⟩, v4, v5⟩ := hv
        replace v1 : x0 < (c.pn : Int) := by omega
        go_wp2_with fail
        go_roundw
        case rel => exact ⟨j + 1, by omega, by go_num, by rw [HE.out], HL, M1⟩
        case measure => simp [intOf]; omega
      · rw [Bool.not_eq_true] at hv
        obtain rfl := HF.out hv
        have ways : x0 < 0 ∨ (0 ≤ x0 ∧ (c.pn : Int) ≤ x0) ∨ (0 ≤ x0 ∧ x0 < (c.pn : Int) ∧ x1 < E) ∨ (0 ≤ x0 ∧ x0 < (c.pn : Int) ∧ E ≤ x1 ∧ fr < x1) ∨ (0 ≤ x0 ∧ x0 < (c.pn : Int) ∧ E ≤ x1 ∧ x1 ≤ fr ∧ x2 < 1) ∨ (0 ≤ x0 ∧ x0 < (c.pn : Int) ∧ E ≤ x1 ∧ x1 ≤ fr ∧ 1 ≤ x2 ∧ fr - x1 < x2) := by
          have hn : ¬ (winB c.pn fr x0 x1 x2 E = true) := by rw [hv]; decide
          unfold winB at hn
          simp only [Bool.and_eq_true, inB_iff] at hn
          omega
        clear hv HX HF
        rcases ways with v0 | ⟨v0, v1⟩ | ⟨v0, v1, v2⟩ | ⟨v0, v1, v2, v3⟩ | ⟨v0, v1, v2, v3, v4⟩ | ⟨v0, v1, v2, v3, v4, v5⟩
        all_goals
          go_wp2_with fail
          go_ret
          exact ⟨rfl, M1.out.bel⟩
    · obtain rfl : j = wn := by omega
      have HR2 : Hid ((if decide (fb (fitP c ⟨fr, wa, j, wc, wf⟩) j = j) = true then (0 : Int) else 29) = r) := Lib.hid (by
        have e := HR.out
        rw [fb_all j HL.out, decide_eq_true rfl, if_pos rfl] at e
        exact e)
      clear A HR
      go_wp2_with fail
      go_loopw [9] (fun i wr => ∃ n : Nat, n ≤ j ∧ i = .int .i64 n ∧ Hid (∀ i, i < n → fitP c ⟨fr, wa, j, wc, wf⟩ i = true) ∧ Hid (Ms w wr (w.heap.size + 1) c fr wa j wc)) (fun i _ => j - (intOf i).toNat)
      case atStart => exact ⟨0, Nat.zero_le _, rfl, Lib.hid (fun i hi => by omega), M⟩
      case round =>
        clear M bc mc
        obtain ⟨n, hn, rfl, HJ, M⟩ := hrel
        by_cases hl : n < j
        · obtain ⟨b2, o2, e2, hlt2, u0, u1, u2⟩ := W3.out n hl
          replace e2 := Lib.hid e2
          have v := HL.out n hl
          unfold winP winB at v
          simp only [Bool.and_eq_true, inB_iff] at v
          obtain ⟨⟨v0, v1⟩, -⟩ := v
          obtain ⟨b3, o3, e3, hlt3, p7⟩ : ∃ b off, c.pa = some ⟨b, off, none⟩ ∧ b < w.heap.size ∧ w.cell? ⟨b, off + (wf n 0).toNat * 11 + 7, none⟩ = some (.int .i64 (c.p (wf n 0).toNat).cap) := by
            obtain ⟨b, off, ea, hlt, _, _, _, _, _, _, _, u7, _, _, _⟩ := part_at ok.parts (wf n 0).toNat (by omega)
            exact ⟨b, off, ea, hlt, u7⟩
          replace e3 := Lib.hid e3
          have icap := (ok.part (wf n 0).toNat (by omega)).cap
          obtain ⟨g, hg⟩ : ∃ g, fitP c ⟨fr, wa, j, wc, wf⟩ n = g := ⟨_, rfl⟩
          have HG := Lib.hid hg
          have HX := Lib.hid (fun (h : fitP c ⟨fr, wa, j, wc, wf⟩ n = true) => show ∀ i, i < n + 1 → fitP c ⟨fr, wa, j, wc, wf⟩ i = true from fun i hi => if e : i = n then by rw [e]; exact h else HJ.out i (by omega))
          have HF := Lib.hid (fun (h : fitP c ⟨fr, wa, j, wc, wf⟩ n = false) => show r = 29 from by
            rw [← HR2.out, fb_hit HJ.out h j hl, decide_eq_false (by omega), if_neg (by decide)])
          rw [hg] at HX HF
          unfold fitP at hg
          dsimp only at hg
          have C2 := Lib.hid (fun w' (h : c.Ok w') => fitsr_any c.w.la c.w.ln c.w.lc c.w.lf (.slice c.w.na c.w.nn c.w.nc) c.w.sw (.int .i64 c.w.id) (.int .i64 c.w.ch) (.int .i64 c.w.qu) (.int .i64 c.w.sl) (.int .i64 c.w.pp) (c.p (wf n 0).toNat).cap (wf n 2) g w' h.pow.lev h.pow.sw icap (Lib.hid hg))
          clear hg icap
          replace v1 : wf n 0 < (c.pn : Int) := by omega
          generalize (c.p (wf n 0).toNat).cap = cap at *
          generalize wf n 0 = x0 at *
          generalize wf n 2 = x2 at *
          have SK := Lib.hid (fun (w' : World) (h : Hid (Ms w w' (w.heap.size + 1) c fr wa j wc)) => show (∀ i, w'.cell? ⟨w.heap.size, i, none⟩ = (#[.slice (some ⟨b3, o3, none⟩) c.pn c.pc, .slice c.ca c.cn c.cc, .slice c.ma c.mn c.mc, .slice c.w.la c.w.ln c.w.lc, .slice c.w.na c.w.nn c.w.nc, .int .i64 c.w.sw, .int .i64 c.w.id, .int .i64 c.w.ch, .int .i64 c.w.qu, .int .i64 c.w.sl, .int .i64 c.w.pp, .slice c.da c.dn c.dc, .slice c.ua c.un c.uc] : Array Value)[i]?) ∧ (∀ i, w'.cell? ⟨w.heap.size + 1, i, none⟩ = (#[.int .i64 fr, .slice (some ⟨b2, o2, none⟩) j wc] : Array Value)[i]?) ∧ w'.cell? ⟨b2, o2 + n * 3, none⟩ = some (.int .i64 x0) ∧ w'.cell? ⟨b2, o2 + n * 3 + 2, none⟩ = some (.int .i64 x2) ∧ w'.cell? ⟨b3, o3 + x0.toNat * 11 + 7, none⟩ = some (.int .i64 cap) ∧ Hid (Ms w w' (w.heap.size + 1) c fr wa j wc) from
            ⟨fun i => (h.out.box.cell i).trans (by rw [e3.out]), fun i => (h.out.mod.cell i).trans (by rw [e2.out]), keep h.out.bel u0 hlt2, keep h.out.bel u2 hlt2, keep h.out.bel p7 hlt3, h⟩)
          have mc := M.out.mod.cell
          clear u0 u1 u2 p7
          go_wp2_with fail
          have MD : Hid (Ms w _ (w.heap.size + 1) c fr wa j wc) := ms_next M (Below.refl _ _).drew
          go_region_held3 (fun w' => (∀ i, w'.cell? ⟨w.heap.size, i, none⟩ = (#[.slice (some ⟨b3, o3, none⟩) c.pn c.pc, .slice c.ca c.cn c.cc, .slice c.ma c.mn c.mc, .slice c.w.la c.w.ln c.w.lc, .slice c.w.na c.w.nn c.w.nc, .int .i64 c.w.sw, .int .i64 c.w.id, .int .i64 c.w.ch, .int .i64 c.w.qu, .int .i64 c.w.sl, .int .i64 c.w.pp, .slice c.da c.dn c.dc, .slice c.ua c.un c.uc] : Array Value)[i]?) ∧ (∀ i, w'.cell? ⟨w.heap.size + 1, i, none⟩ = (#[.int .i64 fr, .slice (some ⟨b2, o2, none⟩) j wc] : Array Value)[i]?) ∧ w'.cell? ⟨b2, o2 + n * 3, none⟩ = some (.int .i64 x0) ∧ w'.cell? ⟨b2, o2 + n * 3 + 2, none⟩ = some (.int .i64 x2) ∧ w'.cell? ⟨b3, o3 + x0.toNat * 11 + 7, none⟩ = some (.int .i64 cap) ∧ Hid (Ms w w' (w.heap.size + 1) c fr wa j wc))
            (first | exact SK.out _ M5 | exact SK.out _ MD)
            (first
              | (go_at_call 102; go_split_ands; rename_i hS; refine (C2.out _ (OK.out _ hS.out.bel)).mono ?_; rintro e1 w5 ⟨rfl, k5⟩; have M5 := ms_next hS k5))
          cases g
          · obtain rfl := HF.out rfl
            go_wp2_with fail
            go_ret
            exact ⟨rfl, M5.out.bel⟩
          · have HJ := Lib.hid (HX.out rfl)
            go_wp2_with fail
            go_roundw
            case rel => exact ⟨n + 1, by omega, by go_num, HJ, M5⟩
            case measure => simp [intOf]; omega
        · obtain rfl : n = j := by omega
          have HZ : r = 0 := by
            have e := HR2.out
            rw [fb_all n HJ.out, decide_eq_true rfl, if_pos rfl] at e
            exact e.symm
          subst HZ
          have mc := M.out.mod.cell
          go_wp2_with fail
          go_ret
          exact ⟨rfl, M.out.bel⟩
end Go.Proofs.Ytgkahcchekiogaa.Vmr
