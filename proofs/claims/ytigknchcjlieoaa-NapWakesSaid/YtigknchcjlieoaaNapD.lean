/- Package nap: Cost, and its reference. -/
import Derived.Test.YtigknchcjlieoaaNapC
namespace Go.Proofs.Ytigknchcjlieoaa.NapD
open Go.RowKit Base Kit Conf PowA PowB PowC PowR WideB LvlA OscPlain OscZ NapA NapB NapC
set_option linter.unusedVariables false
set_option linter.unusedSimpArgs false

set_option maxRecDepth 100000 in
set_option maxHeartbeats 2000000 in
theorem Cost_any (p : PowC) (t now en : Int) (w : World) (ok : p.Ok w) (x e : Int) (hr : Hid (CostR p t now en = (x, e))) :
    Calls Try.prog 32 #[.agg #[.slice p.la p.ln p.lc, .slice p.na p.nn p.nc, .int .i64 p.sw, .int .i64 p.id, .int .i64 p.ch, .int .i64 p.qu, .int .i64 p.sl, .int .i64 p.pp], .int .i64 t, .int .i64 now, .int .i64 en] w fun e' w' => e' = .returned (.tuple #[.int .i64 x, .int .i64 e]) ∧ Below w.heap.size w w' := by
  obtain ⟨c, hc⟩ : ∃ c, CntR p t now en = c := ⟨_, rfl⟩
  have hr := hr.out
  unfold CostR at hr
  rw [hc] at hr
  have C := Lib.hid (fun w1 (h : Below w.heap.size w w1) => Counts_any p t now en w1 (ok.below h (Nat.le_refl _)) c (Lib.hid hc))
  by_cases hlt : c < 1
  · rw [if_pos (.inl hlt)] at hr
    simp only [Prod.mk.injEq] at hr
    obtain ⟨rfl, rfl⟩ := hr
    clear hc
    have S := pst_in w p
    have bc := S.out.box.cell
    go_enter Try.func32, Try.ntmps32
    go_wp2_with fail
    refine (C.out _ S.out.bel).mono ?_
    rintro e1 w5 ⟨rfl, k5⟩
    have S := pst_next S k5
    clear k5 bc
    have bc := S.out.box.cell
    go_wp2_with fail
    go_ret2
    exact ⟨rfl, S.out.bel⟩
  have hlt : 1 ≤ c := by omega
  obtain ⟨k, rfl, hk, may, h0, hcn⟩ := cnt_ge (by rw [hc]; exact hlt : 1 ≤ CntR p t now en)
  rw [hc] at hcn
  have m1 := may.2.1
  have m2 := may.2.2.1
  have m3 := may.2.2.2
  by_cases hlo : 1099511627776 < en - now
  · rw [if_pos (.inr hlo)] at hr
    simp only [Prod.mk.injEq] at hr
    obtain ⟨rfl, rfl⟩ := hr
    clear hc may hcn h0
    have S := pst_in w p
    have bc := S.out.box.cell
    go_enter Try.func32, Try.ntmps32
    go_wp2_with fail
    refine (C.out _ S.out.bel).mono ?_
    rintro e1 w5 ⟨rfl, k5⟩
    have S := pst_next S k5
    clear k5 bc
    have bc := S.out.box.cell
    go_wp2_with fail
    go_ret2
    exact ⟨rfl, S.out.bel⟩
  rw [if_neg (by omega), Int.toNat_natCast] at hr
  simp only [Prod.mk.injEq] at hr
  have hlo : en - now ≤ 1099511627776 := by omega
  clear hc
  have D := Lib.hid (fun w1 (h : Below w.heap.size w w1) => cost_any p k now en w1 (ok.below h (Nat.le_refl _)) may hk h0 hlo x (Lib.hid hr.1))
  obtain ⟨-, rfl⟩ := hr
  clear may
  have S := pst_in w p
  have bc := S.out.box.cell
  go_enter Try.func32, Try.ntmps32
  go_wp2_with fail
  refine (C.out _ S.out.bel).mono ?_
  rintro e1 w5 ⟨rfl, k5⟩
  have S := pst_next S k5
  clear k5 bc
  have bc := S.out.box.cell
  go_wp2_with fail
  refine (D.out _ S.out.bel).mono ?_
  rintro e1 w5 ⟨rfl, k5⟩
  have S := pst_next S k5
  clear k5 bc
  go_wp2_with fail
  go_ret2
  exact ⟨rfl, S.out.bel⟩
set_option maxRecDepth 100000 in
set_option maxHeartbeats 2000000 in
theorem Costr_any (p : PowC) (t now en : Int) (w : World) (ok : p.Ok w) (x e : Int) (hr : Hid (CostR p t now en = (x, e))) :
    Calls Try.prog 33 #[.agg #[.slice p.la p.ln p.lc, .slice p.na p.nn p.nc, .int .i64 p.sw, .int .i64 p.id, .int .i64 p.ch, .int .i64 p.qu, .int .i64 p.sl, .int .i64 p.pp], .int .i64 t, .int .i64 now, .int .i64 en] w fun e' w' => e' = .returned (.tuple #[.int .i64 x, .int .i64 e]) ∧ Below w.heap.size w w' := by
  obtain ⟨c, hc⟩ : ∃ c, CntR p t now en = c := ⟨_, rfl⟩
  have hr := hr.out
  unfold CostR at hr
  rw [hc] at hr
  have C := Lib.hid (fun w1 (h : Below w.heap.size w w1) => Countsr_any p t now en w1 (ok.below h (Nat.le_refl _)) c (Lib.hid hc))
  by_cases hlt : c < 1
  · rw [if_pos (.inl hlt)] at hr
    simp only [Prod.mk.injEq] at hr
    obtain ⟨rfl, rfl⟩ := hr
    clear hc
    have S := pst_in w p
    have bc := S.out.box.cell
    go_enter Try.func33, Try.ntmps33
    go_wp2_with fail
    refine (C.out _ S.out.bel).mono ?_
    rintro e1 w5 ⟨rfl, k5⟩
    have S := pst_next S k5
    clear k5 bc
    have bc := S.out.box.cell
    go_wp2_with fail
    go_ret2
    exact ⟨rfl, S.out.bel⟩
  have hlt : 1 ≤ c := by omega
  obtain ⟨k, rfl, hk, may, h0, hcn⟩ := cnt_ge (by rw [hc]; exact hlt : 1 ≤ CntR p t now en)
  rw [hc] at hcn
  have m1 := may.2.1
  have m2 := may.2.2.1
  have m3 := may.2.2.2
  by_cases hlo : 1099511627776 < en - now
  · rw [if_pos (.inr hlo)] at hr
    simp only [Prod.mk.injEq] at hr
    obtain ⟨rfl, rfl⟩ := hr
    clear hc may hcn h0
    have S := pst_in w p
    have bc := S.out.box.cell
    go_enter Try.func33, Try.ntmps33
    go_wp2_with fail
    refine (C.out _ S.out.bel).mono ?_
    rintro e1 w5 ⟨rfl, k5⟩
    have S := pst_next S k5
    clear k5 bc
    have bc := S.out.box.cell
    go_wp2_with fail
    go_ret2
    exact ⟨rfl, S.out.bel⟩
  rw [if_neg (by omega), Int.toNat_natCast] at hr
  simp only [Prod.mk.injEq] at hr
  have hlo : en - now ≤ 1099511627776 := by omega
  clear hc
  obtain ⟨hr9, rfl⟩ := hr
  have hr := hr9
  clear hr9
  have hm2 := ok.nap.out.1
  have C := C.out
  have B := fun w1 (h : Below w.heap.size w w1) R (hR : Hid (roomN p k now en = R)) => roomr_any p k now en w1 (ok.below h (Nat.le_refl _)) may hk R hR
  have hl := hlo
  obtain rfl : c = cntN p k now en := hcn
  have nb := nap_bd may.1 hk
  have rb := room_bd may hk
  have ab := asl_bd h0
  have pb := rest_bd may.1
  have cb := cntN_bd (k := k) (now := now) (en := en) may.1
  obtain ⟨R, hR⟩ : ∃ R, roomN p k now en = R := ⟨_, rfl⟩
  obtain ⟨c, hc⟩ : ∃ c, cntN p k now en = c := ⟨_, rfl⟩
  obtain ⟨⟨T, E⟩, hE⟩ : ∃ x, el p.sl 0 c = x := ⟨_, rfl⟩
  obtain ⟨a, ha⟩ : ∃ a, aslN p k now en = a := ⟨_, rfl⟩
  have e0 := el_nn p.sl 0 c
  unfold costN at hr
  rw [hR] at rb h0 ab
  rw [ha] at ab
  rw [hc] at cb
  rw [hE] at e0
  rw [hR, ha] at hr
  unfold aslN at ha
  rw [hc, hE, hR] at ha
  dsimp only at ha e0
  have D := fun w1 => OscB.elapsedr_any p.sl 0 c T E w1 (Lib.hid hE) ⟨by omega, by omega⟩
  rw [hc] at C hlt
  have B := fun w1 h => B w1 h R (Lib.hid hR)
  obtain ⟨b, off, ea, hbl, c0, c1, c2, i0, i1, i2⟩ := rows_at3 ok.nap k hk
  clear hc hE may i0 i1 i2
  clear hR
  generalize p.nf k 0 = x0 at *
  generalize p.nf k 1 = x1 at *
  generalize p.nf k 2 = x2 at *
  obtain ⟨⟨n0, n1⟩, ⟨n2, n3⟩, ⟨n4, n5⟩⟩ := nb
  obtain ⟨-, ⟨d0, d1⟩, ⟨g0, g1⟩, -, ⟨pb1, pb2⟩, ⟨pb3, pb4⟩, -⟩ := pb
  have A0 := mul_bd g0 g1 (show 0 ≤ x1 + x2 by omega) (show _ ≤ 200000000 by omega)
  have B0 := mul_bd n0 n1 ab.1 (show _ ≤ 1099511627776 by omega)
  have D0 := mul_bd d0 d1 (show 0 ≤ R - a by omega) (show _ ≤ 1099511627776 by omega)
  have A1 := mul_bd g0 g1 n2 n3
  have A2 := mul_bd g0 g1 n4 n5
  rw [ea] at C B ⊢
  have B := Lib.hid B
  have C := Lib.hid C
  have D := Lib.hid D
  have S := nw_in w #[.slice p.la p.ln p.lc, .slice (some ⟨b, off, none⟩) p.nn p.nc, .int .i64 p.sw, .int .i64 p.id, .int .i64 p.ch, .int .i64 p.qu, .int .i64 p.sl, .int .i64 p.pp] c0 c1 c2
  clear c0 c1 c2
  by_cases hE0 : E = 0
  · subst hE0
    by_cases hT : R < T
    · obtain rfl : R = a := by rw [← ha, if_pos (.inr hT)]
      rw [Int.mul_add] at hr A0
      obtain ⟨P1, h1⟩ : ∃ z, p.ch * x1 = z := ⟨_, rfl⟩
      obtain ⟨P2, h2⟩ : ∃ z, p.ch * x2 = z := ⟨_, rfl⟩
      obtain ⟨PB, hB⟩ : ∃ z, x0 * R = z := ⟨_, rfl⟩
      obtain ⟨PD, hD⟩ : ∃ z, p.id * (R - R) = z := ⟨_, rfl⟩
      rw [h1] at A0 hr A1
      rw [h2] at A0 hr A2
      rw [hB] at B0 hr
      rw [hD] at D0 hr
      have HR := Lib.hid hr
      have H1 := Lib.hid h1
      have H2 := Lib.hid h2
      have HB := Lib.hid hB
      have HD := Lib.hid hD
      clear h1 h2 hB hD hr ha ea
      try clear hE0
      have bc := S.out.box.cell
      go_enter Try.func33, Try.ntmps33
      go_wp2_with fail
      refine (C.out _ S.out.bel).mono ?_
      rintro e1 w5 ⟨rfl, k5⟩
      have S := nw_next S k5
      clear k5 bc
      have bc := S.out.box.cell
      go_wp2_with fail
      refine (B.out _ S.out.bel).mono ?_
      rintro e1 w5 ⟨rfl, k5⟩
      have S := nw_next S k5
      clear k5 bc
      have bc := S.out.box.cell
      go_wp2_with fail
      refine (D.out _).mono ?_
      rintro e1 w5 ⟨rfl, k5⟩
      have S := nw_next S k5
      clear k5 bc
      obtain ⟨y0, y1, y2, y3⟩ := nw_rules S
      have z1 := (S.out.box.alloc (.cells #[.int .i64 x0, .int .i64 x1, .int .i64 x2] 73)).cell
      have z2 := (Box.new w5 #[.int .i64 x0, .int .i64 x1, .int .i64 x2] 73).cell
      have h1 := H1.out
      have h2 := H2.out
      have hB := HB.out
      have hD := HD.out
      go_wp2_with fail
      go_ret2
      refine ⟨Kit.ret_pair (Prod.ext ?_ rfl), S.out.bel.alloc S.out.bel.size _⟩
      have hr := HR.out
      try rw [Int.sub_self, Int.mul_zero] at hD
      first | exact hr | omega | (simp; omega)
    · obtain rfl : a = T := by rw [← ha, if_neg (by omega)]
      have hT : a ≤ R := by omega
      rw [Int.mul_add] at hr A0
      obtain ⟨P1, h1⟩ : ∃ z, p.ch * x1 = z := ⟨_, rfl⟩
      obtain ⟨P2, h2⟩ : ∃ z, p.ch * x2 = z := ⟨_, rfl⟩
      obtain ⟨PB, hB⟩ : ∃ z, x0 * a = z := ⟨_, rfl⟩
      obtain ⟨PD, hD⟩ : ∃ z, p.id * (R - a) = z := ⟨_, rfl⟩
      rw [h1] at A0 hr A1
      rw [h2] at A0 hr A2
      rw [hB] at B0 hr
      rw [hD] at D0 hr
      have HR := Lib.hid hr
      have H1 := Lib.hid h1
      have H2 := Lib.hid h2
      have HB := Lib.hid hB
      have HD := Lib.hid hD
      clear h1 h2 hB hD hr ha ea
      try clear hE0
      have bc := S.out.box.cell
      go_enter Try.func33, Try.ntmps33
      go_wp2_with fail
      refine (C.out _ S.out.bel).mono ?_
      rintro e1 w5 ⟨rfl, k5⟩
      have S := nw_next S k5
      clear k5 bc
      have bc := S.out.box.cell
      go_wp2_with fail
      refine (B.out _ S.out.bel).mono ?_
      rintro e1 w5 ⟨rfl, k5⟩
      have S := nw_next S k5
      clear k5 bc
      have bc := S.out.box.cell
      go_wp2_with fail
      refine (D.out _).mono ?_
      rintro e1 w5 ⟨rfl, k5⟩
      have S := nw_next S k5
      clear k5 bc
      obtain ⟨y0, y1, y2, y3⟩ := nw_rules S
      have z1 := (S.out.box.alloc (.cells #[.int .i64 x0, .int .i64 x1, .int .i64 x2] 73)).cell
      have z2 := (Box.new w5 #[.int .i64 x0, .int .i64 x1, .int .i64 x2] 73).cell
      have h1 := H1.out
      have h2 := H2.out
      have hB := HB.out
      have hD := HD.out
      go_wp2_with fail
      go_ret2
      refine ⟨Kit.ret_pair (Prod.ext ?_ rfl), S.out.bel.alloc S.out.bel.size _⟩
      have hr := HR.out
      try rw [Int.sub_self, Int.mul_zero] at hD
      first | exact hr | omega | (simp; omega)
  · obtain rfl : R = a := by rw [← ha, if_pos (.inl hE0)]
    have hE1 : (E != 0) = true := by simpa using hE0
    rw [Int.mul_add] at hr A0
    obtain ⟨P1, h1⟩ : ∃ z, p.ch * x1 = z := ⟨_, rfl⟩
    obtain ⟨P2, h2⟩ : ∃ z, p.ch * x2 = z := ⟨_, rfl⟩
    obtain ⟨PB, hB⟩ : ∃ z, x0 * R = z := ⟨_, rfl⟩
    obtain ⟨PD, hD⟩ : ∃ z, p.id * (R - R) = z := ⟨_, rfl⟩
    rw [h1] at A0 hr A1
    rw [h2] at A0 hr A2
    rw [hB] at B0 hr
    rw [hD] at D0 hr
    have HR := Lib.hid hr
    have H1 := Lib.hid h1
    have H2 := Lib.hid h2
    have HB := Lib.hid hB
    have HD := Lib.hid hD
    clear h1 h2 hB hD hr ha ea
    try clear hE0
    have bc := S.out.box.cell
    go_enter Try.func33, Try.ntmps33
    go_wp2_with fail
    refine (C.out _ S.out.bel).mono ?_
    rintro e1 w5 ⟨rfl, k5⟩
    have S := nw_next S k5
    clear k5 bc
    have bc := S.out.box.cell
    go_wp2_with fail
    refine (B.out _ S.out.bel).mono ?_
    rintro e1 w5 ⟨rfl, k5⟩
    have S := nw_next S k5
    clear k5 bc
    have bc := S.out.box.cell
    go_wp2_with fail
    refine (D.out _).mono ?_
    rintro e1 w5 ⟨rfl, k5⟩
    have S := nw_next S k5
    clear k5 bc
    obtain ⟨y0, y1, y2, y3⟩ := nw_rules S
    have z1 := (S.out.box.alloc (.cells #[.int .i64 x0, .int .i64 x1, .int .i64 x2] 73)).cell
    have z2 := (Box.new w5 #[.int .i64 x0, .int .i64 x1, .int .i64 x2] 73).cell
    have h1 := H1.out
    have h2 := H2.out
    have hB := HB.out
    have hD := HD.out
    go_wp2_with fail
    go_ret2
    refine ⟨Kit.ret_pair (Prod.ext ?_ rfl), S.out.bel.alloc S.out.bel.size _⟩
    have hr := HR.out
    try rw [Int.sub_self, Int.mul_zero] at hD
    first | exact hr | omega | (simp; omega)
end Go.Proofs.Ytigknchcjlieoaa.NapD
