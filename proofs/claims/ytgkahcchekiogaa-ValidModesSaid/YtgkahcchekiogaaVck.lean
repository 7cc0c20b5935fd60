/- Package valid: channels, modes, Check. -/
import Derived.Test.YtgkahcchekiogaaVnu
import Derived.Test.YtgkahcchekiogaaVci
import Derived.Test.YtgkahcchekiogaaVmo
import Derived.Test.YtgkahcchekiogaaVpb
import Derived.Test.YtgkahcchekiogaaPowC
namespace Go.Proofs.Ytgkahcchekiogaa.Vck
open Go.RowKit Base Kit Conf Conf2 PowA PowB Vfa Vfb Val Vld Vpa Vpb Vpr Vsh Short Vcf Vch Vci Vnu Vmo
set_option linter.unusedVariables false
set_option linter.unusedSimpArgs false
def chE (c : ConfC) (k : Nat) : Int := if ChanR c (k : Int) = true then 0 else 25
def partsR (c : ConfC) : Int × Int := nuR (fun k => PartR (c.p k)) c.pn
def chansR (c : ConfC) : Int × Int := if 16 < c.cn then (25, 0) else nuR (chE c) c.cn
def modesR (c : ConfC) : Int × Int := if inB (c.mn : Int) 1 4 = true then nuR (fun k => ModeR c (k : Int)) c.mn else (26, 0)
def thn (a b : Int × Int) : Int × Int := if a.1 = 0 then b else a
def CheckR (c : ConfC) : Int × Int := if inB (c.pn : Int) 1 8 = true then thn (partsR c) (thn (powR c.w) (thn (chansR c) (thn (modesR c) (ShedR c.df c.uf c.dn c.un)))) else (20, 0)
set_option maxHeartbeats 2000000 in
theorem check1_any (c : ConfC) (k : Nat) (bc : Nat) (w : World) (ok : c.Ok w) (hc : Hid (Box w bc #[.slice c.pa c.pn c.pc, .slice c.ca c.cn c.cc, .slice c.ma c.mn c.mc, .slice c.w.la c.w.ln c.w.lc, .slice c.w.na c.w.nn c.w.nc, .int .i64 c.w.sw, .int .i64 c.w.id, .int .i64 c.w.ch, .int .i64 c.w.qu, .int .i64 c.w.sl, .int .i64 c.w.pp, .slice c.da c.dn c.dc, .slice c.ua c.un c.uc] 59)) (hk : k < c.pn) :
    Calls Try.prog 77 #[.int .i64 (k : Int), .pointer (some ⟨bc, 0, none⟩)] w fun e w' => e = .returned (.int .i64 (PartR (c.p k))) ∧ Below w.heap.size w w' := by
  have h1 := ok.parts.out.1
  have C := Lib.hid (Part_any (c.p k) w (ok.part k hk) _ (Lib.hid rfl))
  obtain ⟨b, off, ea, hlt, u0, u1, u2, u3, u4, u5, u6, u7, u8, u9, u10⟩ := part_at ok.parts k hk
  have cc := hc.out.cell
  rw [ea] at cc
  clear ea
  generalize PartR (c.p k) = r at *
  generalize c.p k = p at *
  go_enter Try.func77, Try.ntmps77
  go_wp2_with fail
  refine C.out.mono ?_
  rintro e1 w5 ⟨rfl, k5⟩
  replace k5 := Lib.hid k5
  go_wp2_with fail
  go_ret
  exact ⟨rfl, k5.out⟩
set_option maxHeartbeats 2000000 in
theorem channels1_any (c : ConfC) (k : Nat) (bc : Nat) (w : World) (ok : c.Ok w) (hc : Hid (Box w bc #[.slice c.pa c.pn c.pc, .slice c.ca c.cn c.cc, .slice c.ma c.mn c.mc, .slice c.w.la c.w.ln c.w.lc, .slice c.w.na c.w.nn c.w.nc, .int .i64 c.w.sw, .int .i64 c.w.id, .int .i64 c.w.ch, .int .i64 c.w.qu, .int .i64 c.w.sl, .int .i64 c.w.pp, .slice c.da c.dn c.dc, .slice c.ua c.un c.uc] 59)) (hk : k < c.cn) :
    Calls Try.prog 129 #[.int .i64 (k : Int), .pointer (some ⟨bc, 0, none⟩)] w fun e w' => e = .returned (.int .i64 (chE c k)) ∧ Below w.heap.size w w' := by
  have h1 := ok.chans.out.1
  obtain ⟨r, hr⟩ : ∃ r, ChanR c (k : Int) = r := ⟨_, rfl⟩
  have C := Lib.hid (Channel_any c (k : Int) r w ok ⟨by omega, by omega⟩ (Lib.hid hr))
  unfold chE
  rw [hr]
  clear hr
  have cc := hc.out.cell
  cases r
  · rw [if_neg (by decide)]
    go_enter Try.func129, Try.ntmps129
    go_wp2_with fail
    refine C.out.mono ?_
    rintro e1 w5 ⟨rfl, k5⟩
    replace k5 := Lib.hid k5
    go_wp2_with fail
    go_ret
    exact ⟨rfl, k5.out⟩
  · rw [if_pos rfl]
    go_enter Try.func129, Try.ntmps129
    go_wp2_with fail
    refine C.out.mono ?_
    rintro e1 w5 ⟨rfl, k5⟩
    replace k5 := Lib.hid k5
    go_wp2_with fail
    go_ret
    exact ⟨rfl, k5.out⟩
set_option maxHeartbeats 2000000 in
theorem modes1_any (c : ConfC) (k : Nat) (bc : Nat) (w : World) (ok : c.Ok w) (hc : Hid (Box w bc #[.slice c.pa c.pn c.pc, .slice c.ca c.cn c.cc, .slice c.ma c.mn c.mc, .slice c.w.la c.w.ln c.w.lc, .slice c.w.na c.w.nn c.w.nc, .int .i64 c.w.sw, .int .i64 c.w.id, .int .i64 c.w.ch, .int .i64 c.w.qu, .int .i64 c.w.sl, .int .i64 c.w.pp, .slice c.da c.dn c.dc, .slice c.ua c.un c.uc] 59)) (hk : k < c.mn) :
    Calls Try.prog 130 #[.int .i64 (k : Int), .pointer (some ⟨bc, 0, none⟩)] w fun e w' => e = .returned (.int .i64 (ModeR c (k : Int))) ∧ Below w.heap.size w w' := by
  have h1 := ok.modes.out.1
  obtain ⟨r, hr⟩ : ∃ r, ModeR c (k : Int) = r := ⟨_, rfl⟩
  have C := Lib.hid (Mode_any c (k : Int) r w ok ⟨by omega, by omega⟩ (Lib.hid hr))
  rw [hr]
  clear hr
  have cc := hc.out.cell
  go_enter Try.func130, Try.ntmps130
  go_wp2_with fail
  refine C.out.mono ?_
  rintro e1 w5 ⟨rfl, k5⟩
  replace k5 := Lib.hid k5
  go_wp2_with fail
  go_ret
  exact ⟨rfl, k5.out⟩
set_option maxHeartbeats 2000000 in
theorem channels_any (c : ConfC) (er kr : Int) (w : World) (ok : c.Ok w) (hr : Hid (chansR c = (er, kr))) :
    Calls Try.prog 78 #[.agg #[.slice c.pa c.pn c.pc, .slice c.ca c.cn c.cc, .slice c.ma c.mn c.mc, .slice c.w.la c.w.ln c.w.lc, .slice c.w.na c.w.nn c.w.nc, .int .i64 c.w.sw, .int .i64 c.w.id, .int .i64 c.w.ch, .int .i64 c.w.qu, .int .i64 c.w.sl, .int .i64 c.w.pp, .slice c.da c.dn c.dc, .slice c.ua c.un c.uc]] w fun e w' => e = .returned (.tuple #[.int .i64 er, .int .i64 kr]) ∧ Below w.heap.size w w' := by
  have h1 := ok.chans.out.1
  have hr := hr.out
  unfold chansR at hr
  by_cases h : 16 < c.cn
  · rw [if_pos h, Prod.mk.injEq] at hr
    obtain ⟨rfl, rfl⟩ := hr
    have h : (16 : Int) < (c.cn : Int) := by omega
    have S := cs_in w c
    have bc := S.out.box.cell
    go_enter Try.func78, Try.ntmps78
    go_wp2_with fail
    generalize w.alloc (.cells #[.slice c.pa c.pn c.pc, .slice c.ca c.cn c.cc, .slice c.ma c.mn c.mc, .slice c.w.la c.w.ln c.w.lc, .slice c.w.na c.w.nn c.w.nc, .int .i64 c.w.sw, .int .i64 c.w.id, .int .i64 c.w.ch, .int .i64 c.w.qu, .int .i64 c.w.sl, .int .i64 c.w.pp, .slice c.da c.dn c.dc, .slice c.ua c.un c.uc] 59) = W at *
    go_ret2
    exact ⟨rfl, S.out.bel⟩
  · rw [if_neg h] at hr
    have C := Lib.hid (fun w' bc (hb : Below w.heap.size w w') (X : Hid (Box w' bc #[.slice c.pa c.pn c.pc, .slice c.ca c.cn c.cc, .slice c.ma c.mn c.mc, .slice c.w.la c.w.ln c.w.lc, .slice c.w.na c.w.nn c.w.nc, .int .i64 c.w.sw, .int .i64 c.w.id, .int .i64 c.w.ch, .int .i64 c.w.qu, .int .i64 c.w.sl, .int .i64 c.w.pp, .slice c.da c.dn c.dc, .slice c.ua c.un c.uc] 59)) => numbered_any c.cn (chE c) 129 #[.pointer (some ⟨bc, 0, none⟩)] er kr w' (by omega) (fun args w => by go_simp)
      (Lib.hid (fun k wr hk hb1 => channels1_any c k bc wr (ok.below (below_next hb hb1) (Nat.le_refl _)) (Lib.hid (X.out.next hb1)) hk)) (Lib.hid hr))
    have h : (c.cn : Int) ≤ 16 := by omega
    clear hr
    have S := cs_in w c
    have bc := S.out.box.cell
    go_enter Try.func78, Try.ntmps78
    go_wp2_with fail
    generalize w.alloc (.cells #[.slice c.pa c.pn c.pc, .slice c.ca c.cn c.cc, .slice c.ma c.mn c.mc, .slice c.w.la c.w.ln c.w.lc, .slice c.w.na c.w.nn c.w.nc, .int .i64 c.w.sw, .int .i64 c.w.id, .int .i64 c.w.ch, .int .i64 c.w.qu, .int .i64 c.w.sl, .int .i64 c.w.pp, .slice c.da c.dn c.dc, .slice c.ua c.un c.uc] 59) = W at *
    refine (C.out _ _ S.out.bel (Lib.hid S.out.box)).mono ?_
    rintro e1 w5 ⟨rfl, k5⟩
    have S := cs_next S k5
    clear k5 bc
    go_wp2_with fail
    go_ret2
    exact ⟨rfl, S.out.bel⟩
set_option maxHeartbeats 2000000 in
theorem modes_any (c : ConfC) (er kr : Int) (w : World) (ok : c.Ok w) (hr : Hid (modesR c = (er, kr))) :
    Calls Try.prog 79 #[.agg #[.slice c.pa c.pn c.pc, .slice c.ca c.cn c.cc, .slice c.ma c.mn c.mc, .slice c.w.la c.w.ln c.w.lc, .slice c.w.na c.w.nn c.w.nc, .int .i64 c.w.sw, .int .i64 c.w.id, .int .i64 c.w.ch, .int .i64 c.w.qu, .int .i64 c.w.sl, .int .i64 c.w.pp, .slice c.da c.dn c.dc, .slice c.ua c.un c.uc]] w fun e w' => e = .returned (.tuple #[.int .i64 er, .int .i64 kr]) ∧ Below w.heap.size w w' := by
  have h1 := ok.modes.out.1
  have hr := hr.out
  unfold modesR at hr
  obtain ⟨r0, d0⟩ : ∃ z, inB (c.mn : Int) 1 4 = z := ⟨_, rfl⟩
  have C0 := Lib.hid (fun w => in_any (c.mn : Int) 1 4 r0 w (Lib.hid d0))
  rw [d0] at hr
  cases r0
  · rw [if_neg (by decide), Prod.mk.injEq] at hr
    obtain ⟨rfl, rfl⟩ := hr
    clear d0
    have S := cs_in w c
    have bc := S.out.box.cell
    go_enter Try.func79, Try.ntmps79
    go_wp2_with fail
    generalize w.alloc (.cells #[.slice c.pa c.pn c.pc, .slice c.ca c.cn c.cc, .slice c.ma c.mn c.mc, .slice c.w.la c.w.ln c.w.lc, .slice c.w.na c.w.nn c.w.nc, .int .i64 c.w.sw, .int .i64 c.w.id, .int .i64 c.w.ch, .int .i64 c.w.qu, .int .i64 c.w.sl, .int .i64 c.w.pp, .slice c.da c.dn c.dc, .slice c.ua c.un c.uc] 59) = W at *
    refine (C0.out _).mono ?_
    rintro e1 w5 ⟨rfl, e9⟩
    cases e9
    go_wp2_with fail
    go_ret2
    exact ⟨rfl, S.out.bel⟩
  · rw [if_pos rfl] at hr
    have h4 := inB_iff.1 d0
    have C := Lib.hid (fun w' bc (hb : Below w.heap.size w w') (X : Hid (Box w' bc #[.slice c.pa c.pn c.pc, .slice c.ca c.cn c.cc, .slice c.ma c.mn c.mc, .slice c.w.la c.w.ln c.w.lc, .slice c.w.na c.w.nn c.w.nc, .int .i64 c.w.sw, .int .i64 c.w.id, .int .i64 c.w.ch, .int .i64 c.w.qu, .int .i64 c.w.sl, .int .i64 c.w.pp, .slice c.da c.dn c.dc, .slice c.ua c.un c.uc] 59)) => numbered_any c.mn (fun k => ModeR c (k : Int)) 130 #[.pointer (some ⟨bc, 0, none⟩)] er kr w' (by omega) (fun args w => by go_simp)
      (Lib.hid (fun k wr hk hb1 => modes1_any c k bc wr (ok.below (below_next hb hb1) (Nat.le_refl _)) (Lib.hid (X.out.next hb1)) hk)) (Lib.hid hr))
    clear hr d0 h4
    have S := cs_in w c
    have bc := S.out.box.cell
    go_enter Try.func79, Try.ntmps79
    go_wp2_with fail
    generalize w.alloc (.cells #[.slice c.pa c.pn c.pc, .slice c.ca c.cn c.cc, .slice c.ma c.mn c.mc, .slice c.w.la c.w.ln c.w.lc, .slice c.w.na c.w.nn c.w.nc, .int .i64 c.w.sw, .int .i64 c.w.id, .int .i64 c.w.ch, .int .i64 c.w.qu, .int .i64 c.w.sl, .int .i64 c.w.pp, .slice c.da c.dn c.dc, .slice c.ua c.un c.uc] 59) = W at *
    refine (C0.out _).mono ?_
    rintro e1 w5 ⟨rfl, e9⟩
    cases e9
    go_wp2_with fail
    refine (C.out _ _ S.out.bel (Lib.hid S.out.box)).mono ?_
    rintro e1 w5 ⟨rfl, k5⟩
    have S := cs_next S k5
    clear k5 bc
    go_wp2_with fail
    go_ret2
    exact ⟨rfl, S.out.bel⟩
set_option maxRecDepth 100000 in
set_option maxHeartbeats 4000000 in
theorem Check_any (c : ConfC) (er kr : Int) (w : World) (ok : c.Ok w) (hr : Hid (CheckR c = (er, kr))) :
    Calls Try.prog 30 #[.agg #[.slice c.pa c.pn c.pc, .slice c.ca c.cn c.cc, .slice c.ma c.mn c.mc, .slice c.w.la c.w.ln c.w.lc, .slice c.w.na c.w.nn c.w.nc, .int .i64 c.w.sw, .int .i64 c.w.id, .int .i64 c.w.ch, .int .i64 c.w.qu, .int .i64 c.w.sl, .int .i64 c.w.pp, .slice c.da c.dn c.dc, .slice c.ua c.un c.uc]] w fun e w' => e = .returned (.tuple #[.int .i64 er, .int .i64 kr]) ∧ Below w.heap.size w w' := by
  have h1 := ok.parts.out.1
  have OK := Lib.hid (fun w' (h : Below w.heap.size w w') => ok.below h (Nat.le_refl _))
  have hr := hr.out
  unfold CheckR at hr
  obtain ⟨r0, d0⟩ : ∃ z, inB (c.pn : Int) 1 8 = z := ⟨_, rfl⟩
  have C0 := Lib.hid (fun w => in_any (c.pn : Int) 1 8 r0 w (Lib.hid d0))
  rw [d0] at hr
  cases r0
  · rw [if_neg (by decide), Prod.mk.injEq] at hr
    obtain ⟨rfl, rfl⟩ := hr
    clear d0
    have S := cs_in w c
    have bc := S.out.box.cell
    go_enter Try.func30, Try.ntmps30
    go_wp2_with fail
    generalize w.alloc (.cells #[.slice c.pa c.pn c.pc, .slice c.ca c.cn c.cc, .slice c.ma c.mn c.mc, .slice c.w.la c.w.ln c.w.lc, .slice c.w.na c.w.nn c.w.nc, .int .i64 c.w.sw, .int .i64 c.w.id, .int .i64 c.w.ch, .int .i64 c.w.qu, .int .i64 c.w.sl, .int .i64 c.w.pp, .slice c.da c.dn c.dc, .slice c.ua c.un c.uc] 59) = W at *
    refine (C0.out _).mono ?_
    rintro e1 w5 ⟨rfl, e9⟩
    cases e9
    go_wp2_with fail
    go_ret2
    exact ⟨rfl, S.out.bel⟩
  · rw [if_pos rfl] at hr
    have h4 := inB_iff.1 d0
    obtain ⟨⟨q1, t1⟩, g1⟩ : ∃ z, partsR c = z := ⟨_, rfl⟩
    obtain ⟨⟨q2, t2⟩, g2⟩ : ∃ z, powR c.w = z := ⟨_, rfl⟩
    obtain ⟨⟨q3, t3⟩, g3⟩ : ∃ z, chansR c = z := ⟨_, rfl⟩
    obtain ⟨⟨q4, t4⟩, g4⟩ : ∃ z, modesR c = z := ⟨_, rfl⟩
    have C1 := Lib.hid (fun w' bc (hb : Below w.heap.size w w') (X : Hid (Box w' bc #[.slice c.pa c.pn c.pc, .slice c.ca c.cn c.cc, .slice c.ma c.mn c.mc, .slice c.w.la c.w.ln c.w.lc, .slice c.w.na c.w.nn c.w.nc, .int .i64 c.w.sw, .int .i64 c.w.id, .int .i64 c.w.ch, .int .i64 c.w.qu, .int .i64 c.w.sl, .int .i64 c.w.pp, .slice c.da c.dn c.dc, .slice c.ua c.un c.uc] 59)) => numbered_any c.pn (fun k => PartR (c.p k)) 77 #[.pointer (some ⟨bc, 0, none⟩)] q1 t1 w' (by omega) (fun args w => by go_simp)
      (Lib.hid (fun k wr hk hb1 => check1_any c k bc wr (ok.below (below_next hb hb1) (Nat.le_refl _)) (Lib.hid (X.out.next hb1)) hk)) (Lib.hid g1))
    have C2 := Lib.hid (fun w' h => Go.Proofs.Ytgkahcchekiogaa.PowC.power_any c.w w' h q2 t2 (Lib.hid g2))
    have C3 := Lib.hid (fun w' h => channels_any c q3 t3 w' h (Lib.hid g3))
    have C4 := Lib.hid (fun w' h => modes_any c q4 t4 w' h (Lib.hid g4))
    rw [g1, g2, g3, g4] at hr
    unfold thn at hr
    dsimp only at hr
    clear d0 h4 g1 g2 g3 g4
    by_cases z1 : q1 = 0
    · rw [if_pos z1] at hr
      replace z1 : (q1 != 0) = false := by rw [bne_eq_false_iff_eq]; exact z1
      by_cases z2 : q2 = 0
      · rw [if_pos z2] at hr
        replace z2 : (q2 != 0) = false := by rw [bne_eq_false_iff_eq]; exact z2
        by_cases z3 : q3 = 0
        · rw [if_pos z3] at hr
          replace z3 : (q3 != 0) = false := by rw [bne_eq_false_iff_eq]; exact z3
          by_cases z4 : q4 = 0
          · rw [if_pos z4] at hr
            replace z4 : (q4 != 0) = false := by rw [bne_eq_false_iff_eq]; exact z4
            have C5 := Lib.hid (fun w' (h : c.Ok w') => Shed_any c.da c.ua c.dn c.dc c.un c.uc c.df c.uf er kr w' h.down h.up (Lib.hid hr))
            clear hr
            have S := cs_in w c
            have bc := S.out.box.cell
            go_enter Try.func30, Try.ntmps30
            go_wp2_with fail
            generalize w.alloc (.cells #[.slice c.pa c.pn c.pc, .slice c.ca c.cn c.cc, .slice c.ma c.mn c.mc, .slice c.w.la c.w.ln c.w.lc, .slice c.w.na c.w.nn c.w.nc, .int .i64 c.w.sw, .int .i64 c.w.id, .int .i64 c.w.ch, .int .i64 c.w.qu, .int .i64 c.w.sl, .int .i64 c.w.pp, .slice c.da c.dn c.dc, .slice c.ua c.un c.uc] 59) = W at *
            refine (C0.out _).mono ?_
            rintro e1 w5 ⟨rfl, e9⟩
            cases e9
            go_wp2_with fail
            refine (C1.out _ _ S.out.bel (Lib.hid S.out.box)).mono ?_
            rintro e1 w5 ⟨rfl, k5⟩
            have S := cs_next S k5
            clear k5 bc
            have bc := S.out.box.cell
            go_wp2_with fail
            refine (C2.out _ (OK.out _ S.out.bel).pow).mono ?_
            rintro e1 w5 ⟨rfl, k5⟩
            have S := cs_next S k5
            clear k5 bc
            have bc := S.out.box.cell
            go_wp2_with fail
            refine (C3.out _ (OK.out _ S.out.bel)).mono ?_
            rintro e1 w5 ⟨rfl, k5⟩
            have S := cs_next S k5
            clear k5 bc
            have bc := S.out.box.cell
            go_wp2_with fail
            refine (C4.out _ (OK.out _ S.out.bel)).mono ?_
            rintro e1 w5 ⟨rfl, k5⟩
            have S := cs_next S k5
            clear k5 bc
            have bc := S.out.box.cell
            go_wp2_with fail
            refine (C5.out _ (OK.out _ S.out.bel)).mono ?_
            rintro e1 w5 ⟨rfl, k5⟩
            have S := cs_next S k5
            clear k5 bc
            have bc := S.out.box.cell
            go_wp2_with fail
            go_ret2
            exact ⟨rfl, S.out.bel⟩
          · rw [if_neg z4, Prod.mk.injEq] at hr
            obtain ⟨rfl, rfl⟩ := hr
            replace z4 : (q4 != 0) = true := by rw [bne_iff_ne]; exact z4
            have S := cs_in w c
            have bc := S.out.box.cell
            go_enter Try.func30, Try.ntmps30
            go_wp2_with fail
            generalize w.alloc (.cells #[.slice c.pa c.pn c.pc, .slice c.ca c.cn c.cc, .slice c.ma c.mn c.mc, .slice c.w.la c.w.ln c.w.lc, .slice c.w.na c.w.nn c.w.nc, .int .i64 c.w.sw, .int .i64 c.w.id, .int .i64 c.w.ch, .int .i64 c.w.qu, .int .i64 c.w.sl, .int .i64 c.w.pp, .slice c.da c.dn c.dc, .slice c.ua c.un c.uc] 59) = W at *
            refine (C0.out _).mono ?_
            rintro e1 w5 ⟨rfl, e9⟩
            cases e9
            go_wp2_with fail
            refine (C1.out _ _ S.out.bel (Lib.hid S.out.box)).mono ?_
            rintro e1 w5 ⟨rfl, k5⟩
            have S := cs_next S k5
            clear k5 bc
            have bc := S.out.box.cell
            go_wp2_with fail
            refine (C2.out _ (OK.out _ S.out.bel).pow).mono ?_
            rintro e1 w5 ⟨rfl, k5⟩
            have S := cs_next S k5
            clear k5 bc
            have bc := S.out.box.cell
            go_wp2_with fail
            refine (C3.out _ (OK.out _ S.out.bel)).mono ?_
            rintro e1 w5 ⟨rfl, k5⟩
            have S := cs_next S k5
            clear k5 bc
            have bc := S.out.box.cell
            go_wp2_with fail
            refine (C4.out _ (OK.out _ S.out.bel)).mono ?_
            rintro e1 w5 ⟨rfl, k5⟩
            have S := cs_next S k5
            clear k5 bc
            have bc := S.out.box.cell
            go_wp2_with fail
            go_ret2
            exact ⟨rfl, S.out.bel⟩
        · rw [if_neg z3, Prod.mk.injEq] at hr
          obtain ⟨rfl, rfl⟩ := hr
          replace z3 : (q3 != 0) = true := by rw [bne_iff_ne]; exact z3
          have S := cs_in w c
          have bc := S.out.box.cell
          go_enter Try.func30, Try.ntmps30
          go_wp2_with fail
          generalize w.alloc (.cells #[.slice c.pa c.pn c.pc, .slice c.ca c.cn c.cc, .slice c.ma c.mn c.mc, .slice c.w.la c.w.ln c.w.lc, .slice c.w.na c.w.nn c.w.nc, .int .i64 c.w.sw, .int .i64 c.w.id, .int .i64 c.w.ch, .int .i64 c.w.qu, .int .i64 c.w.sl, .int .i64 c.w.pp, .slice c.da c.dn c.dc, .slice c.ua c.un c.uc] 59) = W at *
          refine (C0.out _).mono ?_
          rintro e1 w5 ⟨rfl, e9⟩
          cases e9
          go_wp2_with fail
          refine (C1.out _ _ S.out.bel (Lib.hid S.out.box)).mono ?_
          rintro e1 w5 ⟨rfl, k5⟩
          have S := cs_next S k5
          clear k5 bc
          have bc := S.out.box.cell
          go_wp2_with fail
          refine (C2.out _ (OK.out _ S.out.bel).pow).mono ?_
          rintro e1 w5 ⟨rfl, k5⟩
          have S := cs_next S k5
          clear k5 bc
          have bc := S.out.box.cell
          go_wp2_with fail
          refine (C3.out _ (OK.out _ S.out.bel)).mono ?_
          rintro e1 w5 ⟨rfl, k5⟩
          have S := cs_next S k5
          clear k5 bc
          have bc := S.out.box.cell
          go_wp2_with fail
          go_ret2
          exact ⟨rfl, S.out.bel⟩
      · rw [if_neg z2, Prod.mk.injEq] at hr
        obtain ⟨rfl, rfl⟩ := hr
        replace z2 : (q2 != 0) = true := by rw [bne_iff_ne]; exact z2
        have S := cs_in w c
        have bc := S.out.box.cell
        go_enter Try.func30, Try.ntmps30
        go_wp2_with fail
        generalize w.alloc (.cells #[.slice c.pa c.pn c.pc, .slice c.ca c.cn c.cc, .slice c.ma c.mn c.mc, .slice c.w.la c.w.ln c.w.lc, .slice c.w.na c.w.nn c.w.nc, .int .i64 c.w.sw, .int .i64 c.w.id, .int .i64 c.w.ch, .int .i64 c.w.qu, .int .i64 c.w.sl, .int .i64 c.w.pp, .slice c.da c.dn c.dc, .slice c.ua c.un c.uc] 59) = W at *
        refine (C0.out _).mono ?_
        rintro e1 w5 ⟨rfl, e9⟩
        cases e9
        go_wp2_with fail
        refine (C1.out _ _ S.out.bel (Lib.hid S.out.box)).mono ?_
        rintro e1 w5 ⟨rfl, k5⟩
        have S := cs_next S k5
        clear k5 bc
        have bc := S.out.box.cell
        go_wp2_with fail
        refine (C2.out _ (OK.out _ S.out.bel).pow).mono ?_
        rintro e1 w5 ⟨rfl, k5⟩
        have S := cs_next S k5
        clear k5 bc
        have bc := S.out.box.cell
        go_wp2_with fail
        go_ret2
        exact ⟨rfl, S.out.bel⟩
    · rw [if_neg z1, Prod.mk.injEq] at hr
      obtain ⟨rfl, rfl⟩ := hr
      replace z1 : (q1 != 0) = true := by rw [bne_iff_ne]; exact z1
      have S := cs_in w c
      have bc := S.out.box.cell
      go_enter Try.func30, Try.ntmps30
      go_wp2_with fail
      generalize w.alloc (.cells #[.slice c.pa c.pn c.pc, .slice c.ca c.cn c.cc, .slice c.ma c.mn c.mc, .slice c.w.la c.w.ln c.w.lc, .slice c.w.na c.w.nn c.w.nc, .int .i64 c.w.sw, .int .i64 c.w.id, .int .i64 c.w.ch, .int .i64 c.w.qu, .int .i64 c.w.sl, .int .i64 c.w.pp, .slice c.da c.dn c.dc, .slice c.ua c.un c.uc] 59) = W at *
      refine (C0.out _).mono ?_
      rintro e1 w5 ⟨rfl, e9⟩
      cases e9
      go_wp2_with fail
      refine (C1.out _ _ S.out.bel (Lib.hid S.out.box)).mono ?_
      rintro e1 w5 ⟨rfl, k5⟩
      have S := cs_next S k5
      clear k5 bc
      have bc := S.out.box.cell
      go_wp2_with fail
      go_ret2
      exact ⟨rfl, S.out.bel⟩
end Go.Proofs.Ytgkahcchekiogaa.Vck
