import Derived.Test.YtlafeijkpnpdeaaGreatMg17
import Derived.Test.YtlafeijkpnpdeaaGreatMg18
import Derived.Test.YtlafeijkpnpdeaaGreatMg22
import Derived.Test.YtlafeijkpnpdeaaGreatMg15
import Derived.Test.YtlafeijkpnpdeaaGreatMg12
import Derived.Test.YtlafeijkpnpdeaaGreatMg16

/- Package valid: channels, modes, Check. -/
namespace Go.Proofs.YtlafeijkpnpdeaaGreat.Vck
open Go.RowKit Base Kit Conf Conf2 PowA PowB Vfa Vfb Val Vld Vpa Vpb Vpr Vsh Short Vcf Vch Vci Vnu Vmo
set_option linter.unusedVariables false
set_option linter.unusedSimpArgs false
def chE (c : ConfC) (k : Nat) : Int := if ChanR c (k : Int) = true then 0 else 25
def partsR (c : ConfC) : Int × Int := nuR (fun k => PartR (c.p k)) c.pn
def chansR (c : ConfC) : Int × Int := if 16 < c.cn then (25, 0) else nuR (chE c) c.cn
def modesR (c : ConfC) : Int × Int := if inB (c.mn : Int) 1 4 = true then nuR (fun k => ModeR c (k : Int)) c.mn else (26, 0)
def thn (a b : Int × Int) : Int × Int := if a.1 = 0 then b else a
def CheckR (c : ConfC) : Int × Int := if inB (c.pn : Int) 1 8 = true then thn (partsR c) (thn (powR c.w) (thn (chansR c) (thn (modesR c) (ShedR c.df c.uf c.dn c.un)))) else (20, 0)
set_option maxHeartbeats 2000000 in
theorem check1_any (c : ConfC) (k : Nat) (bc : Nat) (w : World) (ok : c.Ok w) (hc : Hid (Box w bc #[.slice c.pa c.pn c.pc, .slice c.ca c.cn c.cc, .slice c.ma c.mn c.mc, .slice c.w.la c.w.ln c.w.lc, .slice c.w.na c.w.nn c.w.nc, .int .i64 c.w.sw, .int .i64 c.w.id, .int .i64 c.w.ch, .int .i64 c.w.qu, .int .i64 c.w.sl, .int .i64 c.w.pp, .slice c.da c.dn c.dc, .slice c.ua c.un c.uc] 33)) (hk : k < c.pn) :
    Calls Tryz.prog 49 #[.int .i64 (k : Int), .pointer (some ⟨bc, 0, none⟩)] w fun e w' => e = .returned (.int .i64 (PartR (c.p k))) ∧ Below w.heap.size w w' := by
  have h1 := ok.parts.out.1
  have C := Lib.hid (Part_any (c.p k) w (ok.part k hk) _ (Lib.hid rfl))
  obtain ⟨b, off, ea, hlt, u0, u1, u2, u3, u4, u5, u6, u7, u8, u9, u10⟩ := part_at ok.parts k hk
  have cc := hc.out.cell
  rw [ea] at cc
  clear ea
  generalize PartR (c.p k) = r at *
  generalize c.p k = p at *
  go_enter Tryz.func49, Tryz.ntmps49
  go_wp2_with fail
  refine C.out.mono ?_
  rintro e1 w5 ⟨rfl, k5⟩
  replace k5 := Lib.hid k5
  go_wp2_with fail
  go_ret
  exact ⟨rfl, k5.out⟩
set_option maxHeartbeats 2000000 in
theorem channels1_any (c : ConfC) (k : Nat) (bc : Nat) (w : World) (ok : c.Ok w) (hc : Hid (Box w bc #[.slice c.pa c.pn c.pc, .slice c.ca c.cn c.cc, .slice c.ma c.mn c.mc, .slice c.w.la c.w.ln c.w.lc, .slice c.w.na c.w.nn c.w.nc, .int .i64 c.w.sw, .int .i64 c.w.id, .int .i64 c.w.ch, .int .i64 c.w.qu, .int .i64 c.w.sl, .int .i64 c.w.pp, .slice c.da c.dn c.dc, .slice c.ua c.un c.uc] 33)) (hk : k < c.cn) :
    Calls Tryz.prog 83 #[.int .i64 (k : Int), .pointer (some ⟨bc, 0, none⟩)] w fun e w' => e = .returned (.int .i64 (chE c k)) ∧ Below w.heap.size w w' := by
  have h1 := ok.chans.out.1
  obtain ⟨r, hr⟩ : ∃ r, ChanR c (k : Int) = r := ⟨_, rfl⟩
  have C := Lib.hid (Channel_any c (k : Int) r w ok ⟨by omega, by omega⟩ (Lib.hid hr))
  unfold chE
  rw [hr]
  clear hr
  have cc := hc.out.cell
  cases r
  · rw [if_neg (by decide)]
    go_enter Tryz.func83, Tryz.ntmps83
    go_wp2_with fail
    refine C.out.mono ?_
    rintro e1 w5 ⟨rfl, k5⟩
    replace k5 := Lib.hid k5
    go_wp2_with fail
    go_ret
    exact ⟨rfl, k5.out⟩
  · rw [if_pos rfl]
    go_enter Tryz.func83, Tryz.ntmps83
    go_wp2_with fail
    refine C.out.mono ?_
    rintro e1 w5 ⟨rfl, k5⟩
    replace k5 := Lib.hid k5
    go_wp2_with fail
    go_ret
    exact ⟨rfl, k5.out⟩
set_option maxHeartbeats 2000000 in
theorem modes1_any (c : ConfC) (k : Nat) (bc : Nat) (w : World) (ok : c.Ok w) (hc : Hid (Box w bc #[.slice c.pa c.pn c.pc, .slice c.ca c.cn c.cc, .slice c.ma c.mn c.mc, .slice c.w.la c.w.ln c.w.lc, .slice c.w.na c.w.nn c.w.nc, .int .i64 c.w.sw, .int .i64 c.w.id, .int .i64 c.w.ch, .int .i64 c.w.qu, .int .i64 c.w.sl, .int .i64 c.w.pp, .slice c.da c.dn c.dc, .slice c.ua c.un c.uc] 33)) (hk : k < c.mn) :
    Calls Tryz.prog 85 #[.int .i64 (k : Int), .pointer (some ⟨bc, 0, none⟩)] w fun e w' => e = .returned (.int .i64 (ModeR c (k : Int))) ∧ Below w.heap.size w w' := by
  have h1 := ok.modes.out.1
  obtain ⟨r, hr⟩ : ∃ r, ModeR c (k : Int) = r := ⟨_, rfl⟩
  have C := Lib.hid (Mode_any c (k : Int) r w ok ⟨by omega, by omega⟩ (Lib.hid hr))
  rw [hr]
  clear hr
  have cc := hc.out.cell
  go_enter Tryz.func85, Tryz.ntmps85
  go_wp2_with fail
  refine C.out.mono ?_
  rintro e1 w5 ⟨rfl, k5⟩
  replace k5 := Lib.hid k5
  go_wp2_with fail
  go_ret
  exact ⟨rfl, k5.out⟩
set_option maxHeartbeats 2000000 in
theorem channels_any (c : ConfC) (er kr : Int) (w : World) (ok : c.Ok w) (hr : Hid (chansR c = (er, kr))) :
    Calls Tryz.prog 51 #[.agg #[.slice c.pa c.pn c.pc, .slice c.ca c.cn c.cc, .slice c.ma c.mn c.mc, .slice c.w.la c.w.ln c.w.lc, .slice c.w.na c.w.nn c.w.nc, .int .i64 c.w.sw, .int .i64 c.w.id, .int .i64 c.w.ch, .int .i64 c.w.qu, .int .i64 c.w.sl, .int .i64 c.w.pp, .slice c.da c.dn c.dc, .slice c.ua c.un c.uc]] w fun e w' => e = .returned (.tuple #[.int .i64 er, .int .i64 kr]) ∧ Below w.heap.size w w' := by
  have h1 := ok.chans.out.1
  have hr := hr.out
  unfold chansR at hr
  by_cases h : 16 < c.cn
  · rw [if_pos h, Prod.mk.injEq] at hr
    obtain ⟨rfl, rfl⟩ := hr
    have h : (16 : Int) < (c.cn : Int) := by omega
    have S := cs_in w c
    have bc := S.out.box.cell
    go_enter Tryz.func51, Tryz.ntmps51
    go_wp2_with fail
    generalize w.alloc (.cells #[.slice c.pa c.pn c.pc, .slice c.ca c.cn c.cc, .slice c.ma c.mn c.mc, .slice c.w.la c.w.ln c.w.lc, .slice c.w.na c.w.nn c.w.nc, .int .i64 c.w.sw, .int .i64 c.w.id, .int .i64 c.w.ch, .int .i64 c.w.qu, .int .i64 c.w.sl, .int .i64 c.w.pp, .slice c.da c.dn c.dc, .slice c.ua c.un c.uc] 33) = W at *
    go_ret2
    exact ⟨rfl, S.out.bel⟩
  · rw [if_neg h] at hr
    have C := Lib.hid (fun w' bc (hb : Below w.heap.size w w') (X : Hid (Box w' bc #[.slice c.pa c.pn c.pc, .slice c.ca c.cn c.cc, .slice c.ma c.mn c.mc, .slice c.w.la c.w.ln c.w.lc, .slice c.w.na c.w.nn c.w.nc, .int .i64 c.w.sw, .int .i64 c.w.id, .int .i64 c.w.ch, .int .i64 c.w.qu, .int .i64 c.w.sl, .int .i64 c.w.pp, .slice c.da c.dn c.dc, .slice c.ua c.un c.uc] 33)) => numbered_any c.cn (chE c) 83 #[.pointer (some ⟨bc, 0, none⟩)] er kr w' (by omega) (fun args w => by go_simp)
      (Lib.hid (fun k wr hk hb1 => channels1_any c k bc wr (ok.below (below_next hb hb1) (Nat.le_refl _)) (Lib.hid (X.out.next hb1)) hk)) (Lib.hid hr))
    have h : (c.cn : Int) ≤ 16 := by omega
    clear hr
    have S := cs_in w c
    have bc := S.out.box.cell
    go_enter Tryz.func51, Tryz.ntmps51
    go_wp2_with fail
    generalize w.alloc (.cells #[.slice c.pa c.pn c.pc, .slice c.ca c.cn c.cc, .slice c.ma c.mn c.mc, .slice c.w.la c.w.ln c.w.lc, .slice c.w.na c.w.nn c.w.nc, .int .i64 c.w.sw, .int .i64 c.w.id, .int .i64 c.w.ch, .int .i64 c.w.qu, .int .i64 c.w.sl, .int .i64 c.w.pp, .slice c.da c.dn c.dc, .slice c.ua c.un c.uc] 33) = W at *
    refine (C.out _ _ S.out.bel (Lib.hid S.out.box)).mono ?_
    rintro e1 w5 ⟨rfl, k5⟩
    have S := cs_next S k5
    clear k5 bc
    go_wp2_with fail
    go_ret2
    exact ⟨rfl, S.out.bel⟩
set_option maxHeartbeats 2000000 in
theorem modes_any (c : ConfC) (er kr : Int) (w : World) (ok : c.Ok w) (hr : Hid (modesR c = (er, kr))) :
    Calls Tryz.prog 52 #[.agg #[.slice c.pa c.pn c.pc, .slice c.ca c.cn c.cc, .slice c.ma c.mn c.mc, .slice c.w.la c.w.ln c.w.lc, .slice c.w.na c.w.nn c.w.nc, .int .i64 c.w.sw, .int .i64 c.w.id, .int .i64 c.w.ch, .int .i64 c.w.qu, .int .i64 c.w.sl, .int .i64 c.w.pp, .slice c.da c.dn c.dc, .slice c.ua c.un c.uc]] w fun e w' => e = .returned (.tuple #[.int .i64 er, .int .i64 kr]) ∧ Below w.heap.size w w' := by
  have h1 := ok.modes.out.1
  have hr := hr.out
  unfold modesR at hr
  obtain ⟨r0, d0⟩ : ∃ z, inB (c.mn : Int) 1 4 = z := ⟨_, rfl⟩
  have C0 := Lib.hid (fun w => in_any (c.mn : Int) 1 4 r0 w (Lib.hid d0))
  rw [d0] at hr
  cases r0
  · rw [if_neg (by decide), Prod.mk.injEq] at hr
    obtain ⟨rfl, rfl⟩ := hr
    clear d0
    have S := cs_in w c
    have bc := S.out.box.cell
    go_enter Tryz.func52, Tryz.ntmps52
    go_wp2_with fail
    generalize w.alloc (.cells #[.slice c.pa c.pn c.pc, .slice c.ca c.cn c.cc, .slice c.ma c.mn c.mc, .slice c.w.la c.w.ln c.w.lc, .slice c.w.na c.w.nn c.w.nc, .int .i64 c.w.sw, .int .i64 c.w.id, .int .i64 c.w.ch, .int .i64 c.w.qu, .int .i64 c.w.sl, .int .i64 c.w.pp, .slice c.da c.dn c.dc, .slice c.ua c.un c.uc] 33) = W at *
    refine (C0.out _).mono ?_
    rintro e1 w5 ⟨rfl, e9⟩
    cases e9
    go_wp2_with fail
    go_ret2
    exact ⟨rfl, S.out.bel⟩
  · rw [if_pos rfl] at hr
    have h4 := inB_iff.1 d0
    have C := Lib.hid (fun w' bc (hb : Below w.heap.size w w') (X : Hid (Box w' bc #[.slice c.pa c.pn c.pc, .slice c.ca c.cn c.cc, .slice c.ma c.mn c.mc, .slice c.w.la c.w.ln c.w.lc, .slice c.w.na c.w.nn c.w.nc, .int .i64 c.w.sw, .int .i64 c.w.id, .int .i64 c.w.ch, .int .i64 c.w.qu, .int .i64 c.w.sl, .int .i64 c.w.pp, .slice c.da c.dn c.dc, .slice c.ua c.un c.uc] 33)) => numbered_any c.mn (fun k => ModeR c (k : Int)) 85 #[.pointer (some ⟨bc, 0, none⟩)] er kr w' (by omega) (fun args w => by go_simp)
      (Lib.hid (fun k wr hk hb1 => modes1_any c k bc wr (ok.below (below_next hb hb1) (Nat.le_refl _)) (Lib.hid (X.out.next hb1)) hk)) (Lib.hid hr))
    clear hr d0 h4
    have S := cs_in w c
    have bc := S.out.box.cell
    go_enter Tryz.func52, Tryz.ntmps52
    go_wp2_with fail
    generalize w.alloc (.cells #[.slice c.pa c.pn c.pc, .slice c.ca c.cn c.cc, .slice c.ma c.mn c.mc, .slice c.w.la c.w.ln c.w.lc, .slice c.w.na c.w.nn c.w.nc, .int .i64 c.w.sw, .int .i64 c.w.id, .int .i64 c.w.ch, .int .i64 c.w.qu, .int .i64 c.w.sl, .int .i64 c.w.pp, .slice c.da c.dn c.dc, .slice c.ua c.un c.uc] 33) = W at *
    refine (C0.out _).mono ?_
    rintro e1 w5 ⟨rfl, e9⟩
    cases e9
    go_wp2_with fail
    refine (C.out _ _ S.out.bel (Lib.hid S.out.box)).mono ?_
    rintro e1 w5 ⟨rfl, k5⟩
    have S := cs_next S k5
    clear k5 bc
    go_wp2_with fail
    go_ret2
    exact ⟨rfl, S.out.bel⟩
set_option maxRecDepth 100000 in
set_option maxHeartbeats 4000000 in
theorem Check_any (c : ConfC) (er kr : Int) (w : World) (ok : c.Ok w) (hr : Hid (CheckR c = (er, kr))) :
    Calls Tryz.prog 31 #[.agg #[.slice c.pa c.pn c.pc, .slice c.ca c.cn c.cc, .slice c.ma c.mn c.mc, .slice c.w.la c.w.ln c.w.lc, .slice c.w.na c.w.nn c.w.nc, .int .i64 c.w.sw, .int .i64 c.w.id, .int .i64 c.w.ch, .int .i64 c.w.qu, .int .i64 c.w.sl, .int .i64 c.w.pp, .slice c.da c.dn c.dc, .slice c.ua c.un c.uc]] w fun e w' => e = .returned (.tuple #[.int .i64 er, .int .i64 kr]) ∧ Below w.heap.size w w' := by
  have h1 := ok.parts.out.1
  have OK := Lib.hid (fun w' (h : Below w.heap.size w w') => ok.below h (Nat.le_refl _))
  have hr := hr.out
  unfold CheckR at hr
  obtain ⟨r0, d0⟩ : ∃ z, inB (c.pn : Int) 1 8 = z := ⟨_, rfl⟩
  have C0 := Lib.hid (fun w => in_any (c.pn : Int) 1 8 r0 w (Lib.hid d0))
  rw [d0] at hr
  cases r0
  · rw [if_neg (by decide), Prod.mk.injEq] at hr
    obtain ⟨rfl, rfl⟩ := hr
    clear d0
    have S := cs_in w c
    have bc := S.out.box.cell
    go_enter Tryz.func31, Tryz.ntmps31
    go_wp2_with fail
    generalize w.alloc (.cells #[.slice c.pa c.pn c.pc, .slice c.ca c.cn c.cc, .slice c.ma c.mn c.mc, .slice c.w.la c.w.ln c.w.lc, .slice c.w.na c.w.nn c.w.nc, .int .i64 c.w.sw, .int .i64 c.w.id, .int .i64 c.w.ch, .int .i64 c.w.qu, .int .i64 c.w.sl, .int .i64 c.w.pp, .slice c.da c.dn c.dc, .slice c.ua c.un c.uc] 33) = W at *
    refine (C0.out _).mono ?_
    rintro e1 w5 ⟨rfl, e9⟩
    cases e9
    go_wp2_with fail
    go_ret2
    exact ⟨rfl, S.out.bel⟩
  · rw [if_pos rfl] at hr
    have h4 := inB_iff.1 d0
    obtain ⟨⟨q1, t1⟩, g1⟩ : ∃ z, partsR c = z := ⟨_, rfl⟩
    obtain ⟨⟨q2, t2⟩, g2⟩ : ∃ z, powR c.w = z := ⟨_, rfl⟩
    obtain ⟨⟨q3, t3⟩, g3⟩ : ∃ z, chansR c = z := ⟨_, rfl⟩
    obtain ⟨⟨q4, t4⟩, g4⟩ : ∃ z, modesR c = z := ⟨_, rfl⟩
    have C1 := Lib.hid (fun w' bc (hb : Below w.heap.size w w') (X : Hid (Box w' bc #[.slice c.pa c.pn c.pc, .slice c.ca c.cn c.cc, .slice c.ma c.mn c.mc, .slice c.w.la c.w.ln c.w.lc, .slice c.w.na c.w.nn c.w.nc, .int .i64 c.w.sw, .int .i64 c.w.id, .int .i64 c.w.ch, .int .i64 c.w.qu, .int .i64 c.w.sl, .int .i64 c.w.pp, .slice c.da c.dn c.dc, .slice c.ua c.un c.uc] 33)) => numbered_any c.pn (fun k => PartR (c.p k)) 49 #[.pointer (some ⟨bc, 0, none⟩)] q1 t1 w' (by omega) (fun args w => by go_simp)
      (Lib.hid (fun k wr hk hb1 => check1_any c k bc wr (ok.below (below_next hb hb1) (Nat.le_refl _)) (Lib.hid (X.out.next hb1)) hk)) (Lib.hid g1))
    have C2 := Lib.hid (fun w' h => Go.Proofs.YtlafeijkpnpdeaaGreat.PowC.power_any c.w w' h q2 t2 (Lib.hid g2))
    have C3 := Lib.hid (fun w' h => channels_any c q3 t3 w' h (Lib.hid g3))
    have C4 := Lib.hid (fun w' h => modes_any c q4 t4 w' h (Lib.hid g4))
    rw [g1, g2, g3, g4] at hr
    unfold thn at hr
    dsimp only at hr
    clear d0 h4 g1 g2 g3 g4
    by_cases z1 : q1 = 0
    · rw [if_pos z1] at hr
      replace z1 : (q1 != 0) = false := by rw [bne_eq_false_iff_eq]; exact z1
      by_cases z2 : q2 = 0
      · rw [if_pos z2] at hr
        replace z2 : (q2 != 0) = false := by rw [bne_eq_false_iff_eq]; exact z2
        by_cases z3 : q3 = 0
        · rw [if_pos z3] at hr
          replace z3 : (q3 != 0) = false := by rw [bne_eq_false_iff_eq]; exact z3
          by_cases z4 : q4 = 0
          · rw [if_pos z4] at hr
            replace z4 : (q4 != 0) = false := by rw [bne_eq_false_iff_eq]; exact z4
            have C5 := Lib.hid (fun w' (h : c.Ok w') => Shed_any c.da c.ua c.dn c.dc c.un c.uc c.df c.uf er kr w' h.down h.up (Lib.hid hr))
            clear hr
            have S := cs_in w c
            have bc := S.out.box.cell
            go_enter Tryz.func31, Tryz.ntmps31
            go_wp2_with fail
            generalize w.alloc (.cells #[.slice c.pa c.pn c.pc, .slice c.ca c.cn c.cc, .slice c.ma c.mn c.mc, .slice c.w.la c.w.ln c.w.lc, .slice c.w.na c.w.nn c.w.nc, .int .i64 c.w.sw, .int .i64 c.w.id, .int .i64 c.w.ch, .int .i64 c.w.qu, .int .i64 c.w.sl, .int .i64 c.w.pp, .slice c.da c.dn c.dc, .slice c.ua c.un c.uc] 33) = W at *
            refine (C0.out _).mono ?_
            rintro e1 w5 ⟨rfl, e9⟩
            cases e9
            go_wp2_with fail
            refine (C1.out _ _ S.out.bel (Lib.hid S.out.box)).mono ?_
            rintro e1 w5 ⟨rfl, k5⟩
            have S := cs_next S k5
            clear k5 bc
            have bc := S.out.box.cell
            go_wp2_with fail
            refine (C2.out _ (OK.out _ S.out.bel).pow).mono ?_
            rintro e1 w5 ⟨rfl, k5⟩
            have S := cs_next S k5
            clear k5 bc
            have bc := S.out.box.cell
            go_wp2_with fail
            refine (C3.out _ (OK.out _ S.out.bel)).mono ?_
            rintro e1 w5 ⟨rfl, k5⟩
            have S := cs_next S k5
            clear k5 bc
            have bc := S.out.box.cell
            go_wp2_with fail
            refine (C4.out _ (OK.out _ S.out.bel)).mono ?_
            rintro e1 w5 ⟨rfl, k5⟩
            have S := cs_next S k5
            clear k5 bc
            have bc := S.out.box.cell
            go_wp2_with fail
            refine (C5.out _ (OK.out _ S.out.bel)).mono ?_
            rintro e1 w5 ⟨rfl, k5⟩
            have S := cs_next S k5
            clear k5 bc
            have bc := S.out.box.cell
            go_wp2_with fail
            go_ret2
            exact ⟨rfl, S.out.bel⟩
          · rw [if_neg z4, Prod.mk.injEq] at hr
            obtain ⟨rfl, rfl⟩ := hr
            replace z4 : (q4 != 0) = true := by rw [bne_iff_ne]; exact z4
            have S := cs_in w c
            have bc := S.out.box.cell
            go_enter Tryz.func31, Tryz.ntmps31
            go_wp2_with fail
            generalize w.alloc (.cells #[.slice c.pa c.pn c.pc, .slice c.ca c.cn c.cc, .slice c.ma c.mn c.mc, .slice c.w.la c.w.ln c.w.lc, .slice c.w.na c.w.nn c.w.nc, .int .i64 c.w.sw, .int .i64 c.w.id, .int .i64 c.w.ch, .int .i64 c.w.qu, .int .i64 c.w.sl, .int .i64 c.w.pp, .slice c.da c.dn c.dc, .slice c.ua c.un c.uc] 33) = W at *
            refine (C0.out _).mono ?_
            rintro e1 w5 ⟨rfl, e9⟩
            cases e9
            go_wp2_with fail
            refine (C1.out _ _ S.out.bel (Lib.hid S.out.box)).mono ?_
            rintro e1 w5 ⟨rfl, k5⟩
            have S := cs_next S k5
            clear k5 bc
            have bc := S.out.box.cell
            go_wp2_with fail
            refine (C2.out _ (OK.out _ S.out.bel).pow).mono ?_
            rintro e1 w5 ⟨rfl, k5⟩
            have S := cs_next S k5
            clear k5 bc
            have bc := S.out.box.cell
            go_wp2_with fail
            refine (C3.out _ (OK.out _ S.out.bel)).mono ?_
            rintro e1 w5 ⟨rfl, k5⟩
            have S := cs_next S k5
            clear k5 bc
            have bc := S.out.box.cell
            go_wp2_with fail
            refine (C4.out _ (OK.out _ S.out.bel)).mono ?_
            rintro e1 w5 ⟨rfl, k5⟩
            have S := cs_next S k5
            clear k5 bc
            have bc := S.out.box.cell
            go_wp2_with fail
            go_ret2
            exact ⟨rfl, S.out.bel⟩
        · rw [if_neg z3, Prod.mk.injEq] at hr
          obtain ⟨rfl, rfl⟩ := hr
          replace z3 : (q3 != 0) = true := by rw [bne_iff_ne]; exact z3
          have S := cs_in w c
          have bc := S.out.box.cell
          go_enter Tryz.func31, Tryz.ntmps31
          go_wp2_with fail
          generalize w.alloc (.cells #[.slice c.pa c.pn c.pc, .slice c.ca c.cn c.cc, .slice c.ma c.mn c.mc, .slice c.w.la c.w.ln c.w.lc, .slice c.w.na c.w.nn c.w.nc, .int .i64 c.w.sw, .int .i64 c.w.id, .int .i64 c.w.ch, .int .i64 c.w.qu, .int .i64 c.w.sl, .int .i64 c.w.pp, .slice c.da c.dn c.dc, .slice c.ua c.un c.uc] 33) = W at *
          refine (C0.out _).mono ?_
          rintro e1 w5 ⟨rfl, e9⟩
          cases e9
          go_wp2_with fail
          refine (C1.out _ _ S.out.bel (Lib.hid S.out.box)).mono ?_
          rintro e1 w5 ⟨rfl, k5⟩
          have S := cs_next S k5
          clear k5 bc
          have bc := S.out.box.cell
          go_wp2_with fail
          refine (C2.out _ (OK.out _ S.out.bel).pow).mono ?_
          rintro e1 w5 ⟨rfl, k5⟩
          have S := cs_next S k5
          clear k5 bc
          have bc := S.out.box.cell
          go_wp2_with fail
          refine (C3.out _ (OK.out _ S.out.bel)).mono ?_
          rintro e1 w5 ⟨rfl, k5⟩
          have S := cs_next S k5
          clear k5 bc
          have bc := S.out.box.cell
          go_wp2_with fail
          go_ret2
          exact ⟨rfl, S.out.bel⟩
      · rw [if_neg z2, Prod.mk.injEq] at hr
        obtain ⟨rfl, rfl⟩ := hr
        replace z2 : (q2 != 0) = true := by rw [bne_iff_ne]; exact z2
        have S := cs_in w c
        have bc := S.out.box.cell
        go_enter Tryz.func31, Tryz.ntmps31
        go_wp2_with fail
        generalize w.alloc (.cells #[.slice c.pa c.pn c.pc, .slice c.ca c.cn c.cc, .slice c.ma c.mn c.mc, .slice c.w.la c.w.ln c.w.lc, .slice c.w.na c.w.nn c.w.nc, .int .i64 c.w.sw, .int .i64 c.w.id, .int .i64 c.w.ch, .int .i64 c.w.qu, .int .i64 c.w.sl, .int .i64 c.w.pp, .slice c.da c.dn c.dc, .slice c.ua c.un c.uc] 33) = W at *
        refine (C0.out _).mono ?_
        rintro e1 w5 ⟨rfl, e9⟩
        cases e9
        go_wp2_with fail
        refine (C1.out _ _ S.out.bel (Lib.hid S.out.box)).mono ?_
        rintro e1 w5 ⟨rfl, k5⟩
        have S := cs_next S k5
        clear k5 bc
        have bc := S.out.box.cell
        go_wp2_with fail
        refine (C2.out _ (OK.out _ S.out.bel).pow).mono ?_
        rintro e1 w5 ⟨rfl, k5⟩
        have S := cs_next S k5
        clear k5 bc
        have bc := S.out.box.cell
        go_wp2_with fail
        go_ret2
        exact ⟨rfl, S.out.bel⟩
    · rw [if_neg z1, Prod.mk.injEq] at hr
      obtain ⟨rfl, rfl⟩ := hr
      replace z1 : (q1 != 0) = true := by rw [bne_iff_ne]; exact z1
      have S := cs_in w c
      have bc := S.out.box.cell
      go_enter Tryz.func31, Tryz.ntmps31
      go_wp2_with fail
      generalize w.alloc (.cells #[.slice c.pa c.pn c.pc, .slice c.ca c.cn c.cc, .slice c.ma c.mn c.mc, .slice c.w.la c.w.ln c.w.lc, .slice c.w.na c.w.nn c.w.nc, .int .i64 c.w.sw, .int .i64 c.w.id, .int .i64 c.w.ch, .int .i64 c.w.qu, .int .i64 c.w.sl, .int .i64 c.w.pp, .slice c.da c.dn c.dc, .slice c.ua c.un c.uc] 33) = W at *
      refine (C0.out _).mono ?_
      rintro e1 w5 ⟨rfl, e9⟩
      cases e9
      go_wp2_with fail
      refine (C1.out _ _ S.out.bel (Lib.hid S.out.box)).mono ?_
      rintro e1 w5 ⟨rfl, k5⟩
      have S := cs_next S k5
      clear k5 bc
      have bc := S.out.box.cell
      go_wp2_with fail
      go_ret2
      exact ⟨rfl, S.out.bel⟩
end Go.Proofs.YtlafeijkpnpdeaaGreat.Vck

/- The laws of valid: Plain, works. -/
namespace Go.Proofs.YtlafeijkpnpdeaaGreat.Vpl
open Go.RowKit Base Kit Conf Conf2 PowA PowB Vfa Vfb Val Vld Vpa Vpb Vpr Vsh Short Vcf Vch Vci Vnu Vmo Vck
set_option linter.unusedVariables false
set_option linter.unusedSimpArgs false
def plP (n : Nat) : PartC where
  ra := some ⟨n + 1, 0, none⟩
  rn := 1
  rc := 1
  rb := fun _ => 0
  rs := fun _ => 32
  rw := fun _ => true
  pa := some ⟨n + 1 + 1, 0, none⟩
  pn := 1
  pc := 1
  pf := fun _ j => match j with | 0 => 1 | 1 => 1 | _ => 20
  oa := none
  on := 0
  oc := 0
  oq := fun _ => false
  oi := fun _ => false
  os := fun _ => 0
  od := fun _ => 0
  sa := none
  sn := 0
  sc := 0
  sf := fun _ _ => 0
  fl := 0
  qa := none
  qn := 0
  qc := 0
  qf := fun _ _ => 0
  ta := none
  tn := 0
  tc := 0
  tf := fun _ => 0
  cap := 20
  bud := 1099511627776
  lad := 0
  ca := some ⟨n + 1 + 1 + 1, 0, none⟩
  cn := 5
  cc := 5
  cf := fun _ => 0
def plM (n : Nat) : ModeC where
  fr := 10000
  wa := some ⟨n + 1 + 1 + 1 + 1 + 1, 0, none⟩
  wn := 1
  wc := 1
  wf := fun _ j => match j with | 0 => 0 | 1 => 1000 | _ => 5000
def plW (n : Nat) : PowC where
  la := some ⟨n + 1 + 1 + 1 + 1 + 1 + 1 + 1, 0, none⟩
  ln := 2
  lc := 2
  lf := fun i j => match i, j with | 0, 0 => 5 | 0, _ => 10 | _, 0 => 10 | _, _ => 40
  na := none
  nn := 0
  nc := 0
  nf := fun _ _ => 0
  sw := 0
  id := 0
  ch := 1
  qu := 8
  sl := 32768
  pp := 100
def plC (n : Nat) : ConfC where
  pa := some ⟨n + 1 + 1 + 1 + 1, 0, none⟩
  pn := 1
  pc := 1
  p := fun _ => plP n
  ca := none
  cn := 0
  cc := 0
  cf := fun _ _ => 0
  ma := some ⟨n + 1 + 1 + 1 + 1 + 1 + 1, 0, none⟩
  mn := 1
  mc := 1
  m := fun _ => plM n
  w := plW n
  da := none
  dn := 0
  dc := 0
  df := fun _ => 0
  ua := none
  un := 0
  uc := 0
  uf := fun _ => 0
theorem pl_check (n : Nat) : CheckR (plC n) = (0, 0) := by
  kernel_rfl
def noC (n : Nat) : ConfC := { plC n with pa := none, pn := 0, pc := 0 }
theorem no_check (n : Nat) : CheckR (noC n) = (20, 0) := by
  kernel_rfl
def plWd (w : World) : World := (((((((w.alloc (.cells #[.slice (some ⟨w.heap.size + 1 + 1 + 1 + 1, 0, none⟩) 1 1, .slice none 0 0, .slice (some ⟨w.heap.size + 1 + 1 + 1 + 1 + 1 + 1, 0, none⟩) 1 1, .slice (some ⟨w.heap.size + 1 + 1 + 1 + 1 + 1 + 1 + 1, 0, none⟩) 2 2, .slice none 0 0, .int .i64 0, .int .i64 0, .int .i64 1, .int .i64 8, .int .i64 32768, .int .i64 100, .slice none 0 0, .slice none 0 0] 33)).alloc (.cells #[.int .i64 0, .int .i64 32, .bool true] 84)).alloc (.cells #[.int .i64 1, .int .i64 1, .int .i64 20] 86)).alloc (.cells #[.int .i64 0, .int .i64 0, .int .i64 0, .int .i64 0, .int .i64 0] 3)).alloc (.cells #[.slice (some ⟨w.heap.size + 1, 0, none⟩) 1 1, .slice (some ⟨w.heap.size + 1 + 1, 0, none⟩) 1 1, .slice none 0 0, .slice none 0 0, .int .i64 0, .slice none 0 0, .slice none 0 0, .int .i64 20, .int .i64 1099511627776, .int .i64 0, .slice (some ⟨w.heap.size + 1 + 1 + 1, 0, none⟩) 5 5] 61)).alloc (.cells #[.int .i64 0, .int .i64 1000, .int .i64 5000] 54)).alloc (.cells #[.int .i64 10000, .slice (some ⟨w.heap.size + 1 + 1 + 1 + 1 + 1, 0, none⟩) 1 1] 52)).alloc (.cells #[.int .i64 5, .int .i64 10, .int .i64 10, .int .i64 40] 88)
theorem box_at {W : World} {m : Nat} {vs : Array Value} {T : TypeId} (h : W.heap.size = m) : Box (W.alloc (.cells vs T)) m vs T := h ▸ Box.new _ _ _
theorem rowsV_box {w : World} {b n sz : Nat} {vs : Array Value} {T : TypeId} {val : Nat → Nat → Value} (h : Box w b vs T) (hn : n ≤ 1000) (hc : ∀ i, i < n → ∀ j, j < sz → vs[0 + (i * sz + j)]? = some (val i j)) : RowsV w (some ⟨b, 0, none⟩) n sz val :=
  ⟨by omega, .inr ⟨b, 0, rfl, h.lt, fun i hi j hj => (h.cell _).trans (hc i hi j hj)⟩⟩
theorem rowsI_box {w : World} {b n sz : Nat} {vs : Array Value} {T : TypeId} {f : Nat → Nat → Int} (h : Box w b vs T) (hn : n ≤ 1000) (hc : ∀ i, i < n → ∀ j, j < sz → vs[0 + (i * sz + j)]? = some (.int .i64 (f i j)) ∧ I64 (f i j)) : Open.RowsIn w (some ⟨b, 0, none⟩) n sz f :=
  ⟨by omega, .inr ⟨b, 0, rfl, h.lt, fun i hi j hj => (h.cell _).trans (hc i hi j hj).1⟩, fun i hi j hj => (hc i hi j hj).2⟩
theorem rowsV_none {w : World} {sz : Nat} {val : Nat → Nat → Value} : RowsV w none 0 sz val := ⟨by omega, .inl rfl⟩
theorem rowsI_none {w : World} {sz : Nat} {f : Nat → Nat → Int} : Open.RowsIn w none 0 sz f := ⟨by omega, .inl rfl, fun i hi => by omega⟩
theorem lit {a : Int} (h : decide (-9223372036854775808 ≤ a ∧ a ≤ 9223372036854775807) = true) : I64 a := (of_decide_eq_true h : -9223372036854775808 ≤ a ∧ a ≤ 9223372036854775807)
theorem lenB {n : Nat} (h : Nat.ble n 1000 = true) : n ≤ 1000 := Nat.le_of_ble_eq_true h
theorem pl_ok (w : World) : (plC w.heap.size).Ok (plWd w) := by
  have b1 : Box (plWd w) (w.heap.size + 1) #[.int .i64 0, .int .i64 32, .bool true] 84 := by
    unfold plWd
    refine Box.alloc ?_ _
    refine Box.alloc ?_ _
    refine Box.alloc ?_ _
    refine Box.alloc ?_ _
    refine Box.alloc ?_ _
    refine Box.alloc ?_ _
    exact box_at (by simp)
  have b2 : Box (plWd w) (w.heap.size + 1 + 1) #[.int .i64 1, .int .i64 1, .int .i64 20] 86 := by
    unfold plWd
    refine Box.alloc ?_ _
    refine Box.alloc ?_ _
    refine Box.alloc ?_ _
    refine Box.alloc ?_ _
    refine Box.alloc ?_ _
    exact box_at (by simp)
  have b3 : Box (plWd w) (w.heap.size + 1 + 1 + 1) #[.int .i64 0, .int .i64 0, .int .i64 0, .int .i64 0, .int .i64 0] 3 := by
    unfold plWd
    refine Box.alloc ?_ _
    refine Box.alloc ?_ _
    refine Box.alloc ?_ _
    refine Box.alloc ?_ _
    exact box_at (by simp)
  have b4 : Box (plWd w) (w.heap.size + 1 + 1 + 1 + 1) #[.slice (some ⟨w.heap.size + 1, 0, none⟩) 1 1, .slice (some ⟨w.heap.size + 1 + 1, 0, none⟩) 1 1, .slice none 0 0, .slice none 0 0, .int .i64 0, .slice none 0 0, .slice none 0 0, .int .i64 20, .int .i64 1099511627776, .int .i64 0, .slice (some ⟨w.heap.size + 1 + 1 + 1, 0, none⟩) 5 5] 61 := by
    unfold plWd
    refine Box.alloc ?_ _
    refine Box.alloc ?_ _
    refine Box.alloc ?_ _
    exact box_at (by simp)
  have b5 : Box (plWd w) (w.heap.size + 1 + 1 + 1 + 1 + 1) #[.int .i64 0, .int .i64 1000, .int .i64 5000] 54 := by
    unfold plWd
    refine Box.alloc ?_ _
    refine Box.alloc ?_ _
    exact box_at (by simp)
  have b6 : Box (plWd w) (w.heap.size + 1 + 1 + 1 + 1 + 1 + 1) #[.int .i64 10000, .slice (some ⟨w.heap.size + 1 + 1 + 1 + 1 + 1, 0, none⟩) 1 1] 52 := by
    unfold plWd
    refine Box.alloc ?_ _
    exact box_at (by simp)
  have b7 : Box (plWd w) (w.heap.size + 1 + 1 + 1 + 1 + 1 + 1 + 1) #[.int .i64 5, .int .i64 10, .int .i64 10, .int .i64 40] 88 := by
    unfold plWd
    exact box_at (by simp)
  have one : ∀ {i : Nat}, i < 1 → i = 0 := fun h => by omega
  have PO : (plP w.heap.size).Ok (plWd w) := by
    refine ⟨Lib.hid (rowsV_box b1 (lenB rfl) ?_), fun i hi => ⟨lit rfl, lit rfl⟩, Lib.hid (rowsI_box b2 (lenB rfl) ?_), Lib.hid rowsV_none, fun i hi => ⟨lit rfl, lit rfl⟩, Lib.hid rowsI_none, lit rfl, Lib.hid rowsI_none, Lib.hid rowsI_none, lit rfl, lit rfl, lit rfl, Lib.hid (rowsI_box b3 (lenB rfl) ?_)⟩
    · intro i hi j hj
      obtain rfl := one hi
      match j, hj with
      | 0, _ => rfl
      | 1, _ => rfl
      | 2, _ => rfl
    · intro i hi j hj
      obtain rfl := one hi
      match j, hj with
      | 0, _ => exact ⟨rfl, lit rfl⟩
      | 1, _ => exact ⟨rfl, lit rfl⟩
      | 2, _ => exact ⟨rfl, lit rfl⟩
    · intro i hi j hj
      obtain rfl := one hj
      match i, hi with
      | 0, _ => exact ⟨rfl, lit rfl⟩
      | 1, _ => exact ⟨rfl, lit rfl⟩
      | 2, _ => exact ⟨rfl, lit rfl⟩
      | 3, _ => exact ⟨rfl, lit rfl⟩
      | 4, _ => exact ⟨rfl, lit rfl⟩
  have MO : (plM w.heap.size).Ok (plWd w) := by
    refine ⟨lit rfl, Lib.hid (rowsI_box b5 (lenB rfl) ?_)⟩
    intro i hi j hj
    obtain rfl := one hi
    match j, hj with
    | 0, _ => exact ⟨rfl, lit rfl⟩
    | 1, _ => exact ⟨rfl, lit rfl⟩
    | 2, _ => exact ⟨rfl, lit rfl⟩
  have WO : (plW w.heap.size).Ok (plWd w) := by
    refine ⟨Lib.hid (rowsI_box b7 (lenB rfl) ?_), Lib.hid rowsI_none, lit rfl, lit rfl, lit rfl, lit rfl, lit rfl, lit rfl⟩
    intro i hi j hj
    match i, j, hi, hj with
    | 0, 0, _, _ => exact ⟨rfl, lit rfl⟩
    | 0, 1, _, _ => exact ⟨rfl, lit rfl⟩
    | 1, 0, _, _ => exact ⟨rfl, lit rfl⟩
    | 1, 1, _, _ => exact ⟨rfl, lit rfl⟩
  refine ⟨Lib.hid (rowsV_box b4 (lenB rfl) ?_), fun i hi => PO, Lib.hid rowsI_none, Lib.hid (rowsV_box b6 (lenB rfl) ?_), fun i hi => MO, WO, Lib.hid rowsI_none, Lib.hid rowsI_none, Nat.le_refl 0⟩
  · intro i hi j hj
    obtain rfl := one hi
    match j, hj with
    | 0, _ => rfl
    | 1, _ => rfl
    | 2, _ => rfl
    | 3, _ => rfl
    | 4, _ => rfl
    | 5, _ => rfl
    | 6, _ => rfl
    | 7, _ => rfl
    | 8, _ => rfl
    | 9, _ => rfl
    | 10, _ => rfl
  · intro i hi j hj
    obtain rfl := one hi
    match j, hj with
    | 0, _ => rfl
    | 1, _ => rfl
set_option maxHeartbeats 2000000 in
theorem plain_any (w : World) : Calls Tryz.prog 19 #[] w fun e w' => ∃ n c, c = plC n ∧ e = .returned (.agg #[.slice c.pa c.pn c.pc, .slice c.ca c.cn c.cc, .slice c.ma c.mn c.mc, .slice c.w.la c.w.ln c.w.lc, .slice c.w.na c.w.nn c.w.nc, .int .i64 c.w.sw, .int .i64 c.w.id, .int .i64 c.w.ch, .int .i64 c.w.qu, .int .i64 c.w.sl, .int .i64 c.w.pp, .slice c.da c.dn c.dc, .slice c.ua c.un c.uc]) ∧ c.Ok w' ∧ Below w.heap.size w w' := by
  have B : Below w.heap.size w (plWd w) := by
    unfold plWd
    repeat (first | exact Below.refl _ _ | refine Below.alloc ?_ (by first | exact Nat.le_refl _ | (simp; done) | (simp; omega)) _)
  have B := Lib.hid B
  have K := Lib.hid (pl_ok w)
  go_enter Tryz.func19, Tryz.ntmps19
  go_wp2_with fail
  refine bodyPost_ret (v := .agg #[.slice (some ⟨w.heap.size + 1 + 1 + 1 + 1, 0, none⟩) 1 1, .slice none 0 0, .slice (some ⟨w.heap.size + 1 + 1 + 1 + 1 + 1 + 1, 0, none⟩) 1 1, .slice (some ⟨w.heap.size + 1 + 1 + 1 + 1 + 1 + 1 + 1, 0, none⟩) 2 2, .slice none 0 0, .int .i64 0, .int .i64 0, .int .i64 1, .int .i64 8, .int .i64 32768, .int .i64 100, .slice none 0 0, .slice none 0 0]) ?_ rfl ⟨w.heap.size, plC w.heap.size, rfl, rfl, K.out, B.out⟩
  simp [results, Tryz.results19, go_sem]
end Go.Proofs.YtlafeijkpnpdeaaGreat.Vpl

/- What a configuration that may be has: plain. -/
namespace Go.Proofs.YtlafeijkpnpdeaaGreat.Vrp
open Go.RowKit Base Kit WideA WideB Plain Conf Conf2 PowA PowB Vfa Vfb Val Vld Vpa Vpb Vpr Vsh Short Vcf Vch Vci Vnu Vmo Vck FitA FitB FitC
set_option linter.unusedVariables false
set_option linter.unusedSimpArgs false
theorem ceil_le (x f t : Int) (hf : 1 ≤ f) : (x + (f - 1)) / f ≤ t ↔ x ≤ t * f := by
  constructor
  · intro h
    have h1 : (x + (f - 1)) / f < t + 1 := by omega
    rw [Int.ediv_lt_iff_lt_mul (by omega)] at h1
    have : (t + 1) * f = t * f + f := by rw [Int.add_mul]; omega
    omega
  · intro h
    have h1 : (x + (f - 1)) / f < t + 1 := by
      rw [Int.ediv_lt_iff_lt_mul (by omega)]
      have : (t + 1) * f = t * f + f := by rw [Int.add_mul]; omega
      omega
    omega
theorem both_plain (fq sw cyc len : Int) (c0 : 0 ≤ cyc) (c1 : cyc ≤ 1099511627776) (l1 : len ≤ 1099511627776) (s0 : 0 ≤ sw) (s1 : sw ≤ len) (f0 : 1 ≤ fq) (f1 : fq ≤ 1048576) :
    (sp fq sw len).2 = 0 ∧ ft fq sw cyc len = decide (cyc ≤ (sp fq sw len).1) := by
  have hp : 0 ≤ (len - sw) * fq := Int.mul_nonneg (by omega) (by omega)
  have hp2 : (len - sw) * fq ≤ 1099511627776 * 1048576 := Int.mul_le_mul (by omega) f1 (by omega) (by omega)
  have hsp : sp fq sw len = ((len - sw) * fq / 1000, 0) := by
    unfold sp md mdQ
    rw [if_neg (by omega), if_neg (by omega), if_neg (by omega)]
    simp only [Bool.false_eq_true, if_false]
    rw [if_pos (by omega)]
  have hq : (cyc * 1000 + (fq - 1)) / fq ≤ cyc * 1000 := by rw [ceil_le _ _ _ f0]; have := Int.mul_le_mul_of_nonneg_left f0 (show 0 ≤ cyc * 1000 by omega); omega
  have hq0 : 0 ≤ (cyc * 1000 + (fq - 1)) / fq := Int.ediv_nonneg (by omega) (by omega)
  have hmd : md cyc 1000 fq true = ((cyc * 1000 + (fq - 1)) / fq, 0) := by
    unfold md mdQ
    rw [if_neg (by omega)]
    simp only [if_true]
    rw [if_pos (by omega)]
  have hnd : nd fq sw cyc = (sw + (cyc * 1000 + (fq - 1)) / fq, 0) := by
    unfold nd
    rw [if_neg (by omega), hmd]
    simp only [ne_eq, not_true_eq_false, if_false]
    rw [if_neg (by omega)]
  refine ⟨by rw [hsp], ?_⟩
  unfold ft
  rw [hnd, hsp]
  have h1 := ceil_le (cyc * 1000) fq (len - sw) f0
  simp only [decide_true, Bool.true_and, decide_eq_decide]
  constructor
  · intro h
    have := h1.1 (by omega)
    omega
  · intro h
    have := h1.2 (by omega)
    omega
theorem room_plain (fq sw cyc len : Int) (c0 : 1 ≤ cyc) (c1 : cyc ≤ 1000000000) (l1 : len ≤ 1000000000) (s0 : 0 ≤ sw) (f0 : 1 ≤ fq) (f1 : fq ≤ 10000) (h : ft fq sw cyc len = true) :
    (nd fq sw cyc).2 = 0 ∧ (nd fq sw cyc).1 ≤ len ∧ (sp fq sw len).2 = 0 ∧ cyc ≤ (sp fq sw len).1 := by
  have h0 := h
  unfold ft at h
  rw [Bool.and_eq_true, decide_eq_true_iff, decide_eq_true_iff] at h
  have hs : sw ≤ len := by
    have hb := (md_bd cyc 1000 fq true (fun _ _ _ => trivial)).1
    obtain ⟨h1, h2⟩ := h
    unfold nd at h1 h2
    by_cases e1 : cyc < 0 ∨ sw < 0 ∨ fq < 1
    · omega
    rw [if_neg e1] at h1 h2
    by_cases e2 : (md cyc 1000 fq true).2 ≠ 0
    · rw [if_pos e2] at h1; exact absurd h1 e2
    rw [if_neg e2] at h1 h2
    by_cases e3 : 9223372036854775807 < sw + (md cyc 1000 fq true).1
    · rw [if_pos e3] at h1; cases h1
    rw [if_neg e3] at h2
    dsimp only at h2
    omega
  obtain ⟨p1, p2⟩ := both_plain fq sw cyc len (by omega) (by omega) (by omega) s0 hs f0 (by omega)
  rw [h0] at p2
  exact ⟨h.1, h.2, p1, of_decide_eq_true p2.symm⟩
theorem thn_ok {a b : Int × Int} (h : (thn a b).1 = 0) : a.1 = 0 ∧ b.1 = 0 := by
  unfold thn at h
  by_cases e : a.1 = 0
  · rw [if_pos e] at h; exact ⟨e, h⟩
  · rw [if_neg e] at h; exact absurd h e
theorem fb_fst {P : Nat → Bool} : ∀ {n : Nat}, fb P n < n → P (fb P n) = false
  | 0, h => by omega
  | n + 1, h => by
    have hle := fb_le P n
    unfold fb at h ⊢
    by_cases e : fb P n < n
    · rw [if_pos e]; exact fb_fst e
    · rw [if_neg e] at h ⊢
      cases hp : P n
      · rw [hp] at h; simp only [Bool.false_eq_true, if_false]; exact hp
      · rw [hp] at h; simp at h
theorem nu_ok {E : Nat → Int} {n : Nat} (h : (nuR E n).1 = 0) : ∀ j, j < n → E j = 0 := by
  unfold nuR at h
  have hle := fb_le (zP E) n
  by_cases e : fb (zP E) n < n
  · rw [if_pos e] at h
    dsimp only at h
    have e9 := fb_fst e
    unfold zP at e9
    exact absurd h (of_decide_eq_false e9)
  · intro j hj
    have := fb_iff.1 (show fb (zP E) n = n by omega) j hj
    unfold zP at this
    exact of_decide_eq_true this
structure Good (c : ConfC) : Prop where
  cap : ∀ k, k < c.pn → 1 ≤ (c.p k).cap ∧ (c.p k).cap ≤ 1000000000
  sw : 0 ≤ c.w.sw
  fq : 1 ≤ top c.w.ln c.w.lf 0 ∧ top c.w.ln c.w.lf 0 ≤ 10000
  mode : ∀ k, k < c.mn → (inB (c.m k).fr 1 1000000000 = true) ∧ (∀ j, j < (c.m k).wn → winP c (c.m k) j = true) ∧ (∀ j, j < (c.m k).wn → fitP c (c.m k) j = true)
theorem part_ok {q : PartC} (h : PartR q = 0) : 1 ≤ q.cap ∧ q.cap ≤ 1000000000 := by
  unfold PartR at h
  split at h
  · cases h
  split at h
  · cases h
  split at h
  · cases h
  split at h
  · cases h
  split at h
  · cases h
  rename_i h9
  unfold lastB at h9
  rw [Bool.not_eq_false] at h9
  simp only [Bool.and_eq_true] at h9
  exact inB_iff.1 (by first | exact h9.1.1.1.1 | exact h9.1 | exact h9.1.1 | exact h9.1.1.1)
theorem pow_ok {p : PowC} (h : (powR p).1 = 0) : 0 ≤ p.sw ∧ 1 ≤ top p.ln p.lf 0 ∧ top p.ln p.lf 0 ≤ 10000 := by
  unfold powR at h
  have hle := fb_le (lev p.lf) p.ln
  split at h
  · cases h
  rename_i h1
  split at h
  · cases h
  rename_i h2
  split at h
  · rename_i h3
    unfold rest at h3
    simp only [Bool.and_eq_true] at h3
    have hs : inB p.sw 0 100000000 = true := by first | exact h3.1.1.1.1.1.2 | exact h3.2.1 | exact h3.1.1.1.1.2
    have hl := fb_iff.1 (show fb (lev p.lf) p.ln = p.ln by omega)
    have h5 := hl (p.ln - 1) (by omega)
    unfold lev at h5
    have h6 := lvB_bd h5
    have h7 := (ah_bd (p.ln - 1) (fun j hj => hl j (by omega))).1
    unfold top
    rw [if_neg (by omega)]
    exact ⟨(inB_iff.1 hs).1, by omega, h6.2.1⟩
  · cases h
theorem check_good {c : ConfC} (h : (CheckR c).1 = 0) : Good c := by
  unfold CheckR at h
  split at h
  · obtain ⟨a1, h⟩ := thn_ok h
    obtain ⟨a2, h⟩ := thn_ok h
    obtain ⟨a3, h⟩ := thn_ok h
    obtain ⟨a4, h⟩ := thn_ok h
    have p2 := pow_ok a2
    refine ⟨fun k hk => part_ok (nu_ok a1 k hk), p2.1, p2.2, fun k hk => ?_⟩
    unfold modesR at a4
    split at a4
    · have m := nu_ok a4 k hk
      skip
      unfold ModeR at m
      split at m
      · rw [Int.toNat_natCast] at m
        unfold ModeQ at m
        split at m
        · rename_i h5
          simp only [Bool.and_eq_true, decide_eq_true_eq] at h5
          split at m
          · rename_i h6
            exact ⟨h5.1, fb_iff.1 h5.2.2, fb_iff.1 (of_decide_eq_true h6)⟩
          · cases m
        · cases m
      · cases m
    · cases a4
  · cases h
end Go.Proofs.YtlafeijkpnpdeaaGreat.Vrp

/- The laws of valid: works. -/
namespace Go.Proofs.YtlafeijkpnpdeaaGreat.Vwk
open Go.RowKit Base Kit Conf Conf2 PowA PowB Vfa Vfb Val Vld Vpa Vpb Vpr Vsh Short Vcf Vch Vci Vnu Vmo Vck Vpl
set_option linter.unusedVariables false
set_option linter.unusedSimpArgs false
end Go.Proofs.YtlafeijkpnpdeaaGreat.Vwk

/- The law ValidRooms. -/
namespace Go.Proofs.YtlafeijkpnpdeaaGreat.Vl4
open Go.RowKit Base Kit Conf Conf2 PowA PowB Vfa Vfb Val Vld Vpa Vpb Vpr Vsh Short Vcf Vch Vci Vnu Vmo Vck Vpl Vwk Vrp FitA FitB FitC
set_option linter.unusedVariables false
set_option linter.unusedSimpArgs false
theorem win_bd {c : ConfC} {m : ModeC} {j : Nat} (h : inB m.fr 1 1000000000 = true) (h1 : ∀ i, i < m.wn → winP c m i = true) (hj : j < m.wn) :
    0 ≤ m.wf j 0 ∧ m.wf j 0 < (c.pn : Int) ∧ ahI (fun j => m.wf j 1) j + ahI (fun j => m.wf j 2) j ≤ m.wf j 1 ∧ 0 ≤ m.wf j 1 ∧ m.wf j 1 ≤ 1000000000 ∧ 1 ≤ m.wf j 2 ∧ m.wf j 2 ≤ 1000000000 := by
  have h2 := h1 j hj
  have h3 := win_ah h j (fun i hi => h1 i (by omega))
  have h4 := inB_iff.1 h
  unfold winP winB at h2
  simp only [Bool.and_eq_true, inB_iff] at h2
  omega
end Go.Proofs.YtlafeijkpnpdeaaGreat.Vl4

/- The reference of valid: Mode. -/
namespace Go.Proofs.YtlafeijkpnpdeaaGreat.Vmr
open Go.RowKit Base Kit Conf Conf2 PowA PowB Vfa Vfb Val Vld Vpa Vpr Vps Short Vcf Vmo FitA FitB FitC
set_option linter.unusedVariables false
set_option linter.unusedSimpArgs false
/-- a function's world: a configuration's box, and a mode's -/
structure Ms (w0 w : World) (mb : Nat) (c : ConfC) (fr : Int) (wa : Option Addr) (wn wc : Nat) : Prop where
  bel : Below w0.heap.size w0 w
  box : Box w w0.heap.size #[.slice c.pa c.pn c.pc, .slice c.ca c.cn c.cc, .slice c.ma c.mn c.mc, .slice c.w.la c.w.ln c.w.lc, .slice c.w.na c.w.nn c.w.nc, .int .i64 c.w.sw, .int .i64 c.w.id, .int .i64 c.w.ch, .int .i64 c.w.qu, .int .i64 c.w.sl, .int .i64 c.w.pp, .slice c.da c.dn c.dc, .slice c.ua c.un c.uc] 33
  mod : Box w mb #[.int .i64 fr, .slice wa wn wc] 52
theorem ms_next {w0 w w1 : World} {mb : Nat} {c : ConfC} {fr : Int} {wa : Option Addr} {wn wc : Nat} (h : Hid (Ms w0 w mb c fr wa wn wc)) (k : Below w.heap.size w w1) : Hid (Ms w0 w1 mb c fr wa wn wc) := Lib.hid ⟨below_next h.out.bel k, h.out.box.next k, h.out.mod.next k⟩
set_option maxRecDepth 100000 in
set_option maxHeartbeats 4000000 in
theorem Moder_any (c : ConfC) (k : Int) (r : Int) (w : World) (ok : c.Ok w) (ik : I64 k) (hr : Hid (ModeR c k = r)) :
    Calls Tryz.prog 43 #[.agg #[.slice c.pa c.pn c.pc, .slice c.ca c.cn c.cc, .slice c.ma c.mn c.mc, .slice c.w.la c.w.ln c.w.lc, .slice c.w.na c.w.nn c.w.nc, .int .i64 c.w.sw, .int .i64 c.w.id, .int .i64 c.w.ch, .int .i64 c.w.qu, .int .i64 c.w.sl, .int .i64 c.w.pp, .slice c.da c.dn c.dc, .slice c.ua c.un c.uc], .int .i64 k] w fun e w' => e = .returned (.int .i64 r) ∧ Below w.heap.size w w' := by
  have h1 := ok.modes.out.1
  have h2 := ok.parts.out.1
  obtain ⟨ik0, ik1⟩ := ik
  have hr := hr.out
  unfold ModeR at hr
  have S := cs_in w c
  have bc := S.out.box.cell
  by_cases k0 : k < 0
  · obtain rfl : r = 26 := by rw [← hr, if_neg (by rw [inB_iff]; omega)]
    clear hr
    go_enter Tryz.func43, Tryz.ntmps43
    go_wp2_with fail
    go_ret
    exact ⟨rfl, S.out.bel⟩
  by_cases k1 : (c.mn : Int) ≤ k
  · obtain rfl : r = 26 := by rw [← hr, if_neg (by rw [inB_iff]; omega)]
    clear hr
    have k0 : 0 ≤ k := by omega
    go_enter Tryz.func43, Tryz.ntmps43
    go_wp2_with fail
    go_ret
    exact ⟨rfl, S.out.bel⟩
  rw [if_pos (by rw [inB_iff]; omega)] at hr
  have hk : k.toNat < c.mn := by omega
  have hkI : k < (c.mn : Int) := by omega
  replace k0 : 0 ≤ k := by omega
  clear k1
  obtain ⟨b, off, ea, hlt, c0, c1⟩ := mode_at ok.modes k.toNat hk
  replace ea := Lib.hid ea
  have OK := Lib.hid (fun w' (h : Below w.heap.size w w') => ok.below h (Nat.le_refl _))
  have HB := (Below.refl w.heap.size w).alloc (Nat.le_refl _) (.cells #[.slice c.pa c.pn c.pc, .slice c.ca c.cn c.cc, .slice c.ma c.mn c.mc, .slice c.w.la c.w.ln c.w.lc, .slice c.w.na c.w.nn c.w.nc, .int .i64 c.w.sw, .int .i64 c.w.id, .int .i64 c.w.ch, .int .i64 c.w.qu, .int .i64 c.w.sl, .int .i64 c.w.pp, .slice c.da c.dn c.dc, .slice c.ua c.un c.uc] 33)
  replace c0 := keep HB c0 hlt
  replace c1 := keep HB c1 hlt
  have win := (ok.mode k.toNat hk).win
  have ifr := (ok.mode k.toNat hk).fr
  clear HB
  generalize c.m k.toNat = m at *
  obtain ⟨fr, wa, wn, wc, wf⟩ := m
  dsimp only at c0 c1 win ifr
  obtain ⟨if0, if1⟩ := ifr
  unfold ModeQ at hr
  dsimp only at hr
  have hwn := win.out.1
  obtain ⟨r1, d1⟩ : ∃ z, inB fr 1 1000000000 = z := ⟨_, rfl⟩
  have C1 := fun w => outr_any fr 1 1000000000 r1 w (Lib.hid d1)
  rw [d1] at hr
  cases r1
  · rw [Bool.false_and, if_neg (by decide)] at hr
    simp only [Bool.not_false] at C1
    replace C1 := Lib.hid C1
    subst hr
    clear d1 win
    clear bc
    have bc : ∀ i, (w.alloc (.cells #[.slice c.pa c.pn c.pc, .slice c.ca c.cn c.cc, .slice c.ma c.mn c.mc, .slice c.w.la c.w.ln c.w.lc, .slice c.w.na c.w.nn c.w.nc, .int .i64 c.w.sw, .int .i64 c.w.id, .int .i64 c.w.ch, .int .i64 c.w.qu, .int .i64 c.w.sl, .int .i64 c.w.pp, .slice c.da c.dn c.dc, .slice c.ua c.un c.uc] 33)).cell? ⟨w.heap.size, i, none⟩ = (#[.slice c.pa c.pn c.pc, .slice c.ca c.cn c.cc, .slice (some ⟨b, off, none⟩) c.mn c.mc, .slice c.w.la c.w.ln c.w.lc, .slice c.w.na c.w.nn c.w.nc, .int .i64 c.w.sw, .int .i64 c.w.id, .int .i64 c.w.ch, .int .i64 c.w.qu, .int .i64 c.w.sl, .int .i64 c.w.pp, .slice c.da c.dn c.dc, .slice c.ua c.un c.uc] : Array Value)[i]? := fun i => (S.out.box.cell i).trans (by rw [ea.out])
    go_enter Tryz.func43, Tryz.ntmps43
    go_wp2_with fail
    have M : Hid (Ms w ((w.alloc (.cells #[.slice c.pa c.pn c.pc, .slice c.ca c.cn c.cc, .slice c.ma c.mn c.mc, .slice c.w.la c.w.ln c.w.lc, .slice c.w.na c.w.nn c.w.nc, .int .i64 c.w.sw, .int .i64 c.w.id, .int .i64 c.w.ch, .int .i64 c.w.qu, .int .i64 c.w.sl, .int .i64 c.w.pp, .slice c.da c.dn c.dc, .slice c.ua c.un c.uc] 33)).alloc (.cells #[.int .i64 fr, .slice wa wn wc] 52)) (w.heap.size + 1) c fr wa wn wc) := Lib.hid ⟨S.out.bel.alloc S.out.bel.size _, S.out.box.alloc _, box_new1 w _ _ _⟩
    generalize (w.alloc (.cells #[.slice c.pa c.pn c.pc, .slice c.ca c.cn c.cc, .slice c.ma c.mn c.mc, .slice c.w.la c.w.ln c.w.lc, .slice c.w.na c.w.nn c.w.nc, .int .i64 c.w.sw, .int .i64 c.w.id, .int .i64 c.w.ch, .int .i64 c.w.qu, .int .i64 c.w.sl, .int .i64 c.w.pp, .slice c.da c.dn c.dc, .slice c.ua c.un c.uc] 33)).alloc (.cells #[.int .i64 fr, .slice wa wn wc] 52) = W2 at *
    clear bc S
    have bc := M.out.box.cell
    have mc := M.out.mod.cell
    refine (C1.out _).mono ?_
    rintro e1 w5 ⟨rfl, e9⟩
    cases e9
    go_wp2_with fail
    go_ret
    exact ⟨rfl, M.out.bel⟩
  rw [Bool.true_and] at hr
  simp only [Bool.not_true] at C1
  replace C1 := Lib.hid C1
  have f0 := inB_iff.1 d1
  obtain ⟨f0, f1⟩ := f0
  by_cases h16 : wn ≤ 16
  rotate_left
  · rw [decide_eq_false h16, Bool.false_and, if_neg (by decide)] at hr
    subst hr
    clear d1 win
    have h16 : (16 : Int) < (wn : Int) := by omega
    clear bc
    have bc : ∀ i, (w.alloc (.cells #[.slice c.pa c.pn c.pc, .slice c.ca c.cn c.cc, .slice c.ma c.mn c.mc, .slice c.w.la c.w.ln c.w.lc, .slice c.w.na c.w.nn c.w.nc, .int .i64 c.w.sw, .int .i64 c.w.id, .int .i64 c.w.ch, .int .i64 c.w.qu, .int .i64 c.w.sl, .int .i64 c.w.pp, .slice c.da c.dn c.dc, .slice c.ua c.un c.uc] 33)).cell? ⟨w.heap.size, i, none⟩ = (#[.slice c.pa c.pn c.pc, .slice c.ca c.cn c.cc, .slice (some ⟨b, off, none⟩) c.mn c.mc, .slice c.w.la c.w.ln c.w.lc, .slice c.w.na c.w.nn c.w.nc, .int .i64 c.w.sw, .int .i64 c.w.id, .int .i64 c.w.ch, .int .i64 c.w.qu, .int .i64 c.w.sl, .int .i64 c.w.pp, .slice c.da c.dn c.dc, .slice c.ua c.un c.uc] : Array Value)[i]? := fun i => (S.out.box.cell i).trans (by rw [ea.out])
    go_enter Tryz.func43, Tryz.ntmps43
    go_wp2_with fail
    have M : Hid (Ms w ((w.alloc (.cells #[.slice c.pa c.pn c.pc, .slice c.ca c.cn c.cc, .slice c.ma c.mn c.mc, .slice c.w.la c.w.ln c.w.lc, .slice c.w.na c.w.nn c.w.nc, .int .i64 c.w.sw, .int .i64 c.w.id, .int .i64 c.w.ch, .int .i64 c.w.qu, .int .i64 c.w.sl, .int .i64 c.w.pp, .slice c.da c.dn c.dc, .slice c.ua c.un c.uc] 33)).alloc (.cells #[.int .i64 fr, .slice wa wn wc] 52)) (w.heap.size + 1) c fr wa wn wc) := Lib.hid ⟨S.out.bel.alloc S.out.bel.size _, S.out.box.alloc _, box_new1 w _ _ _⟩
    generalize (w.alloc (.cells #[.slice c.pa c.pn c.pc, .slice c.ca c.cn c.cc, .slice c.ma c.mn c.mc, .slice c.w.la c.w.ln c.w.lc, .slice c.w.na c.w.nn c.w.nc, .int .i64 c.w.sw, .int .i64 c.w.id, .int .i64 c.w.ch, .int .i64 c.w.qu, .int .i64 c.w.sl, .int .i64 c.w.pp, .slice c.da c.dn c.dc, .slice c.ua c.un c.uc] 33)).alloc (.cells #[.int .i64 fr, .slice wa wn wc] 52) = W2 at *
    clear bc S
    have bc := M.out.box.cell
    have mc := M.out.mod.cell
    refine (C1.out _).mono ?_
    rintro e1 w5 ⟨rfl, e9⟩
    cases e9
    go_wp2_with fail
    go_ret
    exact ⟨rfl, M.out.bel⟩
  rw [decide_eq_true h16, Bool.true_and] at hr
  have HR := Lib.hid hr
  have D1 := Lib.hid d1
  have W3 := ri3 win
  have WI := Lib.hid (fun j (hj : j < wn) => (⟨win.out.2.2 j hj 0 (by omega), win.out.2.2 j hj 1 (by omega), win.out.2.2 j hj 2 (by omega)⟩ : I64 (wf j 0) ∧ I64 (wf j 1) ∧ I64 (wf j 2)))
  clear hr d1 win
  clear bc
  have bc : ∀ i, (w.alloc (.cells #[.slice c.pa c.pn c.pc, .slice c.ca c.cn c.cc, .slice c.ma c.mn c.mc, .slice c.w.la c.w.ln c.w.lc, .slice c.w.na c.w.nn c.w.nc, .int .i64 c.w.sw, .int .i64 c.w.id, .int .i64 c.w.ch, .int .i64 c.w.qu, .int .i64 c.w.sl, .int .i64 c.w.pp, .slice c.da c.dn c.dc, .slice c.ua c.un c.uc] 33)).cell? ⟨w.heap.size, i, none⟩ = (#[.slice c.pa c.pn c.pc, .slice c.ca c.cn c.cc, .slice (some ⟨b, off, none⟩) c.mn c.mc, .slice c.w.la c.w.ln c.w.lc, .slice c.w.na c.w.nn c.w.nc, .int .i64 c.w.sw, .int .i64 c.w.id, .int .i64 c.w.ch, .int .i64 c.w.qu, .int .i64 c.w.sl, .int .i64 c.w.pp, .slice c.da c.dn c.dc, .slice c.ua c.un c.uc] : Array Value)[i]? := fun i => (S.out.box.cell i).trans (by rw [ea.out])
  go_enter Tryz.func43, Tryz.ntmps43
  go_wp2_with fail
  have M : Hid (Ms w ((w.alloc (.cells #[.slice c.pa c.pn c.pc, .slice c.ca c.cn c.cc, .slice c.ma c.mn c.mc, .slice c.w.la c.w.ln c.w.lc, .slice c.w.na c.w.nn c.w.nc, .int .i64 c.w.sw, .int .i64 c.w.id, .int .i64 c.w.ch, .int .i64 c.w.qu, .int .i64 c.w.sl, .int .i64 c.w.pp, .slice c.da c.dn c.dc, .slice c.ua c.un c.uc] 33)).alloc (.cells #[.int .i64 fr, .slice wa wn wc] 52)) (w.heap.size + 1) c fr wa wn wc) := Lib.hid ⟨S.out.bel.alloc S.out.bel.size _, S.out.box.alloc _, box_new1 w _ _ _⟩
  generalize (w.alloc (.cells #[.slice c.pa c.pn c.pc, .slice c.ca c.cn c.cc, .slice c.ma c.mn c.mc, .slice c.w.la c.w.ln c.w.lc, .slice c.w.na c.w.nn c.w.nc, .int .i64 c.w.sw, .int .i64 c.w.id, .int .i64 c.w.ch, .int .i64 c.w.qu, .int .i64 c.w.sl, .int .i64 c.w.pp, .slice c.da c.dn c.dc, .slice c.ua c.un c.uc] 33)).alloc (.cells #[.int .i64 fr, .slice wa wn wc] 52) = W2 at *
  clear bc S
  have bc := M.out.box.cell
  have mc := M.out.mod.cell
  refine (C1.out _).mono ?_
  rintro e1 w5 ⟨rfl, e9⟩
  cases e9
  go_wp2_with fail
  go_loopw [6, 7] (fun e i wr => ∃ j : Nat, j ≤ wn ∧ i = .int .i64 j ∧ e = .int .i64 (ahI (fun j => wf j 1) j + ahI (fun j => wf j 2) j) ∧ Hid (∀ i, i < j → winP c ⟨fr, wa, wn, wc, wf⟩ i = true) ∧ Hid (Ms w wr (w.heap.size + 1) c fr wa wn wc)) (fun _ i _ => wn - (intOf i).toNat)
  case atStart => exact ⟨0, Nat.zero_le _, rfl, rfl, Lib.hid (fun i hi => by omega), M⟩
  case round =>
    clear M bc mc
    obtain ⟨j, hj, rfl, rfl, HL, M⟩ := hrel
    have bc := M.out.box.cell
    have mc := M.out.mod.cell
    have A := win_ah D1.out j HL.out
    by_cases hl : j < wn
    · obtain ⟨b2, o2, e2, hlt2, u0, u1, u2⟩ := W3.out j hl
      rw [e2] at mc
      replace e2 := Lib.hid e2
      replace u0 := keep M.out.bel u0 hlt2
      replace u1 := keep M.out.bel u1 hlt2
      replace u2 := keep M.out.bel u2 hlt2
      obtain ⟨i0, i1, i2⟩ := WI.out j hl
      have HX := Lib.hid (fun (h : winP c ⟨fr, wa, wn, wc, wf⟩ j = true) => show ∀ i, i < j + 1 → winP c ⟨fr, wa, wn, wc, wf⟩ i = true from fun i hi => if e : i = j then by rw [e]; exact h else HL.out i (by omega))
      have HF := Lib.hid (fun (h : winP c ⟨fr, wa, wn, wc, wf⟩ j = false) => show r = 26 from by
        rw [← HR.out, fb_hit HL.out h wn hl, decide_eq_false (by omega), if_neg (by decide)])
      have HE := Lib.hid (show ahI (fun j => wf j 1) (j + 1) + ahI (fun j => wf j 2) (j + 1) = wf j 1 + wf j 2 from rfl)
      unfold winP at HX HF
      dsimp only at A HX HF
      obtain ⟨⟨A1, A2⟩, ⟨A3, A4⟩, A5⟩ := A
      obtain ⟨E, hE⟩ : ∃ E, ahI (fun j => wf j 1) j + ahI (fun j => wf j 2) j = E := ⟨_, rfl⟩
      have hE0 : 0 ≤ E := by omega
      rw [hE] at HX HF A5 ⊢
      clear hE A1 A2 A3 A4
      generalize wf j 0 = x0 at *
      generalize wf j 1 = x1 at *
      generalize wf j 2 = x2 at *
      obtain ⟨i00, i01⟩ := i0
      obtain ⟨i10, i11⟩ := i1
      obtain ⟨i20, i21⟩ := i2
      have bw := (Box.new wr #[.int .i64 x0, .int .i64 x1, .int .i64 x2] 54).cell
      have M1 : Hid (Ms w (wr.alloc (.cells #[.int .i64 x0, .int .i64 x1, .int .i64 x2] 54)) (w.heap.size + 1) c fr wa wn wc) := ms_next M ((Below.refl _ _).alloc (Nat.le_refl _) _)
      have bc2 := M1.out.box.cell
      have mc2 := M1.out.mod.cell
      rw [e2.out] at mc2
      by_cases hv : winB c.pn fr x0 x1 x2 E = true
      · have HL := Lib.hid (HX.out hv)
        unfold winB at hv
        simp only [Bool.and_eq_true, inB_iff] at hv
        obtain ⟨⟨v0, v1⟩, ⟨v2, v3⟩, v4, v5⟩ := hv
        replace v1 : x0 < (c.pn : Int) := by omega
        go_wp2_with fail
        go_roundw
        case rel => exact ⟨j + 1, by omega, by go_num, by rw [HE.out], HL, M1⟩
        case measure => simp [intOf]; omega
      · rw [Bool.not_eq_true] at hv
        obtain rfl := HF.out hv
        have ways : x0 < 0 ∨ (0 ≤ x0 ∧ (c.pn : Int) ≤ x0) ∨ (0 ≤ x0 ∧ x0 < (c.pn : Int) ∧ x1 < E) ∨ (0 ≤ x0 ∧ x0 < (c.pn : Int) ∧ E ≤ x1 ∧ fr < x1) ∨ (0 ≤ x0 ∧ x0 < (c.pn : Int) ∧ E ≤ x1 ∧ x1 ≤ fr ∧ x2 < 1) ∨ (0 ≤ x0 ∧ x0 < (c.pn : Int) ∧ E ≤ x1 ∧ x1 ≤ fr ∧ 1 ≤ x2 ∧ fr - x1 < x2) := by
          have hn : ¬ (winB c.pn fr x0 x1 x2 E = true) := by rw [hv]; decide
          unfold winB at hn
          simp only [Bool.and_eq_true, inB_iff] at hn
          omega
        clear hv HX HF
        rcases ways with v0 | ⟨v0, v1⟩ | ⟨v0, v1, v2⟩ | ⟨v0, v1, v2, v3⟩ | ⟨v0, v1, v2, v3, v4⟩ | ⟨v0, v1, v2, v3, v4, v5⟩
        all_goals
          go_wp2_with fail
          go_ret
          exact ⟨rfl, M1.out.bel⟩
    · obtain rfl : j = wn := by omega
      have HR2 : Hid ((if decide (fb (fitP c ⟨fr, wa, j, wc, wf⟩) j = j) = true then (0 : Int) else 29) = r) := Lib.hid (by
        have e := HR.out
        rw [fb_all j HL.out, decide_eq_true rfl, if_pos rfl] at e
        exact e)
      clear A HR
      go_wp2_with fail
      go_loopw [9] (fun i wr => ∃ n : Nat, n ≤ j ∧ i = .int .i64 n ∧ Hid (∀ i, i < n → fitP c ⟨fr, wa, j, wc, wf⟩ i = true) ∧ Hid (Ms w wr (w.heap.size + 1) c fr wa j wc)) (fun i _ => j - (intOf i).toNat)
      case atStart => exact ⟨0, Nat.zero_le _, rfl, Lib.hid (fun i hi => by omega), M⟩
      case round =>
        clear M bc mc
        obtain ⟨n, hn, rfl, HJ, M⟩ := hrel
        by_cases hl : n < j
        · obtain ⟨b2, o2, e2, hlt2, u0, u1, u2⟩ := W3.out n hl
          replace e2 := Lib.hid e2
          have v := HL.out n hl
          unfold winP winB at v
          simp only [Bool.and_eq_true, inB_iff] at v
          obtain ⟨⟨v0, v1⟩, -⟩ := v
          obtain ⟨b3, o3, e3, hlt3, p7⟩ : ∃ b off, c.pa = some ⟨b, off, none⟩ ∧ b < w.heap.size ∧ w.cell? ⟨b, off + (wf n 0).toNat * 11 + 7, none⟩ = some (.int .i64 (c.p (wf n 0).toNat).cap) := by
            obtain ⟨b, off, ea, hlt, _, _, _, _, _, _, _, u7, _, _, _⟩ := part_at ok.parts (wf n 0).toNat (by omega)
            exact ⟨b, off, ea, hlt, u7⟩
          replace e3 := Lib.hid e3
          have icap := (ok.part (wf n 0).toNat (by omega)).cap
          obtain ⟨g, hg⟩ : ∃ g, fitP c ⟨fr, wa, j, wc, wf⟩ n = g := ⟨_, rfl⟩
          have HG := Lib.hid hg
          have HX := Lib.hid (fun (h : fitP c ⟨fr, wa, j, wc, wf⟩ n = true) => show ∀ i, i < n + 1 → fitP c ⟨fr, wa, j, wc, wf⟩ i = true from fun i hi => if e : i = n then by rw [e]; exact h else HJ.out i (by omega))
          have HF := Lib.hid (fun (h : fitP c ⟨fr, wa, j, wc, wf⟩ n = false) => show r = 29 from by
            rw [← HR2.out, fb_hit HJ.out h j hl, decide_eq_false (by omega), if_neg (by decide)])
          rw [hg] at HX HF
          unfold fitP at hg
          dsimp only at hg
          have C2 := Lib.hid (fun w' (h : c.Ok w') => fitsr_any c.w.la c.w.ln c.w.lc c.w.lf (.slice c.w.na c.w.nn c.w.nc) c.w.sw (.int .i64 c.w.id) (.int .i64 c.w.ch) (.int .i64 c.w.qu) (.int .i64 c.w.sl) (.int .i64 c.w.pp) (c.p (wf n 0).toNat).cap (wf n 2) g w' h.pow.lev h.pow.sw icap (Lib.hid hg))
          clear hg icap
          replace v1 : wf n 0 < (c.pn : Int) := by omega
          generalize (c.p (wf n 0).toNat).cap = cap at *
          generalize wf n 0 = x0 at *
          generalize wf n 2 = x2 at *
          have SK := Lib.hid (fun (w' : World) (h : Hid (Ms w w' (w.heap.size + 1) c fr wa j wc)) => show (∀ i, w'.cell? ⟨w.heap.size, i, none⟩ = (#[.slice (some ⟨b3, o3, none⟩) c.pn c.pc, .slice c.ca c.cn c.cc, .slice c.ma c.mn c.mc, .slice c.w.la c.w.ln c.w.lc, .slice c.w.na c.w.nn c.w.nc, .int .i64 c.w.sw, .int .i64 c.w.id, .int .i64 c.w.ch, .int .i64 c.w.qu, .int .i64 c.w.sl, .int .i64 c.w.pp, .slice c.da c.dn c.dc, .slice c.ua c.un c.uc] : Array Value)[i]?) ∧ (∀ i, w'.cell? ⟨w.heap.size + 1, i, none⟩ = (#[.int .i64 fr, .slice (some ⟨b2, o2, none⟩) j wc] : Array Value)[i]?) ∧ w'.cell? ⟨b2, o2 + n * 3, none⟩ = some (.int .i64 x0) ∧ w'.cell? ⟨b2, o2 + n * 3 + 2, none⟩ = some (.int .i64 x2) ∧ w'.cell? ⟨b3, o3 + x0.toNat * 11 + 7, none⟩ = some (.int .i64 cap) ∧ Hid (Ms w w' (w.heap.size + 1) c fr wa j wc) from
            ⟨fun i => (h.out.box.cell i).trans (by rw [e3.out]), fun i => (h.out.mod.cell i).trans (by rw [e2.out]), keep h.out.bel u0 hlt2, keep h.out.bel u2 hlt2, keep h.out.bel p7 hlt3, h⟩)
          have mc := M.out.mod.cell
          clear u0 u1 u2 p7
          go_wp2_with fail
          have MD : Hid (Ms w _ (w.heap.size + 1) c fr wa j wc) := ms_next M (Below.refl _ _).drew
          go_region_held3 (fun w' => (∀ i, w'.cell? ⟨w.heap.size, i, none⟩ = (#[.slice (some ⟨b3, o3, none⟩) c.pn c.pc, .slice c.ca c.cn c.cc, .slice c.ma c.mn c.mc, .slice c.w.la c.w.ln c.w.lc, .slice c.w.na c.w.nn c.w.nc, .int .i64 c.w.sw, .int .i64 c.w.id, .int .i64 c.w.ch, .int .i64 c.w.qu, .int .i64 c.w.sl, .int .i64 c.w.pp, .slice c.da c.dn c.dc, .slice c.ua c.un c.uc] : Array Value)[i]?) ∧ (∀ i, w'.cell? ⟨w.heap.size + 1, i, none⟩ = (#[.int .i64 fr, .slice (some ⟨b2, o2, none⟩) j wc] : Array Value)[i]?) ∧ w'.cell? ⟨b2, o2 + n * 3, none⟩ = some (.int .i64 x0) ∧ w'.cell? ⟨b2, o2 + n * 3 + 2, none⟩ = some (.int .i64 x2) ∧ w'.cell? ⟨b3, o3 + x0.toNat * 11 + 7, none⟩ = some (.int .i64 cap) ∧ Hid (Ms w w' (w.heap.size + 1) c fr wa j wc))
            (first | exact SK.out _ M5 | exact SK.out _ MD)
            (first
              | (go_at_call 69; go_split_ands; rename_i hS; refine (C2.out _ (OK.out _ hS.out.bel)).mono ?_; rintro e1 w5 ⟨rfl, k5⟩; have M5 := ms_next hS k5))
          cases g
          · obtain rfl := HF.out rfl
            go_wp2_with fail
            go_ret
            exact ⟨rfl, M5.out.bel⟩
          · have HJ := Lib.hid (HX.out rfl)
            go_wp2_with fail
            go_roundw
            case rel => exact ⟨n + 1, by omega, by go_num, HJ, M5⟩
            case measure => simp [intOf]; omega
        · obtain rfl : n = j := by omega
          have HZ : r = 0 := by
            have e := HR2.out
            rw [fb_all n HJ.out, decide_eq_true rfl, if_pos rfl] at e
            exact e.symm
          subst HZ
          have mc := M.out.mod.cell
          go_wp2_with fail
          go_ret
          exact ⟨rfl, M.out.bel⟩
end Go.Proofs.YtlafeijkpnpdeaaGreat.Vmr
