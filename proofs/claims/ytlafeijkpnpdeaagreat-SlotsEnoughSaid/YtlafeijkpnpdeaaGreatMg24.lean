import Derived.Test.YtlafeijkpnpdeaaGreatMg23
import Derived.Test.YtlafeijkpnpdeaaGreatMg19
import Derived.Test.YtlafeijkpnpdeaaGreatMg16
import Derived.Test.YtlafeijkpnpdeaaGreatMg13

/- The reference of valid: Check. -/
namespace Go.Proofs.YtlafeijkpnpdeaaGreat.Vkr
open Go.RowKit Base Kit Conf Conf2 PowA PowB Vfa Vfb Val Vld Vpa Vpr Vps Vsh Vsr Short Vcf Vch Vci Vnu Vmo Vck Vcr Vmr
set_option linter.unusedVariables false
set_option linter.unusedSimpArgs false
theorem thn_0 {a b : Int × Int} (h : a.1 = 0) : thn a b = b := by unfold thn; rw [if_pos h]
theorem thn_1 {a b : Int × Int} (h : a.1 ≠ 0) : thn a b = a := by unfold thn; rw [if_neg h]
set_option maxRecDepth 100000 in
set_option maxHeartbeats 4000000 in
theorem Checkr_any (c : ConfC) (er kr : Int) (w : World) (ok : c.Ok w) (hr : Hid (CheckR c = (er, kr))) :
    Calls Tryz.prog 28 #[.agg #[.slice c.pa c.pn c.pc, .slice c.ca c.cn c.cc, .slice c.ma c.mn c.mc, .slice c.w.la c.w.ln c.w.lc, .slice c.w.na c.w.nn c.w.nc, .int .i64 c.w.sw, .int .i64 c.w.id, .int .i64 c.w.ch, .int .i64 c.w.qu, .int .i64 c.w.sl, .int .i64 c.w.pp, .slice c.da c.dn c.dc, .slice c.ua c.un c.uc]] w fun e w' => e = .returned (.tuple #[.int .i64 er, .int .i64 kr]) ∧ Below w.heap.size w w' := by
  have h1 := ok.parts.out.1
  have h2 := ok.chans.out.1
  have h3 := ok.modes.out.1
  have OK := Lib.hid (fun w' (h : Below w.heap.size w w') => ok.below h (Nat.le_refl _))
  have hr := hr.out
  unfold CheckR at hr
  obtain ⟨r0, d0⟩ : ∃ z, inB (c.pn : Int) 1 8 = z := ⟨_, rfl⟩
  have C0 := Lib.hid (fun w => outr_any (c.pn : Int) 1 8 r0 w (Lib.hid d0))
  rw [d0] at hr
  have S := cs_in w c
  have bc := S.out.box.cell
  cases r0
  · rw [if_neg (by decide), Prod.mk.injEq] at hr
    obtain ⟨rfl, rfl⟩ := hr
    clear d0
    go_enter Tryz.func28, Tryz.ntmps28
    go_wp2_with fail
    generalize w.alloc (.cells #[.slice c.pa c.pn c.pc, .slice c.ca c.cn c.cc, .slice c.ma c.mn c.mc, .slice c.w.la c.w.ln c.w.lc, .slice c.w.na c.w.nn c.w.nc, .int .i64 c.w.sw, .int .i64 c.w.id, .int .i64 c.w.ch, .int .i64 c.w.qu, .int .i64 c.w.sl, .int .i64 c.w.pp, .slice c.da c.dn c.dc, .slice c.ua c.un c.uc] 33) = W at *
    refine (C0.out _).mono ?_
    rintro e1 w5 ⟨rfl, e9⟩
    cases e9
    go_wp2_with fail
    go_ret2
    exact ⟨rfl, S.out.bel⟩
  rw [if_pos rfl] at hr
  have HR := Lib.hid hr
  clear hr d0
  go_enter Tryz.func28, Tryz.ntmps28
  go_wp2_with fail
  generalize w.alloc (.cells #[.slice c.pa c.pn c.pc, .slice c.ca c.cn c.cc, .slice c.ma c.mn c.mc, .slice c.w.la c.w.ln c.w.lc, .slice c.w.na c.w.nn c.w.nc, .int .i64 c.w.sw, .int .i64 c.w.id, .int .i64 c.w.ch, .int .i64 c.w.qu, .int .i64 c.w.sl, .int .i64 c.w.pp, .slice c.da c.dn c.dc, .slice c.ua c.un c.uc] 33) = W at *
  refine (C0.out _).mono ?_
  rintro e1 w5 ⟨rfl, e9⟩
  cases e9
  go_wp2_with fail
  go_loopw [4] (fun i wr => ∃ k : Nat, k ≤ c.pn ∧ i = .int .i64 k ∧ Hid (∀ j, j < k → zP (fun k => PartR (c.p k)) j = true) ∧ Hid (Cs w wr w.heap.size c)) (fun i _ => c.pn - (intOf i).toNat)
  case atStart => exact ⟨0, Nat.zero_le _, rfl, Lib.hid (fun j hj => by omega), S⟩
  case round =>
    clear S bc
    obtain ⟨k, hk, rfl, HL, S⟩ := hrel
    by_cases hl : k < c.pn
    · obtain ⟨r, hr⟩ : ∃ r, PartR (c.p k) = r := ⟨_, rfl⟩
      have C2 := Lib.hid (fun w' (h : c.Ok w') => Partr_any (c.p k) w' (h.part k hl) r (Lib.hid hr))
      have HP1 := Lib.hid hr
      obtain ⟨b, off, ea, hlt, u0, u1, u2, u3, u4, u5, u6, u7, u8, u9, u10⟩ := part_at ok.parts k hl
      have bc := S.out.box.cell
      rw [ea] at bc
      replace u0 := keep S.out.bel u0 hlt
      replace u1 := keep S.out.bel u1 hlt
      replace u2 := keep S.out.bel u2 hlt
      replace u3 := keep S.out.bel u3 hlt
      replace u4 := keep S.out.bel u4 hlt
      replace u5 := keep S.out.bel u5 hlt
      replace u6 := keep S.out.bel u6 hlt
      replace u7 := keep S.out.bel u7 hlt
      replace u8 := keep S.out.bel u8 hlt
      replace u9 := keep S.out.bel u9 hlt
      replace u10 := keep S.out.bel u10 hlt
      clear ea hr
      generalize hq9 : c.p k = q at C2 u0 u1 u2 u3 u4 u5 u6 u7 u8 u9 u10
      clear hq9
      by_cases hz : r = 0
      · have HL := Lib.hid (show ∀ j, j < k + 1 → zP (fun k => PartR (c.p k)) j = true from fun j hj => if e : j = k then by
          rw [e]; unfold zP; exact decide_eq_true (HP1.out.trans hz) else HL.out j (by omega))
        replace hz : (r != 0) = false := by rw [bne_eq_false_iff_eq]; exact hz
        go_wp2_with fail
        refine (C2.out _ (OK.out _ S.out.bel)).mono ?_
        rintro e1 w5 ⟨rfl, k5⟩
        have S := cs_next S k5
        clear k5 bc u0 u1 u2 u3 u4 u5 u6 u7 u8 u9 u10
        go_wp2_with fail
        go_roundw
        case rel => exact ⟨k + 1, by omega, by go_num, HL, S⟩
        case measure => simp [intOf]; omega
      · have HE : Hid ((r, (k : Int)) = (er, kr)) := Lib.hid (by
          rw [← HR.out, thn_1 (by unfold partsR; rw [nu_hit hl HL.out (fun e => hz (HP1.out.symm.trans e)), HP1.out]; exact hz)]
          unfold partsR
          rw [nu_hit hl HL.out (fun e => hz (HP1.out.symm.trans e)), HP1.out])
        replace hz : (r != 0) = true := by rw [bne_iff_ne]; exact hz
        go_wp2_with fail
        refine (C2.out _ (OK.out _ S.out.bel)).mono ?_
        rintro e1 w5 ⟨rfl, k5⟩
        have S := cs_next S k5
        clear k5 bc u0 u1 u2 u3 u4 u5 u6 u7 u8 u9 u10
        go_wp2_with fail
        go_ret2
        exact ⟨Kit.ret_pair HE.out, S.out.bel⟩
    · obtain rfl : k = c.pn := by omega
      have HR1 : Hid (thn (powR c.w) (thn (chansR c) (thn (modesR c) (ShedR c.df c.uf c.dn c.un))) = (er, kr)) := Lib.hid (by
        rw [← HR.out, thn_0 (show (partsR c).1 = 0 by unfold partsR; rw [nu_all HL.out])])
      clear HR HL
      obtain ⟨⟨q2, t2⟩, g2⟩ : ∃ z, powR c.w = z := ⟨_, rfl⟩
      have C2 := Lib.hid (fun w' (h : c.Ok w') => Go.Proofs.YtlafeijkpnpdeaaGreat.PowR.powerr_any c.w w' h.pow q2 t2 (Lib.hid g2))
      have bc := S.out.box.cell
      by_cases hz : q2 = 0
      rotate_left
      · have HE : Hid ((q2, t2) = (er, kr)) := Lib.hid (by rw [← HR1.out, g2, thn_1 (a := (q2, t2)) hz])
        replace hz : (q2 != 0) = true := by rw [bne_iff_ne]; exact hz
        clear g2
        go_wp2_with fail
        refine (C2.out _ (OK.out _ S.out.bel)).mono ?_
        rintro e1 w5 ⟨rfl, k5⟩
        have S := cs_next S k5
        clear k5 bc
        have bc := S.out.box.cell
        go_wp2_with fail
        go_ret2
        exact ⟨Kit.ret_pair HE.out, S.out.bel⟩
      have HR2 : Hid (thn (chansR c) (thn (modesR c) (ShedR c.df c.uf c.dn c.un)) = (er, kr)) := Lib.hid (by rw [← HR1.out, g2, thn_0 (a := (q2, t2)) hz])
      replace hz : (q2 != 0) = false := by rw [bne_eq_false_iff_eq]; exact hz
      clear HR1 g2
      by_cases h16 : 16 < c.cn
      · have HE : Hid (((25 : Int), (0 : Int)) = (er, kr)) := Lib.hid (by
          rw [← HR2.out, thn_1 (by unfold chansR; rw [if_pos h16]; decide)]; unfold chansR; rw [if_pos h16])
        have h16 : (16 : Int) < (c.cn : Int) := by omega
        go_wp2_with fail
        refine (C2.out _ (OK.out _ S.out.bel)).mono ?_
        rintro e1 w5 ⟨rfl, k5⟩
        have S := cs_next S k5
        clear k5 bc
        have bc := S.out.box.cell
        go_wp2_with fail
        go_ret2
        exact ⟨Kit.ret_pair HE.out, S.out.bel⟩
      have EC : Hid (chansR c = nuR (chE c) c.cn) := Lib.hid (by unfold chansR; rw [if_neg h16])
      replace h16 : (c.cn : Int) ≤ 16 := by omega
      go_wp2_with fail
      refine (C2.out _ (OK.out _ S.out.bel)).mono ?_
      rintro e1 w5 ⟨rfl, k5⟩
      have S := cs_next S k5
      clear k5 bc
      have bc := S.out.box.cell
      go_wp2_with fail
      clear C2 hz
      go_loopw [8] (fun i wr => ∃ k : Nat, k ≤ c.cn ∧ i = .int .i64 k ∧ Hid (∀ j, j < k → zP (chE c) j = true) ∧ Hid (Cs w wr w.heap.size c)) (fun i _ => c.cn - (intOf i).toNat)
      case atStart => exact ⟨0, Nat.zero_le _, rfl, Lib.hid (fun j hj => by omega), S⟩
      case round =>
        clear S bc
        obtain ⟨k, hk, rfl, HL, S⟩ := hrel
        have bc := S.out.box.cell
        by_cases hl : k < c.cn
        · obtain ⟨r, hr⟩ : ∃ r, ChanR c (k : Int) = r := ⟨_, rfl⟩
          have C2 := Lib.hid (fun w' (h : c.Ok w') => Channelr_any c (k : Int) r w' h ⟨by omega, by omega⟩ (Lib.hid hr))
          have HP : Hid (chE c k = if r = true then 0 else 25) := Lib.hid (by unfold chE; rw [hr])
          clear hr
          cases r
          · have HE : Hid (((25 : Int), (k : Int)) = (er, kr)) := Lib.hid (by
              have e25 : chE c k = 25 := by rw [HP.out]; rfl
              rw [← HR2.out, EC.out, nu_hit hl HL.out (by rw [e25]; decide), e25, thn_1 (show (25 : Int) ≠ 0 by decide)])
            go_wp2_with fail
            refine (C2.out _ (OK.out _ S.out.bel)).mono ?_
            rintro e1 w5 ⟨rfl, k5⟩
            have S := cs_next S k5
            clear k5 bc
            have bc := S.out.box.cell
            go_wp2_with fail
            go_ret2
            exact ⟨Kit.ret_pair HE.out, S.out.bel⟩
          · have HL := Lib.hid (show ∀ j, j < k + 1 → zP (chE c) j = true from fun j hj => if e : j = k then by
              rw [e]; unfold zP; exact decide_eq_true (by rw [HP.out]; rfl) else HL.out j (by omega))
            go_wp2_with fail
            refine (C2.out _ (OK.out _ S.out.bel)).mono ?_
            rintro e1 w5 ⟨rfl, k5⟩
            have S := cs_next S k5
            clear k5 bc
            have bc := S.out.box.cell
            go_wp2_with fail
            go_roundw
            case rel => exact ⟨k + 1, by omega, by go_num, HL, S⟩
            case measure => simp [intOf]; omega
        · obtain rfl : k = c.cn := by omega
          have HR3 : Hid (thn (modesR c) (ShedR c.df c.uf c.dn c.un) = (er, kr)) := Lib.hid (by rw [← HR2.out, EC.out, nu_all HL.out, thn_0 (a := (0, 0)) rfl])
          clear HR2 EC HL
          obtain ⟨r1, d1⟩ : ∃ z, inB (c.mn : Int) 1 4 = z := ⟨_, rfl⟩
          have C3 := Lib.hid (fun w => outr_any (c.mn : Int) 1 4 r1 w (Lib.hid d1))
          cases r1
          · have HE : Hid (((26 : Int), (0 : Int)) = (er, kr)) := Lib.hid (by
              have em : modesR c = (26, 0) := by unfold modesR; rw [if_neg (by rw [d1]; decide)]
              rw [← HR3.out, em, thn_1 (show (26 : Int) ≠ 0 by decide)])
            clear d1
            go_wp2_with fail
            refine (C3.out _).mono ?_
            rintro e1 w5 ⟨rfl, e9⟩
            cases e9
            go_wp2_with fail
            go_ret2
            exact ⟨Kit.ret_pair HE.out, S.out.bel⟩
          have EM : Hid (modesR c = nuR (fun k => ModeR c (k : Int)) c.mn) := Lib.hid (by unfold modesR; rw [if_pos d1])
          clear d1
          go_wp2_with fail
          refine (C3.out _).mono ?_
          rintro e1 w5 ⟨rfl, e9⟩
          cases e9
          go_wp2_with fail
          go_loopw [9] (fun i wr => ∃ k : Nat, k ≤ c.mn ∧ i = .int .i64 k ∧ Hid (∀ j, j < k → zP (fun k => ModeR c (k : Int)) j = true) ∧ Hid (Cs w wr w.heap.size c)) (fun i _ => c.mn - (intOf i).toNat)
          case atStart => exact ⟨0, Nat.zero_le _, rfl, Lib.hid (fun j hj => by omega), S⟩
          case round =>
            clear S bc
            obtain ⟨k, hk, rfl, HL, S⟩ := hrel
            have bc := S.out.box.cell
            by_cases hl : k < c.mn
            · obtain ⟨r, hr⟩ : ∃ r, ModeR c (k : Int) = r := ⟨_, rfl⟩
              have C2 := Lib.hid (fun w' (h : c.Ok w') => Moder_any c (k : Int) r w' h ⟨by omega, by omega⟩ (Lib.hid hr))
              replace hr := Lib.hid hr
              by_cases hz : r = 0
              · have HL := Lib.hid (show ∀ j, j < k + 1 → zP (fun k => ModeR c (k : Int)) j = true from fun j hj => if e : j = k then by
                  rw [e]; unfold zP; exact decide_eq_true (hr.out.trans hz) else HL.out j (by omega))
                replace hz : (r != 0) = false := by rw [bne_eq_false_iff_eq]; exact hz
                go_wp2_with fail
                refine (C2.out _ (OK.out _ S.out.bel)).mono ?_
                rintro e1 w5 ⟨rfl, k5⟩
                have S := cs_next S k5
                clear k5 bc
                have bc := S.out.box.cell
                go_wp2_with fail
                go_roundw
                case rel => exact ⟨k + 1, by omega, by go_num, HL, S⟩
                case measure => simp [intOf]; omega
              · have HE : Hid ((r, (k : Int)) = (er, kr)) := Lib.hid (by
                  rw [← HR3.out, EM.out, nu_hit hl HL.out (by rw [hr.out]; exact hz), hr.out, thn_1 hz])
                replace hz : (r != 0) = true := by rw [bne_iff_ne]; exact hz
                go_wp2_with fail
                refine (C2.out _ (OK.out _ S.out.bel)).mono ?_
                rintro e1 w5 ⟨rfl, k5⟩
                have S := cs_next S k5
                clear k5 bc
                have bc := S.out.box.cell
                go_wp2_with fail
                go_ret2
                exact ⟨Kit.ret_pair HE.out, S.out.bel⟩
            · obtain rfl : k = c.mn := by omega
              have HR4 : Hid (ShedR c.df c.uf c.dn c.un = (er, kr)) := Lib.hid (by rw [← HR3.out, EM.out, nu_all HL.out, thn_0 (a := (0, 0)) rfl])
              have C4 := Lib.hid (fun w' (h : c.Ok w') => Shedr_any c.da c.ua c.dn c.dc c.un c.uc c.df c.uf er kr w' h.down h.up HR4)
              clear HR3 EM HL
              go_wp2_with fail
              refine (C4.out _ (OK.out _ S.out.bel)).mono ?_
              rintro e1 w5 ⟨rfl, k5⟩
              have S := cs_next S k5
              clear k5 bc
              have bc := S.out.box.cell
              go_wp2_with fail
              go_ret2
              exact ⟨rfl, S.out.bel⟩
end Go.Proofs.YtlafeijkpnpdeaaGreat.Vkr
