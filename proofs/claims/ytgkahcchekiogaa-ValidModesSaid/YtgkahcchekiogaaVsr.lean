/- The reference of valid: Shed. -/
import Derived.Test.YtgkahcchekiogaaVsh
namespace Go.Proofs.Ytgkahcchekiogaa.Vsr
open Go.RowKit Base Kit Conf Conf2 PowA PowB Vfa Vfb Val Vld Vpa Vpr Vps Vsh
set_option linter.unusedVariables false
set_option linter.unusedSimpArgs false

set_option maxRecDepth 100000 in
set_option maxHeartbeats 4000000 in
theorem Shedr_any (da ua : Option Addr) (dn dc un uc : Nat) (d u : Nat → Int) (er k0 : Int) (w : World) (hd : Hid (Open.RowsIn w da dn 1 (fun i _ => d i))) (hu : Hid (Open.RowsIn w ua un 1 (fun i _ => u i))) (hr : Hid (ShedR d u dn un = (er, k0))) :
    Calls Try.prog 37 #[.agg #[.slice da dn dc, .slice ua un uc]] w fun e w' => e = .returned (.tuple #[.int .i64 er, .int .i64 k0]) ∧ Below w.heap.size w w' := by
  have h1 := hd.out.1
  have h2 := hu.out.1
  have R1 := ri1 hd
  have R2 := ri1 hu
  have I1 := Lib.hid (fun k (h : k < dn) => hd.out.2.2 k h 0 (by omega))
  have I2 := Lib.hid (fun k (h : k < un) => hu.out.2.2 k h 0 (by omega))
  have hr := hr.out
  have S := ss_in w #[.slice da dn dc, .slice ua un uc]
  have bc := S.out.box.cell
  unfold ShedR at hr
  by_cases hne : dn = un
  rotate_left
  · rw [if_pos (.inl hne)] at hr
    simp only [Prod.mk.injEq] at hr
    obtain ⟨rfl, rfl⟩ := hr
    have hne : ((dn : Int) != (un : Int)) = true := by rw [bne_iff_ne]; omega
    go_enter Try.func37, Try.ntmps37
    go_wp2_with fail
    go_ret2
    exact ⟨rfl, S.out.bel⟩
  subst hne
  by_cases h4 : 4 < dn
  · rw [if_pos (.inr h4)] at hr
    simp only [Prod.mk.injEq] at hr
    obtain ⟨rfl, rfl⟩ := hr
    go_enter Try.func37, Try.ntmps37
    go_wp2_with fail
    go_ret2
    exact ⟨rfl, S.out.bel⟩
  rw [if_neg (by omega)] at hr
  have HR := Lib.hid hr
  have h4 : dn ≤ 4 := by omega
  clear hr
  go_enter Try.func37, Try.ntmps37
  go_wp2_with fail
  generalize w.alloc (.cells #[.slice da dn dc, .slice ua dn uc] 57) = W at S bc ⊢
  go_loopw [4] (fun i wr => ∃ k : Nat, k ≤ dn ∧ i = .int .i64 k ∧ Hid (∀ j, j < k → shP d u j = true) ∧ Hid (Ss w wr #[.slice da dn dc, .slice ua dn uc])) (fun i _ => dn - (intOf i).toNat)
  case atStart => exact ⟨0, Nat.zero_le _, rfl, Lib.hid (fun j hj => by omega), S⟩
  case round =>
    clear S bc
    obtain ⟨k, hk, rfl, HL, S⟩ := hrel
    have bc := S.out.box.cell
    by_cases hl : k < dn
    · obtain ⟨b1, o1, rfl, hb1, c1⟩ := R1.out k hl
      obtain ⟨b2, o2, rfl, hb2, c2⟩ := R2.out k hl
      replace c1 := keep S.out.bel c1 hb1
      replace c2 := keep S.out.bel c2 hb2
      have i1 := I1.out k hl
      have i2 := I2.out k hl
      have HX := Lib.hid (fun (h : shP d u k = true) => show ∀ j, j < k + 1 → shP d u j = true from fun j hj => if e : j = k then by rw [e]; exact h else HL.out j (by omega))
      obtain ⟨v, hv⟩ : ∃ v, shP d u k = v := ⟨_, rfl⟩
      have HV := Lib.hid hv
      unfold shP at hv
      obtain ⟨r0, d0⟩ : ∃ z, inB (d k) 0 1000000 = z := ⟨_, rfl⟩
      obtain ⟨r1, d1⟩ : ∃ z, inB (u k) 0 1000000 = z := ⟨_, rfl⟩
      have C0 := fun w => outr_any (d k) 0 1000000 r0 w (Lib.hid d0)
      have C1 := fun w => outr_any (u k) 0 1000000 r1 w (Lib.hid d1)
      have hu1 : inB (d k) 0 1000000 = true → inB (u k) (d k + 1) 1000000 = (inB (u k) 0 1000000 && decide (d k < u k)) := fun h => by
        have := inB_iff.1 h
        rw [Bool.eq_iff_iff]
        simp only [Bool.and_eq_true, inB_iff, decide_eq_true_eq]
        omega
      obtain ⟨i10, i11⟩ := i1
      obtain ⟨i20, i21⟩ := i2
      cases r0
      · rw [d0, Bool.false_and, Bool.false_and] at hv
        subst hv
        clear d0 d1 hu1
        generalize d k = x at *
        generalize u k = y at *
        simp only [Bool.not_true, Bool.not_false] at C0 C1
        have C0 := Lib.hid C0
        have C1 := Lib.hid C1
        go_wp2_with fail
        go_quiet (first
          | (go_at_call_of 80 (Value.int IntKind.i64 x); exact Calls.quiet_of_same ((C0.out _).mono (fun e w' h => ⟨h.1, h.2.symm⟩)))
          | (go_at_call_of 80 (Value.int IntKind.i64 y); exact Calls.quiet_of_same ((C1.out _).mono (fun e w' h => ⟨h.1, h.2.symm⟩))))
        go_wp2_with fail
        go_ret2
        refine ⟨Kit.ret_pair ?_, below_next S.out.bel ⟨rfl, rfl, rfl, Nat.le_refl _, fun _ _ => rfl⟩⟩
        rw [← HR.out, fb_hit HL.out HV.out dn hl, if_pos hl]
        all_goals first | rfl | (simp; done)
      · rw [hu1 d0, d0, d1] at hv
        clear hu1 d0 d1
        cases r1
        · rw [Bool.true_and, Bool.false_and, Bool.false_and] at hv
          subst hv
          generalize d k = x at *
          generalize u k = y at *
          simp only [Bool.not_true, Bool.not_false] at C0 C1
          have C0 := Lib.hid C0
          have C1 := Lib.hid C1
          go_wp2_with fail
          go_quiet (first
            | (go_at_call_of 80 (Value.int IntKind.i64 x); exact Calls.quiet_of_same ((C0.out _).mono (fun e w' h => ⟨h.1, h.2.symm⟩)))
            | (go_at_call_of 80 (Value.int IntKind.i64 y); exact Calls.quiet_of_same ((C1.out _).mono (fun e w' h => ⟨h.1, h.2.symm⟩))))
          go_wp2_with fail
          go_ret2
          refine ⟨Kit.ret_pair ?_, below_next S.out.bel ⟨rfl, rfl, rfl, Nat.le_refl _, fun _ _ => rfl⟩⟩
          rw [← HR.out, fb_hit HL.out HV.out dn hl, if_pos hl]
          all_goals first | rfl | (simp; done)
        · rw [Bool.true_and, Bool.true_and] at hv
          by_cases hC : d k < u k
          rotate_left
          · rw [show decide (d k < u k) = false from decide_eq_false hC, Bool.false_and] at hv
            subst hv
            have hC : u k ≤ d k := by omega
            generalize d k = x at *
            generalize u k = y at *
            simp only [Bool.not_true, Bool.not_false] at C0 C1
            have C0 := Lib.hid C0
            have C1 := Lib.hid C1
            go_wp2_with fail
            go_quiet (first
              | (go_at_call_of 80 (Value.int IntKind.i64 x); exact Calls.quiet_of_same ((C0.out _).mono (fun e w' h => ⟨h.1, h.2.symm⟩)))
              | (go_at_call_of 80 (Value.int IntKind.i64 y); exact Calls.quiet_of_same ((C1.out _).mono (fun e w' h => ⟨h.1, h.2.symm⟩))))
            go_wp2_with fail
            go_ret2
            refine ⟨Kit.ret_pair ?_, below_next S.out.bel ⟨rfl, rfl, rfl, Nat.le_refl _, fun _ _ => rfl⟩⟩
            rw [← HR.out, fb_hit HL.out HV.out dn hl, if_pos hl]
            all_goals first | rfl | (simp; done)
          rw [show decide (d k < u k) = true from decide_eq_true hC, Bool.true_and] at hv
          cases k with
          | zero =>
            have hv2 : v = true := by rw [← hv]; simp
            subst hv2
            have HL := Lib.hid (HX.out HV.out)
            clear hv
            generalize d 0 = x at *
            generalize u 0 = y at *
            rw [Nat.add_zero] at c1 c2
            rw [show ((0 : Nat) : Int) = 0 from rfl]
            simp only [Bool.not_true, Bool.not_false] at C0 C1
            have C0 := Lib.hid C0
            have C1 := Lib.hid C1
            go_wp2_with fail
            go_quiet (first
              | (go_at_call_of 80 (Value.int IntKind.i64 x); exact Calls.quiet_of_same ((C0.out _).mono (fun e w' h => ⟨h.1, h.2.symm⟩)))
              | (go_at_call_of 80 (Value.int IntKind.i64 y); exact Calls.quiet_of_same ((C1.out _).mono (fun e w' h => ⟨h.1, h.2.symm⟩))))
            go_wp2_with fail
            go_quiet (fail)
            go_wp2_with fail
            go_roundw
            case rel => exact ⟨0 + 1, by omega, by go_num, HL, ss_next S ⟨rfl, rfl, rfl, Nat.le_refl _, fun _ _ => rfl⟩⟩
            case measure => simp [intOf]; omega
          | succ m =>
            obtain ⟨b3, o3, e3, hb3, c3⟩ := R1.out m (by omega)
            obtain ⟨b4, o4, e4, hb4, c4⟩ := R2.out m (by omega)
            replace c3 := keep S.out.bel c3 hb3
            replace c4 := keep S.out.bel c4 hb4
            simp only [Option.some.injEq, Addr.mk.injEq, and_true] at e3 e4
            obtain ⟨rfl, rfl⟩ := e3
            obtain ⟨rfl, rfl⟩ := e4
            clear hb3 hb4
            rw [show decide (m + 1 = 0) = false from by simp, Bool.false_or, Nat.add_sub_cancel] at hv
            have HXV := Lib.hid (fun (h : v = true) => HX.out (HV.out.trans h))
            generalize d (m + 1) = x at *
            generalize u (m + 1) = y at *
            generalize d m = x' at *
            generalize u m = y' at *
            rw [show ((m + 1 : Nat) : Int) = (m : Int) + 1 from by omega]
            have hm0 : (0 : Int) ≤ (m : Int) := by omega
            have hw2 : IntKind.i64.wrap (m : Int) = (m : Int) := IntWalk.i64_in _ (by omega)
            have hw1 : IntKind.i64.wrap ((m : Int) + 1 - 1) = (m : Int) := by rw [Int.add_sub_cancel]; exact hw2
            have ht1 : ((m : Int) + 1).toNat = m + 1 := by omega
            have hi1 : (0 : Int) ≤ (m : Int) + 1 := by omega
            have hi2 : (m : Int) + 1 < (dn : Int) := by omega
            have hi3 : (m : Int) < (dn : Int) := by omega
            have hi4 : (m : Int) + 1 ≤ (dn : Int) := by omega
            by_cases hA : x < x'
            · by_cases hB : y < y'
              · have hv2 : v = true := by rw [← hv]; simp [hA, hB]
                clear hv
                subst hv2
                have HL := Lib.hid (HXV.out rfl)
                simp only [Bool.not_true, Bool.not_false] at C0 C1
                have C0 := Lib.hid C0
                have C1 := Lib.hid C1
                go_wp2_with fail
                go_quiet (first
                  | (go_at_call_of 80 (Value.int IntKind.i64 x); exact Calls.quiet_of_same ((C0.out _).mono (fun e w' h => ⟨h.1, h.2.symm⟩)))
                  | (go_at_call_of 80 (Value.int IntKind.i64 y); exact Calls.quiet_of_same ((C1.out _).mono (fun e w' h => ⟨h.1, h.2.symm⟩))))
                go_wp2_with fail
                go_quiet (fail)
                go_wp2_with fail
                go_roundw
                case rel => exact ⟨m + 1 + 1, by omega, by go_num, HL, ss_next S ⟨rfl, rfl, rfl, Nat.le_refl _, fun _ _ => rfl⟩⟩
                case measure => simp [intOf]; omega
              · have hv2 : v = false := by rw [← hv]; simp [hB]
                clear hv
                subst hv2
                have hB : y' ≤ y := by omega
                simp only [Bool.not_true, Bool.not_false] at C0 C1
                have C0 := Lib.hid C0
                have C1 := Lib.hid C1
                go_wp2_with fail
                go_quiet (first
                  | (go_at_call_of 80 (Value.int IntKind.i64 x); exact Calls.quiet_of_same ((C0.out _).mono (fun e w' h => ⟨h.1, h.2.symm⟩)))
                  | (go_at_call_of 80 (Value.int IntKind.i64 y); exact Calls.quiet_of_same ((C1.out _).mono (fun e w' h => ⟨h.1, h.2.symm⟩))))
                go_wp2_with fail
                go_quiet (fail)
                go_wp2_with fail
                go_ret2
                refine ⟨Kit.ret_pair ?_, below_next S.out.bel ⟨rfl, rfl, rfl, Nat.le_refl _, fun _ _ => rfl⟩⟩
                rw [← HR.out, fb_hit HL.out HV.out dn hl, if_pos hl]
                all_goals first | rfl | (simp; done)
            · have hv2 : v = false := by rw [← hv]; simp [hA]
              clear hv
              subst hv2
              have hA : x' ≤ x := by omega
              simp only [Bool.not_true, Bool.not_false] at C0 C1
              have C0 := Lib.hid C0
              have C1 := Lib.hid C1
              go_wp2_with fail
              go_quiet (first
                | (go_at_call_of 80 (Value.int IntKind.i64 x); exact Calls.quiet_of_same ((C0.out _).mono (fun e w' h => ⟨h.1, h.2.symm⟩)))
                | (go_at_call_of 80 (Value.int IntKind.i64 y); exact Calls.quiet_of_same ((C1.out _).mono (fun e w' h => ⟨h.1, h.2.symm⟩))))
              go_wp2_with fail
              go_quiet (fail)
              go_wp2_with fail
              go_ret2
              refine ⟨Kit.ret_pair ?_, below_next S.out.bel ⟨rfl, rfl, rfl, Nat.le_refl _, fun _ _ => rfl⟩⟩
              rw [← HR.out, fb_hit HL.out HV.out dn hl, if_pos hl]
              all_goals first | rfl | (simp; done)
    · obtain rfl : k = dn := by omega
      have e := HR.out
      rw [fb_all k HL.out, if_neg (by omega)] at e
      simp only [Prod.mk.injEq] at e
      obtain ⟨rfl, rfl⟩ := e
      go_wp2_with fail
      go_ret2
      exact ⟨rfl, S.out.bel⟩
end Go.Proofs.Ytgkahcchekiogaa.Vsr
