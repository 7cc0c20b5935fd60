/- Package valid: Shed. -/
import Derived.Test.YtgkahcchekiogaaVps
namespace Go.Proofs.Ytgkahcchekiogaa.Vsh
open Go.RowKit Base Kit Conf Conf2 PowA PowB Vfa Vfb Val Vld Vpa Vpr Vps
set_option linter.unusedVariables false
set_option linter.unusedSimpArgs false

def shP (d u : Nat → Int) (k : Nat) : Bool := inB (d k) 0 1000000 && inB (u k) (d k + 1) 1000000 && (decide (k = 0) || (decide (d k < d (k - 1)) && decide (u k < u (k - 1))))
def ShedR (d u : Nat → Int) (dn un : Nat) : Int × Int := if dn ≠ un ∨ 4 < dn then (28, 0) else if fb (shP d u) dn < dn then (28, fb (shP d u) dn) else (0, 0)
structure Ss (w0 w : World) (A : Array Value) : Prop where
  bel : Below w0.heap.size w0 w
  box : Box w w0.heap.size A 57
theorem ss_next {w0 w w1 : World} {A : Array Value} (h : Hid (Ss w0 w A)) (k : Below w.heap.size w w1) : Hid (Ss w0 w1 A) := Lib.hid ⟨below_next h.out.bel k, h.out.box.next k⟩
theorem ss_in (w : World) (A : Array Value) : Hid (Ss w (w.alloc (.cells A 57)) A) := Lib.hid ⟨(Below.refl _ _).alloc (Nat.le_refl _) _, Box.new _ _ _⟩
set_option maxRecDepth 100000 in
set_option maxHeartbeats 4000000 in
theorem Shed_any (da ua : Option Addr) (dn dc un uc : Nat) (d u : Nat → Int) (er k0 : Int) (w : World) (hd : Hid (Open.RowsIn w da dn 1 (fun i _ => d i))) (hu : Hid (Open.RowsIn w ua un 1 (fun i _ => u i))) (hr : Hid (ShedR d u dn un = (er, k0))) :
    Calls Try.prog 36 #[.agg #[.slice da dn dc, .slice ua un uc]] w fun e w' => e = .returned (.tuple #[.int .i64 er, .int .i64 k0]) ∧ Below w.heap.size w w' := by
  have h1 := hd.out.1
  have h2 := hu.out.1
  have R1 := ri1 hd
  have R2 := ri1 hu
  have I1 := Lib.hid (fun k (h : k < dn) => hd.out.2.2 k h 0 (by omega))
  have I2 := Lib.hid (fun k (h : k < un) => hu.out.2.2 k h 0 (by omega))
  have hr := hr.out
  have S := ss_in w #[.slice da dn dc, .slice ua un uc]
  have bc := S.out.box.cell
  unfold ShedR at hr
  by_cases hne : dn = un
  rotate_left
  · rw [if_pos (.inl hne)] at hr
    simp only [Prod.mk.injEq] at hr
    obtain ⟨rfl, rfl⟩ := hr
    have hne : ((dn : Int) != (un : Int)) = true := by rw [bne_iff_ne]; omega
    go_enter Try.func36, Try.ntmps36
    go_wp2_with fail
    go_ret2
    exact ⟨rfl, S.out.bel⟩
  subst hne
  by_cases h4 : 4 < dn
  · rw [if_pos (.inr h4)] at hr
    simp only [Prod.mk.injEq] at hr
    obtain ⟨rfl, rfl⟩ := hr
    go_enter Try.func36, Try.ntmps36
    go_wp2_with fail
    go_ret2
    exact ⟨rfl, S.out.bel⟩
  rw [if_neg (by omega)] at hr
  have HR := Lib.hid hr
  have h4 : dn ≤ 4 := by omega
  clear hr
  go_enter Try.func36, Try.ntmps36
  go_wp2_with fail
  generalize w.alloc (.cells #[.slice da dn dc, .slice ua dn uc] 57) = W at S bc ⊢
  go_loopw [24] (fun i wr => ∃ k : Nat, k ≤ dn ∧ i = .int .i64 k ∧ Hid (∀ j, j < k → shP d u j = true) ∧ Hid (Ss w wr #[.slice da dn dc, .slice ua dn uc])) (fun i _ => dn - (intOf i).toNat)
  case atStart => exact ⟨0, Nat.zero_le _, rfl, Lib.hid (fun j hj => by omega), S⟩
  case round =>
    clear S bc
    obtain ⟨k, hk, rfl, HL, S⟩ := hrel
    have bc := S.out.box.cell
    by_cases hl : k < dn
    · obtain ⟨b1, o1, rfl, hb1, c1⟩ := R1.out k hl
      obtain ⟨b2, o2, rfl, hb2, c2⟩ := R2.out k hl
      replace c1 := keep S.out.bel c1 hb1
      replace c2 := keep S.out.bel c2 hb2
      have i1 := I1.out k hl
      have i2 := I2.out k hl
      have HX := Lib.hid (fun (h : shP d u k = true) => show ∀ j, j < k + 1 → shP d u j = true from fun j hj => if e : j = k then by rw [e]; exact h else HL.out j (by omega))
      obtain ⟨v, hv⟩ : ∃ v, shP d u k = v := ⟨_, rfl⟩
      have HV := Lib.hid hv
      unfold shP at hv
      obtain ⟨r0, d0⟩ : ∃ z, inB (d k) 0 1000000 = z := ⟨_, rfl⟩
      obtain ⟨r1, d1⟩ : ∃ z, inB (u k) (d k + 1) 1000000 = z := ⟨_, rfl⟩
      have C0 := Lib.hid (fun w => in_any (d k) 0 1000000 r0 w (Lib.hid d0))
      have C1 := Lib.hid (fun w => in_any (u k) (d k + 1) 1000000 r1 w (Lib.hid d1))
      rw [d0, d1] at hv
      obtain ⟨i10, i11⟩ := i1
      obtain ⟨i20, i21⟩ := i2
      cases r0
      · rw [Bool.false_and, Bool.false_and] at hv
        subst hv
        clear d0 d1
        generalize d k = x at *
        generalize u k = y at *
        go_wp2_with fail
        refine (C0.out _).mono ?_
        rintro e1 w5 ⟨rfl, e9⟩
        cases e9
        go_wp2_with fail
        go_ret2
        refine ⟨Kit.ret_pair ?_, S.out.bel⟩
        rw [← HR.out, fb_hit HL.out HV.out dn hl, if_pos hl]
        all_goals first | rfl | (simp; done)
      · obtain ⟨q0, q1⟩ := inB_iff.1 d0
        cases r1
        · rw [Bool.true_and, Bool.false_and] at hv
          subst hv
          clear d0 d1
          generalize d k = x at *
          generalize u k = y at *
          go_wp2_with fail
          refine (C0.out _).mono ?_
          rintro e1 w5 ⟨rfl, e9⟩
          cases e9
          go_wp2_with fail
          refine (C1.out _).mono ?_
          rintro e1 w5 ⟨rfl, e9⟩
          cases e9
          go_wp2_with fail
          go_ret2
          refine ⟨Kit.ret_pair ?_, S.out.bel⟩
          rw [← HR.out, fb_hit HL.out HV.out dn hl, if_pos hl]
          all_goals first | rfl | (simp; done)
        · rw [Bool.true_and, Bool.true_and] at hv
          clear d0 d1
          cases k with
          | zero =>
            have hv2 : v = true := by rw [← hv]; simp
            subst hv2
            have HL := Lib.hid (HX.out HV.out)
            clear hv
            generalize d 0 = x at *
            generalize u 0 = y at *
            rw [Nat.add_zero] at c1 c2
            rw [show ((0 : Nat) : Int) = 0 from rfl]
            go_wp2_with fail
            refine (C0.out _).mono ?_
            rintro e1 w5 ⟨rfl, e9⟩
            cases e9
            go_wp2_with fail
            refine (C1.out _).mono ?_
            rintro e1 w5 ⟨rfl, e9⟩
            cases e9
            go_wp2_with fail
            go_roundw
            case rel => exact ⟨0 + 1, by omega, by go_num, HL, S⟩
            case measure => simp [intOf]; omega
          | succ m =>
            obtain ⟨b3, o3, e3, hb3, c3⟩ := R1.out m (by omega)
            obtain ⟨b4, o4, e4, hb4, c4⟩ := R2.out m (by omega)
            replace c3 := keep S.out.bel c3 hb3
            replace c4 := keep S.out.bel c4 hb4
            simp only [Option.some.injEq, Addr.mk.injEq, and_true] at e3 e4
            obtain ⟨rfl, rfl⟩ := e3
            obtain ⟨rfl, rfl⟩ := e4
            clear hb3 hb4
            rw [show decide (m + 1 = 0) = false from by simp, Bool.false_or, Nat.add_sub_cancel] at hv
            have HXV := Lib.hid (fun (h : v = true) => HX.out (HV.out.trans h))
            generalize d (m + 1) = x at *
            generalize u (m + 1) = y at *
            generalize d m = x' at *
            generalize u m = y' at *
            rw [show ((m + 1 : Nat) : Int) = (m : Int) + 1 from by omega]
            have hm0 : (0 : Int) ≤ (m : Int) := by omega
            by_cases hA : x < x'
            · by_cases hB : y < y'
              · have hv2 : v = true := by rw [← hv]; simp [hA, hB]
                clear hv
                subst hv2
                have HL := Lib.hid (HXV.out rfl)
                go_wp2_with fail
                refine (C0.out _).mono ?_
                rintro e1 w5 ⟨rfl, e9⟩
                cases e9
                go_wp2_with fail
                refine (C1.out _).mono ?_
                rintro e1 w5 ⟨rfl, e9⟩
                cases e9
                go_wp2_with fail
                go_roundw
                case rel => exact ⟨m + 1 + 1, by omega, by go_num, HL, S⟩
                case measure => simp [intOf]; omega
              · have hv2 : v = false := by rw [← hv]; simp [hB]
                clear hv
                subst hv2
                have hB : y' ≤ y := by omega
                go_wp2_with fail
                refine (C0.out _).mono ?_
                rintro e1 w5 ⟨rfl, e9⟩
                cases e9
                go_wp2_with fail
                refine (C1.out _).mono ?_
                rintro e1 w5 ⟨rfl, e9⟩
                cases e9
                go_wp2_with fail
                go_ret2
                refine ⟨Kit.ret_pair ?_, S.out.bel⟩
                rw [← HR.out, fb_hit HL.out HV.out dn hl, if_pos hl]
                all_goals first | rfl | (simp; done)
            · have hv2 : v = false := by rw [← hv]; simp [hA]
              clear hv
              subst hv2
              have hA : x' ≤ x := by omega
              go_wp2_with fail
              refine (C0.out _).mono ?_
              rintro e1 w5 ⟨rfl, e9⟩
              cases e9
              go_wp2_with fail
              refine (C1.out _).mono ?_
              rintro e1 w5 ⟨rfl, e9⟩
              cases e9
              go_wp2_with fail
              go_ret2
              refine ⟨Kit.ret_pair ?_, S.out.bel⟩
              rw [← HR.out, fb_hit HL.out HV.out dn hl, if_pos hl]
              all_goals first | rfl | (simp; done)
    · obtain rfl : k = dn := by omega
      have e := HR.out
      rw [fb_all k HL.out, if_neg (by omega)] at e
      simp only [Prod.mk.injEq] at e
      obtain ⟨rfl, rfl⟩ := e
      go_wp2_with fail
      go_ret2
      exact ⟨rfl, S.out.bel⟩
end Go.Proofs.Ytgkahcchekiogaa.Vsh
