/- Package valid: numbered. -/
import Derived.Test.YtgkahcchekiogaaVcf
namespace Go.Proofs.Ytgkahcchekiogaa.Vnu
open Go.RowKit Base Kit Conf Conf2 PowA PowB Vfa Vfb Val Vld Vpa Vpr Short Vcf
set_option linter.unusedVariables false
set_option linter.unusedSimpArgs false
def zP (E : Nat → Int) (j : Nat) : Bool := decide (E j = 0)
def nuR (E : Nat → Int) (n : Nat) : Int × Int := if fb (zP E) n < n then (E (fb (zP E) n), (fb (zP E) n : Int)) else (0, 0)
theorem nu_hit {E : Nat → Int} {n k : Nat} (hk : k < n) (h1 : ∀ j, j < k → zP E j = true) (h2 : E k ≠ 0) : nuR E n = (E k, (k : Int)) := by
  unfold nuR
  rw [fb_hit h1 (by unfold zP; exact decide_eq_false h2) n hk, if_pos hk]
theorem nu_all {E : Nat → Int} {n : Nat} (h1 : ∀ j, j < n → zP E j = true) : nuR E n = (0, 0) := by
  unfold nuR
  rw [fb_all n h1, if_neg (by omega)]
set_option maxHeartbeats 2000000 in
theorem numbered_any (n : Nat) (E : Nat → Int) (h : FuncId) (caps : Array Value) (er kr : Int) (w : World) (hn : n ≤ 1000) (hen : ∀ args w, (callFunc h args).run Try.prog w = .ok (.enter h args) w)
    (hcl : Hid (∀ k wr, k < n → Below w.heap.size w wr → Calls Try.prog h (#[.int .i64 (k : Int)] ++ caps) wr fun e w' => e = .returned (.int .i64 (E k)) ∧ Below wr.heap.size wr w')) (hr : Hid (nuR E n = (er, kr))) :
    Calls Try.prog 76 #[.int .i64 (n : Int), .func (.func h) #[] caps] w fun e w' => e = .returned (.tuple #[.int .i64 er, .int .i64 kr]) ∧ Below w.heap.size w w' := by
  go_enter Try.func76, Try.ntmps76
  go_wp2_with fail
  go_loopw [9] (fun i wr => ∃ k : Nat, k ≤ n ∧ i = .int .i64 k ∧ Hid (∀ j, j < k → zP E j = true) ∧ Hid (Below w.heap.size w wr)) (fun i _ => n - (intOf i).toNat)
  case atStart => exact ⟨0, by omega, rfl, Lib.hid (fun j hj => by omega), Lib.hid (Below.refl _ _)⟩
  case round =>
    obtain ⟨k, hk, rfl, HL, HB⟩ := hrel
    by_cases hlt : k < n
    · obtain ⟨v, hv⟩ : ∃ v, E k = v := ⟨_, rfl⟩
      have HV := Lib.hid hv
      have C := hcl.out k _ hlt HB.out
      rw [hv] at C
      replace C := Lib.hid C
      clear hv
      by_cases hz : v = 0
      · have hb : (v != 0) = false := by rw [bne_eq_false_iff_eq]; exact hz
        have HZ := Lib.hid hz
        clear hz
        go_wp2_with fail
        refine C.out.mono ?_
        rintro e1 w5 ⟨rfl, k5⟩
        have HB5 := Lib.hid (below_next HB.out k5)
        clear k5
        go_wp2_with fail
        go_roundw
        case rel => exact ⟨k + 1, by omega, by go_num, Lib.hid (fun j hj => by
          by_cases e : j = k
          · subst e; unfold zP; rw [HV.out]; exact decide_eq_true HZ.out
          · exact HL.out j (by omega)), HB5⟩
        case measure => simp [intOf]; omega
      · have hb : (v != 0) = true := by rw [bne_iff_ne]; exact hz
        have HZ := Lib.hid hz
        clear hz
        go_wp2_with fail
        refine C.out.mono ?_
        rintro e1 w5 ⟨rfl, k5⟩
        have HB5 := Lib.hid (below_next HB.out k5)
        clear k5
        go_wp2_with fail
        go_ret2
        refine ⟨Kit.ret_pair ?_, HB5.out⟩
        rw [← hr.out, nu_hit hlt HL.out (by rw [HV.out]; exact HZ.out), HV.out]
    · obtain rfl : k = n := by omega
      go_wp2_with fail
      go_ret2
      refine ⟨Kit.ret_pair ?_, HB.out⟩
      rw [← hr.out, nu_all HL.out]
end Go.Proofs.Ytgkahcchekiogaa.Vnu
