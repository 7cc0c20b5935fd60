/- Package rate: common, Hyper. -/
import Derived.Test.YtgkahcchekiogaaRta
namespace Go.Proofs.Ytgkahcchekiogaa.Rtb
open Go.RowKit Base Kit WideA Rta
set_option linter.unusedVariables false
set_option linter.unusedSimpArgs false
set_option maxHeartbeats 1000000 in
theorem common_any (x y : Nat) (r : Int) (w : World) (hx : x ≤ 9223372036854775807) (hy : y ≤ 9223372036854775807) (hr : Hid (((Nat.gcd x y : Nat) : Int) = r)) :
    Calls Try.prog 110 #[.int .i64 (x : Int), .int .i64 (y : Int)] w fun e w' => e = .returned (.int .i64 r) ∧ ∃ m, w' = w.drewN m := by
  go_enter Try.func110, Try.ntmps110
  go_wp2_with fail
  go_loopw [0, 1] (fun a b wr => ∃ u v : Nat, a = .int .i64 (u : Int) ∧ b = .int .i64 (v : Int) ∧ u ≤ 9223372036854775807 ∧ v ≤ 9223372036854775807 ∧ Hid (Nat.gcd u v = Nat.gcd x y) ∧ ∃ m, wr = w.drewN m) (fun _ b _ => (intOf b).toNat)
  case atStart => exact ⟨x, y, rfl, rfl, hx, hy, Lib.hid rfl, 0, rfl⟩
  case round =>
    obtain ⟨u, v, rfl, rfl, hu, hv, HG, m, rfl⟩ := hrel
    by_cases h0 : v = 0
    · subst h0
      have HR : Hid ((u : Int) = r) := Lib.hid (by rw [← hr.out, ← HG.out, Nat.gcd_zero_right])
      go_wp2_with fail
      go_ret
      exact ⟨Kit.ret_int HR.out, m, rfl⟩
    · have hb : ((v : Int) != 0) = true := by rw [bne_iff_ne]; omega
      have hv0 : (0 : Int) < (v : Int) := by omega
      have hu0 : (0 : Int) ≤ (u : Int) := by omega
      have hmod : (u : Int) % (v : Int) = ((u % v : Nat) : Int) := (Int.natCast_emod u v).symm
      have hlt : u % v < v := Nat.mod_lt _ (by omega)
      have HG' : Hid (Nat.gcd v (u % v) = Nat.gcd x y) := Lib.hid (by rw [← HG.out, Nat.gcd_comm u v, Nat.gcd_rec v u, Nat.gcd_comm])
      go_wp2_with fail
      go_quiet (fail)
      go_wp2_with fail
      go_roundw
      case rel => exact ⟨v, u % v, rfl, by rw [hmod], hv, by omega, HG', _, by rw [World.drewN_drewN]⟩
      case measure => simp [intOf]; omega
end Go.Proofs.Ytgkahcchekiogaa.Rtb
