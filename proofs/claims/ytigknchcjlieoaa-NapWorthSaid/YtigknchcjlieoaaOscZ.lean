/- Walk of package osc: Safe. -/
import Derived.Test.YtigknchcjlieoaaOscC
namespace Go.Proofs.Ytigknchcjlieoaa.OscZ
open Go.RowKit Base WideA WideB OscPlain OscA OscB OscC
set_option linter.unusedVariables false
set_option linter.unusedSimpArgs false

def sf (h b ns : Int) : Int × Int := if b < 0 ∨ 100000 < b then (0, 2) else cn h (-b) ns

theorem safe_any (h b ns : Int) (x e : Int) (w : World) (hx : Hid (sf h b ns = (x, e))) (hb : I64 b) (hn : I64 ns) :
    Calls Try.prog 66 #[.int .i64 h, .int .i64 b, .int .i64 ns] w fun e' w' => e' = .returned (.tuple #[.int .i64 x, .int .i64 e]) ∧ Below w.heap.size w w' := by
  by_cases hr : b < 0 ∨ 100000 < b
  · obtain ⟨rfl, rfl⟩ : x = 0 ∧ e = 2 := by have := hx.out; rw [sf, if_pos hr] at this; simpa using this.symm
    rcases (show b < 0 ∨ (0 ≤ b ∧ 100000 < b) by omega) with k | ⟨k, k2⟩
    all_goals
      clear hr
      go_enter Try.func66, Try.ntmps66
      go_wp2_with fail
      go_ret2
      exact ⟨rfl, Below.refl _ _⟩
  · obtain ⟨k1, k2⟩ : 0 ≤ b ∧ b ≤ 100000 := by omega
    have hx' : cn h (-b) ns = (x, e) := by have := hx.out; rw [sf, if_neg hr] at this; exact this
    have C := Lib.hid (fun w => counts_any h (-b) ns x e w hx' hn)
    clear hr hx'
    go_enter Try.func66, Try.ntmps66
    go_wp2_with fail
    refine (C.out _).mono ?_
    rintro e1 w1 ⟨rfl, hb1⟩
    go_wp2_with fail
    go_ret2
    exact ⟨rfl, hb1⟩

end Go.Proofs.Ytigknchcjlieoaa.OscZ
