/- Walks of package fit, and of its reference: full speed. -/
import Derived.Test.YtgkahcchekiogaaKit
import Derived.Test.YtgkahcchekiogaaRefC
import Derived.Test.YtgkahcchekiogaaRefS
import Derived.Laws.StructEq
namespace Go.Proofs.Ytgkahcchekiogaa.FitA
open Go.RowKit Base Kit WideA WideB Plain
set_option linter.unusedVariables false
set_option linter.unusedSimpArgs false

/-- full speed's Freq (0), and Power (1) -/
def top (n : Nat) (f : Nat → Nat → Int) (j : Nat) : Int := if n = 0 then 0 else f (n - 1) j

theorem top_i64 {w : World} {a : Option Addr} {n : Nat} {f : Nat → Nat → Int} (h : Hid (Open.RowsIn w a n 2 f)) (j : Nat) (hj : j < 2) : I64 (top n f j) := by
  unfold top; split
  · exact ⟨by omega, by omega⟩
  · exact h.out.2.2 (n - 1) (by omega) j hj

theorem run_field (x y : Int) (w : World) : (Instr.field 119 (.agg #[.int .i64 x, .int .i64 y]) 0).run Try.prog w = .ok (.int .i64 x) w := by kernel_rfl
theorem feq (x y : Int) (w : World) : (binOp .eql 119 (.agg #[.int .i64 x, .int .i64 y]) (.agg #[.int .i64 x, .int .i64 y])).run Try.prog w = .ok (.bool true) w := by
  have h1 : Try.prog.underlying 119 = some (.struct (Try.prog.fieldsOf 119)) := by kernel_rfl
  have h2 : Try.prog.stoodInHeld 119 = false := by kernel_rfl
  rw [run_eql_struct, run_equalIn_struct w 9999 _ _ _ h1 h2]
  unfold Program.fieldsOf
  rw [Try.underlying119]
  simp [go_sem, run_equalIn_int (P := Try.prog) _ 9998 3 .i64 .i64 _ _ Try.underlying3]
theorem top_any (a : Option Addr) (n c : Nat) (f : Nat → Nat → Int) (nv : Value) (sw id ch qu sl pp : Value) (w : World) (h : Hid (Open.RowsIn w a n 2 f)) :
    Calls Try.prog 150 #[.agg #[.slice a n c, nv, sw, id, ch, qu, sl, pp]] w fun e w' => e = .returned (.agg #[.int .i64 (top n f 0), .int .i64 (top n f 1)]) ∧ Below w.heap.size w w' := by
  have hm := h.out.1
  by_cases h0 : n = 0
  · have e0 : top n f 0 = 0 := by unfold top; rw [if_pos h0]
    have e1 : top n f 1 = 0 := by unfold top; rw [if_pos h0]
    rw [e0, e1]
    subst h0
    clear e0 e1
    go_enter Try.func150, Try.ntmps150
    go_wp2_with fail
    refine bodyPost_ret (v := .agg #[.int .i64 0, .int .i64 0]) ?_ rfl ⟨rfl, ?_⟩
    · simp [results, Try.results150, go_sem]
    all_goals (repeat (first | exact Below.refl _ _ | exact HB.out | exact below_in _ (by assumption) | assumption | exact Nat.le_refl _ | refine Below.setCell ?_ (by first | (simp; done) | (simp; omega) | omega) _ | refine Below.alloc ?_ (by first | exact Nat.le_refl _ | (simp; done) | (simp; omega) | omega) _ | refine Below.drew ?_))
  · obtain ⟨b, off, rfl, hlt, c0, c1, i0, i1⟩ := rows_at2 h (n - 1) (by omega)
    have e0 : top n f 0 = f (n - 1) 0 := by unfold top; rw [if_neg h0]
    have e1 : top n f 1 = f (n - 1) 1 := by unfold top; rw [if_neg h0]
    rw [e0, e1]
    generalize f (n - 1) 0 = x at *
    generalize f (n - 1) 1 = y at *
    have h1 : 1 ≤ n := by omega
    have hnb : ((n : Int) == 0) = false := by simp; omega
    clear e0 e1
    go_enter Try.func150, Try.ntmps150
    go_wp2_with fail
    refine bodyPost_ret (v := .agg #[.int .i64 x, .int .i64 y]) ?_ rfl ⟨rfl, ?_⟩
    · simp [results, Try.results150, go_sem]
    all_goals (repeat (first | exact Below.refl _ _ | exact HB.out | exact below_in _ (by assumption) | assumption | exact Nat.le_refl _ | refine Below.setCell ?_ (by first | (simp; done) | (simp; omega) | omega) _ | refine Below.alloc ?_ (by first | exact Nat.le_refl _ | (simp; done) | (simp; omega) | omega) _ | refine Below.drew ?_))
theorem topr_any (a : Option Addr) (n c : Nat) (f : Nat → Nat → Int) (nv : Value) (sw id ch qu sl pp : Value) (w : World) (h : Hid (Open.RowsIn w a n 2 f)) :
    Calls Try.prog 103 #[.agg #[.slice a n c, nv, sw, id, ch, qu, sl, pp]] w fun e w' => e = .returned (.agg #[.int .i64 (top n f 0), .int .i64 (top n f 1)]) ∧ Below w.heap.size w w' := by
  have hm := h.out.1
  by_cases h0 : n = 0
  · have e0 : top n f 0 = 0 := by unfold top; rw [if_pos h0]
    have e1 : top n f 1 = 0 := by unfold top; rw [if_pos h0]
    rw [e0, e1]
    subst h0
    clear e0 e1
    go_enter Try.func103, Try.ntmps103
    go_wp2_with fail
    refine bodyPost_ret (v := .agg #[.int .i64 0, .int .i64 0]) ?_ rfl ⟨rfl, ?_⟩
    · simp [results, Try.results103, go_sem]
    all_goals (repeat (first | exact Below.refl _ _ | exact HB.out | exact below_in _ (by assumption) | assumption | exact Nat.le_refl _ | refine Below.setCell ?_ (by first | (simp; done) | (simp; omega) | omega) _ | refine Below.alloc ?_ (by first | exact Nat.le_refl _ | (simp; done) | (simp; omega) | omega) _ | refine Below.drew ?_))
  · obtain ⟨b, off, rfl, hlt, c0, c1, i0, i1⟩ := rows_at2 h (n - 1) (by omega)
    have e0 : top n f 0 = f (n - 1) 0 := by unfold top; rw [if_neg h0]
    have e1 : top n f 1 = f (n - 1) 1 := by unfold top; rw [if_neg h0]
    rw [e0, e1]
    generalize f (n - 1) 0 = x at *
    generalize f (n - 1) 1 = y at *
    have h1 : 1 ≤ n := by omega
    have hnb : ((n : Int) == 0) = false := by simp; omega
    clear e0 e1
    go_enter Try.func103, Try.ntmps103
    go_wp2_with fail
    refine bodyPost_ret (v := .agg #[.int .i64 x, .int .i64 y]) ?_ rfl ⟨rfl, ?_⟩
    · simp [results, Try.results103, go_sem]
    all_goals (repeat (first | exact Below.refl _ _ | exact HB.out | exact below_in _ (by assumption) | assumption | exact Nat.le_refl _ | refine Below.setCell ?_ (by first | (simp; done) | (simp; omega) | omega) _ | refine Below.alloc ?_ (by first | exact Nat.le_refl _ | (simp; done) | (simp; omega) | omega) _ | refine Below.drew ?_))
end Go.Proofs.Ytgkahcchekiogaa.FitA
