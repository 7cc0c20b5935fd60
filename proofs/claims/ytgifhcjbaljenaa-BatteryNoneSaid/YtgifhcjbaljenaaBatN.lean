/- Walks of package battery: one that is not there, and one that no call made. -/
import Derived.Test.YtgifhcjbaljenaaBatC
namespace Go.Proofs.Ytgifhcjbaljenaa.BatN
open Go.RowKit Base WideA WideB BatA BatB BatC
set_option linter.unusedVariables false
set_option linter.unusedSimpArgs false

theorem dead_nil (w : World) :
    Calls Try.prog 46 #[.pointer none] w fun e w' => e = .returned (.bool true) ∧ w = w' := by
  go_enter Try.func46, Try.ntmps46
  go_wp2
  go_ret
  exact ⟨rfl, rfl⟩
theorem dead_zero (w : World) (b : Nat) (c5 : w.cell? ⟨b, 5, none⟩ = some (.bool false)) :
    Calls Try.prog 46 #[.pointer (some ⟨b, 0, none⟩)] w fun e w' => e = .returned (.bool true) ∧ w = w' := by
  go_enter Try.func46, Try.ntmps46
  go_wp2
  go_ret
  exact ⟨rfl, rfl⟩
/-- nothing lies behind v -/
def Nothing (w : World) (v : Option Addr) : Prop := Calls Try.prog 46 #[.pointer v] w fun e w' => e = .returned (.bool true) ∧ w = w'

theorem take0 (w : World) (v : Option Addr) (n : Int) (D : Nothing w v) :
    Calls Try.prog 28 #[.pointer v, .int .i64 n] w fun e w' => e = .returned (.int .i64 0) ∧ w = w' := by
  go_enter Try.func28, Try.ntmps28
  go_wp2_with fail
  refine (show Calls _ _ _ _ _ from D).mono ?_
  rintro e w' ⟨rfl, rfl⟩
  go_wp2_with fail
  go_ret
  exact ⟨rfl, rfl⟩
theorem fill0 (w : World) (v : Option Addr) (n : Int) (D : Nothing w v) :
    Calls Try.prog 30 #[.pointer v, .int .i64 n] w fun e w' => e = .returned (.int .i64 0) ∧ w = w' := by
  go_enter Try.func30, Try.ntmps30
  go_wp2_with fail
  refine (show Calls _ _ _ _ _ from D).mono ?_
  rintro e w' ⟨rfl, rfl⟩
  go_wp2_with fail
  go_ret
  exact ⟨rfl, rfl⟩
theorem level0 (w : World) (v : Option Addr) (D : Nothing w v) :
    Calls Try.prog 32 #[.pointer v] w fun e w' => e = .returned (.int .i64 0) ∧ w = w' := by
  go_enter Try.func32, Try.ntmps32
  go_wp2_with fail
  refine (show Calls _ _ _ _ _ from D).mono ?_
  rintro e w' ⟨rfl, rfl⟩
  go_wp2_with fail
  go_ret
  exact ⟨rfl, rfl⟩
theorem reading0 (w : World) (v : Option Addr) (D : Nothing w v) :
    Calls Try.prog 34 #[.pointer v] w fun e w' => e = .returned (.int .i64 0) ∧ w = w' := by
  go_enter Try.func34, Try.ntmps34
  go_wp2_with fail
  refine (show Calls _ _ _ _ _ from D).mono ?_
  rintro e w' ⟨rfl, rfl⟩
  go_wp2_with fail
  go_ret
  exact ⟨rfl, rfl⟩
theorem empty0 (w : World) (v : Option Addr) (D : Nothing w v) :
    Calls Try.prog 33 #[.pointer v] w fun e w' => e = .returned (.int .i64 0) ∧ w = w' := by
  go_enter Try.func33, Try.ntmps33
  go_wp2_with fail
  refine (show Calls _ _ _ _ _ from D).mono ?_
  rintro e w' ⟨rfl, rfl⟩
  go_wp2_with fail
  go_ret
  exact ⟨rfl, rfl⟩

theorem none_any (n : Int) (w : World) (h1 : -9223372036854775808 ≤ n) (h2 : n ≤ 9223372036854775807) :
    Calls Try.prog 10 #[.int .i64 n] w fun e w' => e = .returned (.bool true) ∧ Below w.heap.size w w' := by
  go_enter Try.func10, Try.ntmps10
  go_wp2_with fail
  refine wp_loop_rounds 3 ?_
  rw [rounds_succ]
  go_wp2_with fail
  go_quiet (first
    | (go_at_call 28; exact Calls.quiet_of_same ((take0 _ _ _ (dead_nil _)).mono (fun e w' h => ⟨h.1, h.2.symm⟩)))
    | (go_at_call 30; exact Calls.quiet_of_same ((fill0 _ _ _ (dead_nil _)).mono (fun e w' h => ⟨h.1, h.2.symm⟩)))
    | (go_at_call 32; exact Calls.quiet_of_same ((level0 _ _ (dead_nil _)).mono (fun e w' h => ⟨h.1, h.2.symm⟩)))
    | (go_at_call 34; exact Calls.quiet_of_same ((reading0 _ _ (dead_nil _)).mono (fun e w' h => ⟨h.1, h.2.symm⟩)))
    | (go_at_call 33; exact Calls.quiet_of_same ((empty0 _ _ (dead_nil _)).mono (fun e w' h => ⟨h.1, h.2.symm⟩))))
  have k1 : Cell ((w.alloc (Obj.cells #[Value.int IntKind.i64 0, Value.int IntKind.i64 0, Value.int IntKind.i64 0, Value.int IntKind.i64 0, Value.int IntKind.i64 0, Value.bool false] 60)).alloc (Obj.cells #[Value.pointer none, Value.pointer (some ⟨w.heap.size, 0, none⟩)] 44)) (w.heap.size + 1) 1 (.pointer (some ⟨w.heap.size, 0, none⟩)) := ⟨by go_simp, by go_simp⟩
  have k5 : Cell ((w.alloc (Obj.cells #[Value.int IntKind.i64 0, Value.int IntKind.i64 0, Value.int IntKind.i64 0, Value.int IntKind.i64 0, Value.int IntKind.i64 0, Value.bool false] 60)).alloc (Obj.cells #[Value.pointer none, Value.pointer (some ⟨w.heap.size, 0, none⟩)] 44)) w.heap.size 5 (.bool false) := ⟨by go_simp, by go_simp⟩
  have kb : Below w.heap.size w ((w.alloc (Obj.cells #[Value.int IntKind.i64 0, Value.int IntKind.i64 0, Value.int IntKind.i64 0, Value.int IntKind.i64 0, Value.int IntKind.i64 0, Value.bool false] 60)).alloc (Obj.cells #[Value.pointer none, Value.pointer (some ⟨w.heap.size, 0, none⟩)] 44)) := ((Below.refl _ _).alloc (Nat.le_refl _) _).alloc (by simp) _
  obtain ⟨wq, hwq, K1, K5, KB⟩ : ∃ wq : World, ((w.alloc (Obj.cells #[Value.int IntKind.i64 0, Value.int IntKind.i64 0, Value.int IntKind.i64 0, Value.int IntKind.i64 0, Value.int IntKind.i64 0, Value.bool false] 60)).alloc (Obj.cells #[Value.pointer none, Value.pointer (some ⟨w.heap.size, 0, none⟩)] 44)).drewN nq = wq ∧ wq.cell? ⟨w.heap.size + 1, 1, none⟩ = some (.pointer (some ⟨w.heap.size, 0, none⟩)) ∧ wq.cell? ⟨w.heap.size, 5, none⟩ = some (.bool false) ∧ Below w.heap.size w wq := ⟨_, rfl, k1.1, k5.1, below_drewN kb nq⟩
  clear k1 k5 kb
  rw [hwq]
  clear hwq
  have HKB := Lib.hid KB
  clear KB
  go_wp2_with fail
  rw [rounds_succ]
  go_wp2_with fail
  go_quiet (first
    | (go_at_call 28; exact Calls.quiet_of_same ((take0 _ _ _ (dead_zero _ w.heap.size (by go_simp))).mono (fun e w' h => ⟨h.1, h.2.symm⟩)))
    | (go_at_call 30; exact Calls.quiet_of_same ((fill0 _ _ _ (dead_zero _ w.heap.size (by go_simp))).mono (fun e w' h => ⟨h.1, h.2.symm⟩)))
    | (go_at_call 32; exact Calls.quiet_of_same ((level0 _ _ (dead_zero _ w.heap.size (by go_simp))).mono (fun e w' h => ⟨h.1, h.2.symm⟩)))
    | (go_at_call 34; exact Calls.quiet_of_same ((reading0 _ _ (dead_zero _ w.heap.size (by go_simp))).mono (fun e w' h => ⟨h.1, h.2.symm⟩)))
    | (go_at_call 33; exact Calls.quiet_of_same ((empty0 _ _ (dead_zero _ w.heap.size (by go_simp))).mono (fun e w' h => ⟨h.1, h.2.symm⟩))))
  go_wp2_with fail
  rw [rounds_succ]
  go_wp2_with fail
  refine (works_any _).mono ?_
  rintro e1 w7 ⟨rfl, hb7⟩
  go_wp2_with fail
  go_ret
  exact ⟨rfl, (below_drewN HKB.out _).trans (hb7.mono HKB.out.size)⟩

end Go.Proofs.Ytgifhcjbaljenaa.BatN
