/- Package rate: before. -/
import Derived.Test.YtgkahcchekiogaaRte
namespace Go.Proofs.Ytgkahcchekiogaa.Rtf
open Go.RowKit Base Kit WideA WideB Plain Rta Rtb Rtc Rtd Rte
set_option linter.unusedVariables false
set_option linter.unusedSimpArgs false
theorem nan_any (x : Int) (w : World) : Calls Try.prog 170 #[.int .i64 x] w fun e w' => e = .returned (.bool false) ∧ w = w' := by
  go_enter Try.func170, Try.ntmps170
  go_wp2_with fail
  go_ret
  exact ⟨ret_bool (by simp), rfl⟩
def cmpI (x y : Int) : Int := if x < y then -1 else if y < x then 1 else 0
set_option maxHeartbeats 1000000 in
theorem cmp_any (x y : Int) (w : World) : Calls Try.prog 153 #[.int .i64 x, .int .i64 y] w fun e w' => e = .returned (.int .i64 (cmpI x y)) ∧ w = w' := by
  have C := Lib.hid (fun w => nan_any x w)
  have D := Lib.hid (fun w => nan_any y w)
  have ways : (x < y ∧ cmpI x y = -1) ∨ (y < x ∧ cmpI x y = 1) ∨ (x = y ∧ cmpI x y = 0) := by unfold cmpI; (repeat' split) <;> omega
  rcases ways with ⟨h, e9⟩ | ⟨h, e9⟩ | ⟨h, e9⟩
  · rw [e9]
    clear e9
    go_enter Try.func153, Try.ntmps153
    go_wp2_with fail
    refine (C.out _).mono ?_
    rintro e1 w5 ⟨rfl, e8⟩
    cases e8
    go_wp2_with fail
    refine (D.out _).mono ?_
    rintro e1 w5 ⟨rfl, e8⟩
    cases e8
    go_wp2_with fail
    go_ret
    exact ⟨rfl, rfl⟩
  · rw [e9]
    clear e9
    go_enter Try.func153, Try.ntmps153
    go_wp2_with fail
    refine (C.out _).mono ?_
    rintro e1 w5 ⟨rfl, e8⟩
    cases e8
    go_wp2_with fail
    refine (D.out _).mono ?_
    rintro e1 w5 ⟨rfl, e8⟩
    cases e8
    go_wp2_with fail
    go_ret
    exact ⟨rfl, rfl⟩
  · rw [e9]
    clear e9
    subst h
    go_enter Try.func153, Try.ntmps153
    go_wp2_with fail
    refine (C.out _).mono ?_
    rintro e1 w5 ⟨rfl, e8⟩
    cases e8
    go_wp2_with fail
    refine (D.out _).mono ?_
    rintro e1 w5 ⟨rfl, e8⟩
    cases e8
    go_wp2_with fail
    go_ret
    exact ⟨rfl, rfl⟩
def bfI (y z : Int) : Int := if 0 < y ∧ 0 < z then cmpI y z else if 0 < y then -1 else if 0 < z then 1 else 0
theorem box_new1 (w : World) (o : Obj) (vs : Array Value) (T : TypeId) : Box ((w.alloc o).alloc (.cells vs T)) (w.heap.size + 1) vs T := by
  have := Box.new (w.alloc o) vs T
  rwa [show (w.alloc o).heap.size = w.heap.size + 1 from by simp] at this
set_option maxRecDepth 100000 in
set_option maxHeartbeats 2000000 in
theorem before_any (y0 y1 y2 z0 z1 z2 : Int) (r : Int) (w : World) (hr : Hid (bfI y1 z1 = r)) :
    Calls Try.prog 118 #[.agg #[.int .i64 y0, .int .i64 y1, .int .i64 y2], .agg #[.int .i64 z0, .int .i64 z1, .int .i64 z2]] w fun e w' => e = .returned (.int .i64 r) ∧ Below w.heap.size w w' := by
  have C := fun w => periodic_any y0 y1 y2 w
  have D := fun w => periodic_any z0 z1 z2 w
  have K := Lib.hid (fun w => cmp_any y1 z1 w)
  have hr := hr.out
  unfold bfI at hr
  by_cases hy : 0 < y1
  · rw [show decide (0 < y1) = true from decide_eq_true hy] at C
    replace C := Lib.hid C
    by_cases hz : 0 < z1
    · rw [show decide (0 < z1) = true from decide_eq_true hz] at D
      replace D := Lib.hid D
      rw [if_pos ⟨hy, hz⟩] at hr
      rw [hr] at K
      go_enter Try.func118, Try.ntmps118
      go_wp2_with fail
      have XA := Lib.hid ((Box.new w #[.int .i64 y0, .int .i64 y1, .int .i64 y2] 102).alloc (.cells #[.int .i64 z0, .int .i64 z1, .int .i64 z2] 102))
      have XB := Lib.hid (box_new1 w (.cells #[.int .i64 y0, .int .i64 y1, .int .i64 y2] 102) #[.int .i64 z0, .int .i64 z1, .int .i64 z2] 102)
      have HB := Lib.hid (((Below.refl w.heap.size w).alloc (Nat.le_refl _) (.cells #[.int .i64 y0, .int .i64 y1, .int .i64 y2] 102)).alloc (by simp) (.cells #[.int .i64 z0, .int .i64 z1, .int .i64 z2] 102))
      have ac := XA.out.cell
      have bc := XB.out.cell
      generalize (w.alloc (.cells #[.int .i64 y0, .int .i64 y1, .int .i64 y2] 102)).alloc (.cells #[.int .i64 z0, .int .i64 z1, .int .i64 z2] 102) = W at *
      refine (C.out _).mono ?_
      rintro e1 w5 ⟨rfl, k5⟩
      have HB := below_hid HB k5
      have XA := Lib.hid (XA.out.next k5)
      have XB := Lib.hid (XB.out.next k5)
      clear k5 ac bc
      have ac := XA.out.cell
      have bc := XB.out.cell
      go_wp2_with fail
      refine (D.out _).mono ?_
      rintro e1 w5 ⟨rfl, k5⟩
      have HB := below_hid HB k5
      have XA := Lib.hid (XA.out.next k5)
      have XB := Lib.hid (XB.out.next k5)
      clear k5 ac bc
      have ac := XA.out.cell
      have bc := XB.out.cell
      go_wp2_with fail
      refine (K.out _).mono ?_
      rintro e1 w5 ⟨rfl, e8⟩
      cases e8
      go_wp2_with fail
      go_ret
      exact ⟨rfl, HB.out⟩
    · rw [show decide (0 < z1) = false from decide_eq_false hz] at D
      replace D := Lib.hid D
      rw [if_neg (by omega), if_pos hy] at hr
      subst hr
      go_enter Try.func118, Try.ntmps118
      go_wp2_with fail
      have XA := Lib.hid ((Box.new w #[.int .i64 y0, .int .i64 y1, .int .i64 y2] 102).alloc (.cells #[.int .i64 z0, .int .i64 z1, .int .i64 z2] 102))
      have XB := Lib.hid (box_new1 w (.cells #[.int .i64 y0, .int .i64 y1, .int .i64 y2] 102) #[.int .i64 z0, .int .i64 z1, .int .i64 z2] 102)
      have HB := Lib.hid (((Below.refl w.heap.size w).alloc (Nat.le_refl _) (.cells #[.int .i64 y0, .int .i64 y1, .int .i64 y2] 102)).alloc (by simp) (.cells #[.int .i64 z0, .int .i64 z1, .int .i64 z2] 102))
      have ac := XA.out.cell
      have bc := XB.out.cell
      generalize (w.alloc (.cells #[.int .i64 y0, .int .i64 y1, .int .i64 y2] 102)).alloc (.cells #[.int .i64 z0, .int .i64 z1, .int .i64 z2] 102) = W at *
      refine (C.out _).mono ?_
      rintro e1 w5 ⟨rfl, k5⟩
      have HB := below_hid HB k5
      have XA := Lib.hid (XA.out.next k5)
      have XB := Lib.hid (XB.out.next k5)
      clear k5 ac bc
      have ac := XA.out.cell
      have bc := XB.out.cell
      go_wp2_with fail
      refine (D.out _).mono ?_
      rintro e1 w5 ⟨rfl, k5⟩
      have HB := below_hid HB k5
      have XA := Lib.hid (XA.out.next k5)
      have XB := Lib.hid (XB.out.next k5)
      clear k5 ac bc
      have ac := XA.out.cell
      have bc := XB.out.cell
      go_wp2_with fail
      refine (C.out _).mono ?_
      rintro e1 w5 ⟨rfl, k5⟩
      have HB := below_hid HB k5
      have XA := Lib.hid (XA.out.next k5)
      have XB := Lib.hid (XB.out.next k5)
      clear k5 ac bc
      have ac := XA.out.cell
      have bc := XB.out.cell
      go_wp2_with fail
      go_ret
      exact ⟨rfl, HB.out⟩
  · rw [show decide (0 < y1) = false from decide_eq_false hy] at C
    replace C := Lib.hid C
    by_cases hz : 0 < z1
    · rw [show decide (0 < z1) = true from decide_eq_true hz] at D
      replace D := Lib.hid D
      rw [if_neg (by omega), if_neg hy, if_pos hz] at hr
      subst hr
      go_enter Try.func118, Try.ntmps118
      go_wp2_with fail
      have XA := Lib.hid ((Box.new w #[.int .i64 y0, .int .i64 y1, .int .i64 y2] 102).alloc (.cells #[.int .i64 z0, .int .i64 z1, .int .i64 z2] 102))
      have XB := Lib.hid (box_new1 w (.cells #[.int .i64 y0, .int .i64 y1, .int .i64 y2] 102) #[.int .i64 z0, .int .i64 z1, .int .i64 z2] 102)
      have HB := Lib.hid (((Below.refl w.heap.size w).alloc (Nat.le_refl _) (.cells #[.int .i64 y0, .int .i64 y1, .int .i64 y2] 102)).alloc (by simp) (.cells #[.int .i64 z0, .int .i64 z1, .int .i64 z2] 102))
      have ac := XA.out.cell
      have bc := XB.out.cell
      generalize (w.alloc (.cells #[.int .i64 y0, .int .i64 y1, .int .i64 y2] 102)).alloc (.cells #[.int .i64 z0, .int .i64 z1, .int .i64 z2] 102) = W at *
      refine (C.out _).mono ?_
      rintro e1 w5 ⟨rfl, k5⟩
      have HB := below_hid HB k5
      have XA := Lib.hid (XA.out.next k5)
      have XB := Lib.hid (XB.out.next k5)
      clear k5 ac bc
      have ac := XA.out.cell
      have bc := XB.out.cell
      go_wp2_with fail
      refine (C.out _).mono ?_
      rintro e1 w5 ⟨rfl, k5⟩
      have HB := below_hid HB k5
      have XA := Lib.hid (XA.out.next k5)
      have XB := Lib.hid (XB.out.next k5)
      clear k5 ac bc
      have ac := XA.out.cell
      have bc := XB.out.cell
      go_wp2_with fail
      refine (D.out _).mono ?_
      rintro e1 w5 ⟨rfl, k5⟩
      have HB := below_hid HB k5
      have XA := Lib.hid (XA.out.next k5)
      have XB := Lib.hid (XB.out.next k5)
      clear k5 ac bc
      have ac := XA.out.cell
      have bc := XB.out.cell
      go_wp2_with fail
      go_ret
      exact ⟨rfl, HB.out⟩
    · rw [show decide (0 < z1) = false from decide_eq_false hz] at D
      replace D := Lib.hid D
      rw [if_neg (by omega), if_neg hy, if_neg hz] at hr
      subst hr
      go_enter Try.func118, Try.ntmps118
      go_wp2_with fail
      have XA := Lib.hid ((Box.new w #[.int .i64 y0, .int .i64 y1, .int .i64 y2] 102).alloc (.cells #[.int .i64 z0, .int .i64 z1, .int .i64 z2] 102))
      have XB := Lib.hid (box_new1 w (.cells #[.int .i64 y0, .int .i64 y1, .int .i64 y2] 102) #[.int .i64 z0, .int .i64 z1, .int .i64 z2] 102)
      have HB := Lib.hid (((Below.refl w.heap.size w).alloc (Nat.le_refl _) (.cells #[.int .i64 y0, .int .i64 y1, .int .i64 y2] 102)).alloc (by simp) (.cells #[.int .i64 z0, .int .i64 z1, .int .i64 z2] 102))
      have ac := XA.out.cell
      have bc := XB.out.cell
      generalize (w.alloc (.cells #[.int .i64 y0, .int .i64 y1, .int .i64 y2] 102)).alloc (.cells #[.int .i64 z0, .int .i64 z1, .int .i64 z2] 102) = W at *
      refine (C.out _).mono ?_
      rintro e1 w5 ⟨rfl, k5⟩
      have HB := below_hid HB k5
      have XA := Lib.hid (XA.out.next k5)
      have XB := Lib.hid (XB.out.next k5)
      clear k5 ac bc
      have ac := XA.out.cell
      have bc := XB.out.cell
      go_wp2_with fail
      refine (C.out _).mono ?_
      rintro e1 w5 ⟨rfl, k5⟩
      have HB := below_hid HB k5
      have XA := Lib.hid (XA.out.next k5)
      have XB := Lib.hid (XB.out.next k5)
      clear k5 ac bc
      have ac := XA.out.cell
      have bc := XB.out.cell
      go_wp2_with fail
      refine (D.out _).mono ?_
      rintro e1 w5 ⟨rfl, k5⟩
      have HB := below_hid HB k5
      have XA := Lib.hid (XA.out.next k5)
      have XB := Lib.hid (XB.out.next k5)
      clear k5 ac bc
      have ac := XA.out.cell
      have bc := XB.out.cell
      go_wp2_with fail
      go_ret
      exact ⟨rfl, HB.out⟩
end Go.Proofs.Ytgkahcchekiogaa.Rtf
