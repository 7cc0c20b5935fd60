/- The law of meter: None. -/
import Derived.Test.YteikliciijfmmaaMetR
namespace Go.Proofs.Yteikliciijfmmaa.MetN
open Go.RowKit Base Kit RefA Alt WideA WideB Plain MetA MetB MetC MetL MetR
set_option linter.unusedVariables false
set_option linter.unusedSimpArgs false

theorem dead_nil (w : World) : Calls Try.prog 69 #[.pointer none] w fun e w' => e = .returned (.bool true) ∧ w = w' := by
  go_enter Try.func69, Try.ntmps69
  go_wp2_with fail
  go_ret
  exact ⟨rfl, rfl⟩
theorem dead_zero (w : World) (b : Nat) (c6 : w.cell? ⟨b, 6, none⟩ = some (.bool false)) : Calls Try.prog 69 #[.pointer (some ⟨b, 0, none⟩)] w fun e w' => e = .returned (.bool true) ∧ w = w' := by
  go_enter Try.func69, Try.ntmps69
  go_wp2_with fail
  go_ret
  exact ⟨rfl, rfl⟩
/-- nothing lies behind v, in whatever world this one becomes -/
def Nothing (w : World) (v : Option Addr) : Prop := Calls Try.prog 69 #[.pointer v] w fun e w' => e = .returned (.bool true) ∧ w = w'
theorem total0 (w : World) (v : Option Addr) (D : Nothing w v) :
    Calls Try.prog 39 #[.pointer v] w fun e w' => e = .returned (.int .i64 0) ∧ Below w.heap.size w w' := by
  go_enter Try.func39, Try.ntmps39
  go_wp2_with fail
  refine (show Calls _ _ _ _ _ from D).mono ?_
  rintro e w' ⟨rfl, rfl⟩
  go_wp2_with fail
  go_ret
  exact ⟨rfl, Below.refl _ _⟩
theorem time0 (w : World) (v : Option Addr) (D : Nothing w v) :
    Calls Try.prog 41 #[.pointer v] w fun e w' => e = .returned (.int .i64 0) ∧ Below w.heap.size w w' := by
  go_enter Try.func41, Try.ntmps41
  go_wp2_with fail
  refine (show Calls _ _ _ _ _ from D).mono ?_
  rintro e w' ⟨rfl, rfl⟩
  go_wp2_with fail
  go_ret
  exact ⟨rfl, Below.refl _ _⟩
theorem take0 (w : World) (v : Option Addr) (k p pw ns : Int) (D : Nothing w v) :
    Calls Try.prog 35 #[.pointer v, .int .i64 k, .int .i64 p, .int .i64 pw, .int .i64 ns] w fun e w' => e = .returned (.int .i64 1) ∧ Below w.heap.size w w' := by
  go_enter Try.func35, Try.ntmps35
  go_wp2_with fail
  refine (show Calls _ _ _ _ _ from D).mono ?_
  rintro e w' ⟨rfl, rfl⟩
  go_wp2_with fail
  go_ret
  exact ⟨rfl, Below.refl _ _⟩
theorem charge0 (w : World) (v : Option Addr) (D : Nothing (w.alloc (.cells #[.slice none 0 0, .int .i64 0, .int .i64 0, .int .i64 0] 71)) v) :
    Calls Try.prog 38 #[.pointer v] w fun e w' => e = .returned (.agg #[.slice none 0 0, .int .i64 0, .int .i64 0, .int .i64 0]) ∧ Below w.heap.size w w' := by
  go_enter Try.func38, Try.ntmps38
  go_wp2_with fail
  refine (show Calls _ _ _ _ _ from D).mono ?_
  rintro e w' ⟨rfl, rfl⟩
  go_wp2_with fail
  refine bodyPost_ret (v := .agg #[.slice none 0 0, .int .i64 0, .int .i64 0, .int .i64 0]) ?_ rfl ⟨rfl, ?_⟩
  · simp [results, Try.results38, go_sem]
  all_goals (repeat (first | exact Below.refl _ _ | exact HB.out | exact below_in _ (by assumption) | assumption | exact Nat.le_refl _ | refine Below.setCell ?_ (by first | (simp; done) | (simp; omega) | omega) _ | refine Below.alloc ?_ (by first | exact Nat.le_refl _ | (simp; done) | (simp; omega) | omega) _ | refine Below.drew ?_))
/-- what stays: the variable, the row of two, and the meter that no call made -/
structure St0 (w0 w : World) (x0 x1 x2 x3 : Int) : Prop where
  bel : Below w0.heap.size w0 w
  a : Box w w0.heap.size #[.int .i64 x0, .int .i64 x1, .int .i64 x2, .int .i64 x3] 66
  z : Box w (w0.heap.size + 1) #[.slice none 0 0, .int .i64 0, .int .i64 0, .int .i64 0, .int .i64 0, .int .i64 0, .bool false] 80
  l : Box w (w0.heap.size + 1 + 1) #[.pointer none, .pointer (some ⟨w0.heap.size + 1, 0, none⟩)] 61
theorem st0_next {w0 w w1 : World} {x0 x1 x2 x3 : Int} (h : Hid (St0 w0 w x0 x1 x2 x3)) (k : Below w.heap.size w w1) : Hid (St0 w0 w1 x0 x1 x2 x3) :=
  Lib.hid ⟨below_next h.out.bel k, h.out.a.next k, h.out.z.next k, h.out.l.next k⟩
theorem st0_zero {w0 w : World} {x0 x1 x2 x3 : Int} (h : Hid (St0 w0 w x0 x1 x2 x3)) : Nothing w (some ⟨w0.heap.size + 1, 0, none⟩) := dead_zero w _ (by rw [h.out.z.cell]; rfl)

set_option maxRecDepth 100000 in
set_option maxHeartbeats 4000000 in
theorem none_law (x0 x1 x2 x3 : Int) (w : World) (i0 : I64 x0) (i1 : I64 x1) (i2 : I64 x2) (i3 : I64 x3) :
    Calls Try.prog 8 #[.agg #[.int .i64 x0, .int .i64 x1, .int .i64 x2, .int .i64 x3]] w fun e w' => e = .returned (.bool true) ∧ Below w.heap.size w w' := by
  have S : Hid (St0 w (((w.alloc (.cells #[.int .i64 x0, .int .i64 x1, .int .i64 x2, .int .i64 x3] 66)).alloc (.cells #[.slice none 0 0, .int .i64 0, .int .i64 0, .int .i64 0, .int .i64 0, .int .i64 0, .bool false] 80)).alloc (.cells #[.pointer none, .pointer (some ⟨w.heap.size + 1, 0, none⟩)] 61)) x0 x1 x2 x3) := by
    have b1 := Box.new (w.alloc (.cells #[.int .i64 x0, .int .i64 x1, .int .i64 x2, .int .i64 x3] 66)) #[.slice none 0 0, .int .i64 0, .int .i64 0, .int .i64 0, .int .i64 0, .int .i64 0, .bool false] 80
    have b2 := Box.new ((w.alloc (.cells #[.int .i64 x0, .int .i64 x1, .int .i64 x2, .int .i64 x3] 66)).alloc (.cells #[.slice none 0 0, .int .i64 0, .int .i64 0, .int .i64 0, .int .i64 0, .int .i64 0, .bool false] 80)) #[.pointer none, .pointer (some ⟨w.heap.size + 1, 0, none⟩)] 61
    rw [World.size_alloc] at b1
    rw [World.size_alloc, World.size_alloc] at b2
    exact Lib.hid ⟨(((Below.refl _ _).alloc (Nat.le_refl _) _).alloc (by simp) _).alloc (by simp; omega) _, ((Box.new _ _ _).alloc _).alloc _, b1.alloc _, b2⟩
  go_enter Try.func8, Try.ntmps8
  go_wp2_with fail
  generalize ((w.alloc (.cells #[.int .i64 x0, .int .i64 x1, .int .i64 x2, .int .i64 x3] 66)).alloc (.cells #[.slice none 0 0, .int .i64 0, .int .i64 0, .int .i64 0, .int .i64 0, .int .i64 0, .bool false] 80)).alloc (.cells #[.pointer none, .pointer (some ⟨w.heap.size + 1, 0, none⟩)] 61) = w1 at S ⊢
  refine wp_loop_rounds 3 ?_
  rw [rounds_succ]
  go_wp2_with fail
  have S := st0_next S ((Below.refl _ _).drew)
  have ra := S.out.a.cell
  have rl := S.out.l.cell
  go_region_held3 (fun w' => (∀ i, w'.cell? ⟨w.heap.size, i, none⟩ = (#[.int .i64 x0, .int .i64 x1, .int .i64 x2, .int .i64 x3] : Array Value)[i]?) ∧ (∀ i, w'.cell? ⟨w.heap.size + 1 + 1, i, none⟩ = (#[.pointer none, .pointer (some ⟨w.heap.size + 1, 0, none⟩)] : Array Value)[i]?))
    (first
      | exact ⟨ra, rl⟩
      | exact ⟨S.out.a.cell, S.out.l.cell⟩)
    (first
      | (go_at_call 35; refine (take0 _ none x0 x1 x2 x3 (dead_nil _)).mono ?_; rintro e1 w5 ⟨rfl, hb5⟩; have S := st0_next S hb5; clear hb5)
      | (go_at_call 39; refine (total0 _ none (dead_nil _)).mono ?_; rintro e1 w5 ⟨rfl, hb5⟩; have S := st0_next S hb5; clear hb5)
      | (go_at_call 41; refine (time0 _ none (dead_nil _)).mono ?_; rintro e1 w5 ⟨rfl, hb5⟩; have S := st0_next S hb5; clear hb5)
      | (go_at_call 38; refine (charge0 _ none (dead_nil _)).mono ?_; rintro e1 w5 ⟨rfl, hb5⟩; have S := st0_next S hb5; clear hb5)
      | (go_at_call 37; refine (samec_any none none 0 0 0 0 0 0 (fun _ => 0) _ (Lib.hid ⟨by omega, .inl rfl, fun i hi => by omega⟩) (Lib.hid ⟨by omega, .inl rfl, fun i hi => by omega⟩)).mono ?_; rintro e1 w5 ⟨rfl, hb5⟩; have S := st0_next S hb5; clear hb5))
  clear ra rl
  go_wp2_with fail
  rw [rounds_succ]
  go_wp2_with fail
  have S := st0_next S ((Below.refl _ _).drew)
  have ra := S.out.a.cell
  have rl := S.out.l.cell
  go_region_held3 (fun w' => (∀ i, w'.cell? ⟨w.heap.size, i, none⟩ = (#[.int .i64 x0, .int .i64 x1, .int .i64 x2, .int .i64 x3] : Array Value)[i]?) ∧ (∀ i, w'.cell? ⟨w.heap.size + 1 + 1, i, none⟩ = (#[.pointer none, .pointer (some ⟨w.heap.size + 1, 0, none⟩)] : Array Value)[i]?))
    (first
      | exact ⟨ra, rl⟩
      | exact ⟨S.out.a.cell, S.out.l.cell⟩)
    (first
      | (go_at_call 35; refine (take0 _ (some ⟨w.heap.size + 1, 0, none⟩) x0 x1 x2 x3 (st0_zero S)).mono ?_; rintro e1 w5 ⟨rfl, hb5⟩; have S := st0_next S hb5; clear hb5)
      | (go_at_call 39; refine (total0 _ (some ⟨w.heap.size + 1, 0, none⟩) (st0_zero S)).mono ?_; rintro e1 w5 ⟨rfl, hb5⟩; have S := st0_next S hb5; clear hb5)
      | (go_at_call 41; refine (time0 _ (some ⟨w.heap.size + 1, 0, none⟩) (st0_zero S)).mono ?_; rintro e1 w5 ⟨rfl, hb5⟩; have S := st0_next S hb5; clear hb5)
      | (go_at_call 38; refine (charge0 _ (some ⟨w.heap.size + 1, 0, none⟩) (st0_zero (st0_next S ((Below.refl _ _).alloc (Nat.le_refl _) _)))).mono ?_; rintro e1 w5 ⟨rfl, hb5⟩; have S := st0_next S hb5; clear hb5)
      | (go_at_call 37; refine (samec_any none none 0 0 0 0 0 0 (fun _ => 0) _ (Lib.hid ⟨by omega, .inl rfl, fun i hi => by omega⟩) (Lib.hid ⟨by omega, .inl rfl, fun i hi => by omega⟩)).mono ?_; rintro e1 w5 ⟨rfl, hb5⟩; have S := st0_next S hb5; clear hb5))
  clear ra rl
  go_wp2_with fail
  rw [rounds_succ]
  go_wp2_with fail
  refine (works_any _).mono ?_
  rintro e1 w7 ⟨rfl, hb7⟩
  go_wp2_with fail
  go_ret
  exact ⟨rfl, below_next S.out.bel hb7⟩
theorem law (x0 x1 x2 x3 : Int) (w : World) (i0 : -9223372036854775808 ≤ x0 ∧ x0 ≤ 9223372036854775807) (i1 : -9223372036854775808 ≤ x1 ∧ x1 ≤ 9223372036854775807) (i2 : -9223372036854775808 ≤ x2 ∧ x2 ≤ 9223372036854775807) (i3 : -9223372036854775808 ≤ x3 ∧ x3 ≤ 9223372036854775807) :
    Calls Try.prog 8 #[.agg #[.int .i64 x0, .int .i64 x1, .int .i64 x2, .int .i64 x3]] w fun e w' => e = .returned (.bool true) ∧ Below w.heap.size w w' := none_law x0 x1 x2 x3 w i0 i1 i2 i3
end Go.Proofs.Yteikliciijfmmaa.MetN
