/- The law of plant: None. -/
import Derived.Test.YtgkahcchekiogaaPlh
import Derived.Test.YtgkahcchekiogaaCls
namespace Go.Proofs.Ytgkahcchekiogaa.Pln
open Go.RowKit Base Kit RefA Alt Pla Cls
set_option linter.unusedVariables false
set_option linter.unusedSimpArgs false
attribute [local go_sem ↓] Go.wp_at_zero Go.wp_at_succ
/-- what stays: the variable, the row of two, and the platform that no call made -/
structure St0 (w0 w : World) (x0 x1 x2 x3 : Int) : Prop where
  bel : Below w0.heap.size w0 w
  a : Box w w0.heap.size #[.int .i64 x0, .int .i64 x1, .int .i64 x2, .int .i64 x3] 36
  z : Box w (w0.heap.size + 1) #[.int .i64 0, .int .i64 0, .int .i64 0, .int .i64 0, .slice none 0 0, .slice none 0 0, .int .i64 0, .int .i64 0, .int .i64 0, .int .i64 0, .int .i64 0, .int .i64 0, .pointer none] 43
  l : Box w (w0.heap.size + 1 + 1) #[.pointer none, .pointer (some ⟨w0.heap.size + 1, 0, none⟩)] 29
theorem st0_next {w0 w w1 : World} {x0 x1 x2 x3 : Int} (h : Hid (St0 w0 w x0 x1 x2 x3)) (k : Below w.heap.size w w1) : Hid (St0 w0 w1 x0 x1 x2 x3) :=
  Lib.hid ⟨below_next h.out.bel k, h.out.a.next k, h.out.z.next k, h.out.l.next k⟩
/-- nothing lies behind v, in whatever world comes -/
def Nothing (w0 : World) (x0 x1 x2 x3 : Int) (v : Option Addr) : Prop := ∀ w, Hid (St0 w0 w x0 x1 x2 x3) → Calls Try.prog 61 #[.pointer v] w fun e w' => e = .returned (.bool true) ∧ w = w'
theorem none1 (w0 : World) (x0 x1 x2 x3 : Int) : Nothing w0 x0 x1 x2 x3 none := fun w _ => dead_nil w
theorem none2 (w0 : World) (x0 x1 x2 x3 : Int) : Nothing w0 x0 x1 x2 x3 (some ⟨w0.heap.size + 1, 0, none⟩) := fun w h => dead_zero _ w (by rw [h.out.z.cell]; rfl)
section
variable {w0 w : World} {x0 x1 x2 x3 : Int} {v : Option Addr}
theorem s_sync (N : Hid (Nothing w0 x0 x1 x2 x3 v)) (h : Hid (St0 w0 w x0 x1 x2 x3)) : Calls Try.prog 21 #[.pointer v] w fun e w' => e = .returned (.tuple #[]) ∧ Hid (St0 w0 w' x0 x1 x2 x3) :=
  (sync_dead _ w (Lib.hid (N.out w h))).mono fun e w' hh => ⟨hh.1, by rw [← hh.2]; exact h⟩
theorem s_now (N : Hid (Nothing w0 x0 x1 x2 x3 v)) (h : Hid (St0 w0 w x0 x1 x2 x3)) /- -/ : Calls Try.prog 17 #[.pointer v/- -/] w fun e w' => e = .returned (.int .i64 0) ∧ Hid (St0 w0 w' x0 x1 x2 x3) :=
  (now_dead _ () w (Lib.hid (N.out w h))).mono fun e w' hh => ⟨hh.1, by rw [← hh.2]; exact h⟩
theorem s_level (N : Hid (Nothing w0 x0 x1 x2 x3 v)) (h : Hid (St0 w0 w x0 x1 x2 x3)) /- -/ : Calls Try.prog 27 #[.pointer v/- -/] w fun e w' => e = .returned (.int .i64 0) ∧ Hid (St0 w0 w' x0 x1 x2 x3) :=
  (level_dead _ () w (Lib.hid (N.out w h))).mono fun e w' hh => ⟨hh.1, by rw [← hh.2]; exact h⟩
theorem s_meter (N : Hid (Nothing w0 x0 x1 x2 x3 v)) (h : Hid (St0 w0 w x0 x1 x2 x3)) /- -/ : Calls Try.prog 19 #[.pointer v/- -/] w fun e w' => e = .returned (.pointer none) ∧ Hid (St0 w0 w' x0 x1 x2 x3) :=
  (meter_dead _ () w (Lib.hid (N.out w h))).mono fun e w' hh => ⟨hh.1, by rw [← hh.2]; exact h⟩
theorem s_when (N : Hid (Nothing w0 x0 x1 x2 x3 v)) (h : Hid (St0 w0 w x0 x1 x2 x3)) (a : Int) : Calls Try.prog 22 #[.pointer v, .int .i64 a] w fun e w' => e = .returned (.tuple #[.int .i64 0, .int .i64 1]) ∧ Hid (St0 w0 w' x0 x1 x2 x3) :=
  (when_dead _ a w (Lib.hid (N.out w h))).mono fun e w' hh => ⟨hh.1, by rw [← hh.2]; exact h⟩
theorem s_run (N : Hid (Nothing w0 x0 x1 x2 x3 v)) (h : Hid (St0 w0 w x0 x1 x2 x3)) (a b : Int) : Calls Try.prog 23 #[.pointer v, .int .i64 a, .int .i64 b] w fun e w' => e = .returned (.int .i64 1) ∧ Hid (St0 w0 w' x0 x1 x2 x3) :=
  (run_dead _ a b w (Lib.hid (N.out w h))).mono fun e w' hh => ⟨hh.1, by rw [← hh.2]; exact h⟩
theorem s_turn (N : Hid (Nothing w0 x0 x1 x2 x3 v)) (h : Hid (St0 w0 w x0 x1 x2 x3)) (a : Int) : Calls Try.prog 24 #[.pointer v, .int .i64 a] w fun e w' => e = .returned (.int .i64 1) ∧ Hid (St0 w0 w' x0 x1 x2 x3) :=
  (turn_dead _ a w (Lib.hid (fun w' hb => N.out w' (st0_next h hb)))).mono fun e w' hh => ⟨hh.1, st0_next h hh.2⟩
theorem s_idle (N : Hid (Nothing w0 x0 x1 x2 x3 v)) (h : Hid (St0 w0 w x0 x1 x2 x3)) (a : Int) : Calls Try.prog 25 #[.pointer v, .int .i64 a] w fun e w' => e = .returned (.int .i64 1) ∧ Hid (St0 w0 w' x0 x1 x2 x3) :=
  (idle_dead _ a w (Lib.hid (fun w' hb => N.out w' (st0_next h hb)))).mono fun e w' hh => ⟨hh.1, st0_next h hh.2⟩
theorem s_nap (N : Hid (Nothing w0 x0 x1 x2 x3 v)) (h : Hid (St0 w0 w x0 x1 x2 x3)) (a b c : Int) : Calls Try.prog 26 #[.pointer v, .int .i64 a, .int .i64 b, .int .i64 c] w fun e w' => e = .returned (.int .i64 1) ∧ Hid (St0 w0 w' x0 x1 x2 x3) :=
  (nap_dead _ a b c w (Lib.hid (fun w' hb => N.out w' (st0_next h hb)))).mono fun e w' hh => ⟨hh.1, st0_next h hh.2⟩
end
set_option maxRecDepth 100000 in
set_option maxHeartbeats 4000000 in
theorem none_law (x0 x1 x2 x3 : Int) (w : World) (i0 : I64 x0) (i1 : I64 x1) (i2 : I64 x2) (i3 : I64 x3) :
    Calls Try.prog 4 #[.agg #[.int .i64 x0, .int .i64 x1, .int .i64 x2, .int .i64 x3]] w fun e w' => e = .returned (.bool true) ∧ Below w.heap.size w w' := by
  have S : Hid (St0 w (((w.alloc (.cells #[.int .i64 x0, .int .i64 x1, .int .i64 x2, .int .i64 x3] 36)).alloc (.cells #[.int .i64 0, .int .i64 0, .int .i64 0, .int .i64 0, .slice none 0 0, .slice none 0 0, .int .i64 0, .int .i64 0, .int .i64 0, .int .i64 0, .int .i64 0, .int .i64 0, .pointer none] 43)).alloc (.cells #[.pointer none, .pointer (some ⟨w.heap.size + 1, 0, none⟩)] 29)) x0 x1 x2 x3) := by
    have b1 := Box.new (w.alloc (.cells #[.int .i64 x0, .int .i64 x1, .int .i64 x2, .int .i64 x3] 36)) #[.int .i64 0, .int .i64 0, .int .i64 0, .int .i64 0, .slice none 0 0, .slice none 0 0, .int .i64 0, .int .i64 0, .int .i64 0, .int .i64 0, .int .i64 0, .int .i64 0, .pointer none] 43
    have b2 := Box.new ((w.alloc (.cells #[.int .i64 x0, .int .i64 x1, .int .i64 x2, .int .i64 x3] 36)).alloc (.cells #[.int .i64 0, .int .i64 0, .int .i64 0, .int .i64 0, .slice none 0 0, .slice none 0 0, .int .i64 0, .int .i64 0, .int .i64 0, .int .i64 0, .int .i64 0, .int .i64 0, .pointer none] 43)) #[.pointer none, .pointer (some ⟨w.heap.size + 1, 0, none⟩)] 29
    rw [World.size_alloc] at b1
    rw [World.size_alloc, World.size_alloc] at b2
    exact Lib.hid ⟨(((Below.refl _ _).alloc (Nat.le_refl _) _).alloc (by simp) _).alloc (by simp; omega) _, ((Box.new _ _ _).alloc _).alloc _, b1.alloc _, b2⟩
  go_enter Try.func4, Try.ntmps4
  go_wp2_with fail
  generalize ((w.alloc (.cells #[.int .i64 x0, .int .i64 x1, .int .i64 x2, .int .i64 x3] 36)).alloc (.cells #[.int .i64 0, .int .i64 0, .int .i64 0, .int .i64 0, .slice none 0 0, .slice none 0 0, .int .i64 0, .int .i64 0, .int .i64 0, .int .i64 0, .int .i64 0, .int .i64 0, .pointer none] 43)).alloc (.cells #[.pointer none, .pointer (some ⟨w.heap.size + 1, 0, none⟩)] 29) = w1 at S ⊢
  have NA := Lib.hid (none1 w x0 x1 x2 x3)
  have NB := Lib.hid (none2 w x0 x1 x2 x3)
  have rl := S.out.l.cell
  refine wp_loop_rounds 3 ?_
  rw [rounds_succ]
  go_wp2_with fail
  have N := NA
  refine (s_sync N S).mono ?_
  clear S rl
  rintro e1 w5 ⟨rfl, S⟩
  have rl := S.out.l.cell
  have ra := S.out.a.cell
  go_wp2_with fail
  have S := st0_next S (Below.refl _ _).drew
  clear rl ra
  refine cls_region (fun w' => Hid (St0 w w' x0 x1 x2 x3)) (by kernel_rfl) (by kernel_rfl) S ?_
  repeat
    (first
      | (refine cls_take (v := ?_) (by rfl) (fun w' hC => ?_) ?_
         rotate_left
         · (have ra := hC.out.a.cell
            have rl := hC.out.l.cell
            go_simp
            try (first
              | done
              | (with_reducible rfl)
              | (exact s_when N hC x1)
              | (exact s_run N hC x1 x2)
              | (exact s_turn N hC x1)
              | (exact s_idle N hC x1)
              | (exact s_nap N hC x1 x2 x3)
              | (exact s_now N hC)
              | (exact s_level N hC)
              | (exact s_meter N hC))))
      | refine cls_skip (by rfl) ?_)
    try simp only [Act.put, List.setIfInBounds_toArray, List.set_cons_zero, List.set_cons_succ, List.getElem_toArray, List.getElem_cons_succ, List.getElem_cons_zero]
  refine wpQuiet_nil ?_
  clear S
  intro w6 S
  go_wp2_with fail
  have S := st0_next S (Below.refl _ _).drew
  refine cls_region (fun w' => Hid (St0 w w' x0 x1 x2 x3)) (by kernel_rfl) (by kernel_rfl) S ?_
  repeat
    (first
      | (refine cls_take (v := ?_) (by rfl) (fun w' hC => ?_) ?_
         rotate_left
         · (have ra := hC.out.a.cell
            have rl := hC.out.l.cell
            go_simp
            try (first
              | done
              | (with_reducible rfl)
              | (exact s_when N hC x1)
              | (exact s_run N hC x1 x2)
              | (exact s_turn N hC x1)
              | (exact s_idle N hC x1)
              | (exact s_nap N hC x1 x2 x3)
              | (exact s_now N hC)
              | (exact s_level N hC)
              | (exact s_meter N hC))))
      | refine cls_skip (by rfl) ?_)
    try simp only [Act.put, List.setIfInBounds_toArray, List.set_cons_zero, List.set_cons_succ, List.getElem_toArray, List.getElem_cons_succ, List.getElem_cons_zero]
  refine wpQuiet_nil ?_
  clear S
  intro w7 S
  go_wp2_with fail
  have rl := S.out.l.cell
  rw [rounds_succ]
  go_wp2_with fail
  have N := NB
  refine (s_sync N S).mono ?_
  clear S rl
  rintro e1 w5 ⟨rfl, S⟩
  have rl := S.out.l.cell
  have ra := S.out.a.cell
  go_wp2_with fail
  have S := st0_next S (Below.refl _ _).drew
  clear rl ra
  refine cls_region (fun w' => Hid (St0 w w' x0 x1 x2 x3)) (by kernel_rfl) (by kernel_rfl) S ?_
  repeat
    (first
      | (refine cls_take (v := ?_) (by rfl) (fun w' hC => ?_) ?_
         rotate_left
         · (have ra := hC.out.a.cell
            have rl := hC.out.l.cell
            go_simp
            try (first
              | done
              | (with_reducible rfl)
              | (exact s_when N hC x1)
              | (exact s_run N hC x1 x2)
              | (exact s_turn N hC x1)
              | (exact s_idle N hC x1)
              | (exact s_nap N hC x1 x2 x3)
              | (exact s_now N hC)
              | (exact s_level N hC)
              | (exact s_meter N hC))))
      | refine cls_skip (by rfl) ?_)
    try simp only [Act.put, List.setIfInBounds_toArray, List.set_cons_zero, List.set_cons_succ, List.getElem_toArray, List.getElem_cons_succ, List.getElem_cons_zero]
  refine wpQuiet_nil ?_
  clear S
  intro w6 S
  go_wp2_with fail
  have S := st0_next S (Below.refl _ _).drew
  refine cls_region (fun w' => Hid (St0 w w' x0 x1 x2 x3)) (by kernel_rfl) (by kernel_rfl) S ?_
  repeat
    (first
      | (refine cls_take (v := ?_) (by rfl) (fun w' hC => ?_) ?_
         rotate_left
         · (have ra := hC.out.a.cell
            have rl := hC.out.l.cell
            go_simp
            try (first
              | done
              | (with_reducible rfl)
              | (exact s_when N hC x1)
              | (exact s_run N hC x1 x2)
              | (exact s_turn N hC x1)
              | (exact s_idle N hC x1)
              | (exact s_nap N hC x1 x2 x3)
              | (exact s_now N hC)
              | (exact s_level N hC)
              | (exact s_meter N hC))))
      | refine cls_skip (by rfl) ?_)
    try simp only [Act.put, List.setIfInBounds_toArray, List.set_cons_zero, List.set_cons_succ, List.getElem_toArray, List.getElem_cons_succ, List.getElem_cons_zero]
  refine wpQuiet_nil ?_
  clear S
  intro w7 S
  go_wp2_with fail
  have rl := S.out.l.cell
  rw [rounds_succ]
  go_wp2_with fail
  refine (Plh.works_any _).mono ?_
  rintro e1 w7 ⟨rfl, hb7⟩
  go_wp2_with fail
  go_ret
  exact ⟨rfl, below_next S.out.bel hb7⟩
theorem law (x0 x1 x2 x3 : Int) (w : World) (i0 : -9223372036854775808 ≤ x0 ∧ x0 ≤ 9223372036854775807) (i1 : -9223372036854775808 ≤ x1 ∧ x1 ≤ 9223372036854775807) (i2 : -9223372036854775808 ≤ x2 ∧ x2 ≤ 9223372036854775807) (i3 : -9223372036854775808 ≤ x3 ∧ x3 ≤ 9223372036854775807) :
    Calls Try.prog 4 #[.agg #[.int .i64 x0, .int .i64 x1, .int .i64 x2, .int .i64 x3]] w fun e w' => e = .returned (.bool true) ∧ Below w.heap.size w w' := none_law x0 x1 x2 x3 w i0 i1 i2 i3
end Go.Proofs.Ytgkahcchekiogaa.Pln
