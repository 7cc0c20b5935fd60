/- slices.insertionSort of two places, under Order's closure. -/
import Derived.Test.YtgkahcchekiogaaRtg
import Derived.Test.YtgkahcchekiogaaHeld
import Derived.Test.YtgkahcchekiogaaAlt
namespace Go.Proofs.Ytgkahcchekiogaa.Rth
open Go.RowKit Base Kit WideA WideB Plain Rta Rtb Rtc Rtd Rte Rtf Rtg Held
set_option linter.unusedVariables false
set_option linter.unusedSimpArgs false
def Swd (base g cap : Nat) (w w' : World) : Prop := w'.ownsRow base 3 1 (.slice (some ⟨g, 0, none⟩) 2 cap) 2 [.int .i64 1, .int .i64 0] ∧ Below base w w'
theorem swd_drewN {base g cap : Nat} {w w' : World} (h : Hid (Swd base g cap w w')) (n : Nat) : Hid (Swd base g cap w (w'.drewN n)) := Lib.hid ⟨ownsRow_drewN h.out.1 n, below_drewN' h.out.2 n⟩
set_option maxRecDepth 100000 in
set_option maxHeartbeats 4000000 in
theorem ins2_any (a : Option Addr) (c : Nat) (f : Nat → Nat → Int) (lb base g cap : Nat) (w : World) (h : Hid (Open.RowsIn w a 2 3 f)) (hb : Hid (Box w lb #[.slice a 2 c] 67)) (hr : Hid (bfI (f 1 1) (f 0 1) = -1)) (hg : base ≤ g) (hgl : g < w.heap.size)
    (hown : Hid (w.ownsRow base 3 1 (.slice (some ⟨g, 0, none⟩) 2 cap) 2 [.int .i64 0, .int .i64 1])) :
    Calls Try.prog 168 #[.slice (some ⟨g, 0, none⟩) 2 cap, .int .i64 0, .int .i64 2, .func (.func 117) #[] #[.pointer (some ⟨lb, 0, none⟩)]] w fun e w' => e = .returned (.tuple #[]) ∧ Swd base g cap w w' := by
  have C := Lib.hid (fun w' (hw : Below w.heap.size w w') => order1_any a 2 c f 1 0 lb (-1) w' (Lib.hid (rows_below h.out hw (Nat.le_refl _))) (Lib.hid (hb.out.below hw hb.out.lt)) (by omega) (by omega) hr)
  have SC := Lib.hid (fun w' (hw : Below w.heap.size w w') => (⟨(ownsRow_keep hown.out hw).cellAt 0 (by omega), (ownsRow_keep hown.out hw).cellAt 1 (by omega)⟩ : w'.cell? ⟨g, 0, none⟩ = some (.int .i64 0) ∧ w'.cell? ⟨g, 1, none⟩ = some (.int .i64 1)))
  have SF := Lib.hid (fun w' (hw : Below w.heap.size w w') => (ownsRow_keep hown.out hw).frozenAt)
  have hw0 : IntKind.i64.wrap (0 : Int) = 0 := by first | rfl | decide
  have hw1 : IntKind.i64.wrap ((1 : Int) - 1) = 0 := by first | rfl | decide
  go_enter Try.func168, Try.ntmps168
  go_wp2_with fail
  go_loopw [8] (fun i wr => (i = .int .i64 1 ∧ Hid (Below w.heap.size w wr)) ∨ (i = .int .i64 2 ∧ Hid (Swd base g cap w wr))) (fun i _ => 2 - (intOf i).toNat)
  case atStart => exact .inl ⟨rfl, Lib.hid (Below.refl _ _)⟩
  case round =>
    rcases hrel with ⟨rfl, HB⟩ | ⟨rfl, HS⟩
    · go_wp2_with fail
      go_loopw [9] (fun j wr => (j = .int .i64 1 ∧ Hid (Below w.heap.size w wr)) ∨ (j = .int .i64 0 ∧ Hid (Swd base g cap w wr))) (fun j _ => (intOf j).toNat)
      case atStart => exact .inl ⟨rfl, HB⟩
      case round =>
        clear HB
        rcases hrel with ⟨rfl, HB⟩ | ⟨rfl, HS⟩
        · go_wp2_with fail
          have HD := Lib.hid HB.out.drew
          go_region_held3 (fun w' => w'.cell? ⟨g, 0, none⟩ = some (.int .i64 0) ∧ w'.cell? ⟨g, 1, none⟩ = some (.int .i64 1))
            (first | exact SC.out _ H5.out | exact SC.out _ HD.out)
            (first | (go_at_call 117; refine (C.out _ HD.out).mono ?_; rintro e1 w5 ⟨rfl, k5⟩; have H5 := below_hid HD k5))
          go_wp2_with fail
          obtain ⟨c0, c1⟩ := SC.out _ H5.out.drew
          have fz := SF.out _ H5.out.drew
          have fz5 := SF.out _ H5.out
          obtain ⟨d0, d1⟩ := SC.out _ H5.out
          have O1 := (((ownsRow_keep hown.out H5.out.drew).stored 1 (.int .i64 0)).1.stored 0 (.int .i64 1)).1
          have B1 : Below base w _ := ((H5.out.drew.mono (show base ≤ w.heap.size by omega)).setCell (p := ⟨g, 1, none⟩) hg (.int .i64 0)).setCell (p := ⟨g, 0, none⟩) hg (.int .i64 1)
          have HS := Lib.hid (show Swd base g cap w _ from ⟨O1, B1⟩)
          clear O1 B1
          refine wp_region_till (fun _ => True) (fun w' => w'.cell? ⟨g, 0, none⟩ = some (.int .i64 0) ∧ w'.cell? ⟨g, 1, none⟩ = some (.int .i64 1)) 15 18 #[false, false, false, false, false, false, false, false, false, false, false, false, false, false, false, false, false, false] (by kernel_rfl) rfl rfl ⟨trivial, c0, c1⟩ (fun hHeld => ?_)
          refine wpTill_take false (i := 0) (v := ?_) rfl (by kernel_rfl) (by kernel_rfl) (by kernel_rfl) (fun _ _ _ h => h) (by kernel_rfl) (Or.inl ⟨by kernel_rfl, ?_⟩) hHeld (fun hHeld => ?_)
          rotate_left
          · (intro w' hSw; obtain ⟨-, r3⟩ := hSw; (try (obtain ⟨r4, r5⟩ := r3 rfl)); clear r3; go_simp; try with_reducible rfl)
          try simp only [Act.put, List.setIfInBounds_toArray, List.set_cons_zero, List.set_cons_succ, List.getElem_toArray, List.getElem_cons_succ, List.getElem_cons_zero]
          refine wpTill_take false (i := 1) (v := ?_) rfl (by kernel_rfl) (by kernel_rfl) (by kernel_rfl) (fun _ _ _ h => h) (by kernel_rfl) (Or.inl ⟨by kernel_rfl, ?_⟩) hHeld (fun hHeld => ?_)
          rotate_left
          · (intro w' hSw; obtain ⟨-, r3⟩ := hSw; (try (obtain ⟨r4, r5⟩ := r3 rfl)); clear r3; go_simp; try with_reducible rfl)
          try simp only [Act.put, List.setIfInBounds_toArray, List.set_cons_zero, List.set_cons_succ, List.getElem_toArray, List.getElem_cons_succ, List.getElem_cons_zero]
          refine wpTill_take false (i := 2) (v := ?_) rfl (by kernel_rfl) (by kernel_rfl) (by kernel_rfl) (fun _ _ _ h => h) (by kernel_rfl) (Or.inl ⟨by kernel_rfl, ?_⟩) hHeld (fun hHeld => ?_)
          rotate_left
          · (intro w' hSw; obtain ⟨-, r3⟩ := hSw; (try (obtain ⟨r4, r5⟩ := r3 rfl)); clear r3; go_simp; try with_reducible rfl)
          try simp only [Act.put, List.setIfInBounds_toArray, List.set_cons_zero, List.set_cons_succ, List.getElem_toArray, List.getElem_cons_succ, List.getElem_cons_zero]
          refine wpTill_take false (i := 3) (v := ?_) rfl (by kernel_rfl) (by kernel_rfl) (by kernel_rfl) (fun _ _ _ h => h) (by kernel_rfl) (Or.inl ⟨by kernel_rfl, ?_⟩) hHeld (fun hHeld => ?_)
          rotate_left
          · (intro w' hSw; obtain ⟨-, r3⟩ := hSw; (try (obtain ⟨r4, r5⟩ := r3 rfl)); clear r3; go_simp; try with_reducible rfl)
          try simp only [Act.put, List.setIfInBounds_toArray, List.set_cons_zero, List.set_cons_succ, List.getElem_toArray, List.getElem_cons_succ, List.getElem_cons_zero]
          refine wpTill_take false (i := 4) (v := ?_) rfl (by kernel_rfl) (by kernel_rfl) (by kernel_rfl) (fun _ _ _ h => h) (by kernel_rfl) (Or.inl ⟨by kernel_rfl, ?_⟩) hHeld (fun hHeld => ?_)
          rotate_left
          · (intro w' hSw; obtain ⟨-, r3⟩ := hSw; (try (obtain ⟨r4, r5⟩ := r3 rfl)); clear r3; go_simp; try with_reducible rfl)
          try simp only [Act.put, List.setIfInBounds_toArray, List.set_cons_zero, List.set_cons_succ, List.getElem_toArray, List.getElem_cons_succ, List.getElem_cons_zero]
          refine wpTill_take false (i := 5) (v := ?_) rfl (by kernel_rfl) (by kernel_rfl) (by kernel_rfl) (fun _ _ _ h => h) (by kernel_rfl) (Or.inl ⟨by kernel_rfl, ?_⟩) hHeld (fun hHeld => ?_)
          rotate_left
          · (intro w' hSw; obtain ⟨-, r3⟩ := hSw; (try (obtain ⟨r4, r5⟩ := r3 rfl)); clear r3; go_simp; try with_reducible rfl)
          try simp only [Act.put, List.setIfInBounds_toArray, List.set_cons_zero, List.set_cons_succ, List.getElem_toArray, List.getElem_cons_succ, List.getElem_cons_zero]
          refine wpTill_take false (i := 6) (v := ?_) rfl (by kernel_rfl) (by kernel_rfl) (by kernel_rfl) (fun _ _ _ h => h) (by kernel_rfl) (Or.inl ⟨by kernel_rfl, ?_⟩) hHeld (fun hHeld => ?_)
          rotate_left
          · (intro w' hSw; obtain ⟨-, r3⟩ := hSw; (try (obtain ⟨r4, r5⟩ := r3 rfl)); clear r3; go_simp; try with_reducible rfl)
          try simp only [Act.put, List.setIfInBounds_toArray, List.set_cons_zero, List.set_cons_succ, List.getElem_toArray, List.getElem_cons_succ, List.getElem_cons_zero]
          refine wpTill_take false (i := 7) (v := ?_) rfl (by kernel_rfl) (by kernel_rfl) (by kernel_rfl) (fun _ _ _ h => h) (by kernel_rfl) (Or.inl ⟨by kernel_rfl, ?_⟩) hHeld (fun hHeld => ?_)
          rotate_left
          · (intro w' hSw; obtain ⟨-, r3⟩ := hSw; (try (obtain ⟨r4, r5⟩ := r3 rfl)); clear r3; go_simp; try with_reducible rfl)
          try simp only [Act.put, List.setIfInBounds_toArray, List.set_cons_zero, List.set_cons_succ, List.getElem_toArray, List.getElem_cons_succ, List.getElem_cons_zero]
          refine wpTill_take false (i := 8) (v := ?_) rfl (by kernel_rfl) (by kernel_rfl) (by kernel_rfl) (fun _ _ _ h => h) (by kernel_rfl) (Or.inl ⟨by kernel_rfl, ?_⟩) hHeld (fun hHeld => ?_)
          rotate_left
          · (intro w' hSw; obtain ⟨-, r3⟩ := hSw; (try (obtain ⟨r4, r5⟩ := r3 rfl)); clear r3; go_simp; try with_reducible rfl)
          try simp only [Act.put, List.setIfInBounds_toArray, List.set_cons_zero, List.set_cons_succ, List.getElem_toArray, List.getElem_cons_succ, List.getElem_cons_zero]
          refine wpTill_take true (i := 9) (v := ?_) rfl (by kernel_rfl) (by kernel_rfl) (by kernel_rfl) (fun _ _ _ h => h) (by kernel_rfl) (Or.inl ⟨by kernel_rfl, ?_⟩) hHeld (fun hHeld => ?_)
          rotate_left
          · (intro w' hSw; obtain ⟨-, r3⟩ := hSw; (try (obtain ⟨r4, r5⟩ := r3 rfl)); clear r3; go_simp; try with_reducible rfl)
          try simp only [Act.put, List.setIfInBounds_toArray, List.set_cons_zero, List.set_cons_succ, List.getElem_toArray, List.getElem_cons_succ, List.getElem_cons_zero]
          refine wpTill_take false (i := 10) (v := ?_) rfl (by kernel_rfl) (by kernel_rfl) (by kernel_rfl) (fun _ _ _ h => h) (by kernel_rfl) (Or.inl ⟨by kernel_rfl, ?_⟩) hHeld (fun hHeld => ?_)
          rotate_left
          · (intro w' hSw; obtain ⟨-, r3⟩ := hSw; (try (obtain ⟨r4, r5⟩ := r3 rfl)); clear r3; go_simp; try with_reducible rfl)
          try simp only [Act.put, List.setIfInBounds_toArray, List.set_cons_zero, List.set_cons_succ, List.getElem_toArray, List.getElem_cons_succ, List.getElem_cons_zero]
          refine wpTill_take false (i := 11) (v := ?_) rfl (by kernel_rfl) (by kernel_rfl) (by kernel_rfl) (fun _ _ _ h => h) (by kernel_rfl) (Or.inl ⟨by kernel_rfl, ?_⟩) hHeld (fun hHeld => ?_)
          rotate_left
          · (intro w' hSw; obtain ⟨-, r3⟩ := hSw; (try (obtain ⟨r4, r5⟩ := r3 rfl)); clear r3; go_simp; try with_reducible rfl)
          try simp only [Act.put, List.setIfInBounds_toArray, List.set_cons_zero, List.set_cons_succ, List.getElem_toArray, List.getElem_cons_succ, List.getElem_cons_zero]
          refine wpTill_take false (i := 12) (v := ?_) rfl (by kernel_rfl) (by kernel_rfl) (by kernel_rfl) (fun _ _ _ h => h) (by kernel_rfl) (Or.inl ⟨by kernel_rfl, ?_⟩) hHeld (fun hHeld => ?_)
          rotate_left
          · (intro w' hSw; obtain ⟨-, r3⟩ := hSw; (try (obtain ⟨r4, r5⟩ := r3 rfl)); clear r3; go_simp; try with_reducible rfl)
          try simp only [Act.put, List.setIfInBounds_toArray, List.set_cons_zero, List.set_cons_succ, List.getElem_toArray, List.getElem_cons_succ, List.getElem_cons_zero]
          refine wpTill_take true (i := 13) (v := ?_) rfl (by kernel_rfl) (by kernel_rfl) (by kernel_rfl) (fun _ _ _ h => h) (by kernel_rfl) (Or.inl ⟨by kernel_rfl, ?_⟩) hHeld (fun hHeld => ?_)
          rotate_left
          · (intro w' hSw; obtain ⟨-, r3⟩ := hSw; (try (obtain ⟨r4, r5⟩ := r3 rfl)); clear r3; go_simp; try with_reducible rfl)
          try simp only [Act.put, List.setIfInBounds_toArray, List.set_cons_zero, List.set_cons_succ, List.getElem_toArray, List.getElem_cons_succ, List.getElem_cons_zero]
          refine wpTill_take false (i := 14) (v := ?_) rfl (by kernel_rfl) (by kernel_rfl) (by kernel_rfl) (fun _ _ _ h => h) (by kernel_rfl) (Or.inl ⟨by kernel_rfl, ?_⟩) hHeld (fun hHeld => ?_)
          rotate_left
          · (intro w' hSw; obtain ⟨-, r3⟩ := hSw; (try (obtain ⟨r4, r5⟩ := r3 rfl)); clear r3; go_simp; try with_reducible rfl)
          try simp only [Act.put, List.setIfInBounds_toArray, List.set_cons_zero, List.set_cons_succ, List.getElem_toArray, List.getElem_cons_succ, List.getElem_cons_zero]
          refine wpTill_one (i := 15) (by kernel_rfl) rfl (fun K hK => ?_)
          rw [if_pos (by kernel_rfl)]
          go_simp
          refine hK _ _ ⟨trivial, fun h => (by cases h)⟩ (fun hHeld => ?_)
          clear hK K
          refine wpTill_take false (i := 16) (v := ?_) rfl (by kernel_rfl) (by kernel_rfl) (by kernel_rfl) (fun _ _ _ h => h) (by kernel_rfl) (Or.inl ⟨by kernel_rfl, ?_⟩) hHeld (fun hHeld => ?_)
          rotate_left
          · (intro w' hSw; obtain ⟨-, r3⟩ := hSw; (try (obtain ⟨r4, r5⟩ := r3 rfl)); clear r3; go_simp; try with_reducible rfl)
          try simp only [Act.put, List.setIfInBounds_toArray, List.set_cons_zero, List.set_cons_succ, List.getElem_toArray, List.getElem_cons_succ, List.getElem_cons_zero]
          refine wpTill_one (i := 17) (by kernel_rfl) rfl (fun K hK => ?_)
          rw [if_pos (by kernel_rfl)]
          go_simp
          refine hK _ _ ⟨trivial, fun h => (by cases h)⟩ (fun hHeld => ?_)
          clear hK K
          refine wpTill_done (by kernel_rfl) ?_ 0
          clear hHeld
          go_wp2_with fail
          go_roundw
          case rel => exact .inr ⟨rfl, HS⟩
          case measure => simp [intOf]
        · go_wp2_with fail
          go_quiet (fail)
          go_wp2_with fail
          go_roundw
          case rel => exact .inr ⟨rfl, swd_drewN HS _⟩
          case measure => simp [intOf]
    · go_wp2_with fail
      refine bodyPost_end (v := .tuple #[]) ?_ rfl ⟨rfl, HS.out⟩
      simp [results, Try.results168, go_sem]
end Go.Proofs.Ytgkahcchekiogaa.Rth
