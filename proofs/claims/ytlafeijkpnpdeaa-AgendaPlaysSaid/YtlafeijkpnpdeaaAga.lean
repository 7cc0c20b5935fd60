/- Package agenda: how entries stand; entries' cells. -/
import Derived.Deep.RegionLaw
import Derived.Deep.AppendLies
import Derived.Deep.DrawnRows
import Derived.Test.YtlafeijkpnpdeaaKit
import Derived.Test.YtlafeijkpnpdeaaAlt
import Derived.Test.YtlafeijkpnpdeaaHeldT
import Derived.Test.YtlafeijkpnpdeaaCls
import Derived.Test.YtlafeijkpnpdeaaAgp
namespace Go.Proofs.Ytlafeijkpnpdeaa.Aga
open Go.RowKit Base Kit Alt Held Agp
set_option linter.unusedVariables false
set_option linter.unusedSimpArgs false
attribute [local go_sem ↓] Go.wp_at_zero Go.wp_at_succ
theorem nan_any (x : Int) (w : World) : Calls Try.prog 39 #[.int .i64 x] w fun e w' => e = .returned (.bool false) ∧ w = w' := by
  go_enter Try.func39, Try.ntmps39
  go_wp2_with fail
  go_ret
  exact ⟨ret_bool (by simp), rfl⟩
def cmpI (x y : Int) : Int := if x < y then -1 else if y < x then 1 else 0
set_option maxHeartbeats 1000000 in
theorem cmp_any (x y : Int) (w : World) : Calls Try.prog 33 #[.int .i64 x, .int .i64 y] w fun e w' => e = .returned (.int .i64 (cmpI x y)) ∧ w = w' := by
  have C := Lib.hid (fun w => nan_any x w)
  have D := Lib.hid (fun w => nan_any y w)
  have ways : (x < y ∧ cmpI x y = -1) ∨ (y < x ∧ cmpI x y = 1) ∨ (x = y ∧ cmpI x y = 0) := by unfold cmpI; (repeat' split) <;> omega
  rcases ways with ⟨h, e9⟩ | ⟨h, e9⟩ | ⟨h, e9⟩
  · rw [e9]
    clear e9
    go_enter Try.func33, Try.ntmps33
    go_wp2_with fail
    refine (C.out _).mono ?_
    rintro e1 w5 ⟨rfl, e8⟩
    cases e8
    go_wp2_with fail
    refine (D.out _).mono ?_
    rintro e1 w5 ⟨rfl, e8⟩
    cases e8
    go_wp2_with fail
    go_ret
    exact ⟨rfl, rfl⟩
  · rw [e9]
    clear e9
    go_enter Try.func33, Try.ntmps33
    go_wp2_with fail
    refine (C.out _).mono ?_
    rintro e1 w5 ⟨rfl, e8⟩
    cases e8
    go_wp2_with fail
    refine (D.out _).mono ?_
    rintro e1 w5 ⟨rfl, e8⟩
    cases e8
    go_wp2_with fail
    go_ret
    exact ⟨rfl, rfl⟩
  · rw [e9]
    clear e9
    subst h
    go_enter Try.func33, Try.ntmps33
    go_wp2_with fail
    refine (C.out _).mono ?_
    rintro e1 w5 ⟨rfl, e8⟩
    cases e8
    go_wp2_with fail
    refine (D.out _).mono ?_
    rintro e1 w5 ⟨rfl, e8⟩
    cases e8
    go_wp2_with fail
    go_ret
    exact ⟨rfl, rfl⟩
def orI (x y : Int) : Int := if x = 0 then y else x
set_option maxHeartbeats 1000000 in
theorem or_any (g : Nat) (x y : Int) (w : World) (c0 : w.cell? ⟨g, 0, none⟩ = some (.int .i64 x)) (c1 : w.cell? ⟨g, 1, none⟩ = some (.int .i64 y)) :
    Calls Try.prog 32 #[.slice (some ⟨g, 0, none⟩) 2 2] w fun e w' => e = .returned (.int .i64 (orI x y)) ∧ w = w' := by
  have HX : Hid (x ≠ 0 → orI x y = x) := Lib.hid (fun h => if_neg h)
  have HY : Hid (x = 0 → orI x y = y) := Lib.hid (fun h => if_pos h)
  generalize orI x y = r at *
  go_enter Try.func32, Try.ntmps32
  go_wp2_with fail
  go_loopw [8] (fun i wr => ((i = .int .i64 0) ∨ (i = .int .i64 1 ∧ Hid (x = 0)) ∨ (i = .int .i64 2 ∧ Hid (x = 0) ∧ Hid (y = 0))) ∧ wr = w) (fun i _ => 2 - (intOf i).toNat)
  case atStart => exact ⟨.inl rfl, rfl⟩
  case round =>
    obtain ⟨hrel, rfl⟩ := hrel
    rcases hrel with rfl | ⟨rfl, H0⟩ | ⟨rfl, H0, H1⟩
    · by_cases hx : x = 0
      · have HZ := Lib.hid hx
        have hx' : (x != 0) = false := by simpa using hx
        clear hx
        go_wp2_with fail
        go_roundw
        case rel => exact ⟨.inr (.inl ⟨rfl, HZ⟩), trivial⟩
        case measure => simp [intOf]
      · obtain rfl := HX.out hx
        have hx' : (r != 0) = true := by simpa using hx
        clear hx HX HY
        go_wp2_with fail
        go_ret
        exact ⟨rfl, rfl⟩
    · obtain rfl := HY.out H0.out
      clear HX HY
      by_cases hx : r = 0
      · have HZ := Lib.hid hx
        have hx' : (r != 0) = false := by simpa using hx
        clear hx
        go_wp2_with fail
        go_roundw
        case rel => exact ⟨.inr (.inr ⟨rfl, H0, HZ⟩), trivial⟩
        case measure => simp [intOf]
      · have hx' : (r != 0) = true := by simpa using hx
        clear hx
        go_wp2_with fail
        go_ret
        exact ⟨rfl, rfl⟩
    · have e := HY.out H0.out
      rw [H1.out] at e
      subst e
      clear HX HY
      go_wp2_with fail
      go_ret
      exact ⟨rfl, rfl⟩
def ordI (x y : E) : Int := orI (cmpI x.1 y.1) (cmpI x.2.1 y.2.1)
theorem ord_le (x y : E) : ordI x y ≤ 0 ↔ le x y := by unfold ordI orI cmpI le; (repeat' split) <;> omega
theorem ord_lt (x y : E) : ordI x y < 0 ↔ lt x y := by unfold ordI orI cmpI lt; (repeat' split) <;> omega
/-- an entry's cells -/
def ev (e : E) : List Value := [.int .i64 e.1, .int .i64 e.2.1, .int .i64 e.2.2]
theorem box_new1 (w : World) (o : Obj) (vs : Array Value) (T : TypeId) : Box ((w.alloc o).alloc (.cells vs T)) (w.heap.size + 1) vs T := by
  have := Box.new (w.alloc o) vs T
  rwa [show (w.alloc o).heap.size = w.heap.size + 1 from by simp] at this
set_option maxRecDepth 100000 in
set_option maxHeartbeats 2000000 in
theorem order_any (x0 x1 x2 y0 y1 y2 r : Int) (w : World) (hr : Hid (ordI (x0, x1, x2) (y0, y1, y2) = r)) :
    Calls Try.prog 26 #[.agg #[.int .i64 x0, .int .i64 x1, .int .i64 x2], .agg #[.int .i64 y0, .int .i64 y1, .int .i64 y2]] w fun e w' => e = .returned (.int .i64 r) ∧ Below w.heap.size w w' := by
  have C1 := Lib.hid (fun w => cmp_any x0 y0 w)
  have C2 := Lib.hid (fun w => cmp_any x1 y1 w)
  have C3 := Lib.hid (fun g w c0 c1 => or_any g (cmpI x0 y0) (cmpI x1 y1) w c0 c1)
  have hr := hr.out
  unfold ordI at hr
  dsimp only at hr
  rw [hr] at C3
  clear hr
  generalize cmpI x0 y0 = u at *
  generalize cmpI x1 y1 = v at *
  have X := Lib.hid ((Box.new w #[.int .i64 x0, .int .i64 x1, .int .i64 x2] 33).alloc (.cells #[.int .i64 y0, .int .i64 y1, .int .i64 y2] 33))
  have Y := Lib.hid (box_new1 w (.cells #[.int .i64 x0, .int .i64 x1, .int .i64 x2] 33) #[.int .i64 y0, .int .i64 y1, .int .i64 y2] 33)
  have HB := Lib.hid (((Below.refl w.heap.size w).alloc (Nat.le_refl _) (.cells #[.int .i64 x0, .int .i64 x1, .int .i64 x2] 33)).alloc (by simp) (.cells #[.int .i64 y0, .int .i64 y1, .int .i64 y2] 33))
  have xc := X.out.cell
  have yc := Y.out.cell
  go_enter Try.func26, Try.ntmps26
  go_wp2_with fail
  generalize (w.alloc (.cells #[.int .i64 x0, .int .i64 x1, .int .i64 x2] 33)).alloc (.cells #[.int .i64 y0, .int .i64 y1, .int .i64 y2] 33) = W at *
  replace X := Lib.hid X.out.drew
  replace Y := Lib.hid Y.out.drew
  replace HB := Lib.hid HB.out.drew
  refine wp_region_till (fun w' => (∀ i, w'.cell? ⟨w.heap.size, i, none⟩ = (#[.int .i64 x0, .int .i64 x1, .int .i64 x2] : Array Value)[i]?) ∧ ∀ i, w'.cell? ⟨w.heap.size + 1, i, none⟩ = (#[.int .i64 y0, .int .i64 y1, .int .i64 y2] : Array Value)[i]?) (fun _ => True) 11 13 #[false, false, false, false, false, false, false, false, false, false, false, false, false] (by kernel_rfl) rfl rfl ⟨⟨X.out.cell, Y.out.cell⟩, trivial⟩ (fun hHeld => ?_)
  generalize W.drew = W2 at *
  clear xc yc
  refine HeldT.wpTill_takeT false (i := 0) (v := ?_) rfl (by kernel_rfl) (by kernel_rfl) (by kernel_rfl) (fun _ _ _ h => h) (by kernel_rfl) (Or.inl ⟨by first | rfl | kernel_rfl, ?_⟩) hHeld (fun hHeld => ?_)
  rotate_left
  · (intro w' hSw; obtain ⟨⟨r1, r2⟩, r3⟩ := hSw; (try have r4 := r3 rfl); (try dsimp only at r1 r2 r4); clear r3; go_simp; try with_reducible rfl)
  try simp only [Act.put, List.setIfInBounds_toArray, List.set_cons_zero, List.set_cons_succ, List.getElem_toArray, List.getElem_cons_succ, List.getElem_cons_zero]
  refine HeldT.wpTill_takeT false (i := 1) (v := ?_) rfl (by kernel_rfl) (by kernel_rfl) (by kernel_rfl) (fun _ _ _ h => h) (by kernel_rfl) (Or.inl ⟨by first | rfl | kernel_rfl, ?_⟩) hHeld (fun hHeld => ?_)
  rotate_left
  · (intro w' hSw; obtain ⟨⟨r1, r2⟩, r3⟩ := hSw; (try have r4 := r3 rfl); (try dsimp only at r1 r2 r4); clear r3; go_simp; try with_reducible rfl)
  try simp only [Act.put, List.setIfInBounds_toArray, List.set_cons_zero, List.set_cons_succ, List.getElem_toArray, List.getElem_cons_succ, List.getElem_cons_zero]
  refine HeldT.wpTill_takeT false (i := 2) (v := ?_) rfl (by kernel_rfl) (by kernel_rfl) (by kernel_rfl) (fun _ _ _ h => h) (by kernel_rfl) (Or.inl ⟨by first | rfl | kernel_rfl, ?_⟩) hHeld (fun hHeld => ?_)
  rotate_left
  · (intro w' hSw; obtain ⟨⟨r1, r2⟩, r3⟩ := hSw; (try have r4 := r3 rfl); (try dsimp only at r1 r2 r4); clear r3; go_simp; try with_reducible rfl)
  try simp only [Act.put, List.setIfInBounds_toArray, List.set_cons_zero, List.set_cons_succ, List.getElem_toArray, List.getElem_cons_succ, List.getElem_cons_zero]
  refine HeldT.wpTill_takeT false (i := 3) (v := ?_) rfl (by kernel_rfl) (by kernel_rfl) (by kernel_rfl) (fun _ _ _ h => h) (by kernel_rfl) (Or.inl ⟨by first | rfl | kernel_rfl, ?_⟩) hHeld (fun hHeld => ?_)
  rotate_left
  · (intro w' hSw; obtain ⟨⟨r1, r2⟩, r3⟩ := hSw; (try have r4 := r3 rfl); (try dsimp only at r1 r2 r4); clear r3; go_simp; try with_reducible rfl)
  try simp only [Act.put, List.setIfInBounds_toArray, List.set_cons_zero, List.set_cons_succ, List.getElem_toArray, List.getElem_cons_succ, List.getElem_cons_zero]
  refine HeldT.wpTill_takeT false (i := 5) (v := ?_) rfl (by kernel_rfl) (by kernel_rfl) (by kernel_rfl) (fun _ _ _ h => h) (by kernel_rfl) (Or.inl ⟨by first | rfl | kernel_rfl, ?_⟩) hHeld (fun hHeld => ?_)
  rotate_left
  · (intro w' hSw; obtain ⟨⟨r1, r2⟩, r3⟩ := hSw; (try have r4 := r3 rfl); (try dsimp only at r1 r2 r4); clear r3; go_simp; try with_reducible rfl)
  try simp only [Act.put, List.setIfInBounds_toArray, List.set_cons_zero, List.set_cons_succ, List.getElem_toArray, List.getElem_cons_succ, List.getElem_cons_zero]
  refine HeldT.wpTill_takeT false (i := 6) (v := ?_) rfl (by kernel_rfl) (by kernel_rfl) (by kernel_rfl) (fun _ _ _ h => h) (by kernel_rfl) (Or.inl ⟨by first | rfl | kernel_rfl, ?_⟩) hHeld (fun hHeld => ?_)
  rotate_left
  · (intro w' hSw; obtain ⟨⟨r1, r2⟩, r3⟩ := hSw; (try have r4 := r3 rfl); (try dsimp only at r1 r2 r4); clear r3; go_simp; try with_reducible rfl)
  try simp only [Act.put, List.setIfInBounds_toArray, List.set_cons_zero, List.set_cons_succ, List.getElem_toArray, List.getElem_cons_succ, List.getElem_cons_zero]
  refine HeldT.wpTill_takeT false (i := 7) (v := ?_) rfl (by kernel_rfl) (by kernel_rfl) (by kernel_rfl) (fun _ _ _ h => h) (by kernel_rfl) (Or.inl ⟨by first | rfl | kernel_rfl, ?_⟩) hHeld (fun hHeld => ?_)
  rotate_left
  · (intro w' hSw; obtain ⟨⟨r1, r2⟩, r3⟩ := hSw; (try have r4 := r3 rfl); (try dsimp only at r1 r2 r4); clear r3; go_simp; try with_reducible rfl)
  try simp only [Act.put, List.setIfInBounds_toArray, List.set_cons_zero, List.set_cons_succ, List.getElem_toArray, List.getElem_cons_succ, List.getElem_cons_zero]
  refine HeldT.wpTill_takeT false (i := 8) (v := ?_) rfl (by kernel_rfl) (by kernel_rfl) (by kernel_rfl) (fun _ _ _ h => h) (by kernel_rfl) (Or.inl ⟨by first | rfl | kernel_rfl, ?_⟩) hHeld (fun hHeld => ?_)
  rotate_left
  · (intro w' hSw; obtain ⟨⟨r1, r2⟩, r3⟩ := hSw; (try have r4 := r3 rfl); (try dsimp only at r1 r2 r4); clear r3; go_simp; try with_reducible rfl)
  try simp only [Act.put, List.setIfInBounds_toArray, List.set_cons_zero, List.set_cons_succ, List.getElem_toArray, List.getElem_cons_succ, List.getElem_cons_zero]
  refine wpTill_one (i := 4) (by kernel_rfl) rfl (fun K hK => ?_)
  rw [if_pos (by kernel_rfl)]
  go_simp
  refine (C1.out _).mono ?_
  rintro e w7 ⟨rfl, e9⟩
  cases e9
  refine hK _ _ ⟨⟨X.out.cell, Y.out.cell⟩, fun _ => trivial⟩ (fun hHeld => ?_)
  clear hK K
  try simp only [Act.put, List.setIfInBounds_toArray, List.set_cons_zero, List.set_cons_succ, List.getElem_toArray, List.getElem_cons_succ, List.getElem_cons_zero]
  refine wpTill_one (i := 9) (by kernel_rfl) rfl (fun K hK => ?_)
  rw [if_pos (by kernel_rfl)]
  go_simp
  refine (C2.out _).mono ?_
  rintro e w7 ⟨rfl, e9⟩
  cases e9
  refine hK _ _ ⟨⟨X.out.cell, Y.out.cell⟩, fun _ => trivial⟩ (fun hHeld => ?_)
  clear hK K
  try simp only [Act.put, List.setIfInBounds_toArray, List.set_cons_zero, List.set_cons_succ, List.getElem_toArray, List.getElem_cons_succ, List.getElem_cons_zero]
  refine wpTill_one (i := 10) (by kernel_rfl) rfl (fun K hK => ?_)
  go_simp
  refine hK _ _ ⟨⟨(X.out.alloc _).cell, (Y.out.alloc _).cell⟩, fun _ => trivial⟩ (fun hHeld => ?_)
  clear hK K
  refine wpTill_one (i := 11) (by kernel_rfl) rfl (fun K hK => ?_)
  rw [if_pos (by kernel_rfl)]
  go_simp
  refine (C3.out _ _ ((Box.new _ _ _).cell 0) ((Box.new _ _ _).cell 1)).mono ?_
  rintro e w7 ⟨rfl, e9⟩
  cases e9
  refine hK _ _ ⟨⟨(X.out.alloc _).cell, (Y.out.alloc _).cell⟩, fun _ => trivial⟩ (fun hHeld => ?_)
  clear hK K
  try simp only [Act.put, List.setIfInBounds_toArray, List.set_cons_zero, List.set_cons_succ, List.getElem_toArray, List.getElem_cons_succ, List.getElem_cons_zero]
  refine HeldT.wpTill_takeT false (i := 12) (v := ?_) rfl (by kernel_rfl) (by kernel_rfl) (by kernel_rfl) (fun _ _ _ h => h) (by kernel_rfl) (Or.inl ⟨by first | rfl | kernel_rfl, ?_⟩) hHeld (fun hHeld => ?_)
  rotate_left
  · (intro w' hSw; obtain ⟨⟨r1, r2⟩, r3⟩ := hSw; (try have r4 := r3 rfl); (try dsimp only at r1 r2 r4); clear r3; go_simp; try with_reducible rfl)
  try simp only [Act.put, List.setIfInBounds_toArray, List.set_cons_zero, List.set_cons_succ, List.getElem_toArray, List.getElem_cons_succ, List.getElem_cons_zero]
  refine wpTill_done (by kernel_rfl) ?_ 0
  clear hHeld
  go_wp2_with fail
  go_ret
  exact ⟨rfl, HB.out.alloc (by have := HB.out.size; omega) _⟩
end Go.Proofs.Ytlafeijkpnpdeaa.Aga
