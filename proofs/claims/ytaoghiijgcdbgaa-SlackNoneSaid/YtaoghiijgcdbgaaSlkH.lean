/- The law SlackNone. -/
import Derived.Test.YtaoghiijgcdbgaaSlkE
namespace Go.Proofs.Ytaoghiijgcdbgaa.SlkH
open Go.RowKit Base Kit WideA Alt RefA SlkA SlkB SlkC SlkD SlkE
set_option linter.unusedVariables false
set_option linter.unusedSimpArgs false

/-- nothing lies behind v -/
def Nothing (w : World) (v : Option Addr) : Prop := v = none ∨ ∃ b, v = some ⟨b, 0, none⟩ ∧ w.cell? ⟨b, 2, none⟩ = some (.bool false)
theorem find0 (w : World) (v : Option Addr) (p : Int) (D : Nothing w v) :
    Calls Try.prog 33 #[.pointer v, .int .i64 p] w fun e w' => e = .returned (.pointer none) ∧ w = w' := by
  rcases D with rfl | ⟨b, rfl, c2⟩
  all_goals
    go_enter Try.func33, Try.ntmps33
    go_wp2_with fail
    go_ret
    exact ⟨rfl, rfl⟩
theorem left0 (w : World) (v : Option Addr) (D : Nothing w v) :
    Calls Try.prog 13 #[.pointer v] w fun e w' => e = .returned (.int .i64 0) ∧ w = w' := by
  rcases D with rfl | ⟨b, rfl, c2⟩
  all_goals
    go_enter Try.func13, Try.ntmps13
    go_wp2_with fail
    go_ret
    exact ⟨rfl, rfl⟩
theorem room0 (w : World) (v : Option Addr) (D : Nothing w v) :
    Calls Try.prog 16 #[.pointer v] w fun e w' => e = .returned (.int .i64 0) ∧ w = w' := by
  rcases D with rfl | ⟨b, rfl, c2⟩
  all_goals
    go_enter Try.func16, Try.ntmps16
    go_wp2_with fail
    go_ret
    exact ⟨rfl, rfl⟩
theorem of0 (w : World) (v : Option Addr) (p : Int) (D : Nothing w v) :
    Calls Try.prog 17 #[.pointer v, .int .i64 p] w fun e w' => e = .returned (.int .i64 0) ∧ w = w' := by
  go_enter Try.func17, Try.ntmps17
  go_wp2_with fail
  refine (find0 w v p D).mono ?_
  rintro e w' ⟨rfl, rfl⟩
  go_wp2_with fail
  go_ret
  exact ⟨rfl, rfl⟩
theorem spend0 (w : World) (v : Option Addr) (p c : Int) (D : Nothing w v) :
    Calls Try.prog 15 #[.pointer v, .int .i64 p, .int .i64 c] w fun e w' => e = .returned (.int .i64 0) ∧ w = w' := by
  go_enter Try.func15, Try.ntmps15
  go_wp2_with fail
  refine (find0 w v p D).mono ?_
  rintro e w' ⟨rfl, rfl⟩
  go_wp2_with fail
  go_ret
  exact ⟨rfl, rfl⟩
theorem finish0 (w : World) (v : Option Addr) (p : Int) (D : Nothing w v) :
    Calls Try.prog 14 #[.pointer v, .int .i64 p] w fun e w' => e = .returned (.int .i64 0) ∧ w = w' := by
  go_enter Try.func14, Try.ntmps14
  go_wp2_with fail
  refine (find0 w v p D).mono ?_
  rintro e w' ⟨rfl, rfl⟩
  go_wp2_with fail
  go_ret
  exact ⟨rfl, rfl⟩
theorem again0 (w : World) (v : Option Addr) (p : Int) (D : Nothing w v) :
    Calls Try.prog 21 #[.pointer v, .int .i64 p] w fun e w' => (∃ r, e = .returned r) ∧ w = w' := by
  go_enter Try.func21, Try.ntmps21
  go_wp2_with fail
  refine (find0 w v p D).mono ?_
  rintro e w' ⟨rfl, rfl⟩
  go_wp2_with fail
  go_end0
  exact ⟨⟨_, rfl⟩, rfl⟩
/-- what stays: the row of two, and the slack that no call made -/
structure St0 (w0 w : World) : Prop where
  bel : Below w0.heap.size w0 w
  z : Box w w0.heap.size #[.int .i64 0, .slice none 0 0, .bool false] 48
  l : Box w (w0.heap.size + 1) #[.pointer none, .pointer (some ⟨w0.heap.size, 0, none⟩)] 32
theorem st0_next {w0 w w1 : World} (h : Hid (St0 w0 w)) (k : Below w.heap.size w w1) : Hid (St0 w0 w1) := Lib.hid ⟨below_next h.out.bel k, h.out.z.next k, h.out.l.next k⟩
theorem st0_nil (w : World) : Nothing w none := .inl rfl
theorem st0_zero {w0 w : World} (h : Hid (St0 w0 w)) : Nothing w (some ⟨w0.heap.size, 0, none⟩) := .inr ⟨_, rfl, by rw [h.out.z.cell]; rfl⟩
theorem st0_drewN {w0 w : World} (h : Hid (St0 w0 w)) (m : Nat) : Hid (St0 w0 (w.drewN m)) := st0_next h ⟨rfl, rfl, rfl, Nat.le_refl _, fun _ _ => rfl⟩

set_option maxRecDepth 100000 in
set_option maxHeartbeats 4000000 in
theorem none_law (p c : Int) (w : World) (i0 : I64 p) (i1 : I64 c) :
    Calls Try.prog 6 #[.int .i64 p, .int .i64 c] w fun e w' => e = .returned (.bool true) ∧ Below w.heap.size w w' := by
  have S : Hid (St0 w ((w.alloc (.cells #[.int .i64 0, .slice none 0 0, .bool false] 48)).alloc (.cells #[.pointer none, .pointer (some ⟨w.heap.size, 0, none⟩)] 32))) := by
    have b2 := Box.new (w.alloc (.cells #[.int .i64 0, .slice none 0 0, .bool false] 48)) #[.pointer none, .pointer (some ⟨w.heap.size, 0, none⟩)] 32
    rw [World.size_alloc] at b2
    exact Lib.hid ⟨((Below.refl _ _).alloc (Nat.le_refl _) _).alloc (by simp) _, (Box.new _ _ _).alloc _, b2⟩
  go_enter Try.func6, Try.ntmps6
  go_wp2_with fail
  generalize (w.alloc (.cells #[.int .i64 0, .slice none 0 0, .bool false] 48)).alloc (.cells #[.pointer none, .pointer (some ⟨w.heap.size, 0, none⟩)] 32) = w1 at S ⊢
  refine wp_loop_rounds 3 ?_
  rw [rounds_succ]
  have rl := S.out.l.cell
  go_wp2_with fail
  refine (again0 _ none p (st0_nil _)).mono ?_
  rintro e1 w5 ⟨⟨v5, rfl⟩, rfl⟩
  go_wp2_with fail
  go_quiet ((first
    | (go_at_call 13; exact Calls.quiet_of_same ((left0 _ none (st0_nil _)).mono (fun e w' h => ⟨h.1, h.2.symm⟩)))
    | (go_at_call 17; exact Calls.quiet_of_same ((of0 _ none p (st0_nil _)).mono (fun e w' h => ⟨h.1, h.2.symm⟩)))
    | (go_at_call 16; exact Calls.quiet_of_same ((room0 _ none (st0_nil _)).mono (fun e w' h => ⟨h.1, h.2.symm⟩)))
    | (go_at_call 15; exact Calls.quiet_of_same ((spend0 _ none p c (st0_nil _)).mono (fun e w' h => ⟨h.1, h.2.symm⟩)))
    | (go_at_call 14; exact Calls.quiet_of_same ((finish0 _ none p (st0_nil _)).mono (fun e w' h => ⟨h.1, h.2.symm⟩)))))
  have S := st0_drewN S nq
  clear rl
  go_wp2_with fail
  generalize w1.drewN nq = w1 at S ⊢
  rw [rounds_succ]
  have rl := S.out.l.cell
  go_wp2_with fail
  refine (again0 _ (some ⟨w.heap.size, 0, none⟩) p (st0_zero S)).mono ?_
  rintro e1 w5 ⟨⟨v5, rfl⟩, rfl⟩
  go_wp2_with fail
  go_quiet ((first
    | (go_at_call 13; exact Calls.quiet_of_same ((left0 _ (some ⟨w.heap.size, 0, none⟩) (st0_zero (st0_drewN S _))).mono (fun e w' h => ⟨h.1, h.2.symm⟩)))
    | (go_at_call 17; exact Calls.quiet_of_same ((of0 _ (some ⟨w.heap.size, 0, none⟩) p (st0_zero (st0_drewN S _))).mono (fun e w' h => ⟨h.1, h.2.symm⟩)))
    | (go_at_call 16; exact Calls.quiet_of_same ((room0 _ (some ⟨w.heap.size, 0, none⟩) (st0_zero (st0_drewN S _))).mono (fun e w' h => ⟨h.1, h.2.symm⟩)))
    | (go_at_call 15; exact Calls.quiet_of_same ((spend0 _ (some ⟨w.heap.size, 0, none⟩) p c (st0_zero (st0_drewN S _))).mono (fun e w' h => ⟨h.1, h.2.symm⟩)))
    | (go_at_call 14; exact Calls.quiet_of_same ((finish0 _ (some ⟨w.heap.size, 0, none⟩) p (st0_zero (st0_drewN S _))).mono (fun e w' h => ⟨h.1, h.2.symm⟩)))))
  have S := st0_drewN S nq
  clear rl
  go_wp2_with fail
  generalize w1.drewN nq = w1 at S ⊢
  rw [rounds_succ]
  go_wp2_with fail
  refine (works_any _).mono ?_
  rintro e1 w7 ⟨rfl, hb7⟩
  go_wp2_with fail
  go_ret
  exact ⟨rfl, below_next S.out.bel hb7⟩
end Go.Proofs.Ytaoghiijgcdbgaa.SlkH
