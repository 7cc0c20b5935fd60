/- The law LedgerNone. -/
import Derived.Test.YteikliciijfmmaaLedW
namespace Go.Proofs.Yteikliciijfmmaa.LedZ
open Go.RowKit Base Kit WideA WideB Plain FitA FitB FitC Conf Conf2 Alt RefA LedA LedB LedC LedD Short FitR LedN LedE LedR LedS LedT LedW
set_option linter.unusedVariables false
set_option linter.unusedSimpArgs false

theorem dead_nil (w : World) : Calls Try.prog 66 #[.pointer none] w fun e w' => e = .returned (.bool true) ∧ w = w' := by
  go_enter Try.func66, Try.ntmps66
  go_wp2_with fail
  go_ret
  exact ⟨rfl, rfl⟩
theorem dead_zero (w : World) (b : Nat) (c6 : w.cell? ⟨b, 1, none⟩ = some (.bool false)) : Calls Try.prog 66 #[.pointer (some ⟨b, 0, none⟩)] w fun e w' => e = .returned (.bool true) ∧ w = w' := by
  go_enter Try.func66, Try.ntmps66
  go_wp2_with fail
  go_ret
  exact ⟨rfl, rfl⟩
/-- nothing lies behind v, in whatever world this one becomes -/
def Nothing (w : World) (v : Option Addr) : Prop := Calls Try.prog 66 #[.pointer v] w fun e w' => e = .returned (.bool true) ∧ w = w'
theorem find0 (w : World) (v : Option Addr) (p : Int) (D : Nothing w v) :
    Calls Try.prog 64 #[.pointer v, .int .i64 p] w fun e w' => e = .returned (.pointer none) ∧ w = w' := by
  go_enter Try.func64, Try.ntmps64
  go_wp2_with fail
  refine (show Calls _ _ _ _ _ from D).mono ?_
  rintro e w' ⟨rfl, rfl⟩
  go_wp2_with fail
  go_ret
  exact ⟨rfl, rfl⟩
theorem used0 (w : World) (v : Option Addr) (p : Int) (D : Nothing w v) :
    Calls Try.prog 31 #[.pointer v, .int .i64 p] w fun e w' => e = .returned (.int .i64 0) ∧ w = w' := by
  go_enter Try.func31, Try.ntmps31
  go_wp2_with fail
  refine (find0 w v p D).mono ?_
  rintro e w' ⟨rfl, rfl⟩
  go_wp2_with fail
  go_ret
  exact ⟨rfl, rfl⟩
theorem out0 (w : World) (v : Option Addr) (p : Int) (D : Nothing w v) :
    Calls Try.prog 47 #[.pointer v, .int .i64 p] w fun e w' => e = .returned (.bool true) ∧ w = w' := by
  go_enter Try.func47, Try.ntmps47
  go_wp2_with fail
  refine (find0 w v p D).mono ?_
  rintro e w' ⟨rfl, rfl⟩
  go_wp2_with fail
  go_ret
  exact ⟨rfl, rfl⟩
theorem piece0 (w : World) (v : Option Addr) (p x : Int) (D : Nothing w v) :
    Calls Try.prog 29 #[.pointer v, .int .i64 p, .int .i64 x] w fun e w' => e = .returned (.int .i64 0) ∧ w = w' := by
  go_enter Try.func29, Try.ntmps29
  go_wp2_with fail
  refine (find0 w v p D).mono ?_
  rintro e w' ⟨rfl, rfl⟩
  go_wp2_with fail
  go_ret
  exact ⟨rfl, rfl⟩
theorem spend0 (w : World) (v : Option Addr) (p x : Int) (D : Nothing w v) :
    Calls Try.prog 30 #[.pointer v, .int .i64 p, .int .i64 x] w fun e w' => e = .returned (.int .i64 1) ∧ w = w' := by
  go_enter Try.func30, Try.ntmps30
  go_wp2_with fail
  refine (find0 w v p D).mono ?_
  rintro e w' ⟨rfl, rfl⟩
  go_wp2_with fail
  refine (show Calls _ _ _ _ _ from D).mono ?_
  rintro e w' ⟨rfl, rfl⟩
  go_wp2_with fail
  go_ret
  exact ⟨rfl, rfl⟩
theorem all0 (w : World) (v : Option Addr) (D : Nothing w v) :
    Calls Try.prog 49 #[.pointer v] w fun e w' => e = .returned (.slice none 0 0) ∧ w = w' := by
  go_enter Try.func49, Try.ntmps49
  go_wp2_with fail
  refine (show Calls _ _ _ _ _ from D).mono ?_
  rintro e w' ⟨rfl, rfl⟩
  go_wp2_with fail
  go_ret
  exact ⟨rfl, rfl⟩
theorem refill0 (w : World) (v : Option Addr) (D : Nothing w v) :
    Calls Try.prog 46 #[.pointer v] w fun e w' => (∃ v, e = .returned v) ∧ w = w' := by
  go_enter Try.func46, Try.ntmps46
  go_wp2_with fail
  refine (show Calls _ _ _ _ _ from D).mono ?_
  rintro e w' ⟨rfl, rfl⟩
  go_wp2_with fail
  refine bodyPost_ret (results_none rfl _ _ _) rfl ?_
  exact ⟨⟨_, rfl⟩, rfl⟩
/-- what stays: the variable, the row of two, and the ledger that no call made -/
structure St0 (w0 w : World) (x0 x1 x2 : Int) : Prop where
  bel : Below w0.heap.size w0 w
  a : Box w w0.heap.size #[.int .i64 x0, .int .i64 x1, .int .i64 x2] 91
  z : Box w (w0.heap.size + 1) #[.slice none 0 0, .bool false] 97
  l : Box w (w0.heap.size + 1 + 1) #[.pointer none, .pointer (some ⟨w0.heap.size + 1, 0, none⟩)] 47
theorem st0_next {w0 w w1 : World} {x0 x1 x2 : Int} (h : Hid (St0 w0 w x0 x1 x2)) (k : Below w.heap.size w w1) : Hid (St0 w0 w1 x0 x1 x2) :=
  Lib.hid ⟨below_next h.out.bel k, h.out.a.next k, h.out.z.next k, h.out.l.next k⟩
theorem st0_zero {w0 w : World} {x0 x1 x2 : Int} (h : Hid (St0 w0 w x0 x1 x2)) : Nothing w (some ⟨w0.heap.size + 1, 0, none⟩) := dead_zero w _ (by rw [h.out.z.cell]; rfl)
theorem st0_drewN {w0 w : World} {x0 x1 x2 : Int} (h : Hid (St0 w0 w x0 x1 x2)) (m : Nat) : Hid (St0 w0 (w.drewN m) x0 x1 x2) := st0_next h ⟨rfl, rfl, rfl, Nat.le_refl _, fun _ _ => rfl⟩

set_option maxRecDepth 100000 in
set_option maxHeartbeats 4000000 in
theorem none_law (x0 x1 x2 : Int) (w : World) (i0 : I64 x0) (i1 : I64 x1) (i2 : I64 x2) :
    Calls Try.prog 12 #[.agg #[.int .i64 x0, .int .i64 x1, .int .i64 x2]] w fun e w' => e = .returned (.bool true) ∧ Below w.heap.size w w' := by
  have S : Hid (St0 w (((w.alloc (.cells #[.int .i64 x0, .int .i64 x1, .int .i64 x2] 91)).alloc (.cells #[.slice none 0 0, .bool false] 97)).alloc (.cells #[.pointer none, .pointer (some ⟨w.heap.size + 1, 0, none⟩)] 47)) x0 x1 x2) := by
    have b1 := Box.new (w.alloc (.cells #[.int .i64 x0, .int .i64 x1, .int .i64 x2] 91)) #[.slice none 0 0, .bool false] 97
    have b2 := Box.new ((w.alloc (.cells #[.int .i64 x0, .int .i64 x1, .int .i64 x2] 91)).alloc (.cells #[.slice none 0 0, .bool false] 97)) #[.pointer none, .pointer (some ⟨w.heap.size + 1, 0, none⟩)] 47
    rw [World.size_alloc] at b1
    rw [World.size_alloc, World.size_alloc] at b2
    exact Lib.hid ⟨(((Below.refl _ _).alloc (Nat.le_refl _) _).alloc (by simp) _).alloc (by simp; omega) _, ((Box.new _ _ _).alloc _).alloc _, b1.alloc _, b2⟩
  go_enter Try.func12, Try.ntmps12
  go_wp2_with fail
  generalize ((w.alloc (.cells #[.int .i64 x0, .int .i64 x1, .int .i64 x2] 91)).alloc (.cells #[.slice none 0 0, .bool false] 97)).alloc (.cells #[.pointer none, .pointer (some ⟨w.heap.size + 1, 0, none⟩)] 47) = w1 at S ⊢
  refine wp_loop_rounds 3 ?_
  rw [rounds_succ]
  have ra := S.out.a.cell
  have rl := S.out.l.cell
  go_wp2_with fail
  refine (refill0 _ none (dead_nil _)).mono ?_
  rintro e1 w5 ⟨⟨v5, rfl⟩, rfl⟩
  go_wp2_with fail
  go_quiet ((first
    | (go_at_call 30; exact Calls.quiet_of_same ((spend0 _ none x1 x2 (dead_nil _)).mono (fun e w' h => ⟨h.1, h.2.symm⟩)))
    | (go_at_call 31; exact Calls.quiet_of_same ((used0 _ none x1 (dead_nil _)).mono (fun e w' h => ⟨h.1, h.2.symm⟩)))
    | (go_at_call 47; exact Calls.quiet_of_same ((out0 _ none x1 (dead_nil _)).mono (fun e w' h => ⟨h.1, h.2.symm⟩)))
    | (go_at_call 29; exact Calls.quiet_of_same ((piece0 _ none x1 x2 (dead_nil _)).mono (fun e w' h => ⟨h.1, h.2.symm⟩)))
    | (go_at_call 49; exact Calls.quiet_of_same ((all0 _ none (dead_nil _)).mono (fun e w' h => ⟨h.1, h.2.symm⟩)))))
  have S := st0_drewN S nq
  clear ra rl
  go_wp2_with fail
  generalize w1.drewN nq = w1 at S ⊢
  rw [rounds_succ]
  have ra := S.out.a.cell
  have rl := S.out.l.cell
  go_wp2_with fail
  refine (refill0 _ (some ⟨w.heap.size + 1, 0, none⟩) (st0_zero S)).mono ?_
  rintro e1 w5 ⟨⟨v5, rfl⟩, rfl⟩
  go_wp2_with fail
  go_quiet ((first
    | (go_at_call 30; exact Calls.quiet_of_same ((spend0 _ (some ⟨w.heap.size + 1, 0, none⟩) x1 x2 (st0_zero (st0_drewN S _))).mono (fun e w' h => ⟨h.1, h.2.symm⟩)))
    | (go_at_call 31; exact Calls.quiet_of_same ((used0 _ (some ⟨w.heap.size + 1, 0, none⟩) x1 (st0_zero (st0_drewN S _))).mono (fun e w' h => ⟨h.1, h.2.symm⟩)))
    | (go_at_call 47; exact Calls.quiet_of_same ((out0 _ (some ⟨w.heap.size + 1, 0, none⟩) x1 (st0_zero (st0_drewN S _))).mono (fun e w' h => ⟨h.1, h.2.symm⟩)))
    | (go_at_call 29; exact Calls.quiet_of_same ((piece0 _ (some ⟨w.heap.size + 1, 0, none⟩) x1 x2 (st0_zero (st0_drewN S _))).mono (fun e w' h => ⟨h.1, h.2.symm⟩)))
    | (go_at_call 49; exact Calls.quiet_of_same ((all0 _ (some ⟨w.heap.size + 1, 0, none⟩) (st0_zero (st0_drewN S _))).mono (fun e w' h => ⟨h.1, h.2.symm⟩)))))
  have S := st0_drewN S nq
  clear ra rl
  go_wp2_with fail
  generalize w1.drewN nq = w1 at S ⊢
  rw [rounds_succ]
  go_wp2_with fail
  refine (LedW.works_any _).mono ?_
  rintro e1 w7 ⟨rfl, hb7⟩
  go_wp2_with fail
  go_ret
  exact ⟨rfl, below_next S.out.bel hb7⟩
end Go.Proofs.Yteikliciijfmmaa.LedZ
