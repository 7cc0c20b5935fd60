/- Walks of the reference's meter. -/
import Derived.Test.YtgkahcchekiogaaMetS
namespace Go.Proofs.Ytgkahcchekiogaa.MetR
open Go.RowKit Base Kit RefA Alt WideA WideB Plain MetA MetB MetC MetL
set_option linter.unusedVariables false
set_option linter.unusedSimpArgs false

/-- the reference's meter in memory -/
structure RMt (w : World) (m g n cap : Nat) (s : MS) : Prop where
  box : Box w m #[.slice (some ⟨g, 0, none⟩) n cap, .int .i64 s.id, .int .i64 s.sl, .int .i64 s.ch, .int .i64 s.tim] 177
  own : w.ownsRow 0 3 1 (.slice (some ⟨g, 0, none⟩) n cap) n (row s.run n)
theorem RMt.alt {S : Nat → Prop} {w w1 : World} {m g n cap : Nat} {s : MS} (h : RMt w m g n cap s) (k : Alt S w w1) (h1 : ¬ S m) (h2 : ¬ S g) : RMt w1 m g n cap s := ⟨box_alt h.box k h1, own_alt h.own k h2⟩
theorem RMt.below {w w1 : World} {m g n cap : Nat} {s : MS} (h : RMt w m g n cap s) (k : Below w.heap.size w w1) : RMt w1 m g n cap s := h.alt (Alt.of_below (S := fun _ => False) k) id id

set_option maxHeartbeats 1000000 in
theorem totalr_any (w : World) (m g n cap : Nat) (s : MS) (h : Hid (RMt w m g n cap s)) (ok : MOk n s) (t : Int) (ht : Hid (tot n s = t)) :
    Calls Try.prog 154 #[.pointer (some ⟨m, 0, none⟩)] w fun e w' => e = .returned (.int .i64 t) ∧ Below w.heap.size w w' := by
  have hn := ok.hn
  have j1 := ok.id
  have j2 := ok.sl
  have j3 := ok.ch
  have j4 := ok.tot
  have j5 := sumTo_nonneg ok.run
  have jt : tot n s = s.id + s.sl + s.ch + sumTo s.run n := rfl
  have JR := Lib.hid ok.run
  have JM := Lib.hid (fun k (hk : k ≤ n) => sumTo_mono (f := s.run) (k := k) (n := n) ok.run hk)
  have J0 := Lib.hid (fun k (hk : k ≤ n) => sumTo_nonneg (f := s.run) (n := k) (fun i hi => ok.run i (by omega)))
  have HT := Lib.hid (jt.symm.trans ht.out)
  have OW := Lib.hid h.out.own
  have bc := h.out.box.cell
  generalize s.id = x at *
  generalize s.sl = y at *
  generalize s.ch = z at *
  generalize s.run = f at *
  rw [jt] at j4
  clear jt
  go_enter Try.func154, Try.ntmps154
  go_wp2_with fail
  go_quiet (fail)
  have HB := Lib.hid (below_drewN' (Below.refl w.heap.size w) nq)
  have OW : Hid ((w.drewN nq).ownsRow _ _ _ _ _ _) := OW
  have bc : ∀ i, (w.drewN nq).cell? ⟨m, i, none⟩ = _ := bc
  generalize w.drewN nq = w1 at *
  go_wp2_with fail
  go_loop [3, 4] (fun a i => ∃ k : Nat, k ≤ n ∧ i = .int .i64 k ∧ a = .int .i64 (x + y + z + sumTo f k)) (fun _ i => n - (intOf i).toNat)
  case atStart => exact ⟨0, by omega, rfl, by simp [sumTo]⟩
  case round =>
    obtain ⟨k, hk, rfl, rfl⟩ := hrel
    by_cases hlt : k < n
    · have gc : w1.cell? ⟨g, k, none⟩ = some (.int .i64 (f k)) := by rw [OW.out.cellAt k (by omega), row_get f n k hlt]
      have r0 := JR.out k hlt
      have r1 := JM.out (k + 1) (by omega)
      have r2 := J0.out k hk
      have es := Lib.hid (show x + y + z + sumTo f (k + 1) = x + y + z + sumTo f k + f k by rw [sumTo]; omega)
      rw [sumTo] at r1
      go_wp2_with fail
      go_round
      case rel => exact ⟨k + 1, by omega, by go_num, by rw [es.out]⟩
      case measure => simp [intOf]; omega
    · obtain rfl : k = n := by omega
      go_wp2_with fail
      go_ret
      exact ⟨by rw [HT.out]; rfl, HB.out⟩

set_option maxRecDepth 100000 in
theorem newr_any (w : World) (p : Int) : Calls Try.prog 60 #[.int .i64 p] w fun e w' => ∃ m g, e = .returned (.pointer (some ⟨m, 0, none⟩)) ∧ w.heap.size ≤ m ∧ w.heap.size ≤ g ∧ Below w.heap.size w w' ∧ Hid (RMt w' m g (many p) (many p) nil) := by
  have hn := many_le p
  have e := many_eq p
  obtain ⟨w1, r1, o1, g1⟩ := make_ints w (many p) (by omega)
  have O1 := Lib.hid o1
  have G1 := Lib.hid g1
  have fin : ∃ m g, Ending.returned (.pointer (some ⟨w1.heap.size, 0, none⟩)) = Ending.returned (.pointer (some ⟨m, 0, none⟩)) ∧ w.heap.size ≤ m ∧ w.heap.size ≤ g ∧ Below w.heap.size w (w1.alloc (.cells #[.slice (some ⟨w.heap.size, 0, none⟩) (many p) (many p), .int .i64 0, .int .i64 0, .int .i64 0, .int .i64 0] 177)) ∧ Hid (RMt (w1.alloc (.cells #[.slice (some ⟨w.heap.size, 0, none⟩) (many p) (many p), .int .i64 0, .int .i64 0, .int .i64 0, .int .i64 0] 177)) m g (many p) (many p) nil) :=
    ⟨w1.heap.size, w.heap.size, rfl, g1.size, Nat.le_refl _, ((Below.refl _ _).grown g1 (Nat.le_refl _) (fun k h => by cases h)).alloc g1.size _, Lib.hid ⟨Box.new _ _ _, (own_base o1 (fun _ _ => Nat.zero_le _)).alloc _⟩⟩
  have FIN := Lib.hid fin
  clear o1 g1 fin
  have C : (p < 0 ∧ many p = 0) ∨ (0 ≤ p ∧ 8 < p ∧ many p = 8) ∨ (0 ≤ p ∧ p ≤ 8 ∧ p = (many p : Int)) := by
    unfold clampI at e; (repeat' split at e) <;> omega
  clear e
  generalize many p = n at *
  rcases C with ⟨h1, rfl⟩ | ⟨h1, h2, rfl⟩ | ⟨h1, h2, rfl⟩
  · have r2 : (Instr.makeSlice 55 (.int .i64 0) (.int .i64 0)).run Try.prog w = .ok (.slice (some ⟨w.heap.size, 0, none⟩) 0 0) w1 := r1
    clear r1 O1 G1 hn
    go_enter Try.func60, Try.ntmps60
    go_wp2_with fail
    go_ret
    exact FIN.out
  · have r2 : (Instr.makeSlice 55 (.int .i64 8) (.int .i64 8)).run Try.prog w = .ok (.slice (some ⟨w.heap.size, 0, none⟩) 8 8) w1 := r1
    clear r1 O1 G1 hn
    go_enter Try.func60, Try.ntmps60
    go_wp2_with fail
    go_ret
    exact FIN.out
  · clear O1 G1
    go_enter Try.func60, Try.ntmps60
    go_wp2_with fail
    go_ret
    exact FIN.out

end Go.Proofs.Ytgkahcchekiogaa.MetR
