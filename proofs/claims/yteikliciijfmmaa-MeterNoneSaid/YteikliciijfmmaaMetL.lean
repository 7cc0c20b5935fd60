/- The laws of meter: what works; Adds; Sums. -/
import Derived.Test.YteikliciijfmmaaMetC
namespace Go.Proofs.Yteikliciijfmmaa.MetL
open Go.RowKit Base Kit RefA Alt WideA WideB Plain MetA MetB MetC
set_option linter.unusedVariables false
set_option linter.unusedSimpArgs false

/-- a meter, since a world -/
structure St (w0 w : World) (m g n : Nat) (s : MS) : Prop where
  bel : Below w0.heap.size w0 w
  hm : w0.heap.size ≤ m
  hg : w0.heap.size ≤ g
  met : Hid (Mtr w m g n n s)
  ok : MOk n s
theorem st_next {w0 w w1 : World} {m g n : Nat} {s : MS} (h : Hid (St w0 w m g n s)) (k : Below w.heap.size w w1) : Hid (St w0 w1 m g n s) :=
  Lib.hid ⟨below_next h.out.bel k, h.out.hm, h.out.hg, Lib.hid (h.out.met.out.below k), h.out.ok⟩
theorem st_drew {w0 w : World} {m g n : Nat} {s : MS} (h : Hid (St w0 w m g n s)) : Hid (St w0 w.drew m g n s) := st_next h ((Below.refl _ _).drew)
theorem st_take {w0 w : World} {m g n : Nat} {s : MS} (h : Hid (St w0 w m g n s)) (k p pw ns : Int) (i1 : I64 pw) (i2 : I64 ns) {r : Int} {s' : MS} (hr : Hid (tk n s k p pw ns = (r, s'))) :
    Calls Try.prog 35 #[.pointer (some ⟨m, 0, none⟩), .int .i64 k, .int .i64 p, .int .i64 pw, .int .i64 ns] w fun e w' => e = .returned (.int .i64 r) ∧ Hid (St w0 w' m g n s') := by
  have hok := tk_ok n s k p pw ns h.out.ok
  have := take_any w m g n n s k p pw ns h.out.met h.out.ok i1 i2
  rw [hr.out] at this hok
  exact this.mono fun e w' hh => ⟨hh.1, Lib.hid ⟨hh.2.1.below h.out.bel h.out.bel.size (fun i hi => by have := h.out.hm; have := h.out.hg; rcases hi with rfl | rfl <;> omega), h.out.hm, h.out.hg, hh.2.2, hok⟩⟩
theorem st_new (w0 w : World) (p : Int) (h : Hid (Below w0.heap.size w0 w)) : Calls Try.prog 33 #[.int .i64 p] w fun e w' => ∃ m g, e = .returned (.pointer (some ⟨m, 0, none⟩)) ∧ Hid (St w0 w' m g (many p) nil) := by
  refine (new_any w p).mono ?_
  rintro e w' ⟨m, g, rfl, hm, hg, hb, hM⟩
  exact ⟨m, g, rfl, Lib.hid ⟨below_next h.out hb, Nat.le_trans h.out.size hm, Nat.le_trans h.out.size hg, hM, nil_ok _ (many_le p)⟩⟩
theorem st_total {w0 w : World} {m g n : Nat} {s : MS} (h : Hid (St w0 w m g n s)) {t : Int} (ht : Hid (tot n s = t)) :
    Calls Try.prog 39 #[.pointer (some ⟨m, 0, none⟩)] w fun e w' => e = .returned (.int .i64 t) ∧ Hid (St w0 w' m g n s) := by
  have := ht.out; subst this
  exact (total_any w m g n n s h.out.met).mono fun e w' hh => ⟨hh.1, by rw [← hh.2]; exact h⟩
theorem st_time {w0 w : World} {m g n : Nat} {s : MS} (h : Hid (St w0 w m g n s)) {t : Int} (ht : Hid (s.tim = t)) :
    Calls Try.prog 41 #[.pointer (some ⟨m, 0, none⟩)] w fun e w' => e = .returned (.int .i64 t) ∧ Hid (St w0 w' m g n s) := by
  have := ht.out; subst this
  exact (time_any w m g n n s h.out.met).mono fun e w' hh => ⟨hh.1, by rw [← hh.2]; exact h⟩

set_option maxRecDepth 100000 in
set_option maxHeartbeats 1000000 in
theorem works_any (w : World) : Calls Try.prog 32 #[] w fun e w' => e = .returned (.bool true) ∧ Below w.heap.size w w' := by
  have C0 := Lib.hid (fun w' h => st_new w w' 1 h)
  have C1 := Lib.hid (fun w' m g h => st_take (w0 := w) (w := w') (m := m) (g := g) (n := 1) (s := nil) h 0 0 5 10 ⟨by omega, by omega⟩ ⟨by omega, by omega⟩ (r := 0) (s' := (tk 1 nil 0 0 5 10).2) (Lib.hid (Prod.ext (by decide +kernel) rfl)))
  have C2 := Lib.hid (fun w' m g h => st_take (w0 := w) (w := w') (m := m) (g := g) (n := 1) (s := (tk 1 nil 0 0 5 10).2) h 1 0 1 7 ⟨by omega, by omega⟩ ⟨by omega, by omega⟩ (r := 0) (s' := (tk 1 (tk 1 nil 0 0 5 10).2 1 0 1 7).2) (Lib.hid (Prod.ext (by decide +kernel) rfl)))
  have C3 := Lib.hid (fun w' m g h => st_total (w0 := w) (w := w') (m := m) (g := g) (n := 1) (s := (tk 1 (tk 1 nil 0 0 5 10).2 1 0 1 7).2) h (t := 57) (Lib.hid (by decide +kernel)))
  have C4 := Lib.hid (fun w' m g h => st_time (w0 := w) (w := w') (m := m) (g := g) (n := 1) (s := (tk 1 (tk 1 nil 0 0 5 10).2 1 0 1 7).2) h (t := 17) (Lib.hid (by decide +kernel)))
  have C5 := Lib.hid (fun w' m g h => st_take (w0 := w) (w := w') (m := m) (g := g) (n := 1) (s := (tk 1 (tk 1 nil 0 0 5 10).2 1 0 1 7).2) h 0 1 1 1 ⟨by omega, by omega⟩ ⟨by omega, by omega⟩ (r := 2) (s' := (tk 1 (tk 1 (tk 1 nil 0 0 5 10).2 1 0 1 7).2 0 1 1 1).2) (Lib.hid (Prod.ext (by decide +kernel) rfl)))
  generalize (tk 1 (tk 1 (tk 1 nil 0 0 5 10).2 1 0 1 7).2 0 1 1 1).2 = s3 at C5
  generalize (tk 1 (tk 1 nil 0 0 5 10).2 1 0 1 7).2 = s2 at C2 C3 C4 C5
  generalize (tk 1 nil 0 0 5 10).2 = s1 at C1 C2
  rw [show many 1 = 1 from by decide +kernel] at C0
  go_enter Try.func32, Try.ntmps32
  go_wp2_with fail
  refine (C0.out _ (Lib.hid (Below.refl _ _))).mono ?_
  rintro e0 w1 ⟨m, g, rfl, S⟩
  go_wp2_with fail
  refine (C1.out _ _ _ S).mono ?_
  clear S
  rintro e1 w2 ⟨rfl, S⟩
  go_wp2_with fail
  refine (C2.out _ _ _ S).mono ?_
  clear S
  rintro e1 w2 ⟨rfl, S⟩
  go_wp2_with fail
  refine (C3.out _ _ _ S).mono ?_
  clear S
  rintro e1 w2 ⟨rfl, S⟩
  go_wp2_with fail
  refine (C4.out _ _ _ S).mono ?_
  clear S
  rintro e1 w2 ⟨rfl, S⟩
  go_wp2_with fail
  refine (C5.out _ _ _ S).mono ?_
  clear S
  rintro e1 w2 ⟨rfl, S⟩
  go_wp2_with fail
  go_ret
  exact ⟨rfl, S.out.bel⟩

set_option maxRecDepth 100000 in
set_option maxHeartbeats 1000000 in
theorem adds_law (A : Option Addr) (n c : Nat) (x y z : Int) (f : Nat → Int) (w : World) (hA : A = none → c = 0 ∧ n = 0) (h : Hid (Open.RowsIn w A n 1 (fun i _ => f i))) (hx : I64 x) (hy : I64 y) (hz : I64 z) :
    Calls Try.prog 9 #[.agg #[.slice A n c, .int .i64 x, .int .i64 y, .int .i64 z]] w fun e w' => e = .returned (.bool true) ∧ Below w.heap.size w w' := by
  have hm := h.out.1
  by_cases hn : 1000 < n
  · --
    go_enter Try.func9, Try.ntmps9
    go_wp2_with fail
    refine (works_any _).mono ?_
    rintro e1 w2 ⟨rfl, hb2⟩
    go_wp2_with fail
    go_ret
    exact ⟨rfl, below_in _ hb2⟩
  have hn' : n ≤ 1000 := by omega
  obtain ⟨r1, h1⟩ : ∃ r, (sumC n x y z f).1 = r := ⟨_, rfl⟩
  obtain ⟨r2, h2⟩ : ∃ r, (sumC n x y z f).2 = r := ⟨_, rfl⟩
  have C1 := Lib.hid (fun w h => csum_any A n c x y z f r1 r2 w hA h hn' hx hy hz (Lib.hid (by rw [← h1, ← h2])))
  have C2 := Lib.hid (fun w h => csumr_any A n c x y z f r1 r2 w hA h hn' hx hy hz (Lib.hid (by rw [← h1, ← h2])))
  clear h1 h2
  go_enter Try.func9, Try.ntmps9
  go_wp2_with fail
  refine (C1.out _ (rows_alloc h _)).mono ?_
  rintro e1 w2 ⟨rfl, hb2⟩
  have HB := Lib.hid (below_in _ hb2)
  have BX := Lib.hid ((Box.new w _ _).next hb2)
  have bc := BX.out.cell
  have h := rows_next h (below_in _ hb2)
  clear hb2
  go_wp2_with fail
  refine (C2.out _ h).mono ?_
  rintro e1 w3 ⟨rfl, hb3⟩
  have HB := below_hid HB hb3
  clear hb3
  go_wp2_with fail
  refine (works_any _).mono ?_
  rintro e1 w4 ⟨rfl, hb4⟩
  have HB := below_hid HB hb4
  clear hb4
  go_wp2_with fail
  go_ret
  exact ⟨rfl, HB.out⟩
end Go.Proofs.Yteikliciijfmmaa.MetL
