/- The law of meter: Sums. -/
import Derived.Test.YteikliciijfmmaaMetL
import Derived.Test.YteikliciijfmmaaChg
namespace Go.Proofs.Yteikliciijfmmaa.MetS
open Go.RowKit Base Kit RefA Alt WideA WideB Plain MetA MetB MetC MetL
set_option linter.unusedVariables false
set_option linter.unusedSimpArgs false

theorem adds (p : Chg.ChgC) (w : World) (ok : p.Ok w) :
    Calls Try.prog 9 #[.agg p.vals.toArray] w fun e w' => e = .returned (.bool true) ∧ Below w.heap.size w w' :=
  adds_law p.a p.n p.c p.x p.y p.z p.f w ok.nil ok.run ok.x ok.y ok.z

theorem sumTo_three (x y z : Int) (f : Nat → Int) : ∀ n, sumTo (fun i => if i < 3 then (if i = 0 then x else if i = 1 then y else z) else f (i - 3)) (3 + n) = x + y + z + sumTo f n
  | 0 => by simp [sumTo]
  | n + 1 => by
    rw [show 3 + (n + 1) = (3 + n) + 1 from by omega, sumTo, sumTo_three x y z f n, sumTo]
    have e : (if 3 + n < 3 then (if 3 + n = 0 then x else if 3 + n = 1 then y else z) else f (3 + n - 3)) = f n := by
      rw [if_neg (by omega)]; congr 1; omega
    simp only [e]; omega
theorem sumC_tot {n : Nat} {s : MS} (ok : MOk n s) : sumC n s.id s.sl s.ch s.run = (tot n s, 0) := by
  have h1 := ok.id; have h2 := ok.sl; have h3 := ok.ch; have h4 := ok.tot
  unfold sumC sumR
  rw [negTo_false.2 (fun i hi => by
    by_cases h : i < 3
    · simp only [h, if_true]
      (repeat' split) <;> assumption
    · simp only [h, if_false]
      exact ok.run (i - 3) (by omega)), sumTo_three]
  unfold tot at *
  rw [if_neg (by simp), if_neg (by omega)]

theorem st_charge {w0 w : World} {m g n : Nat} {s : MS} (h : Hid (St w0 w m g n s)) :
    Calls Try.prog 38 #[.pointer (some ⟨m, 0, none⟩)] w fun e w' => ∃ g' c, e = .returned (.agg #[.slice (some ⟨g', 0, none⟩) n c, .int .i64 s.id, .int .i64 s.sl, .int .i64 s.ch]) ∧ Hid (St w0 w' m g n s) ∧ Hid (Open.RowsIn w' (some ⟨g', 0, none⟩) n 1 (fun i _ => s.run i)) := by
  refine (charge_any w m g n n s h.out.met h.out.ok).mono ?_
  rintro e w' ⟨g', c, rfl, hb, hr⟩
  exact ⟨g', c, rfl, st_next h hb, hr⟩
theorem st_sum {w0 w : World} {m g n : Nat} {s : MS} (h : Hid (St w0 w m g n s)) {g' c : Nat} (hr : Hid (Open.RowsIn w (some ⟨g', 0, none⟩) n 1 (fun i _ => s.run i))) {t : Int} (ht : Hid (tot n s = t)) :
    Calls Try.prog 42 #[.agg #[.slice (some ⟨g', 0, none⟩) n c, .int .i64 s.id, .int .i64 s.sl, .int .i64 s.ch]] w fun e w' => e = .returned (.tuple #[.int .i64 t, .int .i64 0]) ∧ Hid (St w0 w' m g n s) := by
  have ok := h.out.ok
  have h1 := ok.id; have h2 := ok.sl; have h3 := ok.ch; have h4 := ok.tot; have h5 := sumTo_nonneg ok.run
  unfold tot at h4
  exact (csum_any (some ⟨g', 0, none⟩) n c s.id s.sl s.ch s.run t 0 w (fun e => by cases e) hr (by have := ok.hn; omega) ⟨by omega, by omega⟩ ⟨by omega, by omega⟩ ⟨by omega, by omega⟩ (Lib.hid (by rw [sumC_tot ok, ht.out]))).mono fun e w' hh => ⟨hh.1, st_next h hh.2⟩
/-- what a take leaves -/
theorem tk_more (n : Nat) (s : MS) (k p pw ns : Int) (ok : MOk n s) : ((tk n s k p pw ns).1 = 0 ∨ ((tk n s k p pw ns).1 ≠ 0 ∧ (tk n s k p pw ns).2 = s)) ∧ tot n s ≤ tot n (tk n s k p pw ns).2 ∧ s.tim ≤ (tk n s k p pw ns).2.tim := by
  unfold tk
  by_cases hb : bad n k p pw ns
  · rw [if_pos hb]; exact ⟨.inr ⟨by simp, rfl⟩, Int.le_refl _, Int.le_refl _⟩
  · rw [if_neg hb]
    by_cases hf : far n s pw ns
    · rw [if_pos hf]; exact ⟨.inr ⟨by simp, rfl⟩, Int.le_refl _, Int.le_refl _⟩
    · rw [if_neg hf]
      obtain ⟨m0, m1, m2, m3⟩ := FitB.md_bd pw ns 1 false (fun _ _ _ => trivial)
      unfold bad at hb
      have ha := tot_add (n := n) (s := s) (k := k) (p := p) (x := (md pw ns 1 false).1) (ns := ns) (by omega) (by omega) (by omega)
      refine ⟨.inl rfl, ?_, ?_⟩
      · show _ ≤ tot n (add s k p _ ns)
        rw [ha]; omega
      · show _ ≤ s.tim + ns
        omega

set_option maxRecDepth 100000 in
set_option maxHeartbeats 4000000 in
theorem sums_law (p : Int) (a : Option Addr) (n c : Nat) (f : Nat → Nat → Int) (w : World) (hp : -9223372036854775808 ≤ p ∧ p ≤ 9223372036854775807) (hin : Hid (Open.RowsIn w a n 4 f)) :
    Calls Try.prog 13 #[.int .i64 p, .slice a n c] w fun e w' => e = .returned (.bool true) ∧ Below w.heap.size w w' := by
  have hn := hin.out.1
  have C0 := Lib.hid (fun w' h => st_new w w' p h)
  generalize many p = N at C0
  go_enter Try.func13, Try.ntmps13
  go_wp2_with fail
  refine (works_any _).mono ?_
  rintro e0 w1 ⟨rfl, hb1⟩
  have HB := Lib.hid hb1
  clear hb1
  go_wp2_with fail
  refine (C0.out _ HB).mono ?_
  rintro e0 w2 ⟨m, g, rfl, S⟩
  clear HB C0
  go_wp2_with fail
  go_loopw [6] (fun i wr => ∃ (k : Nat) (s : MS), k ≤ n ∧ i = .int .i64 k ∧ Hid (St w wr m g N s)) (fun i _ => n - (intOf i).toNat)
  case atStart => exact ⟨0, nil, by omega, rfl, S⟩
  case round =>
    clear S
    obtain ⟨k, s, hk, rfl, S⟩ := hrel
    by_cases h1 : k < n
    · by_cases h2 : k < 60
      · obtain ⟨b, off, rfl, hlt, c0, c1, c2, c3, i0, i1, i2, i3⟩ := rows_at4 hin k h1
        have H0 := Lib.hid (And.intro c0 (And.intro c1 (And.intro c2 c3)))
        have d0 := keep S.out.bel c0 hlt
        have d1 := keep S.out.bel c1 hlt
        have d2 := keep S.out.bel c2 hlt
        have d3 := keep S.out.bel c3 hlt
        obtain ⟨x0, e0⟩ : ∃ x, f k 0 = x := ⟨_, rfl⟩
        obtain ⟨x1, e1⟩ : ∃ x, f k 1 = x := ⟨_, rfl⟩
        obtain ⟨x2, e2⟩ : ∃ x, f k 2 = x := ⟨_, rfl⟩
        obtain ⟨x3, e3⟩ : ∃ x, f k 3 = x := ⟨_, rfl⟩
        rw [e0] at d0 i0 H0
        rw [e1] at d1 i1 H0
        rw [e2] at d2 i2 H0
        rw [e3] at d3 i3 H0
        obtain ⟨hw, t1, t2⟩ := tk_more N s x0 x1 x2 x3 S.out.ok
        obtain ⟨r, hr⟩ : ∃ r, (tk N s x0 x1 x2 x3).1 = r := ⟨_, rfl⟩
        obtain ⟨s', hs⟩ : ∃ s', (tk N s x0 x1 x2 x3).2 = s' := ⟨_, rfl⟩
        rw [hr, hs] at hw
        rw [hs] at t1 t2
        obtain ⟨ta, q1⟩ : ∃ t, tot N s = t := ⟨_, rfl⟩
        obtain ⟨tb, q2⟩ : ∃ t, tot N s' = t := ⟨_, rfl⟩
        obtain ⟨ma, q3⟩ : ∃ t, s.tim = t := ⟨_, rfl⟩
        obtain ⟨mb, q4⟩ : ∃ t, s'.tim = t := ⟨_, rfl⟩
        rw [q1, q2] at t1
        rw [q3, q4] at t2
        have hw : r = 0 ∨ ((r != 0) = true ∧ ta = tb ∧ ma = mb) := by
          rcases hw with h | ⟨h, h'⟩
          · exact .inl h
          · exact .inr ⟨by simpa using h, by rw [← q1, ← q2, h'], by rw [← q3, ← q4, h']⟩
        have CT := Lib.hid (fun w' h => st_take (w0 := w) (w := w') (m := m) (g := g) (n := N) (s := s) h x0 x1 x2 x3 i2 i3 (r := r) (s' := s') (Lib.hid (Prod.ext hr hs)))
        have Q1 := Lib.hid q1; have Q2 := Lib.hid q2; have Q3 := Lib.hid q3; have Q4 := Lib.hid q4
        have HW := Lib.hid hw
        clear c0 c1 c2 c3 e0 e1 e2 e3 hr hs q1 q2 q3 q4 hw
        go_wp2_with fail
        refine (st_total S Q1).mono ?_
        rintro e1 w3 ⟨rfl, S3⟩
        go_wp2_with fail
        refine (st_time S3 Q3).mono ?_
        rintro e1 w4 ⟨rfl, S4⟩
        clear d0 d1 d2 d3 S3
        have d0 := keep S4.out.bel H0.out.1 hlt
        have d1 := keep S4.out.bel H0.out.2.1 hlt
        have d2 := keep S4.out.bel H0.out.2.2.1 hlt
        have d3 := keep S4.out.bel H0.out.2.2.2 hlt
        go_wp2_with fail
        go_region_held3 (fun w' => w'.cell? ⟨b, off + k * 4, none⟩ = some (.int .i64 x0) ∧ w'.cell? ⟨b, off + k * 4 + 1, none⟩ = some (.int .i64 x1) ∧ w'.cell? ⟨b, off + k * 4 + 2, none⟩ = some (.int .i64 x2) ∧ w'.cell? ⟨b, off + k * 4 + 3, none⟩ = some (.int .i64 x3))
          (first
            | exact ⟨d0, d1, d2, d3⟩
            | exact ⟨keep S5.out.bel H0.out.1 hlt, keep S5.out.bel H0.out.2.1 hlt, keep S5.out.bel H0.out.2.2.1 hlt, keep S5.out.bel H0.out.2.2.2 hlt⟩)
          (first
            | (go_at_call 35; refine (CT.out _ (by exact st_drew S4)).mono ?_; rintro e1 w5 ⟨rfl, S5⟩))
        clear S S4 CT d0 d1 d2 d3
        go_wp2_with fail
        refine (st_charge S5).mono ?_
        rintro e1 w6 ⟨g', c', rfl, S6, R6⟩
        clear S5
        go_wp2_with fail
        refine (st_sum S6 R6 Q2).mono ?_
        rintro e1 w7 ⟨rfl, S7⟩
        clear S6 R6
        go_wp2_with fail
        refine (st_total S7 Q2).mono ?_
        rintro e1 w8 ⟨rfl, S8⟩
        clear S7
        rcases HW.out with rfl | ⟨hr, rfl, rfl⟩
        · go_wp2_with fail
          refine (st_total S8 Q2).mono ?_
          clear S8
          rintro e1 w11 ⟨rfl, S8⟩
          go_wp2_with fail
          refine (st_time S8 Q4).mono ?_
          clear S8
          rintro e1 w12 ⟨rfl, S8⟩
          go_wp2_with fail
          go_roundw
          case rel => exact ⟨k + 1, s', by omega, by go_num, S8⟩
          case measure => simp [intOf]; omega
        · go_wp2_with fail
          refine (st_total S8 Q2).mono ?_
          rintro e1 w9 ⟨rfl, S8⟩
          go_wp2_with fail
          refine (st_time S8 Q4).mono ?_
          rintro e1 w10 ⟨rfl, S8⟩
          go_wp2_with fail
          refine (st_total S8 Q2).mono ?_
          clear S8
          rintro e1 w11 ⟨rfl, S8⟩
          go_wp2_with fail
          refine (st_time S8 Q4).mono ?_
          clear S8
          rintro e1 w12 ⟨rfl, S8⟩
          go_wp2_with fail
          go_roundw
          case rel => exact ⟨k + 1, s', by omega, by go_num, S8⟩
          case measure => simp [intOf]; omega
      · go_wp2_with fail
        go_ret
        exact ⟨rfl, S.out.bel⟩
    · obtain rfl : k = n := by omega
      go_wp2_with fail
      go_ret
      exact ⟨rfl, S.out.bel⟩
end Go.Proofs.Yteikliciijfmmaa.MetS
