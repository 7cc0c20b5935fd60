/- Walks of package meter: Take, New. -/
import Derived.Test.YtgkahcchekiogaaMetA
import Derived.Test.YtgkahcchekiogaaFitB
namespace Go.Proofs.Ytgkahcchekiogaa.MetB
open Go.RowKit Base Kit RefA Alt WideA WideB Plain MetA
set_option linter.unusedVariables false
set_option linter.unusedSimpArgs false

def TkPost (w : World) (m g n cap : Nat) (r : Int) (s : MS) (e : Ending) (w' : World) : Prop := e = .returned (.int .i64 r) ∧ Alt (fun i => i = m ∨ i = g) w w' ∧ Hid (Mtr w' m g n cap s)

set_option maxRecDepth 100000 in
set_option maxHeartbeats 1000000 in
theorem take_bad (w : World) (m g n cap : Nat) (s : MS) (k p pw ns : Int) (h : Hid (Mtr w m g n cap s)) (hb : bad n k p pw ns) (hn : n ≤ 8) :
    Calls Try.prog 127 #[.pointer (some ⟨m, 0, none⟩), .int .i64 k, .int .i64 p, .int .i64 pw, .int .i64 ns] w (TkPost w m g n cap 2 s) := by
  have bc := h.out.box.cell
  have ways : k < 0 ∨ (0 ≤ k ∧ 4 ≤ k) ∨ (0 ≤ k ∧ k < 4 ∧ pw < 0) ∨ (0 ≤ k ∧ k < 4 ∧ 0 ≤ pw ∧ ns < 0) ∨ (0 ≤ k ∧ k < 4 ∧ 0 ≤ pw ∧ 0 ≤ ns ∧ k = 0 ∧ ¬ (0 ≤ p ∧ p < (n : Int))) := by unfold bad at hb; omega
  clear hb
  rcases ways with k1 | ⟨k1, k2⟩ | ⟨k1, k2, k3⟩ | ⟨k1, k2, k3, k4⟩ | ⟨k1, k2, k3, k4, rfl, k5⟩
  · --
    go_enter Try.func127, Try.ntmps127
    go_wp2_with fail
    refine (dead_any _ _ (by rw [bc]; rfl)).mono ?_
    rintro e1 w1 ⟨rfl, rfl⟩
    go_wp2_with fail
    go_ret
    exact ⟨rfl, Alt.refl _ _, h⟩
  · --
    go_enter Try.func127, Try.ntmps127
    go_wp2_with fail
    refine (dead_any _ _ (by rw [bc]; rfl)).mono ?_
    rintro e1 w1 ⟨rfl, rfl⟩
    go_wp2_with fail
    go_ret
    exact ⟨rfl, Alt.refl _ _, h⟩
  · --
    go_enter Try.func127, Try.ntmps127
    go_wp2_with fail
    refine (dead_any _ _ (by rw [bc]; rfl)).mono ?_
    rintro e1 w1 ⟨rfl, rfl⟩
    go_wp2_with fail
    go_ret
    exact ⟨rfl, Alt.refl _ _, h⟩
  · --
    go_enter Try.func127, Try.ntmps127
    go_wp2_with fail
    refine (dead_any _ _ (by rw [bc]; rfl)).mono ?_
    rintro e1 w1 ⟨rfl, rfl⟩
    go_wp2_with fail
    go_ret
    exact ⟨rfl, Alt.refl _ _, h⟩
  · have C := Lib.hid (has_any w m g n cap p false (by rw [bc]; rfl) (Lib.hid (by simpa using k5)))
    clear k5
    go_enter Try.func127, Try.ntmps127
    go_wp2_with fail
    refine (dead_any _ _ (by rw [bc]; rfl)).mono ?_
    rintro e1 w1 ⟨rfl, rfl⟩
    go_wp2_with fail
    refine C.out.mono ?_
    rintro e1 w1 ⟨rfl, rfl⟩
    go_wp2_with fail
    go_ret
    exact ⟨rfl, Alt.refl _ _, h⟩

set_option maxRecDepth 100000 in
set_option maxHeartbeats 1000000 in
theorem take_far (w : World) (m g n cap : Nat) (s : MS) (k p pw ns : Int) (h : Hid (Mtr w m g n cap s)) (hb : ¬ bad n k p pw ns) (ok : MOk n s) (i1 : I64 pw) (i2 : I64 ns) (hf : far n s pw ns) :
    Calls Try.prog 127 #[.pointer (some ⟨m, 0, none⟩), .int .i64 k, .int .i64 p, .int .i64 pw, .int .i64 ns] w (TkPost w m g n cap 6 s) := by
  have bc := h.out.box.cell
  have hk : (k = 0 ∧ 0 ≤ p ∧ p < (n : Int)) ∨ (1 ≤ k ∧ k < 4) := by unfold bad at hb; omega
  have q1 : 0 ≤ pw := by unfold bad at hb; omega
  have q2 : 0 ≤ ns := by unfold bad at hb; omega
  have D := fun w => mul_any pw ns w i1.1 i1.2 i2.1 i2.2
  obtain ⟨m0, m1, m2, m3⟩ := FitB.md_bd pw ns 1 false (fun _ _ _ => trivial)
  have t0 := tot_nonneg ok
  have t1 := ok.tot
  have t2 := ok.tim
  have t3 := ok.tim1
  unfold far at hf
  obtain ⟨tt, ht⟩ : ∃ tt, tot n s = tt := ⟨_, rfl⟩
  rw [ht] at t0 t1 hf bc
  have HT := Lib.hid ht
  clear ht
  generalize (md pw ns 1 false).1 = x at *
  generalize (md pw ns 1 false).2 = e at *
  have D := Lib.hid D
  have ways : e ≠ 0 ∨ (e = 0 ∧ 4611686018427387904 - tt < x) ∨ (e = 0 ∧ x ≤ 4611686018427387904 - tt ∧ 4611686018427387904 - s.tim < ns) := by omega
  clear hb hf
  rcases ways with f1 | ⟨rfl, f1⟩ | ⟨rfl, f1, f2⟩
  · have f2 : (e != 0) = true := by simpa using f1
    clear f1
    rcases hk with ⟨rfl, k1, k2⟩ | ⟨k1, k2⟩
    · have C := Lib.hid (has_any w m g n cap p true (by rw [bc]; rfl) (Lib.hid (by simp; omega)))
      go_enter Try.func127, Try.ntmps127
      go_wp2_with fail
      refine (dead_any _ _ (by rw [bc]; rfl)).mono ?_
      rintro e1 w1 ⟨rfl, rfl⟩
      go_wp2_with fail
      refine C.out.mono ?_
      rintro e1 w1 ⟨rfl, rfl⟩
      go_wp2_with fail
      refine (D.out _).mono ?_
      rintro e1 w2 ⟨rfl, hb2⟩
      have h2 := Lib.hid (h.out.below hb2)
      have ha := Lib.hid (Alt.of_below (S := fun i => i = m ∨ i = g) hb2)
      clear hb2 bc
      have bc := h2.out.box.cell
      rw [HT.out] at bc
      go_wp2_with fail
      go_ret
      exact ⟨rfl, ha.out, h2⟩
    · have hk0 : (k == 0) = false := by simp; omega
      have k3 : 0 ≤ k := by omega
      go_enter Try.func127, Try.ntmps127
      go_wp2_with fail
      refine (dead_any _ _ (by rw [bc]; rfl)).mono ?_
      rintro e1 w1 ⟨rfl, rfl⟩
      go_wp2_with fail
      refine (D.out _).mono ?_
      rintro e1 w2 ⟨rfl, hb2⟩
      have h2 := Lib.hid (h.out.below hb2)
      have ha := Lib.hid (Alt.of_below (S := fun i => i = m ∨ i = g) hb2)
      clear hb2 bc
      have bc := h2.out.box.cell
      rw [HT.out] at bc
      go_wp2_with fail
      go_ret
      exact ⟨rfl, ha.out, h2⟩
  · --
    rcases hk with ⟨rfl, k1, k2⟩ | ⟨k1, k2⟩
    · have C := Lib.hid (has_any w m g n cap p true (by rw [bc]; rfl) (Lib.hid (by simp; omega)))
      go_enter Try.func127, Try.ntmps127
      go_wp2_with fail
      refine (dead_any _ _ (by rw [bc]; rfl)).mono ?_
      rintro e1 w1 ⟨rfl, rfl⟩
      go_wp2_with fail
      refine C.out.mono ?_
      rintro e1 w1 ⟨rfl, rfl⟩
      go_wp2_with fail
      refine (D.out _).mono ?_
      rintro e1 w2 ⟨rfl, hb2⟩
      have h2 := Lib.hid (h.out.below hb2)
      have ha := Lib.hid (Alt.of_below (S := fun i => i = m ∨ i = g) hb2)
      clear hb2 bc
      have bc := h2.out.box.cell
      rw [HT.out] at bc
      go_wp2_with fail
      go_ret
      exact ⟨rfl, ha.out, h2⟩
    · have hk0 : (k == 0) = false := by simp; omega
      have k3 : 0 ≤ k := by omega
      go_enter Try.func127, Try.ntmps127
      go_wp2_with fail
      refine (dead_any _ _ (by rw [bc]; rfl)).mono ?_
      rintro e1 w1 ⟨rfl, rfl⟩
      go_wp2_with fail
      refine (D.out _).mono ?_
      rintro e1 w2 ⟨rfl, hb2⟩
      have h2 := Lib.hid (h.out.below hb2)
      have ha := Lib.hid (Alt.of_below (S := fun i => i = m ∨ i = g) hb2)
      clear hb2 bc
      have bc := h2.out.box.cell
      rw [HT.out] at bc
      go_wp2_with fail
      go_ret
      exact ⟨rfl, ha.out, h2⟩
  · --
    rcases hk with ⟨rfl, k1, k2⟩ | ⟨k1, k2⟩
    · have C := Lib.hid (has_any w m g n cap p true (by rw [bc]; rfl) (Lib.hid (by simp; omega)))
      go_enter Try.func127, Try.ntmps127
      go_wp2_with fail
      refine (dead_any _ _ (by rw [bc]; rfl)).mono ?_
      rintro e1 w1 ⟨rfl, rfl⟩
      go_wp2_with fail
      refine C.out.mono ?_
      rintro e1 w1 ⟨rfl, rfl⟩
      go_wp2_with fail
      refine (D.out _).mono ?_
      rintro e1 w2 ⟨rfl, hb2⟩
      have h2 := Lib.hid (h.out.below hb2)
      have ha := Lib.hid (Alt.of_below (S := fun i => i = m ∨ i = g) hb2)
      clear hb2 bc
      have bc := h2.out.box.cell
      rw [HT.out] at bc
      go_wp2_with fail
      go_ret
      exact ⟨rfl, ha.out, h2⟩
    · have hk0 : (k == 0) = false := by simp; omega
      have k3 : 0 ≤ k := by omega
      go_enter Try.func127, Try.ntmps127
      go_wp2_with fail
      refine (dead_any _ _ (by rw [bc]; rfl)).mono ?_
      rintro e1 w1 ⟨rfl, rfl⟩
      go_wp2_with fail
      refine (D.out _).mono ?_
      rintro e1 w2 ⟨rfl, hb2⟩
      have h2 := Lib.hid (h.out.below hb2)
      have ha := Lib.hid (Alt.of_below (S := fun i => i = m ∨ i = g) hb2)
      clear hb2 bc
      have bc := h2.out.box.cell
      rw [HT.out] at bc
      go_wp2_with fail
      go_ret
      exact ⟨rfl, ha.out, h2⟩

set_option maxRecDepth 100000 in
set_option maxHeartbeats 1000000 in
theorem take_ok (w : World) (m g n cap : Nat) (s : MS) (k p pw ns : Int) (h : Hid (Mtr w m g n cap s)) (hb : ¬ bad n k p pw ns) (ok : MOk n s) (i1 : I64 pw) (i2 : I64 ns) (hf : ¬ far n s pw ns) :
    Calls Try.prog 127 #[.pointer (some ⟨m, 0, none⟩), .int .i64 k, .int .i64 p, .int .i64 pw, .int .i64 ns] w (TkPost w m g n cap 0 (add s k p (md pw ns 1 false).1 ns)) := by
  have bc := h.out.box.cell
  have hk : (k = 0 ∧ 0 ≤ p ∧ p < (n : Int)) ∨ (1 ≤ k ∧ k < 4) := by unfold bad at hb; omega
  have q1 : 0 ≤ pw := by unfold bad at hb; omega
  have q2 : 0 ≤ ns := by unfold bad at hb; omega
  have D := fun w => mul_any pw ns w i1.1 i1.2 i2.1 i2.2
  obtain ⟨m0, m1, m2, m3⟩ := FitB.md_bd pw ns 1 false (fun _ _ _ => trivial)
  have t0 := tot_nonneg ok
  have t1 := ok.tot
  have t2 := ok.tim
  have t3 := ok.tim1
  have j1 := ok.id
  have j2 := ok.sl
  have j3 := ok.ch
  have j4 := sumTo_nonneg ok.run
  have jt : tot n s = s.id + s.sl + s.ch + sumTo s.run n := rfl
  have HA := Lib.hid (tot_add (n := n) (s := s) (k := k) (p := p) (x := (md pw ns 1 false).1) (ns := ns) (by omega) (by omega) (by omega))
  have JR := Lib.hid (fun i (hi : i < n) => sumTo_le ok.run hi)
  unfold far at hf
  obtain ⟨tt, ht⟩ : ∃ tt, tot n s = tt := ⟨_, rfl⟩
  rw [ht] at t0 t1 hf bc HA jt
  have HT := Lib.hid ht
  clear ht
  generalize (md pw ns 1 false).1 = x at *
  generalize (md pw ns 1 false).2 = e at *
  have D := Lib.hid D
  obtain ⟨rfl, f1, f2⟩ : e = 0 ∧ x ≤ 4611686018427387904 - tt ∧ ns ≤ 4611686018427387904 - s.tim := by omega
  have jl1 : s.id ≤ tt := by omega
  have jl2 : s.sl ≤ tt := by omega
  have jl3 : s.ch ≤ tt := by omega
  have jl4 : sumTo s.run n ≤ tt := by omega
  clear hb hf jt
  rcases hk with ⟨rfl, k1, k2⟩ | ⟨k1, k2⟩
  · have C := Lib.hid (has_any w m g n cap p true (by rw [bc]; rfl) (Lib.hid (by simp; omega)))
    go_enter Try.func127, Try.ntmps127
    go_wp2_with fail
    refine (dead_any _ _ (by rw [bc]; rfl)).mono ?_
    rintro e1 w1 ⟨rfl, rfl⟩
    go_wp2_with fail
    refine C.out.mono ?_
    rintro e1 w1 ⟨rfl, rfl⟩
    go_wp2_with fail
    refine (D.out _).mono ?_
    rintro e1 w2 ⟨rfl, hb2⟩
    have h2 := Lib.hid (h.out.below hb2)
    have ha := Lib.hid (Alt.of_below (S := fun i => i = m ∨ i = g) hb2)
    clear hb2 bc
    have bc := h2.out.box.cell
    have bf := h2.out.box.frozen
    rw [HT.out] at bc
    go_wp2_with fail
    have b3 := Lib.hid ((h2.out.box.set 4 (.int .i64 (tt + x))).set 5 (.int .i64 (s.tim + ns)))
    have o3 := Lib.hid (own_alt h2.out.own ((Alt.set (S := fun i => i = m) w2 ⟨m, 4, none⟩ (.int .i64 (tt + x)) rfl).trans (Alt.set (S := fun i => i = m) _ ⟨m, 5, none⟩ (.int .i64 (s.tim + ns)) rfl)) (own_ne h2.out.own h2.out.box (by decide)))
    have a3 := Lib.hid (ha.out.trans ((Alt.set (S := fun i => i = m ∨ i = g) w2 ⟨m, 4, none⟩ (.int .i64 (tt + x)) (.inl rfl)).trans (Alt.set _ ⟨m, 5, none⟩ (.int .i64 (s.tim + ns)) (.inl rfl))))
    generalize (w2.setCell ⟨m, 4, none⟩ (.int .i64 (tt + x))).setCell ⟨m, 5, none⟩ (.int .i64 (s.tim + ns)) = w3 at b3 o3 a3 ⊢
    refine (put_any w3 m g n cap _ p x s.id s.sl s.ch (tt + x) (s.tim + ns) s.run (by exact b3) o3 (by omega) (by omega) (by omega) ok.hn m0 ⟨j1, by omega⟩ ⟨j2, by omega⟩ ⟨j3, by omega⟩ (fun i hi => ⟨ok.run i hi, by have := JR.out i hi; omega⟩)).mono ?_
    rintro e1 w4 ⟨⟨v4, rfl⟩, a4, b4, o4⟩
    go_wp2_with fail
    go_ret
    refine ⟨rfl, a3.out.trans a4, Lib.hid ⟨?_, o4⟩⟩
    rw [HA.out]; exact b4
  · have hk0 : (k == 0) = false := by simp; omega
    have k3 : 0 ≤ k := by omega
    go_enter Try.func127, Try.ntmps127
    go_wp2_with fail
    refine (dead_any _ _ (by rw [bc]; rfl)).mono ?_
    rintro e1 w1 ⟨rfl, rfl⟩
    go_wp2_with fail
    refine (D.out _).mono ?_
    rintro e1 w2 ⟨rfl, hb2⟩
    have h2 := Lib.hid (h.out.below hb2)
    have ha := Lib.hid (Alt.of_below (S := fun i => i = m ∨ i = g) hb2)
    clear hb2 bc
    have bc := h2.out.box.cell
    have bf := h2.out.box.frozen
    rw [HT.out] at bc
    go_wp2_with fail
    have b3 := Lib.hid ((h2.out.box.set 4 (.int .i64 (tt + x))).set 5 (.int .i64 (s.tim + ns)))
    have o3 := Lib.hid (own_alt h2.out.own ((Alt.set (S := fun i => i = m) w2 ⟨m, 4, none⟩ (.int .i64 (tt + x)) rfl).trans (Alt.set (S := fun i => i = m) _ ⟨m, 5, none⟩ (.int .i64 (s.tim + ns)) rfl)) (own_ne h2.out.own h2.out.box (by decide)))
    have a3 := Lib.hid (ha.out.trans ((Alt.set (S := fun i => i = m ∨ i = g) w2 ⟨m, 4, none⟩ (.int .i64 (tt + x)) (.inl rfl)).trans (Alt.set _ ⟨m, 5, none⟩ (.int .i64 (s.tim + ns)) (.inl rfl))))
    generalize (w2.setCell ⟨m, 4, none⟩ (.int .i64 (tt + x))).setCell ⟨m, 5, none⟩ (.int .i64 (s.tim + ns)) = w3 at b3 o3 a3 ⊢
    refine (put_any w3 m g n cap _ p x s.id s.sl s.ch (tt + x) (s.tim + ns) s.run (by exact b3) o3 (by omega) (by omega) (by omega) ok.hn m0 ⟨j1, by omega⟩ ⟨j2, by omega⟩ ⟨j3, by omega⟩ (fun i hi => ⟨ok.run i hi, by have := JR.out i hi; omega⟩)).mono ?_
    rintro e1 w4 ⟨⟨v4, rfl⟩, a4, b4, o4⟩
    go_wp2_with fail
    go_ret
    refine ⟨rfl, a3.out.trans a4, Lib.hid ⟨?_, o4⟩⟩
    rw [HA.out]; exact b4

theorem take_any (w : World) (m g n cap : Nat) (s : MS) (k p pw ns : Int) (h : Hid (Mtr w m g n cap s)) (ok : MOk n s) (i1 : I64 pw) (i2 : I64 ns) :
    Calls Try.prog 127 #[.pointer (some ⟨m, 0, none⟩), .int .i64 k, .int .i64 p, .int .i64 pw, .int .i64 ns] w (TkPost w m g n cap (tk n s k p pw ns).1 (tk n s k p pw ns).2) := by
  unfold tk
  by_cases hb : bad n k p pw ns
  · rw [if_pos hb]; exact take_bad w m g n cap s k p pw ns h hb ok.hn
  · rw [if_neg hb]
    by_cases hf : far n s pw ns
    · rw [if_pos hf]; exact take_far w m g n cap s k p pw ns h hb ok i1 i2 hf
    · rw [if_neg hf]; exact take_ok w m g n cap s k p pw ns h hb ok i1 i2 hf
/-- a take keeps a meter whole -/
theorem tk_ok (n : Nat) (s : MS) (k p pw ns : Int) (ok : MOk n s) : MOk n (tk n s k p pw ns).2 := by
  unfold tk
  by_cases hb : bad n k p pw ns
  · rw [if_pos hb]; exact ok
  · rw [if_neg hb]
    by_cases hf : far n s pw ns
    · rw [if_pos hf]; exact ok
    · rw [if_neg hf]
      obtain ⟨m0, m1, m2, m3⟩ := FitB.md_bd pw ns 1 false (fun _ _ _ => trivial)
      unfold bad at hb
      unfold far at hf
      have ha := tot_add (n := n) (s := s) (k := k) (p := p) (x := (md pw ns 1 false).1) (ns := ns) (by omega) (by omega) (by omega)
      have := ok.id; have := ok.sl; have := ok.ch; have := ok.tim
      refine ⟨ok.hn, fun i hi => ?_, ?_, ?_, ?_, ?_, ?_, ?_⟩
      · show 0 ≤ runAdd s.run k p _ i
        have := ok.run i hi
        unfold runAdd; split <;> omega
      · show 0 ≤ if k = 1 then _ else _
        split <;> omega
      · show 0 ≤ if k = 2 then _ else _
        split <;> omega
      · show 0 ≤ if k = 3 then _ else _
        split <;> omega
      · show 0 ≤ s.tim + ns
        omega
      · show tot n (add s k p _ ns) ≤ _
        rw [ha]; omega
      · show s.tim + ns ≤ _
        omega
end Go.Proofs.Ytgkahcchekiogaa.MetB
