/- Walks of the reference's meter: Take. -/
import Derived.Test.YtgkahcchekiogaaMetR
namespace Go.Proofs.Ytgkahcchekiogaa.MetQ
open Go.RowKit Base Kit RefA Alt WideA WideB Plain MetA MetB MetC MetL MetR
set_option linter.unusedVariables false
set_option linter.unusedSimpArgs false

theorem alt_grown {S : Nat → Prop} {w w1 w2 : World} {g : Nat} (h : Alt S w w1) (hg : w1.grownBy w2 (some g)) (hw : w.heap.size ≤ g) : Alt S w w2 :=
  ⟨hg.os.trans h.os, hg.tape.trans h.tape, hg.output.trans h.output, Nat.le_trans h.size hg.size, fun k hk hs => (hg.block k (Nat.lt_of_lt_of_le hk h.size) (fun e => by have := Option.some.inj e; omega)).trans (h.block k hk hs)⟩
def RPost (w : World) (m g n : Nat) (r : Int) (s : MS) (e : Ending) (w' : World) : Prop :=
  ∃ g' cap, e = .returned (.int .i64 r) ∧ Alt (fun i => i = m) w w' ∧ (g' = g ∨ w.heap.size ≤ g') ∧ Hid (RMt w' m g' n cap s)

set_option maxRecDepth 100000 in
set_option maxHeartbeats 1000000 in
theorem rtake_bad (w : World) (m g n cap : Nat) (s : MS) (k p pw ns : Int) (h : Hid (RMt w m g n cap s)) (hb : bad n k p pw ns) (hn : n ≤ 8) :
    Calls Try.prog 120 #[.pointer (some ⟨m, 0, none⟩), .int .i64 k, .int .i64 p, .int .i64 pw, .int .i64 ns] w (RPost w m g n 2 s) := by
  have bc := h.out.box.cell
  have ways : k < 0 ∨ (0 ≤ k ∧ 3 < k) ∨ (0 ≤ k ∧ k ≤ 3 ∧ pw < 0) ∨ (0 ≤ k ∧ k ≤ 3 ∧ 0 ≤ pw ∧ ns < 0) ∨ (0 ≤ k ∧ k ≤ 3 ∧ 0 ≤ pw ∧ 0 ≤ ns ∧ k = 0 ∧ p < 0) ∨ (0 ≤ k ∧ k ≤ 3 ∧ 0 ≤ pw ∧ 0 ≤ ns ∧ k = 0 ∧ 0 ≤ p ∧ (n : Int) ≤ p) := by unfold bad at hb; omega
  clear hb
  rcases ways with k1 | ⟨k1, k2⟩ | ⟨k1, k2, k3⟩ | ⟨k1, k2, k3, k4⟩ | ⟨k1, k2, k3, k4, rfl, k5⟩ | ⟨k1, k2, k3, k4, rfl, k5, k6⟩
  all_goals
    go_enter Try.func120, Try.ntmps120
    go_wp2_with fail
    go_ret
    exact ⟨g, cap, rfl, Alt.refl _ _, .inl rfl, h⟩

set_option maxRecDepth 100000 in
set_option maxHeartbeats 1000000 in
theorem rtake_far (w : World) (m g n cap : Nat) (s : MS) (k p pw ns : Int) (h : Hid (RMt w m g n cap s)) (hb : ¬ bad n k p pw ns) (ok : MOk n s) (i1 : I64 pw) (i2 : I64 ns) (hf : far n s pw ns) :
    Calls Try.prog 120 #[.pointer (some ⟨m, 0, none⟩), .int .i64 k, .int .i64 p, .int .i64 pw, .int .i64 ns] w (RPost w m g n 6 s) := by
  have bc := h.out.box.cell
  have hn := ok.hn
  have hk : (k = 0 ∧ 0 ≤ p ∧ p < (n : Int)) ∨ (1 ≤ k ∧ k ≤ 3) := by unfold bad at hb; omega
  have q1 : 0 ≤ pw := by unfold bad at hb; omega
  have q2 : 0 ≤ ns := by unfold bad at hb; omega
  have D := fun w => RefC.mdr_any pw ns 1 false w i1.1 i1.2 i2.1 i2.2 (by omega) (by omega)
  obtain ⟨m0, m1, m2, m3⟩ := FitB.md_bd pw ns 1 false (fun _ _ _ => trivial)
  have t0 := tot_nonneg ok
  have t1 := ok.tot
  have t2 := ok.tim
  have t3 := ok.tim1
  unfold far at hf
  obtain ⟨tt, ht⟩ : ∃ tt, tot n s = tt := ⟨_, rfl⟩
  rw [ht] at t0 t1 hf
  have HT := Lib.hid ht
  clear ht
  generalize (md pw ns 1 false).1 = x at *
  generalize (md pw ns 1 false).2 = e at *
  have D := Lib.hid D
  have ways : e ≠ 0 ∨ (e = 0 ∧ 4611686018427387904 - tt < x) ∨ (e = 0 ∧ x ≤ 4611686018427387904 - tt ∧ 4611686018427387904 - s.tim < ns) := by omega
  clear hb hf
  rcases ways with f1 | ⟨rfl, f1⟩ | ⟨rfl, f1, f2⟩
  · have f2 : (e != 0) = true := by simpa using f1
    clear f1
    rcases hk with ⟨rfl, k1, k2⟩ | ⟨k1, k2⟩
    · --
      go_enter Try.func120, Try.ntmps120
      go_wp2_with fail
      refine (D.out _).mono ?_
      rintro e1 w2 ⟨rfl, hb2⟩
      have h2 := Lib.hid (h.out.below hb2)
      have ha := Lib.hid (Alt.of_below (S := fun i => i = m) hb2)
      clear hb2 bc
      have bc := h2.out.box.cell
      go_wp2_with fail
      go_ret
      exact ⟨g, cap, rfl, ha.out, .inl rfl, h2⟩
    · have hk0 : (k == 0) = false := by simp; omega
      have k3 : 0 ≤ k := by omega
      go_enter Try.func120, Try.ntmps120
      go_wp2_with fail
      refine (D.out _).mono ?_
      rintro e1 w2 ⟨rfl, hb2⟩
      have h2 := Lib.hid (h.out.below hb2)
      have ha := Lib.hid (Alt.of_below (S := fun i => i = m) hb2)
      clear hb2 bc
      have bc := h2.out.box.cell
      go_wp2_with fail
      go_ret
      exact ⟨g, cap, rfl, ha.out, .inl rfl, h2⟩
  · --
    rcases hk with ⟨rfl, k1, k2⟩ | ⟨k1, k2⟩
    · --
      go_enter Try.func120, Try.ntmps120
      go_wp2_with fail
      refine (D.out _).mono ?_
      rintro e1 w2 ⟨rfl, hb2⟩
      have h2 := Lib.hid (h.out.below hb2)
      have ha := Lib.hid (Alt.of_below (S := fun i => i = m) hb2)
      clear hb2 bc
      have bc := h2.out.box.cell
      go_wp2_with fail
      refine (totalr_any w2 m g n cap s h2 ok tt HT).mono ?_
      rintro e1 w3 ⟨rfl, hb3⟩
      have h3 := Lib.hid (h2.out.below hb3)
      have ha3 := Lib.hid (ha.out.trans (Alt.of_below hb3))
      clear hb3 bc
      have bc := h3.out.box.cell
      go_wp2_with fail
      go_ret
      exact ⟨g, cap, rfl, ha3.out, .inl rfl, h3⟩
    · have hk0 : (k == 0) = false := by simp; omega
      have k3 : 0 ≤ k := by omega
      go_enter Try.func120, Try.ntmps120
      go_wp2_with fail
      refine (D.out _).mono ?_
      rintro e1 w2 ⟨rfl, hb2⟩
      have h2 := Lib.hid (h.out.below hb2)
      have ha := Lib.hid (Alt.of_below (S := fun i => i = m) hb2)
      clear hb2 bc
      have bc := h2.out.box.cell
      go_wp2_with fail
      refine (totalr_any w2 m g n cap s h2 ok tt HT).mono ?_
      rintro e1 w3 ⟨rfl, hb3⟩
      have h3 := Lib.hid (h2.out.below hb3)
      have ha3 := Lib.hid (ha.out.trans (Alt.of_below hb3))
      clear hb3 bc
      have bc := h3.out.box.cell
      go_wp2_with fail
      go_ret
      exact ⟨g, cap, rfl, ha3.out, .inl rfl, h3⟩
  · --
    rcases hk with ⟨rfl, k1, k2⟩ | ⟨k1, k2⟩
    · --
      go_enter Try.func120, Try.ntmps120
      go_wp2_with fail
      refine (D.out _).mono ?_
      rintro e1 w2 ⟨rfl, hb2⟩
      have h2 := Lib.hid (h.out.below hb2)
      have ha := Lib.hid (Alt.of_below (S := fun i => i = m) hb2)
      clear hb2 bc
      have bc := h2.out.box.cell
      go_wp2_with fail
      refine (totalr_any w2 m g n cap s h2 ok tt HT).mono ?_
      rintro e1 w3 ⟨rfl, hb3⟩
      have h3 := Lib.hid (h2.out.below hb3)
      have ha3 := Lib.hid (ha.out.trans (Alt.of_below hb3))
      clear hb3 bc
      have bc := h3.out.box.cell
      go_wp2_with fail
      go_ret
      exact ⟨g, cap, rfl, ha3.out, .inl rfl, h3⟩
    · have hk0 : (k == 0) = false := by simp; omega
      have k3 : 0 ≤ k := by omega
      go_enter Try.func120, Try.ntmps120
      go_wp2_with fail
      refine (D.out _).mono ?_
      rintro e1 w2 ⟨rfl, hb2⟩
      have h2 := Lib.hid (h.out.below hb2)
      have ha := Lib.hid (Alt.of_below (S := fun i => i = m) hb2)
      clear hb2 bc
      have bc := h2.out.box.cell
      go_wp2_with fail
      refine (totalr_any w2 m g n cap s h2 ok tt HT).mono ?_
      rintro e1 w3 ⟨rfl, hb3⟩
      have h3 := Lib.hid (h2.out.below hb3)
      have ha3 := Lib.hid (ha.out.trans (Alt.of_below hb3))
      clear hb3 bc
      have bc := h3.out.box.cell
      go_wp2_with fail
      go_ret
      exact ⟨g, cap, rfl, ha3.out, .inl rfl, h3⟩

/-- a number is put into a field -/
theorem rfin (w w' : World) (m g n cap : Nat) (s : MS) (k p x ns : Int) (a : Alt (fun i => i = m) w w') (b : Box w' m #[.slice (some ⟨g, 0, none⟩) n cap, .int .i64 (add s k p x ns).id, .int .i64 (add s k p x ns).sl, .int .i64 (add s k p x ns).ch, .int .i64 (add s k p x ns).tim] 177)
    (g0 : Nat) (hg : g = g0 ∨ w.heap.size ≤ g) (o : w'.ownsRow 0 3 1 (.slice (some ⟨g, 0, none⟩) n cap) n (row (runAdd s.run k p x) n)) : RPost w m g0 n 0 (add s k p x ns) (.returned (.int .i64 0)) w' :=
  ⟨g, cap, rfl, a, hg, Lib.hid ⟨b, o⟩⟩

set_option maxRecDepth 100000 in
set_option maxHeartbeats 2000000 in
theorem rtake_ok (w : World) (m g n cap : Nat) (s : MS) (k p pw ns : Int) (h : Hid (RMt w m g n cap s)) (hb : ¬ bad n k p pw ns) (ok : MOk n s) (i1 : I64 pw) (i2 : I64 ns) (hf : ¬ far n s pw ns) :
    Calls Try.prog 120 #[.pointer (some ⟨m, 0, none⟩), .int .i64 k, .int .i64 p, .int .i64 pw, .int .i64 ns] w (RPost w m g n 0 (add s k p (md pw ns 1 false).1 ns)) := by
  have bc := h.out.box.cell
  have hn := ok.hn
  have hk : (k = 0 ∧ 0 ≤ p ∧ p < (n : Int)) ∨ k = 1 ∨ k = 2 ∨ k = 3 := by unfold bad at hb; omega
  have q1 : 0 ≤ pw := by unfold bad at hb; omega
  have q2 : 0 ≤ ns := by unfold bad at hb; omega
  have D := fun w => RefC.mdr_any pw ns 1 false w i1.1 i1.2 i2.1 i2.2 (by omega) (by omega)
  obtain ⟨m0, m1, m2, m3⟩ := FitB.md_bd pw ns 1 false (fun _ _ _ => trivial)
  have t0 := tot_nonneg ok
  have t1 := ok.tot
  have t2 := ok.tim
  have t3 := ok.tim1
  have j1 := ok.id
  have j2 := ok.sl
  have j3 := ok.ch
  have j4 := sumTo_nonneg ok.run
  have jt : tot n s = s.id + s.sl + s.ch + sumTo s.run n := rfl
  have JR := Lib.hid (fun i (hi : i < n) => sumTo_le ok.run hi)
  have J0 := Lib.hid ok.run
  have RI := Lib.hid (run_i64 ok)
  unfold far at hf
  obtain ⟨tt, ht⟩ : ∃ tt, tot n s = tt := ⟨_, rfl⟩
  rw [ht] at t0 t1 hf jt
  have HT := Lib.hid ht
  clear ht
  generalize (md pw ns 1 false).1 = x at *
  generalize (md pw ns 1 false).2 = e at *
  have D := Lib.hid D
  obtain ⟨rfl, f1, f2⟩ : e = 0 ∧ x ≤ 4611686018427387904 - tt ∧ ns ≤ 4611686018427387904 - s.tim := by omega
  have jl1 : s.id ≤ tt := by omega
  have jl2 : s.sl ≤ tt := by omega
  have jl3 : s.ch ≤ tt := by omega
  have jl4 : sumTo s.run n ≤ tt := by omega
  clear hb hf jt
  rcases hk with ⟨rfl, k1, k2⟩ | rfl | rfl | rfl
  · obtain ⟨q, rfl⟩ := Int.eq_ofNat_of_zero_le k1
    have hq : q < n := by omega
    have y0 := J0.out q hq
    have y1 := JR.out q hq
    obtain ⟨y, hy⟩ : ∃ y, s.run q = y := ⟨_, rfl⟩
    rw [hy] at y0 y1
    have HY := Lib.hid hy
    clear hy
    go_enter Try.func120, Try.ntmps120
    go_wp2_with fail
    refine (D.out _).mono ?_
    rintro e1 w2 ⟨rfl, hb2⟩
    have h2 := Lib.hid (h.out.below hb2)
    have ha := Lib.hid (Alt.of_below (S := fun i => i = m) hb2)
    clear hb2 bc
    have bc := h2.out.box.cell
    go_wp2_with fail
    refine (totalr_any w2 m g n cap s h2 ok tt HT).mono ?_
    rintro e1 w3 ⟨rfl, hb3⟩
    have h3 := Lib.hid (h2.out.below hb3)
    have ha3 := Lib.hid (ha.out.trans (Alt.of_below hb3))
    clear hb3 bc
    have bc := h3.out.box.cell
    have bf := h3.out.box.frozen
    have R4 := rows_alloc (rows_own (own_alt h3.out.own (Alt.set (S := fun i => i = m) w3 ⟨m, 4, none⟩ (.int .i64 (s.tim + ns)) rfl) (own_ne h3.out.own h3.out.box (by decide))) (by omega) RI.out) (.cells #[] 3)
    have o1 := World.ownsRow_made (base := w3.heap.size) (e := 3) (size := 1) (w3.setCell ⟨m, 4, none⟩ (.int .i64 (s.tim + ns))) #[] 0 (by simp [World.setCell]) (by unfold maxLen; omega) rfl
    rw [show (w3.setCell ⟨m, 4, none⟩ (.int .i64 (s.tim + ns))).heap.size = w3.heap.size from by simp [World.setCell]] at o1
    have O1 := Lib.hid o1
    have B4 := Lib.hid ((h3.out.box.set 4 (.int .i64 (s.tim + ns))).alloc (.cells #[] 3))
    have A4 := Lib.hid ((ha3.out.trans (Alt.set (S := fun i => i = m) w3 ⟨m, 4, none⟩ (.int .i64 (s.tim + ns)) rfl)).trans (Alt.alloc _ (.cells #[] 3)))
    have hml : m < w3.heap.size := h3.out.box.lt
    have hw3 : w.heap.size ≤ w3.heap.size := ha3.out.size
    clear o1
    go_wp2_with (at_builtin; go_loud (refine append_all _ rfl _ _ 55 rfl Try.underlying55 w3.heap.size (.slice (some ⟨w3.heap.size, 0, none⟩) 0 0) 0 [] rfl (by exact O1.out) (some ⟨g, 0, none⟩) n cap s.run rfl (by simp) (by exact R4) (by omega) (by omega) (by simp [World.setCell]) ?_))
    intro v' w5 hown1 hg hnil
    obtain ⟨g', c', rfl, hge, hlt⟩ := own_form hown1 (fun e => hnil e)
    have hgm : g' ≠ m := by omega
    have A5 := Lib.hid (alt_grown A4.out hg hw3)
    have B5 := Lib.hid (B4.out.grown hg (fun e => by have h9 : m = w3.heap.size := Option.some.inj e; omega))
    have O5 := Lib.hid (own_base hown1 (base' := 0) (fun _ _ => Nat.zero_le _))
    have gc : w5.cell? ⟨g', q, none⟩ = some (.int .i64 y) := by rw [hown1.cellAt q (by omega), row_get s.run n q hq, HY.out]
    have gf := hown1.frozenAt q
    clear bc bf hg hnil hown1 O1 B4 A4 R4
    have bc := B5.out.cell
    have bf := B5.out.frozen
    go_wp2_with fail
    go_ret
    have fin := (O5.out.stored q (.int .i64 (y + x))).1
    rw [row_set] at fin
    refine rfin w _ m g' n c' s _ q x ns ?_ ?_ g (.inr (by omega)) ?_
    · refine Alt.trans (b := w5.setCell ⟨g', q, none⟩ (.int .i64 (y + x))) ?_ (Alt.set _ _ _ rfl)
      exact alt_grown A5.out (grown_set w5 g' q (.int .i64 (y + x))) (by omega)
    · exact (B5.out.setOther ⟨g', q, none⟩ (.int .i64 (y + x)) (Ne.symm hgm)).set 0 _
    · have e := runAdd_zero s.run q x
      rw [HY.out] at e
      rw [e]
      exact own_alt fin (Alt.set (S := fun i => i = m) _ _ _ rfl) hgm
  all_goals
    go_enter Try.func120, Try.ntmps120
    go_wp2_with fail
    refine (D.out _).mono ?_
    rintro e1 w2 ⟨rfl, hb2⟩
    have h2 := Lib.hid (h.out.below hb2)
    have ha := Lib.hid (Alt.of_below (S := fun i => i = m) hb2)
    clear hb2 bc
    have bc := h2.out.box.cell
    go_wp2_with fail
    refine (totalr_any w2 m g n cap s h2 ok tt HT).mono ?_
    rintro e1 w3 ⟨rfl, hb3⟩
    have h3 := Lib.hid (h2.out.below hb3)
    have ha3 := Lib.hid (ha.out.trans (Alt.of_below hb3))
    clear hb3 bc
    have bc := h3.out.box.cell
    have bf := h3.out.box.frozen
    go_wp2_with fail
    go_ret
    refine rfin w _ m g n cap s _ p x ns ?_ ?_ g (.inl rfl) ?_
    · exact (ha3.out.trans (Alt.set _ _ _ rfl)).trans (Alt.set _ _ _ rfl)
    · exact (h3.out.box.set _ _).set _ _
    · rw [runAdd_other (by omega)]
      exact own_alt (own_alt h3.out.own (Alt.set (S := fun i => i = m) _ _ _ rfl) (own_ne h3.out.own h3.out.box (by decide))) (Alt.set (S := fun i => i = m) _ _ _ rfl) (own_ne h3.out.own h3.out.box (by decide))

theorem rtake_any (w : World) (m g n cap : Nat) (s : MS) (k p pw ns : Int) (h : Hid (RMt w m g n cap s)) (ok : MOk n s) (i1 : I64 pw) (i2 : I64 ns) :
    Calls Try.prog 120 #[.pointer (some ⟨m, 0, none⟩), .int .i64 k, .int .i64 p, .int .i64 pw, .int .i64 ns] w (RPost w m g n (tk n s k p pw ns).1 (tk n s k p pw ns).2) := by
  unfold tk
  by_cases hb : bad n k p pw ns
  · rw [if_pos hb]; exact rtake_bad w m g n cap s k p pw ns h hb ok.hn
  · rw [if_neg hb]
    by_cases hf : far n s pw ns
    · rw [if_pos hf]; exact rtake_far w m g n cap s k p pw ns h hb ok i1 i2 hf
    · rw [if_neg hf]; exact rtake_ok w m g n cap s k p pw ns h hb ok i1 i2 hf
end Go.Proofs.Ytgkahcchekiogaa.MetQ
