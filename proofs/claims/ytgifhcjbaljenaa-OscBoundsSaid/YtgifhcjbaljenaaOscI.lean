/- The law of osc: Bounds. -/
import Derived.Test.YtgifhcjbaljenaaOscH
namespace Go.Proofs.Ytgifhcjbaljenaa.OscI
open Go.RowKit Base WideA WideB OscPlain OscPlainB OscA OscB OscC OscD OscH
set_option linter.unusedVariables false
set_option linter.unusedSimpArgs false

set_option maxHeartbeats 4000000 in
theorem lawbounds_any (h p n ns : Int) (w : World) (hh : I64 h) (hp : I64 p) (hn : I64 n) (hns : I64 ns) :
    Calls Try.prog 7 #[.agg #[.int .i64 h, .int .i64 p], .int .i64 n, .int .i64 ns] w fun e w' => e = .returned (.bool true) ∧ Below w.heap.size w w' := by
  obtain ⟨t1, t2⟩ := bnd_bd h n ns
  obtain ⟨lo, hlo⟩ : ∃ a, (bnd h n ns).1 = a := ⟨_, rfl⟩
  obtain ⟨hg, hhg⟩ : ∃ a, (bnd h n ns).2.1 = a := ⟨_, rfl⟩
  obtain ⟨er, her⟩ : ∃ a, (bnd h n ns).2.2 = a := ⟨_, rfl⟩
  have B1 := Lib.hid (fun w => bounds_any h n ns lo hg er w (by rw [← hlo, ← hhg, ← her]; rfl) hh hn hns)
  have B2 := Lib.hid (fun w => boundsr_any h n ns lo hg er w (by rw [← hlo, ← hhg, ← her]; rfl) hh hn hns)
  rw [her] at t1 t2
  clear hlo hhg her
  by_cases hbad : bad h p ∨ ns < 0
  · have C := Lib.hid (fun w => counts_any h p ns 0 2 w (by rw [cn, if_pos hbad]; rfl) hns)
    clear hbad
    go_enter Try.func7, Try.ntmps7
    go_wp2_with fail
    refine (B1.out _).mono ?_
    rintro e1 w1 ⟨rfl, hb1⟩
    have o1 := (show Cell _ w.heap.size 0 (.int .i64 h) from ⟨by go_simp, by go_simp⟩ : Cell (w.alloc (Obj.cells #[Value.int IntKind.i64 h, Value.int IntKind.i64 p] 23)) _ _ _).below hb1 (by simp)
    have o2 := (show Cell _ w.heap.size 1 (.int .i64 p) from ⟨by go_simp, by go_simp⟩ : Cell (w.alloc (Obj.cells #[Value.int IntKind.i64 h, Value.int IntKind.i64 p] 23)) _ _ _).below hb1 (by simp)
    obtain ⟨o1, _⟩ := o1
    obtain ⟨o2, _⟩ := o2
    have hz1 : w.heap.size < w1.heap.size := by have := hb1.size; simp at this; omega
    have hB : Below w.heap.size w w1 := ((Below.refl _ _).alloc (Nat.le_refl _) _).trans (hb1.mono (by simp))
    have HB := Lib.hid hB
    clear hb1 hB
    go_wp2_with fail
    refine (B2.out _).mono ?_
    rintro e1 w2 ⟨rfl, hb2⟩
    have o1 := keep hb2 o1 (by first | (simp; done) | (simp; omega))
    have o2 := keep hb2 o2 (by first | (simp; done) | (simp; omega))
    have hz2 : w.heap.size < w2.heap.size := Nat.lt_of_lt_of_le hz1 hb2.size
    have HB := Lib.hid (HB.out.trans (hb2.mono (Nat.le_of_lt hz1)))
    clear hb2
    go_wp2_with fail
    refine (C.out _).mono ?_
    rintro e1 w3 ⟨rfl, hb2⟩
    have o1 := keep hb2 o1 (by first | (simp; done) | (simp; omega))
    have o2 := keep hb2 o2 (by first | (simp; done) | (simp; omega))
    have hz3 : w.heap.size < w3.heap.size := Nat.lt_of_lt_of_le hz2 hb2.size
    have HB := Lib.hid (HB.out.trans (hb2.mono (Nat.le_of_lt hz2)))
    clear hb2
    go_wp2_with fail
    refine (works_any _).mono ?_
    rintro e1 w7 ⟨rfl, hb7⟩
    go_wp2_with fail
    go_ret
    exact ⟨rfl, HB.out.trans (hb7.mono (Nat.le_of_lt (by omega)))⟩
  · have hb : ¬ bad h p := fun k => hbad (.inl k)
    have hn0 : 0 ≤ ns := by omega
    obtain ⟨k, hk⟩ : ∃ k, cnt h p ns = k := ⟨_, rfl⟩
    have C := Lib.hid (fun w => counts_any h p ns k 0 w (by rw [cn, if_neg hbad, hk]; rfl) hns)
    obtain ⟨b1, b2⟩ := cnt_bd hb hn0
    rw [hk] at b1 b2
    by_cases hr : k < 1 ∨ 1000000000 < k ∨ ns < 1 ∨ 1000000000000 < ns
    · rcases (show k < 1 ∨ (1 ≤ k ∧ 1000000000 < k) ∨ (1 ≤ k ∧ k ≤ 1000000000 ∧ ns < 1) ∨ (1 ≤ k ∧ k ≤ 1000000000 ∧ 1 ≤ ns ∧ 1000000000000 < ns) by omega) with j | ⟨j1, j2⟩ | ⟨j1, j2, j3⟩ | ⟨j1, j2, j3, j4⟩
      all_goals
        clear hr hbad hb hk
        go_enter Try.func7, Try.ntmps7
        go_wp2_with fail
        refine (B1.out _).mono ?_
        rintro e1 w1 ⟨rfl, hb1⟩
        have o1 := (show Cell _ w.heap.size 0 (.int .i64 h) from ⟨by go_simp, by go_simp⟩ : Cell (w.alloc (Obj.cells #[Value.int IntKind.i64 h, Value.int IntKind.i64 p] 23)) _ _ _).below hb1 (by simp)
        have o2 := (show Cell _ w.heap.size 1 (.int .i64 p) from ⟨by go_simp, by go_simp⟩ : Cell (w.alloc (Obj.cells #[Value.int IntKind.i64 h, Value.int IntKind.i64 p] 23)) _ _ _).below hb1 (by simp)
        obtain ⟨o1, _⟩ := o1
        obtain ⟨o2, _⟩ := o2
        have hz1 : w.heap.size < w1.heap.size := by have := hb1.size; simp at this; omega
        have hB : Below w.heap.size w w1 := ((Below.refl _ _).alloc (Nat.le_refl _) _).trans (hb1.mono (by simp))
        have HB := Lib.hid hB
        clear hb1 hB
        go_wp2_with fail
        refine (B2.out _).mono ?_
        rintro e1 w2 ⟨rfl, hb2⟩
        have o1 := keep hb2 o1 (by first | (simp; done) | (simp; omega))
        have o2 := keep hb2 o2 (by first | (simp; done) | (simp; omega))
        have hz2 : w.heap.size < w2.heap.size := Nat.lt_of_lt_of_le hz1 hb2.size
        have HB := Lib.hid (HB.out.trans (hb2.mono (Nat.le_of_lt hz1)))
        clear hb2
        go_wp2_with fail
        refine (C.out _).mono ?_
        rintro e1 w3 ⟨rfl, hb2⟩
        have o1 := keep hb2 o1 (by first | (simp; done) | (simp; omega))
        have o2 := keep hb2 o2 (by first | (simp; done) | (simp; omega))
        have hz3 : w.heap.size < w3.heap.size := Nat.lt_of_lt_of_le hz2 hb2.size
        have HB := Lib.hid (HB.out.trans (hb2.mono (Nat.le_of_lt hz2)))
        clear hb2
        go_wp2_with fail
        refine (works_any _).mono ?_
        rintro e1 w7 ⟨rfl, hb7⟩
        go_wp2_with fail
        go_ret
        exact ⟨rfl, HB.out.trans (hb7.mono (Nat.le_of_lt (by omega)))⟩
    · have j1 : 1 ≤ k := by omega
      have j2 : k ≤ 1000000000 := by omega
      have j3 : 1 ≤ ns := by omega
      have j4 : ns ≤ 1000000000000 := by omega
      obtain ⟨c, d, hcd, hc, hd⟩ := bnd_in hb (by rw [hk]; exact j1) (by rw [hk]; exact j2) j3 j4
      rw [hk] at hcd
      have B3 := Lib.hid (fun w => bounds_any h k ns c d 0 w hcd hh ⟨by omega, by omega⟩ hns)
      clear hr hbad hb hk hcd
      go_enter Try.func7, Try.ntmps7
      go_wp2_with fail
      refine (B1.out _).mono ?_
      rintro e1 w1 ⟨rfl, hb1⟩
      have o1 := (show Cell _ w.heap.size 0 (.int .i64 h) from ⟨by go_simp, by go_simp⟩ : Cell (w.alloc (Obj.cells #[Value.int IntKind.i64 h, Value.int IntKind.i64 p] 23)) _ _ _).below hb1 (by simp)
      have o2 := (show Cell _ w.heap.size 1 (.int .i64 p) from ⟨by go_simp, by go_simp⟩ : Cell (w.alloc (Obj.cells #[Value.int IntKind.i64 h, Value.int IntKind.i64 p] 23)) _ _ _).below hb1 (by simp)
      obtain ⟨o1, _⟩ := o1
      obtain ⟨o2, _⟩ := o2
      have hz1 : w.heap.size < w1.heap.size := by have := hb1.size; simp at this; omega
      have hB : Below w.heap.size w w1 := ((Below.refl _ _).alloc (Nat.le_refl _) _).trans (hb1.mono (by simp))
      have HB := Lib.hid hB
      clear hb1 hB
      go_wp2_with fail
      refine (B2.out _).mono ?_
      rintro e1 w2 ⟨rfl, hb2⟩
      have o1 := keep hb2 o1 (by first | (simp; done) | (simp; omega))
      have o2 := keep hb2 o2 (by first | (simp; done) | (simp; omega))
      have hz2 : w.heap.size < w2.heap.size := Nat.lt_of_lt_of_le hz1 hb2.size
      have HB := Lib.hid (HB.out.trans (hb2.mono (Nat.le_of_lt hz1)))
      clear hb2
      go_wp2_with fail
      refine (C.out _).mono ?_
      rintro e1 w3 ⟨rfl, hb2⟩
      have o1 := keep hb2 o1 (by first | (simp; done) | (simp; omega))
      have o2 := keep hb2 o2 (by first | (simp; done) | (simp; omega))
      have hz3 : w.heap.size < w3.heap.size := Nat.lt_of_lt_of_le hz2 hb2.size
      have HB := Lib.hid (HB.out.trans (hb2.mono (Nat.le_of_lt hz2)))
      clear hb2
      go_wp2_with fail
      refine (B3.out _).mono ?_
      rintro e1 w4 ⟨rfl, hb2⟩
      have o1 := keep hb2 o1 (by first | (simp; done) | (simp; omega))
      have o2 := keep hb2 o2 (by first | (simp; done) | (simp; omega))
      have hz4 : w.heap.size < w4.heap.size := Nat.lt_of_lt_of_le hz3 hb2.size
      have HB := Lib.hid (HB.out.trans (hb2.mono (Nat.le_of_lt hz3)))
      clear hb2
      go_wp2_with fail
      refine (works_any _).mono ?_
      rintro e1 w7 ⟨rfl, hb7⟩
      go_wp2_with fail
      go_ret
      exact ⟨rfl, HB.out.trans (hb7.mono (Nat.le_of_lt (by omega)))⟩

end Go.Proofs.Ytgifhcjbaljenaa.OscI
