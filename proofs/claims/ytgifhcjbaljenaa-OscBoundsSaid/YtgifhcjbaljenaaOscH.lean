/- Walks of osc: Bounds. -/
import Derived.Test.YtgifhcjbaljenaaOscE
import Derived.Test.YtgifhcjbaljenaaOscPlainB
namespace Go.Proofs.Ytgifhcjbaljenaa.OscH
open Go.RowKit Base WideA WideB OscPlain OscPlainB OscA OscB OscC OscD
set_option linter.unusedVariables false
set_option linter.unusedSimpArgs false

theorem fits_not {h p n ns : Int} {b : Bool} (hb : (!(fits h p n ns)) = b) : fits h p n ns = !b := by rw [← hb]; simp

theorem ask1_any (h n ns : Int) (B b1 b2 b3 : Nat) (W0 : World) (c1 : W0.cell? ⟨b1, 0, none⟩ = some (.int .i64 h)) (c2 : W0.cell? ⟨b2, 0, none⟩ = some (.int .i64 n)) (c3 : W0.cell? ⟨b3, 0, none⟩ = some (.int .i64 ns)) (hb1 : b1 < B) (hb2 : b2 < B) (hb3 : b3 < B) (hB0 : B ≤ W0.heap.size) (hn0 : 0 ≤ n) (hn1 : n ≤ 1000000001) :
    Asks B W0 44 #[.pointer (some ⟨b1, 0, none⟩), .pointer (some ⟨b2, 0, none⟩), .pointer (some ⟨b3, 0, none⟩)] (-999999) 999999 (fun p => !(fits h p n ns)) := by
  intro p w h0 h1 hw
  have d1 := keep hw c1 hb1
  have d2 := keep hw c2 hb2
  have d3 := keep hw c3 hb3
  obtain ⟨b, hb⟩ : ∃ b, (!(fits h p n ns)) = b := ⟨_, rfl⟩
  have C := Lib.hid (fun w => fits_any h p n ns (!b) w (fits_not hb) ⟨by omega, by omega⟩)
  show Calls Try.prog 44 #[.int .i64 p, .pointer (some ⟨b1, 0, none⟩), .pointer (some ⟨b2, 0, none⟩), .pointer (some ⟨b3, 0, none⟩)] w fun e w' => e = .returned (.bool (!(fits h p n ns))) ∧ Below B w w'
  rw [hb]
  have hB : B ≤ w.heap.size := Nat.le_trans hB0 hw.size
  clear c1 c2 c3 hw hb
  go_enter Try.func44, Try.ntmps44
  go_wp2_with fail
  refine (C.out _).mono ?_
  rintro e w1 ⟨rfl, hb1⟩
  go_wp2_with fail
  go_ret
  exact ⟨ret_bool (by simp), hb1.mono hB⟩

theorem ask2_any (h n ns : Int) (B b1 b2 b3 : Nat) (W0 : World) (c1 : W0.cell? ⟨b1, 0, none⟩ = some (.int .i64 h)) (c2 : W0.cell? ⟨b2, 0, none⟩ = some (.int .i64 n)) (c3 : W0.cell? ⟨b3, 0, none⟩ = some (.int .i64 ns)) (hb1 : b1 < B) (hb2 : b2 < B) (hb3 : b3 < B) (hB0 : B ≤ W0.heap.size) (hn0 : 0 ≤ n) (hn1 : n ≤ 1000000001) :
    Asks B W0 45 #[.pointer (some ⟨b1, 0, none⟩), .pointer (some ⟨b2, 0, none⟩), .pointer (some ⟨b3, 0, none⟩)] (-999999) 999999 (fun p => !(fits h p (n + 1) ns)) := by
  intro p w h0 h1 hw
  have d1 := keep hw c1 hb1
  have d2 := keep hw c2 hb2
  have d3 := keep hw c3 hb3
  obtain ⟨b, hb⟩ : ∃ b, (!(fits h p (n + 1) ns)) = b := ⟨_, rfl⟩
  have C := Lib.hid (fun w => fits_any h p (n + 1) ns (!b) w (fits_not hb) ⟨by omega, by omega⟩)
  show Calls Try.prog 45 #[.int .i64 p, .pointer (some ⟨b1, 0, none⟩), .pointer (some ⟨b2, 0, none⟩), .pointer (some ⟨b3, 0, none⟩)] w fun e w' => e = .returned (.bool (!(fits h p (n + 1) ns))) ∧ Below B w w'
  rw [hb]
  have hB : B ≤ w.heap.size := Nat.le_trans hB0 hw.size
  clear c1 c2 c3 hw hb
  go_enter Try.func45, Try.ntmps45
  go_wp2_with fail
  refine (C.out _).mono ?_
  rintro e w1 ⟨rfl, hb1⟩
  go_wp2_with fail
  go_ret
  exact ⟨ret_bool (by simp), hb1.mono hB⟩

theorem enters1 (args : Array Value) (w : World) : (callFunc 44 args).run Try.prog w = .ok (.enter 44 args) w := by go_simp
theorem enters2 (args : Array Value) (w : World) : (callFunc 45 args).run Try.prog w = .ok (.enter 45 args) w := by go_simp

theorem r_not {h n ns L : Int} (h1 : 1 ≤ h) (h2 : h ≤ 1000000) (m0 : 0 ≤ n) (m1 : n ≤ 1000000000000) (n1 : 1 ≤ ns) (n2 : ns ≤ 1000000000000) (hL : cl (n * 1000000000000000) (ns * h) = L) (x : Int) (x1 : -999999 ≤ x) (x2 : x ≤ 999999) : ((!(fits h x n ns)) = true ↔ 1000000 + x < L) := by
  have f := fits_cl h1 h2 x1 x2 m0 m1 n1 n2
  rw [hL] at f
  cases hx : fits h x n ns with
  | true => have := f.1 hx; simp; omega
  | false =>
    have : ¬ L ≤ 1000000 + x := fun hle => by have := f.2 hle; rw [hx] at this; cases this
    simp; omega

set_option maxHeartbeats 1000000 in
theorem bounds_any (h n ns : Int) (a b e : Int) (w : World) (hx : Hid (bnd h n ns = (a, b, e))) (hh : I64 h) (hn : I64 n) (hns : I64 ns) :
    Calls Try.prog 21 #[.int .i64 h, .int .i64 n, .int .i64 ns] w fun e' w' => e' = .returned (.tuple #[.int .i64 a, .int .i64 b, .int .i64 e]) ∧ Below w.heap.size w w' := by
  have C := fun w => check_any h 0 w
  by_cases hbb : bbad h n ns
  · obtain ⟨rfl, rfl, rfl⟩ : a = 0 ∧ b = 0 ∧ e = 2 := by have := hx.out; rw [bnd, if_pos hbb] at this; simpa using this.symm
    by_cases hb : bad h 0
    · have e1 : chk h 0 = 2 := by unfold chk; rw [if_pos hb]
      simp only [e1] at C
      have C := Lib.hid C
      clear e1 hb hbb hx
      go_enter Try.func21, Try.ntmps21
      go_wp2_with fail
      refine (C.out _).mono ?_
      rintro e1 w1 ⟨rfl, hb1⟩
      have c1 := (show Cell _ w.heap.size 0 (.int .i64 h) from ⟨by go_simp, by go_simp⟩ : Cell (((w.alloc (Obj.cells #[Value.int IntKind.i64 h] 3)).alloc (Obj.cells #[Value.int IntKind.i64 n] 3)).alloc (Obj.cells #[Value.int IntKind.i64 ns] 3)) _ _ _).below hb1 (by first | (simp; done) | (simp; omega))
      have c2 := (show Cell _ (w.heap.size + 1) 0 (.int .i64 n) from ⟨by go_simp, by go_simp⟩ : Cell (((w.alloc (Obj.cells #[Value.int IntKind.i64 h] 3)).alloc (Obj.cells #[Value.int IntKind.i64 n] 3)).alloc (Obj.cells #[Value.int IntKind.i64 ns] 3)) _ _ _).below hb1 (by first | (simp; done) | (simp; omega))
      have c3 := (show Cell _ (w.heap.size + 1 + 1) 0 (.int .i64 ns) from ⟨by go_simp, by go_simp⟩ : Cell (((w.alloc (Obj.cells #[Value.int IntKind.i64 h] 3)).alloc (Obj.cells #[Value.int IntKind.i64 n] 3)).alloc (Obj.cells #[Value.int IntKind.i64 ns] 3)) _ _ _).below hb1 (by simp)
      obtain ⟨c1, _⟩ := c1
      obtain ⟨c2, _⟩ := c2
      obtain ⟨c3, _⟩ := c3
      have hz1 : w.heap.size + 1 + 1 < w1.heap.size := by have := hb1.size; simp at this; omega
      have hB : Below w.heap.size w w1 := ((((Below.refl _ _).alloc (Nat.le_refl _) _).alloc (by simp) _).alloc (by first | (simp; done) | (simp; omega)) _).trans (hb1.mono (by first | (simp; done) | (simp; omega)))
      have HB := Lib.hid hB
      clear hb1 hB
      go_wp2_with fail
      go_ret3
      exact ⟨rfl, HB.out⟩
    · have e1 : chk h 0 = 0 := by unfold chk; rw [if_neg hb]
      simp only [e1] at C
      have C := Lib.hid C
      have hhb : 1 ≤ h ∧ h ≤ 1000000 := by unfold bad at hb; omega
      unfold bbad at hbb
      rcases (show n < 1 ∨ (1 ≤ n ∧ 1000000000 < n) ∨ (1 ≤ n ∧ n ≤ 1000000000 ∧ ns < 1) ∨ (1 ≤ n ∧ n ≤ 1000000000 ∧ 1 ≤ ns ∧ 1000000000000 < ns) by omega) with k | ⟨k1, k2⟩ | ⟨k1, k2, k3⟩ | ⟨k1, k2, k3, k4⟩
      all_goals
        clear e1 hb hbb hx
        go_enter Try.func21, Try.ntmps21
        go_wp2_with fail
        refine (C.out _).mono ?_
        rintro e1 w1 ⟨rfl, hb1⟩
        have c1 := (show Cell _ w.heap.size 0 (.int .i64 h) from ⟨by go_simp, by go_simp⟩ : Cell (((w.alloc (Obj.cells #[Value.int IntKind.i64 h] 3)).alloc (Obj.cells #[Value.int IntKind.i64 n] 3)).alloc (Obj.cells #[Value.int IntKind.i64 ns] 3)) _ _ _).below hb1 (by first | (simp; done) | (simp; omega))
        have c2 := (show Cell _ (w.heap.size + 1) 0 (.int .i64 n) from ⟨by go_simp, by go_simp⟩ : Cell (((w.alloc (Obj.cells #[Value.int IntKind.i64 h] 3)).alloc (Obj.cells #[Value.int IntKind.i64 n] 3)).alloc (Obj.cells #[Value.int IntKind.i64 ns] 3)) _ _ _).below hb1 (by first | (simp; done) | (simp; omega))
        have c3 := (show Cell _ (w.heap.size + 1 + 1) 0 (.int .i64 ns) from ⟨by go_simp, by go_simp⟩ : Cell (((w.alloc (Obj.cells #[Value.int IntKind.i64 h] 3)).alloc (Obj.cells #[Value.int IntKind.i64 n] 3)).alloc (Obj.cells #[Value.int IntKind.i64 ns] 3)) _ _ _).below hb1 (by simp)
        obtain ⟨c1, _⟩ := c1
        obtain ⟨c2, _⟩ := c2
        obtain ⟨c3, _⟩ := c3
        have hz1 : w.heap.size + 1 + 1 < w1.heap.size := by have := hb1.size; simp at this; omega
        have hB : Below w.heap.size w w1 := ((((Below.refl _ _).alloc (Nat.le_refl _) _).alloc (by simp) _).alloc (by first | (simp; done) | (simp; omega)) _).trans (hb1.mono (by first | (simp; done) | (simp; omega)))
        have HB := Lib.hid hB
        clear hb1 hB
        go_wp2_with fail
        go_ret3
        exact ⟨rfl, HB.out⟩
  · have hb4 : 1 ≤ h ∧ h ≤ 1000000 ∧ 1 ≤ n ∧ n ≤ 1000000000 ∧ 1 ≤ ns ∧ ns ≤ 1000000000000 := by unfold bbad at hbb; omega
    obtain ⟨h1, h2, n1, n2, s1, s2⟩ := hb4
    have e1 : chk h 0 = 0 := by unfold chk; rw [if_neg (by unfold bad; omega)]
    simp only [e1] at C
    have C := Lib.hid C
    obtain ⟨dp, dq⟩ := d0 hbb
    have l1 := cl_pos (N := n * 1000000000000000) (D := ns * h) (by omega) dp
    have l2 := cl_mono (N := n * 1000000000000000) (M := (n + 1) * 1000000000000000) (D := ns * h) (by omega) dp
    have hx' : (if 1999999 < cl (n * 1000000000000000) (ns * h) then ((0 : Int), (0 : Int), (6 : Int)) else if hi h n ns - 1 < cl (n * 1000000000000000) (ns * h) then (0, 0, 6) else (cl (n * 1000000000000000) (ns * h) - 1000000, hi h n ns - 1000001, 0)) = (a, b, e) := by
      have := hx.out; rw [bnd, if_neg hbb] at this; exact this
    unfold hi at hx'
    have N1 := Lib.hid (fun x => r_not (x := x) h1 h2 (show 0 ≤ n by omega) (by omega) s1 s2 rfl)
    have N2 := Lib.hid (fun x => r_not (n := n + 1) (x := x) h1 h2 (by omega) (by omega) s1 s2 rfl)
    generalize cl (n * 1000000000000000) (ns * h) = L at *
    generalize cl ((n + 1) * 1000000000000000) (ns * h) = H at *
    have HX := Lib.hid hx'
    clear hx' hx hbb e1 dp dq
    go_enter Try.func21, Try.ntmps21
    go_wp2_with fail
    refine (C.out _).mono ?_
    rintro e1 w1 ⟨rfl, hb1⟩
    have c1 := (show Cell _ w.heap.size 0 (.int .i64 h) from ⟨by go_simp, by go_simp⟩ : Cell (((w.alloc (Obj.cells #[Value.int IntKind.i64 h] 3)).alloc (Obj.cells #[Value.int IntKind.i64 n] 3)).alloc (Obj.cells #[Value.int IntKind.i64 ns] 3)) _ _ _).below hb1 (by first | (simp; done) | (simp; omega))
    have c2 := (show Cell _ (w.heap.size + 1) 0 (.int .i64 n) from ⟨by go_simp, by go_simp⟩ : Cell (((w.alloc (Obj.cells #[Value.int IntKind.i64 h] 3)).alloc (Obj.cells #[Value.int IntKind.i64 n] 3)).alloc (Obj.cells #[Value.int IntKind.i64 ns] 3)) _ _ _).below hb1 (by first | (simp; done) | (simp; omega))
    have c3 := (show Cell _ (w.heap.size + 1 + 1) 0 (.int .i64 ns) from ⟨by go_simp, by go_simp⟩ : Cell (((w.alloc (Obj.cells #[Value.int IntKind.i64 h] 3)).alloc (Obj.cells #[Value.int IntKind.i64 n] 3)).alloc (Obj.cells #[Value.int IntKind.i64 ns] 3)) _ _ _).below hb1 (by simp)
    obtain ⟨c1, _⟩ := c1
    obtain ⟨c2, _⟩ := c2
    obtain ⟨c3, _⟩ := c3
    have hz1 : w.heap.size + 1 + 1 < w1.heap.size := by have := hb1.size; simp at this; omega
    have hB : Below w.heap.size w w1 := ((((Below.refl _ _).alloc (Nat.le_refl _) _).alloc (by simp) _).alloc (by first | (simp; done) | (simp; omega)) _).trans (hb1.mono (by first | (simp; done) | (simp; omega)))
    have HB := Lib.hid hB
    clear hb1 hB
    have hmf : ∀ (fn : Fn) (first cap : Array Value) (w : World), (Instr.makeFunc fn first cap).run Try.prog w = .ok (.func fn first cap) w := fun _ _ _ _ => rfl
    have L1 := Lib.hid (last_any w1.heap.size w1 w1 44 #[.pointer (some ⟨w.heap.size, 0, none⟩), .pointer (some ⟨w.heap.size + 1, 0, none⟩), .pointer (some ⟨w.heap.size + 1 + 1, 0, none⟩)] (-999999) 999999 _ (ask1_any h n ns w1.heap.size w.heap.size (w.heap.size + 1) (w.heap.size + 1 + 1) w1 c1 c2 c3 (by omega) (by omega) (by omega) (Nat.le_refl _) (by omega) (by omega)) (Below.refl _ _) enters1 (by omega) (by omega) (by omega))
    have L2 := Lib.hid (fun w2 (hb2 : Below w1.heap.size w1 w2) => last_any w1.heap.size w1 w2 45 #[.pointer (some ⟨w.heap.size, 0, none⟩), .pointer (some ⟨w.heap.size + 1, 0, none⟩), .pointer (some ⟨w.heap.size + 1 + 1, 0, none⟩)] (-999999) 999999 _ (ask2_any h n ns w1.heap.size w.heap.size (w.heap.size + 1) (w.heap.size + 1 + 1) w1 c1 c2 c3 (by omega) (by omega) (by omega) (Nat.le_refl _) (by omega) (by omega)) hb2 enters2 (by omega) (by omega) (by omega))
    go_wp2_with fail
    refine L1.out.mono ?_
    rintro e' w2 ⟨⟨r1, rfl, hr1⟩, hb2⟩
    have q1 := last_cl l1 N1.out hr1
    have HB2 := Lib.hid hb2
    have Q1 := Lib.hid q1
    have r1a : -1000000 ≤ r1 := by have := hr1.lo; omega
    have r1b : r1 ≤ 999999 := hr1.hi
    clear hr1 q1 hb2
    go_wp2_with fail
    refine (L2.out _ HB2.out).mono ?_
    rintro e' w3 ⟨⟨r2, rfl, hr2⟩, hb3⟩
    have q2 := last_cl (show 1 ≤ H by omega) N2.out hr2
    have q1 := Q1.out
    have hx' := HX.out
    have hB3 : Below w.heap.size w w3 := HB.out.trans (hb3.mono (by omega))
    have HB3 := Lib.hid hB3
    have r2a : -1000000 ≤ r2 := by have := hr2.lo; omega
    have r2b : r2 ≤ 999999 := hr2.hi
    clear hr2 hb3 L1 L2 hB3
    by_cases hcmp : r2 < r1 + 1
    · obtain ⟨rfl, rfl, rfl⟩ : a = 0 ∧ b = 0 ∧ e = 6 := by
        rw [show (if 1999999 < L then ((0 : Int), (0 : Int), (6 : Int)) else if (if 2000000 < H then 2000000 else H) - 1 < L then (0, 0, 6) else (L - 1000000, (if 2000000 < H then 2000000 else H) - 1000001, 0)) = (0, 0, 6) from by (repeat' split) <;> first | rfl | (exfalso; split at q1 <;> split at q2 <;> omega)] at hx'
        simpa using hx'.symm
      clear hx' q1 q2
      go_wp2_with fail
      go_ret3
      exact ⟨rfl, HB3.out⟩
    · obtain ⟨ha, hb', he⟩ : a = r1 + 1 ∧ b = r2 ∧ e = 0 := by
        rw [show (if 1999999 < L then ((0 : Int), (0 : Int), (6 : Int)) else if (if 2000000 < H then 2000000 else H) - 1 < L then (0, 0, 6) else (L - 1000000, (if 2000000 < H then 2000000 else H) - 1000001, 0)) = (r1 + 1, r2, 0) from by (repeat' split) <;> first | (exfalso; split at q1 <;> split at q2 <;> omega) | (split at q1 <;> split at q2 <;> first | (exfalso; omega) | (congr 1; omega; congr 1; omega))] at hx'
        have := hx'.symm
        simpa using this
      subst ha hb' he
      have hcmp2 : r1 + 1 ≤ b := by omega
      clear hx' q1 q2 hcmp
      go_wp2_with fail
      go_ret3
      exact ⟨rfl, HB3.out⟩

set_option maxHeartbeats 4000000 in
theorem boundsr_any (h n ns : Int) (a b e : Int) (w : World) (hx : Hid (bnd h n ns = (a, b, e))) (hh : I64 h) (hn : I64 n) (hns : I64 ns) :
    Calls Try.prog 22 #[.int .i64 h, .int .i64 n, .int .i64 ns] w fun e' w' => e' = .returned (.tuple #[.int .i64 a, .int .i64 b, .int .i64 e]) ∧ Below w.heap.size w w' := by
  by_cases hbb : bbad h n ns
  · obtain ⟨rfl, rfl, rfl⟩ : a = 0 ∧ b = 0 ∧ e = 2 := by have := hx.out; rw [bnd, if_pos hbb] at this; simpa using this.symm
    unfold bbad at hbb
    rcases (show h < 1 ∨ (1 ≤ h ∧ 1000000 < h) ∨ (1 ≤ h ∧ h ≤ 1000000 ∧ n < 1) ∨ (1 ≤ h ∧ h ≤ 1000000 ∧ 1 ≤ n ∧ 1000000000 < n) ∨ (1 ≤ h ∧ h ≤ 1000000 ∧ 1 ≤ n ∧ n ≤ 1000000000 ∧ ns < 1) ∨ (1 ≤ h ∧ h ≤ 1000000 ∧ 1 ≤ n ∧ n ≤ 1000000000 ∧ 1 ≤ ns ∧ 1000000000000 < ns) by omega) with k | ⟨k1, k2⟩ | ⟨k1, k2, k3⟩ | ⟨k1, k2, k3, k4⟩ | ⟨k1, k2, k3, k4, k5⟩ | ⟨k1, k2, k3, k4, k5, k6⟩
    all_goals
      clear hbb hx
      go_enter Try.func22, Try.ntmps22
      go_wp2_with fail
      go_ret3
      exact ⟨rfl, Below.refl _ _⟩
  · have hb4 : 1 ≤ h ∧ h ≤ 1000000 ∧ 1 ≤ n ∧ n ≤ 1000000000 ∧ 1 ≤ ns ∧ ns ≤ 1000000000000 := by unfold bbad at hbb; omega
    obtain ⟨h1, h2, n1, n2, s1, s2⟩ := hb4
    obtain ⟨dp, dq⟩ := d0 hbb
    have l1 := cl_pos (N := n * 1000000000000000) (D := ns * h) (by omega) dp
    have l2 := cl_mono (N := n * 1000000000000000) (M := (n + 1) * 1000000000000000) (D := ns * h) (by omega) dp
    have hx' : (if 1999999 < cl (n * 1000000000000000) (ns * h) then ((0 : Int), (0 : Int), (6 : Int)) else if hi h n ns - 1 < cl (n * 1000000000000000) (ns * h) then (0, 0, 6) else (cl (n * 1000000000000000) (ns * h) - 1000000, hi h n ns - 1000001, 0)) = (a, b, e) := by
      have := hx.out; rw [bnd, if_neg hbb] at this; exact this
    unfold hi at hx'
    have m1 := md_cl (N := n * 1000000000000000) (n := n) (D := ns * h) rfl (by omega) dp
    have m2 := md_cl (N := (n + 1) * 1000000000000000) (n := n + 1) (D := ns * h) rfl (by omega) dp
    have M1 := fun w => RefC.mdr_any n 1000000000000000 (ns * h) true w (by omega) (by omega) (by omega) (by omega) (by omega) (by omega)
    have M2 := fun w => RefC.mdr_any (n + 1) 1000000000000000 (ns * h) true w (by omega) (by omega) (by omega) (by omega) (by omega) (by omega)
    rw [m1] at M1
    rw [m2] at M2
    clear m1 m2
    generalize cl (n * 1000000000000000) (ns * h) = L at *
    generalize cl ((n + 1) * 1000000000000000) (ns * h) = H at *
    obtain ⟨D, hD⟩ : ∃ D, ns * h = D := ⟨_, rfl⟩
    rw [hD] at M1 M2 dp dq
    have W1 : wrap64 (ns * h) = D := by rw [hD]; exact IntWalk.wrap64_in _ ⟨by omega, by omega⟩
    have W2 : IntKind.i64.wrap (ns * h) = D := by rw [hD]; exact IntWalk.i64_in _ ⟨by omega, by omega⟩
    have HX := Lib.hid hx'
    clear hx' hx hbb hD
    have M1 := Lib.hid M1
    have M2 := Lib.hid M2
    by_cases q1 : L ≤ 9223372036854775807
    · have K1 := M1.out
      rw [if_pos q1] at K1
      have K1 := Lib.hid K1
      clear M1
      by_cases q2 : 1999999 < L
      · obtain ⟨rfl, rfl, rfl⟩ : a = 0 ∧ b = 0 ∧ e = 6 := by have := HX.out; rw [if_pos q2] at this; simpa using this.symm
        clear HX
        by_cases q3 : H ≤ 9223372036854775807
        · have K2 := M2.out
          rw [if_pos q3] at K2
          have K2 := Lib.hid K2
          clear M2
          go_enter Try.func22, Try.ntmps22
          go_wp2_with fail
          refine (K1.out _).mono ?_
          rintro e1 w1 ⟨rfl, hb1⟩
          go_wp2_with fail
          refine (K2.out _).mono ?_
          rintro e1 w2 ⟨rfl, hb2⟩
          go_wp2_with fail
          go_ret3
          exact ⟨rfl, hb1.trans (hb2.mono hb1.size)⟩
        · have K2 := M2.out
          rw [if_neg q3] at K2
          have K2 := Lib.hid K2
          clear M2 q3
          go_enter Try.func22, Try.ntmps22
          go_wp2_with fail
          refine (K1.out _).mono ?_
          rintro e1 w1 ⟨rfl, hb1⟩
          go_wp2_with fail
          refine (K2.out _).mono ?_
          rintro e1 w2 ⟨rfl, hb2⟩
          go_wp2_with fail
          go_ret3
          exact ⟨rfl, hb1.trans (hb2.mono hb1.size)⟩
      · have q2' : L ≤ 1999999 := by omega
        have hx' := HX.out
        rw [if_neg q2] at hx'
        clear HX q2
        by_cases q3 : H ≤ 9223372036854775807
        · have K2 := M2.out
          rw [if_pos q3] at K2
          have K2 := Lib.hid K2
          clear M2
          by_cases q4 : 2000000 < H
          · rw [if_pos q4] at hx'
            rw [if_neg (by omega)] at hx'
            obtain ⟨rfl, rfl, rfl⟩ : a = L - 1000000 ∧ b = 999999 ∧ e = 0 := by simpa using hx'.symm
            clear hx'
            go_enter Try.func22, Try.ntmps22
            go_wp2_with fail
            refine (K1.out _).mono ?_
            rintro e1 w1 ⟨rfl, hb1⟩
            go_wp2_with fail
            refine (K2.out _).mono ?_
            rintro e1 w2 ⟨rfl, hb2⟩
            go_wp2_with fail
            go_ret3
            exact ⟨rfl, hb1.trans (hb2.mono hb1.size)⟩
          · have q4' : H ≤ 2000000 := by omega
            rw [if_neg q4] at hx'
            clear q4
            by_cases q5 : H - 1 < L
            · obtain ⟨rfl, rfl, rfl⟩ : a = 0 ∧ b = 0 ∧ e = 6 := by rw [if_pos q5] at hx'; simpa using hx'.symm
              clear hx'
              go_enter Try.func22, Try.ntmps22
              go_wp2_with fail
              refine (K1.out _).mono ?_
              rintro e1 w1 ⟨rfl, hb1⟩
              go_wp2_with fail
              refine (K2.out _).mono ?_
              rintro e1 w2 ⟨rfl, hb2⟩
              go_wp2_with fail
              go_ret3
              exact ⟨rfl, hb1.trans (hb2.mono hb1.size)⟩
            · obtain ⟨rfl, rfl, rfl⟩ : a = L - 1000000 ∧ b = H - 1000001 ∧ e = 0 := by rw [if_neg q5] at hx'; simpa using hx'.symm
              have q5' : L ≤ H - 1 := by omega
              clear hx' q5
              go_enter Try.func22, Try.ntmps22
              go_wp2_with fail
              refine (K1.out _).mono ?_
              rintro e1 w1 ⟨rfl, hb1⟩
              go_wp2_with fail
              refine (K2.out _).mono ?_
              rintro e1 w2 ⟨rfl, hb2⟩
              go_wp2_with fail
              go_ret3
              exact ⟨rfl, hb1.trans (hb2.mono hb1.size)⟩
        · have K2 := M2.out
          rw [if_neg q3] at K2
          have K2 := Lib.hid K2
          rw [if_pos (show 2000000 < H by omega)] at hx'
          clear M2 q3
          rw [if_neg (by omega)] at hx'
          obtain ⟨rfl, rfl, rfl⟩ : a = L - 1000000 ∧ b = 999999 ∧ e = 0 := by simpa using hx'.symm
          clear hx'
          go_enter Try.func22, Try.ntmps22
          go_wp2_with fail
          refine (K1.out _).mono ?_
          rintro e1 w1 ⟨rfl, hb1⟩
          go_wp2_with fail
          refine (K2.out _).mono ?_
          rintro e1 w2 ⟨rfl, hb2⟩
          go_wp2_with fail
          go_ret3
          exact ⟨rfl, hb1.trans (hb2.mono hb1.size)⟩
    · have K1 := M1.out
      rw [if_neg q1] at K1
      have K1 := Lib.hid K1
      have K2 := M2.out
      rw [if_neg (by omega)] at K2
      have K2 := Lib.hid K2
      obtain ⟨rfl, rfl, rfl⟩ : a = 0 ∧ b = 0 ∧ e = 6 := by have := HX.out; rw [if_pos (by omega)] at this; simpa using this.symm
      clear HX M1 M2 q1
      go_enter Try.func22, Try.ntmps22
      go_wp2_with fail
      refine (K1.out _).mono ?_
      rintro e1 w1 ⟨rfl, hb1⟩
      go_wp2_with fail
      refine (K2.out _).mono ?_
      rintro e1 w2 ⟨rfl, hb2⟩
      go_wp2_with fail
      go_ret3
      exact ⟨rfl, hb1.trans (hb2.mono hb1.size)⟩

end Go.Proofs.Ytgifhcjbaljenaa.OscH
