/- Package valid: what is asked of a process, a port, a semaphore, a pool, a number, a region. -/
import Derived.Test.YtgkahcchekiogaaVal
import Derived.Test.YtgkahcchekiogaaPowR
namespace Go.Proofs.Ytgkahcchekiogaa.Vld
open Go.RowKit Base Kit Conf PowA PowB Vfa Vfb Val
set_option linter.unusedVariables false
set_option linter.unusedSimpArgs false

def procB (a b c : Int) : Bool := inB a 0 63 && inB b 0 1000 && inB c 1 1000000000
def semB (f m : Int) : Bool := inB m 1 1000 && inB f 0 m
def poolB (s d : Int) : Bool := inB s 1 64 && inB d 1 16
def slateB (n : Int) : Bool := inB n 1 64
def actB (n : Int) : Bool := inB n 0 4
def portB (q i : Bool) (s d : Int) : Bool := inB s 1 64 && (if q then inB d 1 16 else d == 0)
def regB (b s e0 e1 : Int) : Bool := inB b 0 1048576 && inB s 1 256 && decide (b ≤ 1048576 - s) && decide (e0 + e1 ≤ b)
set_option maxRecDepth 100000 in
theorem proc_any (a b c : Int) (w : World) :
    Calls Try.prog 83 #[.agg #[.int .i64 a, .int .i64 b, .int .i64 c]] w fun e w' => e = .returned (.bool (procB a b c)) ∧ Below w.heap.size w w' := by
  unfold procB
  obtain ⟨r0, e0⟩ : ∃ z, inB a 0 63 = z := ⟨_, rfl⟩
  obtain ⟨r1, e1⟩ : ∃ z, inB b 0 1000 = z := ⟨_, rfl⟩
  obtain ⟨r2, e2⟩ : ∃ z, inB c 1 1000000000 = z := ⟨_, rfl⟩
  rw [e0, e1, e2]
  have C0 := Lib.hid (fun w => in_any _ _ _ _ w (Lib.hid e0))
  have C1 := Lib.hid (fun w => in_any _ _ _ _ w (Lib.hid e1))
  have C2 := Lib.hid (fun w => in_any _ _ _ _ w (Lib.hid e2))
  clear e0 e1 e2
  cases r0
  · skip
    go_enter Try.func83, Try.ntmps83
    go_wp2_with fail
    refine (C0.out _).mono ?_
    rintro e1 w9 ⟨rfl, rfl⟩
    go_wp2_with fail
    go_ret
    refine ⟨rfl, ?_⟩
    all_goals (repeat (first | exact Below.refl _ _ | exact HB.out | exact below_in _ (by assumption) | assumption | exact Nat.le_refl _ | refine Below.setCell ?_ (by first | (simp; done) | (simp; omega) | omega) _ | refine Below.alloc ?_ (by first | exact Nat.le_refl _ | (simp; done) | (simp; omega) | omega) _ | refine Below.drew ?_))
  · cases r1
    · skip
      go_enter Try.func83, Try.ntmps83
      go_wp2_with fail
      refine (C0.out _).mono ?_
      rintro e1 w9 ⟨rfl, rfl⟩
      go_wp2_with fail
      refine (C1.out _).mono ?_
      rintro e1 w9 ⟨rfl, rfl⟩
      go_wp2_with fail
      go_ret
      refine ⟨rfl, ?_⟩
      all_goals (repeat (first | exact Below.refl _ _ | exact HB.out | exact below_in _ (by assumption) | assumption | exact Nat.le_refl _ | refine Below.setCell ?_ (by first | (simp; done) | (simp; omega) | omega) _ | refine Below.alloc ?_ (by first | exact Nat.le_refl _ | (simp; done) | (simp; omega) | omega) _ | refine Below.drew ?_))
    · skip
      go_enter Try.func83, Try.ntmps83
      go_wp2_with fail
      refine (C0.out _).mono ?_
      rintro e1 w9 ⟨rfl, rfl⟩
      go_wp2_with fail
      refine (C1.out _).mono ?_
      rintro e1 w9 ⟨rfl, rfl⟩
      go_wp2_with fail
      refine (C2.out _).mono ?_
      rintro e1 w9 ⟨rfl, rfl⟩
      go_wp2_with fail
      go_ret
      refine ⟨by cases r2 <;> rfl, ?_⟩
      all_goals (repeat (first | exact Below.refl _ _ | exact HB.out | exact below_in _ (by assumption) | assumption | exact Nat.le_refl _ | refine Below.setCell ?_ (by first | (simp; done) | (simp; omega) | omega) _ | refine Below.alloc ?_ (by first | exact Nat.le_refl _ | (simp; done) | (simp; omega) | omega) _ | refine Below.drew ?_))
set_option maxRecDepth 100000 in
theorem sem_any (f m : Int) (w : World) :
    Calls Try.prog 137 #[.agg #[.int .i64 f, .int .i64 m]] w fun e w' => e = .returned (.bool (semB f m)) ∧ Below w.heap.size w w' := by
  unfold semB
  obtain ⟨r0, e0⟩ : ∃ z, inB m 1 1000 = z := ⟨_, rfl⟩
  obtain ⟨r1, e1⟩ : ∃ z, inB f 0 m = z := ⟨_, rfl⟩
  rw [e0, e1]
  have C0 := Lib.hid (fun w => in_any _ _ _ _ w (Lib.hid e0))
  have C1 := Lib.hid (fun w => in_any _ _ _ _ w (Lib.hid e1))
  clear e0 e1
  cases r0
  · skip
    go_enter Try.func137, Try.ntmps137
    go_wp2_with fail
    refine (C0.out _).mono ?_
    rintro e1 w9 ⟨rfl, rfl⟩
    go_wp2_with fail
    go_ret
    refine ⟨rfl, ?_⟩
    all_goals (repeat (first | exact Below.refl _ _ | exact HB.out | exact below_in _ (by assumption) | assumption | exact Nat.le_refl _ | refine Below.setCell ?_ (by first | (simp; done) | (simp; omega) | omega) _ | refine Below.alloc ?_ (by first | exact Nat.le_refl _ | (simp; done) | (simp; omega) | omega) _ | refine Below.drew ?_))
  · skip
    go_enter Try.func137, Try.ntmps137
    go_wp2_with fail
    refine (C0.out _).mono ?_
    rintro e1 w9 ⟨rfl, rfl⟩
    go_wp2_with fail
    refine (C1.out _).mono ?_
    rintro e1 w9 ⟨rfl, rfl⟩
    go_wp2_with fail
    go_ret
    refine ⟨by cases r1 <;> rfl, ?_⟩
    all_goals (repeat (first | exact Below.refl _ _ | exact HB.out | exact below_in _ (by assumption) | assumption | exact Nat.le_refl _ | refine Below.setCell ?_ (by first | (simp; done) | (simp; omega) | omega) _ | refine Below.alloc ?_ (by first | exact Nat.le_refl _ | (simp; done) | (simp; omega) | omega) _ | refine Below.drew ?_))
set_option maxRecDepth 100000 in
theorem pool_any (s d : Int) (w : World) :
    Calls Try.prog 138 #[.agg #[.int .i64 s, .int .i64 d]] w fun e w' => e = .returned (.bool (poolB s d)) ∧ Below w.heap.size w w' := by
  unfold poolB
  obtain ⟨r0, e0⟩ : ∃ z, inB s 1 64 = z := ⟨_, rfl⟩
  obtain ⟨r1, e1⟩ : ∃ z, inB d 1 16 = z := ⟨_, rfl⟩
  rw [e0, e1]
  have C0 := Lib.hid (fun w => in_any _ _ _ _ w (Lib.hid e0))
  have C1 := Lib.hid (fun w => in_any _ _ _ _ w (Lib.hid e1))
  clear e0 e1
  cases r0
  · skip
    go_enter Try.func138, Try.ntmps138
    go_wp2_with fail
    refine (C0.out _).mono ?_
    rintro e1 w9 ⟨rfl, rfl⟩
    go_wp2_with fail
    go_ret
    refine ⟨rfl, ?_⟩
    all_goals (repeat (first | exact Below.refl _ _ | exact HB.out | exact below_in _ (by assumption) | assumption | exact Nat.le_refl _ | refine Below.setCell ?_ (by first | (simp; done) | (simp; omega) | omega) _ | refine Below.alloc ?_ (by first | exact Nat.le_refl _ | (simp; done) | (simp; omega) | omega) _ | refine Below.drew ?_))
  · skip
    go_enter Try.func138, Try.ntmps138
    go_wp2_with fail
    refine (C0.out _).mono ?_
    rintro e1 w9 ⟨rfl, rfl⟩
    go_wp2_with fail
    refine (C1.out _).mono ?_
    rintro e1 w9 ⟨rfl, rfl⟩
    go_wp2_with fail
    go_ret
    refine ⟨by cases r1 <;> rfl, ?_⟩
    all_goals (repeat (first | exact Below.refl _ _ | exact HB.out | exact below_in _ (by assumption) | assumption | exact Nat.le_refl _ | refine Below.setCell ?_ (by first | (simp; done) | (simp; omega) | omega) _ | refine Below.alloc ?_ (by first | exact Nat.le_refl _ | (simp; done) | (simp; omega) | omega) _ | refine Below.drew ?_))
theorem slate_any (n : Int) (w : World) :
    Calls Try.prog 139 #[.int .i64 n] w fun e w' => e = .returned (.bool (slateB n)) ∧ Below w.heap.size w w' := by
  obtain ⟨r0, e0⟩ : ∃ z, slateB n = z := ⟨_, rfl⟩
  rw [e0]
  have C0 := Lib.hid (fun w => in_any _ _ _ r0 w (Lib.hid e0))
  clear e0
  go_enter Try.func139, Try.ntmps139
  go_wp2_with fail
  refine (C0.out _).mono ?_
  rintro e1 w9 ⟨rfl, rfl⟩
  go_wp2_with fail
  go_ret
  exact ⟨rfl, Below.refl _ _⟩
theorem act_any (n : Int) (w : World) :
    Calls Try.prog 88 #[.int .i64 n] w fun e w' => e = .returned (.bool (actB n)) ∧ Below w.heap.size w w' := by
  obtain ⟨r0, e0⟩ : ∃ z, actB n = z := ⟨_, rfl⟩
  rw [e0]
  have C0 := Lib.hid (fun w => in_any _ _ _ r0 w (Lib.hid e0))
  clear e0
  go_enter Try.func88, Try.ntmps88
  go_wp2_with fail
  refine (C0.out _).mono ?_
  rintro e1 w9 ⟨rfl, rfl⟩
  go_wp2_with fail
  go_ret
  exact ⟨rfl, Below.refl _ _⟩
set_option maxRecDepth 100000 in
theorem port_any (q i : Bool) (s d : Int) (w : World) :
    Calls Try.prog 85 #[.agg #[.bool q, .bool i, .int .i64 s, .int .i64 d]] w fun e w' => e = .returned (.bool (portB q i s d)) ∧ Below w.heap.size w w' := by
  unfold portB
  obtain ⟨r0, e0⟩ : ∃ z, inB s 1 64 = z := ⟨_, rfl⟩
  rw [e0]
  have C0 := Lib.hid (fun w => in_any _ _ _ _ w (Lib.hid e0))
  cases q
  · rw [if_neg (by decide)]
    clear e0
    cases r0
    · skip
      go_enter Try.func85, Try.ntmps85
      go_wp2_with fail
      refine (C0.out _).mono ?_
      rintro e1 w9 ⟨rfl, rfl⟩
      go_wp2_with fail
      go_ret
      refine ⟨rfl, ?_⟩
      all_goals (repeat (first | exact Below.refl _ _ | exact HB.out | exact below_in _ (by assumption) | assumption | exact Nat.le_refl _ | refine Below.setCell ?_ (by first | (simp; done) | (simp; omega) | omega) _ | refine Below.alloc ?_ (by first | exact Nat.le_refl _ | (simp; done) | (simp; omega) | omega) _ | refine Below.drew ?_))
    · obtain ⟨r1, e1⟩ : ∃ z, (d == 0) = z := ⟨_, rfl⟩
      rw [e1]
      go_enter Try.func85, Try.ntmps85
      go_wp2_with fail
      refine (C0.out _).mono ?_
      rintro e1 w9 ⟨rfl, rfl⟩
      go_wp2_with fail
      go_ret
      refine ⟨by first | rfl | (cases r1 <;> rfl) | (simp [e1]; done), ?_⟩
      all_goals (repeat (first | exact Below.refl _ _ | exact HB.out | exact below_in _ (by assumption) | assumption | exact Nat.le_refl _ | refine Below.setCell ?_ (by first | (simp; done) | (simp; omega) | omega) _ | refine Below.alloc ?_ (by first | exact Nat.le_refl _ | (simp; done) | (simp; omega) | omega) _ | refine Below.drew ?_))
  · rw [if_pos (by decide)]
    obtain ⟨r1, e1⟩ : ∃ z, inB d 1 16 = z := ⟨_, rfl⟩
    rw [e1]
    have C1 := Lib.hid (fun w => in_any _ _ _ _ w (Lib.hid e1))
    clear e0 e1
    cases r0
    · skip
      go_enter Try.func85, Try.ntmps85
      go_wp2_with fail
      refine (C0.out _).mono ?_
      rintro e1 w9 ⟨rfl, rfl⟩
      go_wp2_with fail
      go_ret
      refine ⟨rfl, ?_⟩
      all_goals (repeat (first | exact Below.refl _ _ | exact HB.out | exact below_in _ (by assumption) | assumption | exact Nat.le_refl _ | refine Below.setCell ?_ (by first | (simp; done) | (simp; omega) | omega) _ | refine Below.alloc ?_ (by first | exact Nat.le_refl _ | (simp; done) | (simp; omega) | omega) _ | refine Below.drew ?_))
    · skip
      go_enter Try.func85, Try.ntmps85
      go_wp2_with fail
      refine (C0.out _).mono ?_
      rintro e1 w9 ⟨rfl, rfl⟩
      go_wp2_with fail
      refine (C1.out _).mono ?_
      rintro e1 w9 ⟨rfl, rfl⟩
      go_wp2_with fail
      go_ret
      refine ⟨by cases r1 <;> rfl, ?_⟩
      all_goals (repeat (first | exact Below.refl _ _ | exact HB.out | exact below_in _ (by assumption) | assumption | exact Nat.le_refl _ | refine Below.setCell ?_ (by first | (simp; done) | (simp; omega) | omega) _ | refine Below.alloc ?_ (by first | exact Nat.le_refl _ | (simp; done) | (simp; omega) | omega) _ | refine Below.drew ?_))
set_option maxRecDepth 100000 in
set_option maxHeartbeats 1000000 in
theorem reg_any (b s e0 e1 : Int) (u v : Bool) (w : World) (ib : I64 b) (h0 : 0 ≤ e0) (h0' : e0 ≤ 1048576) (h1 : 0 ≤ e1) (h1' : e1 ≤ 256) :
    Calls Try.prog 132 #[.agg #[.int .i64 b, .int .i64 s, .bool u], .agg #[.int .i64 e0, .int .i64 e1, .bool v]] w fun e w' => e = .returned (.bool (regB b s e0 e1)) ∧ Below w.heap.size w w' := by
  unfold regB
  obtain ⟨ib0, ib1⟩ := ib
  obtain ⟨r0, q0⟩ : ∃ z, inB b 0 1048576 = z := ⟨_, rfl⟩
  obtain ⟨r1, q1⟩ : ∃ z, inB s 1 256 = z := ⟨_, rfl⟩
  rw [q0, q1]
  have C0 := Lib.hid (fun w => in_any _ _ _ _ w (Lib.hid q0))
  have C1 := Lib.hid (fun w => in_any _ _ _ _ w (Lib.hid q1))
  cases r0
  · clear q0 q1
    go_enter Try.func132, Try.ntmps132
    go_wp2_with fail
    refine (C0.out _).mono ?_
    rintro e1 w9 ⟨rfl, rfl⟩
    go_wp2_with fail
    go_ret
    refine ⟨rfl, ?_⟩
    all_goals (repeat (first | exact Below.refl _ _ | exact HB.out | exact below_in _ (by assumption) | assumption | exact Nat.le_refl _ | refine Below.setCell ?_ (by first | (simp; done) | (simp; omega) | omega) _ | refine Below.alloc ?_ (by first | exact Nat.le_refl _ | (simp; done) | (simp; omega) | omega) _ | refine Below.drew ?_))
  · cases r1
    · clear q0 q1
      go_enter Try.func132, Try.ntmps132
      go_wp2_with fail
      refine (C0.out _).mono ?_
      rintro e1 w9 ⟨rfl, rfl⟩
      go_wp2_with fail
      refine (C1.out _).mono ?_
      rintro e1 w9 ⟨rfl, rfl⟩
      go_wp2_with fail
      go_ret
      refine ⟨rfl, ?_⟩
      all_goals (repeat (first | exact Below.refl _ _ | exact HB.out | exact below_in _ (by assumption) | assumption | exact Nat.le_refl _ | refine Below.setCell ?_ (by first | (simp; done) | (simp; omega) | omega) _ | refine Below.alloc ?_ (by first | exact Nat.le_refl _ | (simp; done) | (simp; omega) | omega) _ | refine Below.drew ?_))
    · have s1 := inB_iff.1 q1
      obtain ⟨s1, s2⟩ := s1
      clear q0 q1
      by_cases hb : b ≤ 1048576 - s
      · by_cases he : e0 + e1 ≤ b
        · rw [show decide (b ≤ 1048576 - s) = true from by simpa using hb, show decide (e0 + e1 ≤ b) = true from by simpa using he]
          go_enter Try.func132, Try.ntmps132
          go_wp2_with fail
          refine (C0.out _).mono ?_
          rintro e1 w9 ⟨rfl, rfl⟩
          go_wp2_with fail
          refine (C1.out _).mono ?_
          rintro e1 w9 ⟨rfl, rfl⟩
          go_wp2_with fail
          go_ret
          refine ⟨?_, ?_⟩
          · first | rfl | exact ret_bool (by simp; omega)
          all_goals (repeat (first | exact Below.refl _ _ | exact HB.out | exact below_in _ (by assumption) | assumption | exact Nat.le_refl _ | refine Below.setCell ?_ (by first | (simp; done) | (simp; omega) | omega) _ | refine Below.alloc ?_ (by first | exact Nat.le_refl _ | (simp; done) | (simp; omega) | omega) _ | refine Below.drew ?_))
        · rw [show decide (b ≤ 1048576 - s) = true from by simpa using hb, show decide (e0 + e1 ≤ b) = false from by simpa using he]
          have he : b < e0 + e1 := by omega
          go_enter Try.func132, Try.ntmps132
          go_wp2_with fail
          refine (C0.out _).mono ?_
          rintro e1 w9 ⟨rfl, rfl⟩
          go_wp2_with fail
          refine (C1.out _).mono ?_
          rintro e1 w9 ⟨rfl, rfl⟩
          go_wp2_with fail
          go_ret
          refine ⟨?_, ?_⟩
          · first | rfl | exact ret_bool (by simp; omega)
          all_goals (repeat (first | exact Below.refl _ _ | exact HB.out | exact below_in _ (by assumption) | assumption | exact Nat.le_refl _ | refine Below.setCell ?_ (by first | (simp; done) | (simp; omega) | omega) _ | refine Below.alloc ?_ (by first | exact Nat.le_refl _ | (simp; done) | (simp; omega) | omega) _ | refine Below.drew ?_))
      · rw [show decide (b ≤ 1048576 - s) = false from by simpa using hb]
        have hb : 1048576 - s < b := by omega
        go_enter Try.func132, Try.ntmps132
        go_wp2_with fail
        refine (C0.out _).mono ?_
        rintro e1 w9 ⟨rfl, rfl⟩
        go_wp2_with fail
        refine (C1.out _).mono ?_
        rintro e1 w9 ⟨rfl, rfl⟩
        go_wp2_with fail
        go_ret
        refine ⟨?_, ?_⟩
        · first | rfl | exact ret_bool (by simp; omega)
        all_goals (repeat (first | exact Below.refl _ _ | exact HB.out | exact below_in _ (by assumption) | assumption | exact Nat.le_refl _ | refine Below.setCell ?_ (by first | (simp; done) | (simp; omega) | omega) _ | refine Below.alloc ?_ (by first | exact Nat.le_refl _ | (simp; done) | (simp; omega) | omega) _ | refine Below.drew ?_))
end Go.Proofs.Ytgkahcchekiogaa.Vld
