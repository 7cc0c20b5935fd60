/- Whether a platform may be: the program's check, and the document's. -/
import Derived.Test.YtgkahcchekiogaaConf
import Derived.Test.YtgkahcchekiogaaAlt
namespace Go.Proofs.Ytgkahcchekiogaa.PowA
open Go.RowKit Base Kit Conf
set_option linter.unusedVariables false
set_option linter.unusedSimpArgs false

/-- how many stand at the front that may be -/
def fb (P : Nat → Bool) : Nat → Nat
  | 0 => 0
  | n + 1 => if fb P n < n then fb P n else if P n then n + 1 else n
theorem fb_le (P : Nat → Bool) : ∀ n, fb P n ≤ n
  | 0 => Nat.le_refl _
  | n + 1 => by have := fb_le P n; unfold fb; split; omega; split <;> omega
theorem fb_all {P : Nat → Bool} : ∀ n, (∀ j, j < n → P j = true) → fb P n = n
  | 0, _ => rfl
  | n + 1, h => by
    have := fb_all n (fun j hj => h j (by omega))
    unfold fb; rw [this, if_neg (by omega), h n (by omega)]; rfl
theorem fb_hit {P : Nat → Bool} {k : Nat} (h1 : ∀ j, j < k → P j = true) (h2 : P k = false) : ∀ n, k < n → fb P n = k
  | 0, h => by omega
  | n + 1, h => by
    unfold fb
    by_cases e : k = n
    · subst e; rw [fb_all k h1, if_neg (by omega), h2]; rfl
    · have := fb_hit h1 h2 n (by omega)
      rw [this, if_pos (by omega)]
theorem fb_iff {P : Nat → Bool} {n : Nat} : fb P n = n ↔ ∀ j, j < n → P j = true := by
  refine ⟨fun h => ?_, fb_all n⟩
  induction n with
  | zero => intro j hj; omega
  | succ n ih =>
    have := fb_le P n
    unfold fb at h
    by_cases e : fb P n < n
    · rw [if_pos e] at h; omega
    · rw [if_neg e] at h
      cases hp : P n
      · rw [hp] at h; simp at h
      · intro j hj
        by_cases e2 : j = n
        · subst e2; exact hp
        · exact ih (by omega) j (by omega)
def frI (P : Nat → Bool) (n : Nat) : Int := if fb P n < n then (fb P n : Int) else -1

def inB (n f t : Int) : Bool := decide (f ≤ n) && decide (n ≤ t)
theorem inB_iff {n f t : Int} : inB n f t = true ↔ f ≤ n ∧ n ≤ t := by simp [inB]
theorem inB_not {n f t : Int} : inB n f t = false ↔ ¬ (f ≤ n ∧ n ≤ t) := by rw [← Bool.not_eq_true, inB_iff]
def lvB (x0 x1 a0 a1 : Int) : Bool := inB x0 (a0 + 1) 10000 && inB x1 0 1000000 && decide (a1 * x0 ≤ x1 * a0)
def ah (f : Nat → Nat → Int) (k j : Nat) : Int := if k = 0 then 0 else f (k - 1) j
def lev (f : Nat → Nat → Int) (k : Nat) : Bool := lvB (f k 0) (f k 1) (ah f k 0) (ah f k 1)
def npB (a b c : Int) : Bool := inB a 0 1000000 && inB b 0 100000000 && inB c 0 100000000
def nap (f : Nat → Nat → Int) (k : Nat) : Bool := npB (f k 0) (f k 1) (f k 2)
def allN (f : Nat → Nat → Int) (n : Nat) : Bool := decide (n ≤ 4) && decide (fb (nap f) n = n)
def rest (p : PowC) : Bool := allN p.nf p.nn && inB p.sw 0 100000000 && inB p.id 0 1000000 && inB p.ch 0 1000000 && inB p.qu 1 1000000000 && inB p.sl 1 1000000 && inB p.pp 0 100000
def powR (p : PowC) : Int × Int :=
  if p.ln < 1 ∨ 6 < p.ln then (27, 0) else if fb (lev p.lf) p.ln < p.ln then (27, fb (lev p.lf) p.ln) else if rest p then (0, 0) else (27, p.ln)

theorem lvB_bd {x0 x1 a0 a1 : Int} (h : lvB x0 x1 a0 a1 = true) : a0 + 1 ≤ x0 ∧ x0 ≤ 10000 ∧ 0 ≤ x1 ∧ x1 ≤ 1000000 := by
  unfold lvB at h
  simp only [Bool.and_eq_true, inB_iff] at h
  exact ⟨h.1.1.1, h.1.1.2, h.1.2.1, h.1.2.2⟩
theorem ah_bd {f : Nat → Nat → Int} : ∀ k, (∀ j, j < k → lev f j = true) → 0 ≤ ah f k 0 ∧ ah f k 0 ≤ 10000 ∧ 0 ≤ ah f k 1 ∧ ah f k 1 ≤ 1000000
  | 0, _ => by simp [ah]
  | k + 1, h => by
    have := ah_bd k (fun j hj => h j (by omega))
    have l := lvB_bd (h k (by omega))
    simp only [ah, Nat.add_sub_cancel, if_neg (Nat.succ_ne_zero k)]
    omega
theorem wr_in {x y : Int} (hx : 0 ≤ x) (hx' : x ≤ 1000000) (hy : 0 ≤ y) (hy' : y ≤ 10000) : wrap64 (x * y) = x * y := by
  have h1 : 0 ≤ x * y := Int.mul_nonneg hx hy
  have h2 : x * y ≤ 1000000 * 10000 := Int.mul_le_mul hx' hy' hy (by omega)
  generalize x * y = z at *
  unfold wrap64; omega

theorem in_any (n f t : Int) (b : Bool) (w : World) (hb : Hid (inB n f t = b)) :
    Calls Try.prog 75 #[.int .i64 n, .int .i64 f, .int .i64 t] w fun e w' => e = .returned (.bool b) ∧ w = w' := by
  cases b
  · have ways : n < f ∨ (f ≤ n ∧ t < n) := by have := inB_not.1 hb.out; omega
    clear hb
    rcases ways with h1 | ⟨h1, h2⟩
    all_goals
      go_enter Try.func75, Try.ntmps75
      go_wp2_with fail
      go_ret
      refine ⟨ret_bool ?_, rfl⟩
      first | rfl | (simp; done) | (simp; omega)
  · obtain ⟨h1, h2⟩ := inB_iff.1 hb.out
    clear hb
    go_enter Try.func75, Try.ntmps75
    go_wp2_with fail
    go_ret
    refine ⟨ret_bool ?_, rfl⟩
    first | rfl | (simp; done) | (simp; omega)
theorem outr_any (n f t : Int) (b : Bool) (w : World) (hb : Hid (inB n f t = b)) :
    Calls Try.prog 80 #[.int .i64 n, .int .i64 f, .int .i64 t] w fun e w' => e = .returned (.bool (!b)) ∧ w = w' := by
  cases b
  · have ways : n < f ∨ (f ≤ n ∧ t < n) := by have := inB_not.1 hb.out; omega
    clear hb
    rcases ways with h1 | ⟨h1, h2⟩
    all_goals
      go_enter Try.func80, Try.ntmps80
      go_wp2_with fail
      go_ret
      refine ⟨ret_bool ?_, rfl⟩
      first | rfl | (simp; done) | (simp; omega)
  · obtain ⟨h1, h2⟩ := inB_iff.1 hb.out
    clear hb
    go_enter Try.func80, Try.ntmps80
    go_wp2_with fail
    go_ret
    refine ⟨ret_bool ?_, rfl⟩
    first | rfl | (simp; done) | (simp; omega)
set_option maxRecDepth 100000 in
set_option maxHeartbeats 1000000 in
theorem level_any (x0 x1 a0 a1 : Int) (b : Bool) (w : World) (i0 : I64 x0) (i1 : I64 x1) (h0 : 0 ≤ a0 ∧ a0 ≤ 10000) (h1 : 0 ≤ a1 ∧ a1 ≤ 1000000) (hb : Hid (lvB x0 x1 a0 a1 = b)) :
    Calls Try.prog 91 #[.agg #[.int .i64 x0, .int .i64 x1], .agg #[.int .i64 a0, .int .i64 a1]] w fun e w' => e = .returned (.bool b) ∧ Below w.heap.size w w' := by
  obtain ⟨h00, h01⟩ := h0
  obtain ⟨h10, h11⟩ := h1
  have hb := hb.out
  unfold lvB at hb
  cases e0 : inB x0 (a0 + 1) 10000
  · rw [e0] at hb
    obtain rfl : b = false := by rw [← hb]; rfl
    have E0 := Lib.hid e0
    clear hb e0
    go_enter Try.func91, Try.ntmps91
    go_wp2_with fail
    refine (in_any _ _ _ _ _ E0).mono ?_
    rintro e1 w9 ⟨rfl, rfl⟩
    go_wp2_with fail
    go_ret
    refine ⟨rfl, ?_⟩
    all_goals (repeat (first | exact Below.refl _ _ | exact HB.out | exact below_in _ (by assumption) | assumption | exact Nat.le_refl _ | refine Below.setCell ?_ (by first | (simp; done) | (simp; omega) | omega) _ | refine Below.alloc ?_ (by first | exact Nat.le_refl _ | (simp; done) | (simp; omega) | omega) _ | refine Below.drew ?_))
  · rw [e0] at hb
    have E0 := Lib.hid e0
    obtain ⟨f0, f1⟩ := inB_iff.1 e0
    clear e0
    cases e1 : inB x1 0 1000000
    · rw [e1] at hb
      obtain rfl : b = false := by rw [← hb]; rfl
      have E1 := Lib.hid e1
      clear hb e1
      go_enter Try.func91, Try.ntmps91
      go_wp2_with fail
      refine (in_any _ _ _ _ _ E0).mono ?_
      rintro e1 w9 ⟨rfl, rfl⟩
      go_wp2_with fail
      refine (in_any _ _ _ _ _ E1).mono ?_
      rintro e1 w9 ⟨rfl, rfl⟩
      go_wp2_with fail
      go_ret
      refine ⟨rfl, ?_⟩
      all_goals (repeat (first | exact Below.refl _ _ | exact HB.out | exact below_in _ (by assumption) | assumption | exact Nat.le_refl _ | refine Below.setCell ?_ (by first | (simp; done) | (simp; omega) | omega) _ | refine Below.alloc ?_ (by first | exact Nat.le_refl _ | (simp; done) | (simp; omega) | omega) _ | refine Below.drew ?_))
    · rw [e1] at hb
      have E1 := Lib.hid e1
      obtain ⟨g0, g1⟩ := inB_iff.1 e1
      have HB := Lib.hid hb
      clear hb e1
      go_enter Try.func91, Try.ntmps91
      go_wp2_with fail
      refine (in_any _ _ _ _ _ E0).mono ?_
      rintro e1 w9 ⟨rfl, rfl⟩
      go_wp2_with fail
      refine (in_any _ _ _ _ _ E1).mono ?_
      rintro e1 w9 ⟨rfl, rfl⟩
      go_wp2_with fail
      go_ret
      refine ⟨ret_bool ?_, ?_⟩
      · rw [← HB.out, wr_in (by omega) (by omega) (by omega) (by omega), wr_in (by omega) (by omega) (by omega) (by omega)]; rfl
      all_goals (repeat (first | exact Below.refl _ _ | exact HB.out | exact below_in _ (by assumption) | assumption | exact Nat.le_refl _ | refine Below.setCell ?_ (by first | (simp; done) | (simp; omega) | omega) _ | refine Below.alloc ?_ (by first | exact Nat.le_refl _ | (simp; done) | (simp; omega) | omega) _ | refine Below.drew ?_))
set_option maxRecDepth 100000 in
theorem nap_any (a b c : Int) (r : Bool) (w : World) (hb : Hid (npB a b c = r)) :
    Calls Try.prog 93 #[.agg #[.int .i64 a, .int .i64 b, .int .i64 c]] w fun e w' => e = .returned (.bool r) ∧ Below w.heap.size w w' := by
  have hb := hb.out
  unfold npB at hb
  obtain ⟨r0, e0⟩ : ∃ z, inB a 0 1000000 = z := ⟨_, rfl⟩
  obtain ⟨r1, e1⟩ : ∃ z, inB b 0 100000000 = z := ⟨_, rfl⟩
  obtain ⟨r2, e2⟩ : ∃ z, inB c 0 100000000 = z := ⟨_, rfl⟩
  rw [e0, e1, e2] at hb
  have C0 := Lib.hid (fun w => in_any _ _ _ _ w (Lib.hid e0))
  have C1 := Lib.hid (fun w => in_any _ _ _ _ w (Lib.hid e1))
  have C2 := Lib.hid (fun w => in_any _ _ _ _ w (Lib.hid e2))
  clear e0 e1 e2
  subst hb
  cases r0
  ·
    go_enter Try.func93, Try.ntmps93
    go_wp2_with fail
    refine (C0.out _).mono ?_
    rintro e1 w9 ⟨rfl, rfl⟩
    go_wp2_with fail
    go_ret
    refine ⟨rfl, ?_⟩
    all_goals (repeat (first | exact Below.refl _ _ | exact HB.out | exact below_in _ (by assumption) | assumption | exact Nat.le_refl _ | refine Below.setCell ?_ (by first | (simp; done) | (simp; omega) | omega) _ | refine Below.alloc ?_ (by first | exact Nat.le_refl _ | (simp; done) | (simp; omega) | omega) _ | refine Below.drew ?_))
  · cases r1
    ·
      go_enter Try.func93, Try.ntmps93
      go_wp2_with fail
      refine (C0.out _).mono ?_
      rintro e1 w9 ⟨rfl, rfl⟩
      go_wp2_with fail
      refine (C1.out _).mono ?_
      rintro e1 w9 ⟨rfl, rfl⟩
      go_wp2_with fail
      go_ret
      refine ⟨rfl, ?_⟩
      all_goals (repeat (first | exact Below.refl _ _ | exact HB.out | exact below_in _ (by assumption) | assumption | exact Nat.le_refl _ | refine Below.setCell ?_ (by first | (simp; done) | (simp; omega) | omega) _ | refine Below.alloc ?_ (by first | exact Nat.le_refl _ | (simp; done) | (simp; omega) | omega) _ | refine Below.drew ?_))
    ·
      go_enter Try.func93, Try.ntmps93
      go_wp2_with fail
      refine (C0.out _).mono ?_
      rintro e1 w9 ⟨rfl, rfl⟩
      go_wp2_with fail
      refine (C1.out _).mono ?_
      rintro e1 w9 ⟨rfl, rfl⟩
      go_wp2_with fail
      refine (C2.out _).mono ?_
      rintro e1 w9 ⟨rfl, rfl⟩
      go_wp2_with fail
      go_ret
      refine ⟨by cases r2 <;> rfl, ?_⟩
      all_goals (repeat (first | exact Below.refl _ _ | exact HB.out | exact below_in _ (by assumption) | assumption | exact Nat.le_refl _ | refine Below.setCell ?_ (by first | (simp; done) | (simp; omega) | omega) _ | refine Below.alloc ?_ (by first | exact Nat.le_refl _ | (simp; done) | (simp; omega) | omega) _ | refine Below.drew ?_))

theorem lev_ah {f : Nat → Nat → Int} (k j : Nat) : ah f (k + 1) j = f k j := by simp [ah]
set_option maxRecDepth 100000 in
set_option maxHeartbeats 1000000 in
theorem first_lev (a : Option Addr) (n c : Nat) (f : Nat → Nat → Int) (r : Int) (w : World) (h : Hid (Open.RowsIn w a n 2 f)) (hn : n ≤ 1000) (hr : Hid (frI (lev f) n = r)) :
    Calls Try.prog 90 #[.slice a n c, .func (.func 91) #[] #[]] w fun e w' => e = .returned (.int .i64 r) ∧ Below w.heap.size w w' := by
  go_enter Try.func90, Try.ntmps90
  go_wp2_with fail
  have B0 : Hid (Box (w.alloc (.cells #[.int .i64 0, .int .i64 0] 119)) w.heap.size #[.int .i64 (ah f 0 0), .int .i64 (ah f 0 1)] 119) := Lib.hid (Box.new w _ _)
  have HB0 : Hid (Below w.heap.size w (w.alloc (.cells #[.int .i64 0, .int .i64 0] 119))) := Lib.hid ((Below.refl w.heap.size w).alloc (Nat.le_refl _) _)
  generalize w.alloc (.cells #[.int .i64 0, .int .i64 0] 119) = W at B0 HB0 ⊢
  go_loopw [10] (fun i wr => ∃ k : Nat, k ≤ n ∧ i = .int .i64 k ∧ Hid (∀ j, j < k → lev f j = true) ∧ Hid (Below w.heap.size w wr) ∧ Hid (Box wr w.heap.size #[.int .i64 (ah f k 0), .int .i64 (ah f k 1)] 119)) (fun i _ => n - (intOf i).toNat)
  case atStart => exact ⟨0, by omega, rfl, Lib.hid (fun j hj => by omega), HB0, B0⟩
  case round =>
    clear B0 HB0
    obtain ⟨k, hk, rfl, HL, HB, B⟩ := hrel
    by_cases hlt : k < n
    · obtain ⟨b, off, rfl, hbl, c0, c1, i0, i1⟩ := rows_at2 h k hlt
      have c0 := keep HB.out c0 hbl
      have c1 := keep HB.out c1 hbl
      obtain ⟨b0, b1, b2, b3⟩ := ah_bd k HL.out
      obtain ⟨v, hv⟩ : ∃ v, lev f k = v := ⟨_, rfl⟩
      have HV := Lib.hid hv
      have C := Lib.hid (fun w => level_any (f k 0) (f k 1) (ah f k 0) (ah f k 1) v w i0 i1 ⟨b0, b1⟩ ⟨b2, b3⟩ (Lib.hid hv))
      have bl := B.out.lt
      have bc := (B.out.alloc (.cells #[.int .i64 (f k 0), .int .i64 (f k 1)] 119)).cell
      have AH : Hid (ah f (k + 1) 0 = f k 0 ∧ ah f (k + 1) 1 = f k 1) := Lib.hid ⟨lev_ah _ _, lev_ah _ _⟩
      clear hv
      generalize f k 0 = x0 at *
      generalize f k 1 = x1 at *
      generalize ah f k 0 = a0 at *
      generalize ah f k 1 = a1 at *
      have X := Lib.hid (Box.new wr #[.int .i64 x0, .int .i64 x1] 119)
      cases v
      · go_wp2_with fail
        refine (C.out _).mono ?_
        rintro e1 w5 ⟨rfl, k5⟩
        have HB5 := Lib.hid (HB.out.trans (((Below.refl w.heap.size wr).alloc (by omega) _).trans (k5.mono (by simp; omega))))
        clear k5 bc
        go_wp2_with fail
        go_ret
        refine ⟨Kit.ret_int ?_, HB5.out⟩
        have e := hr.out
        unfold frI at e
        rw [fb_hit HL.out HV.out n hlt, if_pos hlt] at e
        exact e
      · go_wp2_with fail
        refine (C.out _).mono ?_
        rintro e1 w5 ⟨rfl, k5⟩
        have HB5 := Lib.hid (HB.out.trans (((Below.refl w.heap.size wr).alloc (by omega) _).trans (k5.mono (by simp; omega))))
        have X5 := Lib.hid (X.out.next k5)
        have B5 := Lib.hid ((B.out.alloc (.cells #[.int .i64 x0, .int .i64 x1] 119)).next k5)
        have xc := X5.out.cell
        have bc5 := B5.out.cell
        have bf5 := B5.out.frozen
        clear k5 bc
        go_wp2_with fail
        go_roundw
        case rel => exact ⟨k + 1, by omega, by go_num, Lib.hid (fun j hj => by
          by_cases e : j = k
          · subst e; exact HV.out
          · exact HL.out j (by omega)), Lib.hid ((HB5.out.setCell (by simp) _).setCell (by simp) _), Lib.hid (by rw [AH.out.1, AH.out.2]; exact (B5.out.set 0 _).set 1 _)⟩
        case measure => simp [intOf]; omega
    · obtain rfl : k = n := by omega
      go_wp2_with fail
      go_ret
      refine ⟨Kit.ret_int ?_, HB.out⟩
      have e := hr.out
      unfold frI at e
      rw [fb_all k HL.out, if_neg (by omega)] at e
      exact e
end Go.Proofs.Ytgkahcchekiogaa.PowA
