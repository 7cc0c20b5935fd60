/- Package rate, and its reference: Wants. -/
import Derived.Test.YtgkahcchekiogaaKit
import Derived.Test.YtgkahcchekiogaaWideA
namespace Go.Proofs.Ytgkahcchekiogaa.Rta
open Go.RowKit Base Kit WideA
set_option linter.unusedVariables false
set_option linter.unusedSimpArgs false
/-- is a process released in a window? -/
def rel (p win : Int) : Bool := decide (p ≤ 0) || decide (win % p = 0)
def wtR (f : Nat → Nat → Int) (win : Int) : Nat → Int
  | 0 => 0
  | k + 1 => if 0 ≤ win ∧ rel (f k 1) win = true then satI (wtR f win k) (max 0 (f k 2)) else wtR f win k
theorem satI_bd {a b : Int} (h1 : 0 ≤ a) (h2 : a ≤ 9223372036854775807) (h3 : 0 ≤ b) (h4 : b ≤ 9223372036854775807) : 0 ≤ satI a b ∧ satI a b ≤ 9223372036854775807 := by unfold satI; (repeat' split) <;> omega
theorem wtR_bd {f : Nat → Nat → Int} {win : Int} : ∀ {n : Nat}, (∀ k, k < n → I64 (f k 2)) → 0 ≤ wtR f win n ∧ wtR f win n ≤ 9223372036854775807
  | 0, _ => by unfold wtR; omega
  | n + 1, h => by
    have h1 := wtR_bd (f := f) (win := win) (n := n) (fun k hk => h k (by omega))
    have h2 := (h n (by omega)).2
    unfold wtR
    split
    · exact satI_bd h1.1 h1.2 (by omega) (by omega)
    · exact h1
theorem periodic_any (a b c : Int) (w : World) : Calls Try.prog 109 #[.agg #[.int .i64 a, .int .i64 b, .int .i64 c]] w fun e w' => e = .returned (.bool (decide (0 < b))) ∧ Below w.heap.size w w' := by
  go_enter Try.func109, Try.ntmps109
  go_wp2_with fail
  go_ret
  exact ⟨rfl, (Below.refl _ _).alloc (Nat.le_refl _) _⟩
set_option maxHeartbeats 1000000 in
theorem released_any (a b c win : Int) (r : Bool) (w : World) (ib : I64 b) (iw : 0 ≤ win) (iw2 : win ≤ 9223372036854775807) (hr : Hid (rel b win = r)) : Calls Try.prog 111 #[.agg #[.int .i64 a, .int .i64 b, .int .i64 c], .int .i64 win] w fun e w' => e = .returned (.bool r) ∧ Below w.heap.size w w' := by
  obtain ⟨ib0, ib1⟩ := ib
  have hr := hr.out
  unfold rel at hr
  have C := fun w => periodic_any a b c w
  have X := Lib.hid (Box.new w #[.int .i64 a, .int .i64 b, .int .i64 c] 102)
  by_cases hb : b ≤ 0
  · rw [decide_eq_true hb, Bool.true_or] at hr
    subst hr
    rw [show decide (0 < b) = false from decide_eq_false (by omega)] at C
    replace C := Lib.hid C
    go_enter Try.func111, Try.ntmps111
    go_wp2_with fail
    refine (C.out _).mono ?_
    rintro e1 w5 ⟨rfl, k5⟩
    have HB := Lib.hid (below_in _ k5)
    clear k5
    go_wp2_with fail
    go_ret
    exact ⟨rfl, HB.out⟩
  · rw [decide_eq_false hb, Bool.false_or] at hr
    rw [show decide (0 < b) = true from decide_eq_true (by omega)] at C
    replace C := Lib.hid C
    replace hb : 0 < b := by omega
    go_enter Try.func111, Try.ntmps111
    go_wp2_with fail
    refine (C.out _).mono ?_
    rintro e1 w5 ⟨rfl, k5⟩
    have X := Lib.hid (X.out.next k5)
    have HB := Lib.hid (below_in _ k5)
    clear k5
    have xc := X.out.cell
    go_wp2_with fail
    go_ret
    exact ⟨ret_bool (by rw [← hr]; rfl), HB.out⟩
set_option maxRecDepth 100000 in
set_option maxHeartbeats 2000000 in
theorem Wants_any (a : Option Addr) (n c : Nat) (f : Nat → Nat → Int) (win : Int) (r : Int) (w : World) (h : Hid (Open.RowsIn w a n 3 f)) (iw : I64 win) (hr : Hid (wtR f win n = r)) :
    Calls Try.prog 47 #[.slice a n c, .int .i64 win] w fun e w' => e = .returned (.int .i64 r) ∧ Below w.heap.size w w' := by
  have hn := h.out.1
  obtain ⟨iw0, iw1⟩ := iw
  go_enter Try.func47, Try.ntmps47
  go_wp2_with fail
  go_loopw [5, 10] (fun s i wr => ∃ k : Nat, k ≤ n ∧ i = .int .i64 k ∧ s = .int .i64 (wtR f win k) ∧ Hid (Below w.heap.size w wr)) (fun _ i _ => n - (intOf i).toNat)
  case atStart => exact ⟨0, Nat.zero_le _, rfl, rfl, Lib.hid (Below.refl _ _)⟩
  case round =>
    obtain ⟨k, hk, rfl, rfl, HB⟩ := hrel
    by_cases hl : k < n
    · obtain ⟨b, off, rfl, hlt, c0, c1, c2, i0, i1, i2⟩ := rows_at3 h k hl
      replace c0 := keep HB.out c0 hlt
      replace c1 := keep HB.out c1 hlt
      replace c2 := keep HB.out c2 hlt
      obtain ⟨s0, s1⟩ := wtR_bd (f := f) (win := win) (n := k) (fun j hj => h.out.2.2 j (by omega) 2 (by omega))
      have HE := Lib.hid (show wtR f win (k + 1) = if 0 ≤ win ∧ rel (f k 1) win = true then satI (wtR f win k) (max 0 (f k 2)) else wtR f win k from rfl)
      generalize wtR f win k = s at *
      generalize f k 0 = y0 at *
      generalize f k 1 = y1 at *
      generalize f k 2 = y2 at *
      have X := Lib.hid (Box.new wr #[.int .i64 y0, .int .i64 y1, .int .i64 y2] 102)
      have HB1 := Lib.hid (HB.out.alloc HB.out.size (.cells #[.int .i64 y0, .int .i64 y1, .int .i64 y2] 102))
      by_cases hw : win < 0
      · have HF : Hid (wtR f win (k + 1) = s) := Lib.hid (by rw [HE.out, if_neg (by omega)])
        have g0 : decide (0 ≤ win) = false := decide_eq_false (by omega)
        go_wp2_with fail
        go_roundw
        case rel => exact ⟨k + 1, by omega, by go_num, by rw [HF.out], HB1⟩
        case measure => simp [intOf]; omega
      · replace hw : 0 ≤ win := by omega
        obtain ⟨g, hg⟩ : ∃ g, rel y1 win = g := ⟨_, rfl⟩
        have C := Lib.hid (fun w => released_any y0 y1 y2 win g w i1 hw iw1 (Lib.hid hg))
        rw [hg] at HE
        clear hg
        cases g
        · have HF : Hid (wtR f win (k + 1) = s) := Lib.hid (by rw [HE.out, if_neg (by simp)])
          go_wp2_with fail
          refine (C.out _).mono ?_
          rintro e1 w5 ⟨rfl, k5⟩
          have HB5 := below_hid HB1 k5
          clear k5
          go_wp2_with fail
          go_roundw
          case rel => exact ⟨k + 1, by omega, by go_num, by rw [HF.out], HB5⟩
          case measure => simp [intOf]; omega
        · have HE : Hid (wtR f win (k + 1) = satI s (max 0 y2)) := Lib.hid (by rw [HE.out, if_pos ⟨hw, rfl⟩])
          obtain ⟨i20, i21⟩ := i2
          have xs : y2 ≤ 0 ∨ 0 < y2 := by omega
          rcases xs with hs | hs
          · have HF : Hid (wtR f win (k + 1) = satI s 0) := Lib.hid (by rw [HE.out, show max 0 y2 = 0 by omega])
            have D := Lib.hid (fun w => sat_any s 0 w (by omega) (by omega) (by omega) (by omega))
            go_wp2_with fail
            refine (C.out _).mono ?_
            rintro e1 w5 ⟨rfl, k5⟩
            have HB5 := below_hid HB1 k5
            have X5 := Lib.hid (X.out.next k5)
            have xc := X5.out.cell
            clear k5
            go_wp2_with fail
            refine (D.out _).mono ?_
            rintro e1 w6 ⟨rfl, k6⟩
            cases k6
            go_wp2_with fail
            go_roundw
            case rel => exact ⟨k + 1, by omega, by go_num, by rw [HF.out], HB5⟩
            case measure => simp [intOf]; omega
          · have HF : Hid (wtR f win (k + 1) = satI s y2) := Lib.hid (by rw [HE.out, show max 0 y2 = y2 by omega])
            have D := Lib.hid (fun w => sat_any s y2 w (by omega) (by omega) (by omega) (by omega))
            go_wp2_with fail
            refine (C.out _).mono ?_
            rintro e1 w5 ⟨rfl, k5⟩
            have HB5 := below_hid HB1 k5
            have X5 := Lib.hid (X.out.next k5)
            have xc := X5.out.cell
            clear k5
            go_wp2_with fail
            refine (D.out _).mono ?_
            rintro e1 w6 ⟨rfl, k6⟩
            cases k6
            go_wp2_with fail
            go_roundw
            case rel => exact ⟨k + 1, by omega, by go_num, by rw [HF.out], HB5⟩
            case measure => simp [intOf]; omega
    · obtain rfl : k = n := by omega
      go_wp2_with fail
      go_ret
      exact ⟨Kit.ret_int hr.out, HB.out⟩
set_option maxRecDepth 100000 in
set_option maxHeartbeats 2000000 in
theorem Wantsr_any (a : Option Addr) (n c : Nat) (f : Nat → Nat → Int) (win : Int) (r : Int) (w : World) (h : Hid (Open.RowsIn w a n 3 f)) (iw : I64 win) (hr : Hid (wtR f win n = r)) :
    Calls Try.prog 48 #[.slice a n c, .int .i64 win] w fun e w' => e = .returned (.int .i64 r) ∧ Below w.heap.size w w' := by
  have hn := h.out.1
  obtain ⟨iw0, iw1⟩ := iw
  go_enter Try.func48, Try.ntmps48
  go_wp2_with fail
  go_loopw [5, 6] (fun s i wr => ∃ k : Nat, k ≤ n ∧ i = .int .i64 k ∧ s = .int .i64 (wtR f win k) ∧ Hid (Below w.heap.size w wr)) (fun _ i _ => n - (intOf i).toNat)
  case atStart => exact ⟨0, Nat.zero_le _, rfl, rfl, Lib.hid (Below.refl _ _)⟩
  case round =>
    obtain ⟨k, hk, rfl, rfl, HB⟩ := hrel
    by_cases hl : k < n
    · obtain ⟨b, off, rfl, hlt, c0, c1, c2, i0, i1, i2⟩ := rows_at3 h k hl
      replace c0 := keep HB.out c0 hlt
      replace c1 := keep HB.out c1 hlt
      replace c2 := keep HB.out c2 hlt
      obtain ⟨s0, s1⟩ := wtR_bd (f := f) (win := win) (n := k) (fun j hj => h.out.2.2 j (by omega) 2 (by omega))
      have HE := Lib.hid (show wtR f win (k + 1) = if 0 ≤ win ∧ rel (f k 1) win = true then satI (wtR f win k) (max 0 (f k 2)) else wtR f win k from rfl)
      generalize wtR f win k = s at *
      generalize f k 0 = y0 at *
      generalize f k 1 = y1 at *
      generalize f k 2 = y2 at *
      obtain ⟨i20, i21⟩ := i2
      obtain ⟨i10, i11⟩ := i1
      by_cases hw : win < 0
      · have HF : Hid (wtR f win (k + 1) = s) := Lib.hid (by rw [HE.out, if_neg (by omega)])
        go_wp2_with fail
        go_roundw
        case rel => exact ⟨k + 1, by omega, by go_num, by rw [HF.out], HB⟩
        case measure => simp [intOf]; omega
      replace hw : 0 ≤ win := by omega
      by_cases hc : y2 < 0
      · have HF : Hid (wtR f win (k + 1) = s) := Lib.hid (by
          rw [HE.out]
          split
          · rw [show max 0 y2 = 0 by omega]; unfold satI; (repeat' split) <;> omega
          · rfl)
        go_wp2_with fail
        go_roundw
        case rel => exact ⟨k + 1, by omega, by go_num, by rw [HF.out], HB⟩
        case measure => simp [intOf]; omega
      replace hc : 0 ≤ y2 := by omega
      by_cases hp : y1 ≤ 0
      · have HF : Hid (wtR f win (k + 1) = satI s y2) := Lib.hid (by
          rw [HE.out, if_pos ⟨hw, by unfold rel; rw [decide_eq_true hp]; rfl⟩, show max 0 y2 = y2 by omega])
        have D := Lib.hid (fun w => satr_any s y2 w (by omega) (by omega) (by omega) (by omega))
        go_wp2_with fail
        refine (D.out _).mono ?_
        rintro e1 w6 ⟨rfl, k6⟩
        cases k6
        go_wp2_with fail
        go_roundw
        case rel => exact ⟨k + 1, by omega, by go_num, by rw [HF.out], HB⟩
        case measure => simp [intOf]; omega
      replace hp : 0 < y1 := by omega
      by_cases hm : win % y1 = 0
      · have HF : Hid (wtR f win (k + 1) = satI s y2) := Lib.hid (by
          rw [HE.out, if_pos ⟨hw, by unfold rel; rw [decide_eq_true hm, Bool.or_true]⟩, show max 0 y2 = y2 by omega])
        have D := Lib.hid (fun w => satr_any s y2 w (by omega) (by omega) (by omega) (by omega))
        have hm' : (win % y1 != 0) = false := by rw [bne_eq_false_iff_eq]; exact hm
        clear hm
        go_wp2_with fail
        refine (D.out _).mono ?_
        rintro e1 w6 ⟨rfl, k6⟩
        cases k6
        go_wp2_with fail
        go_roundw
        case rel => exact ⟨k + 1, by omega, by go_num, by rw [HF.out], HB⟩
        case measure => simp [intOf]; omega
      · have HF : Hid (wtR f win (k + 1) = s) := Lib.hid (by
          rw [HE.out, if_neg (by
            rintro ⟨-, h9⟩
            unfold rel at h9
            rw [decide_eq_false (by omega), decide_eq_false hm] at h9
            cases h9)])
        have hm' : (win % y1 != 0) = true := by rw [bne_iff_ne]; exact hm
        clear hm
        go_wp2_with fail
        go_roundw
        case rel => exact ⟨k + 1, by omega, by go_num, by rw [HF.out], HB⟩
        case measure => simp [intOf]; omega
    · obtain rfl : k = n := by omega
      go_wp2_with fail
      go_ret
      exact ⟨Kit.ret_int hr.out, HB.out⟩
end Go.Proofs.Ytgkahcchekiogaa.Rta
