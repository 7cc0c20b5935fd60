/- The reference's MulDiv: what the document says of products by numbers. -/
import Derived.Test.YtgkahcchekiogaaRefB
import Derived.Test.YtgkahcchekiogaaWideB
import Derived.Deep.DeepCutAuto
import Derived.Deep.CutBlock
namespace Go.Proofs.Ytgkahcchekiogaa.RefC
open Go.RowKit Base RefA RefB Long
open WideB (md mdQ)
set_option linter.unusedVariables false
set_option linter.unusedSimpArgs false

theorem mdQ_nat (a b c : Nat) (hc : 0 < c) (up : Bool) : mdQ a b c up = ((if up = true ∧ 0 < a * b % c then a * b / c + 1 else a * b / c : Nat) : Int) := by
  unfold mdQ
  cases up
  · simp
  · have h := ceil (a * b) c hc
    have e : ((a : Int) * b + ((c : Int) - 1)) / c = (((a * b + (c - 1)) / c : Nat) : Int) := by
      rw [Int.natCast_ediv]; congr 1; rw [Int.natCast_add, Int.natCast_mul]; omega
    simp only [if_true, true_and]
    rw [e, h]

theorem md_nat (a b c : Nat) (hc : 0 < c) (up : Bool) (q : Nat) (h : (if up = true ∧ 0 < a * b % c then a * b / c + 1 else a * b / c) = q) : md a b c up = if q ≤ 9223372036854775807 then ((q : Int), 0) else (0, 6) := by
  unfold md
  rw [if_neg (by omega), mdQ_nat a b c hc, h]
  by_cases hq : q ≤ 9223372036854775807
  · rw [if_pos (by omega), if_pos hq]
  · rw [if_neg (by omega), if_neg hq]

theorem bad (a b c : Int) (up : Bool) (w : World) (h : a < 0 ∨ (0 ≤ a ∧ b < 0) ∨ (0 ≤ a ∧ 0 ≤ b ∧ c < 1)) :
    Calls Try.prog 104 #[.int .i64 a, .int .i64 b, .int .i64 c, .bool up] w fun e w' => e = .returned (.tuple #[.int .i64 0, .int .i64 2]) ∧ Below w.heap.size w w' := by
  rcases h with h | ⟨h1, h⟩ | ⟨h1, h2, h⟩
  all_goals
    go_enter Try.func104, Try.ntmps104
    go_wp2
    go_ret2
    exact ⟨rfl, Below.refl _ _⟩

theorem ret2 {k : IntKind} {a b : Int} {y : Value} (h : a = b) : Ending.returned (.tuple #[.int k a, y]) = .returned (.tuple #[.int k b, y]) := by rw [h]

set_option maxHeartbeats 1000000 in
theorem little (a b c q r P : Nat) (n : Int) (up : Bool) (w : World) (ha : a ≤ 9223372036854775807) (hb : b ≤ 9223372036854775807) (hc : 1 ≤ c) (hc' : c ≤ 9223372036854775807)
    (h0 : 1 ≤ a) (hab : (b : Int) ≤ 9223372036854775807 / (a : Int)) (hP : P ≤ 9223372036854775807) (eP : IntKind.i64.wrap ((a : Int) * b) = P) (eP2 : wrap64 ((a : Int) * b) = P) (eq : (P : Int) / c = q) (er : (P : Int) % c = r) (hq : q ≤ 9223372036854775807)
    (hr : 0 < r → q ≤ 4611686018427387903) (hn : Hid (((if up = true ∧ 0 < r then q + 1 else q : Nat) : Int) = n)) :
    Calls Try.prog 104 #[.int .i64 a, .int .i64 b, .int .i64 c, .bool up] w fun e w' => e = .returned (.tuple #[.int .i64 n, .int .i64 0]) ∧ Below w.heap.size w w' := by
  have hq2 : IntKind.i64.wrap (q : Int) = q := IntWalk.i64_in _ (by omega)
  have hz : ((a : Int) == 0) = false := by simp; omega
  cases up
  · go_enter Try.func104, Try.ntmps104
    go_wp2
    go_ret2
    exact ⟨ret2 (by have h := hn.out; simpa using h), Below.refl _ _⟩
  · by_cases hr0 : 0 < r
    · have hr1 := hr hr0
      have hd : decide ((0 : Int) < (r : Int)) = true := by simp; omega
      have hd2 : (0 : Int) < (r : Int) := by omega
      go_enter Try.func104, Try.ntmps104
      go_wp2
      go_ret2
      exact ⟨ret2 (by have h := hn.out; simp [hr0] at h; omega), Below.refl _ _⟩
    · have hd : decide ((0 : Int) < (r : Int)) = false := by simp; omega
      have hd2 : (r : Int) ≤ 0 := by omega
      go_enter Try.func104, Try.ntmps104
      go_wp2
      go_ret2
      exact ⟨ret2 (by have h := hn.out; simp [hr0] at h; omega), Below.refl _ _⟩

theorem none_ (b c : Nat) (up : Bool) (w : World) (hb : b ≤ 9223372036854775807) (hc : 1 ≤ c) (hc' : c ≤ 9223372036854775807) :
    Calls Try.prog 104 #[.int .i64 (0 : Nat), .int .i64 b, .int .i64 c, .bool up] w fun e w' => e = .returned (.tuple #[.int .i64 0, .int .i64 0]) ∧ Below w.heap.size w w' := by
  have e1 : (0 : Int) / (c : Int) = 0 := by simp
  have e2 : (0 : Int) % (c : Int) = 0 := by simp
  cases up
  all_goals
    go_enter Try.func104, Try.ntmps104
    go_wp2
    go_ret2
    exact ⟨rfl, Below.refl _ _⟩

set_option maxRecDepth 100000 in
set_option maxHeartbeats 4000000 in
theorem bigX : True := trivial

theorem fin (a b c q left : Nat) (over up : Bool) (hc : 0 < c) (h : At (a * b) c 0 q left over) :
    md a b c up = if over = true then (0, 6) else if up = true ∧ 0 < left then (if q = 9223372036854775807 then (0, 6) else ((q : Int) + 1, 0)) else ((q : Int), 0) := by
  have hm := md_nat a b c hc up _ rfl
  have hl := h.l
  rw [Nat.pow_zero, Nat.div_one] at hl
  rw [hm, ← hl]
  cases over with
  | true =>
    have hy := h.yes rfl
    rw [Nat.pow_zero, Nat.div_one] at hy
    rw [if_neg (by split <;> omega), if_pos rfl]
  | false =>
    obtain ⟨e, hle⟩ := h.no rfl
    rw [Nat.pow_zero, Nat.div_one] at e
    rw [← e, if_neg (show ¬ (false = true) by simp)]
    by_cases hu : up = true ∧ 0 < left
    · rw [if_pos hu, if_pos hu]
      by_cases hq : q = 9223372036854775807
      · rw [if_neg (by omega), if_pos hq]
      · rw [if_pos (by omega), if_neg hq]; simp
    · rw [if_neg hu, if_neg hu, if_pos hle]

set_option maxRecDepth 100000 in
set_option maxHeartbeats 4000000 in
theorem big (a b c : Nat) (up : Bool) (n e2 : Int) (w : World) (ha : a ≤ 9223372036854775807) (hb : b ≤ 9223372036854775807) (hc : 1 ≤ c) (hc' : c ≤ 9223372036854775807)
    (h0 : 1 ≤ a) (hab : 9223372036854775807 / (a : Int) < (b : Int)) (hn : Hid (md a b c up = (n, e2))) :
    Calls Try.prog 104 #[.int .i64 a, .int .i64 b, .int .i64 c, .bool up] w fun e w' => e = .returned (.tuple #[.int .i64 n, .int .i64 e2]) ∧ Below w.heap.size w w' := by
  have hz : ((a : Int) == 0) = false := by simp; omega
  have hN144 : a * b < 2 ^ 144 := by
    have h1 : a * b ≤ 9223372036854775807 * 9223372036854775807 := Nat.mul_le_mul ha hb
    exact Nat.lt_of_le_of_lt h1 (by decide)
  have hS := Lib.hid (At.start (a * b) c hN144)
  clear hN144
  go_enter Try.func104, Try.ntmps104
  go_wp2_with fail
  refine (product_any a b _ ha hb).mono ?_
  rintro e w1 ⟨G, rfl, hown, hbel⟩
  have ho : Hid (∀ j, j < 9 → w1.cell? ⟨G, j, none⟩ = some (.int .i64 (dg (a * b) j))) := fun j hj => by rw [hown.cellAt j (by omega), row_get _ _ _ hj]
  have hdl : Hid (∀ j, j < 9 → dg (a * b) j < 65536) := fun j _ => dg_lt _ _
  have hB := Lib.hid hbel
  clear hown hbel
  go_upto_block 0 with fail
  go_cut [12, 13, 14] (fun q o l wc => ∃ (q' left' : Nat) (over' : Bool), q = .int .i64 q' ∧ o = .bool over' ∧ l = .int .u64 left' ∧ wc = w1 ∧ Hid (At (a * b) c 0 q' left' over'))
  case first =>
    go_wp2_with fail
    go_loopw [12, 13, 14, 15] (fun q o l i wr => ∃ (kk q' left' : Nat) (over' : Bool), kk ≤ 144 ∧ i = .int .i64 ((kk : Int) - 1) ∧ q = .int .i64 q' ∧ o = .bool over' ∧ l = .int .u64 left' ∧ wr = w1 ∧ Hid (At (a * b) c kk q' left' over')) (fun _ _ _ i _ => (intOf i + 1).toNat)
    case atStart => exact ⟨144, 0, 0, false, by omega, rfl, rfl, rfl, rfl, rfl, hS⟩
    case round =>
      clear hS
      obtain ⟨kk, q, left, over, hk, rfl, rfl, rfl, rfl, rfl, hA⟩ := hrel
      have hq0 := hA.out.q0
      have hll := hA.out.left_lt (by omega)
      cases kk with
      | zero =>
        go_wp2_with fail
        go_meet
        exact ⟨q, left, over, rfl, rfl, rfl, rfl, hA⟩
      | succ k =>
        obtain ⟨t, ht⟩ : ∃ t, a * b / 2 ^ k % 2 = t := ⟨_, rfl⟩
        have ht2 : t ≤ 1 := by have : a * b / 2 ^ k % 2 < 2 := Nat.mod_lt _ (by omega)
                               omega
        have HT : Hid (((dg (a * b) (k / 16) / 2 ^ (k % 16) % 2 : Nat) : Int) = (t : Int)) := by
          show ((dg (a * b) (k / 16) / 2 ^ (k % 16) % 2 : Nat) : Int) = (t : Int)
          rw [bit_dg, ht]
        rw [show (((k + 1 : Nat) : Int) - 1) = (k : Int) from by omega]
        by_cases hle : c ≤ 2 * left + t
        · cases over
          · by_cases hbq : 4611686018427387903 < q
            · have hN := Lib.hid (hA.out.next' (by omega) ht rfl (.inl ⟨hle, rfl, rfl⟩) (one := 1) (left' := 2 * left + t - c) (q' := q) (over' := true) (.inl ⟨rfl, rfl, .inr hbq⟩))
              clear ht
              go_wp2_with (go_at_call 149; refine (bit_any G 9 9 (dg (a * b)) k t _ HT (by omega) (by omega) ho hdl).mono ?_; rintro e w' ⟨rfl, rfl⟩)
              all_goals
                go_roundw
                case rel => exact ⟨k, q, 2 * left + t - c, true, by omega, by go_num, by go_num, rfl, by go_num, (by first | rfl | trivial), hN⟩
                case measure => simp [intOf] <;> omega
            · have hN := Lib.hid (hA.out.next' (by omega) ht rfl (.inl ⟨hle, rfl, rfl⟩) (one := 1) (left' := 2 * left + t - c) (q' := 2 * q + 1) (over' := false) (.inr ⟨rfl, rfl, by omega, rfl⟩))
              clear ht
              go_wp2_with (go_at_call 149; refine (bit_any G 9 9 (dg (a * b)) k t _ HT (by omega) (by omega) ho hdl).mono ?_; rintro e w' ⟨rfl, rfl⟩)
              all_goals
                go_roundw
                case rel => exact ⟨k, 2 * q + 1, 2 * left + t - c, false, by omega, by go_num, by go_num, rfl, by go_num, (by first | rfl | trivial), hN⟩
                case measure => simp [intOf] <;> omega
          · have hN := Lib.hid (hA.out.next' (by omega) ht rfl (.inl ⟨hle, rfl, rfl⟩) (one := 1) (left' := 2 * left + t - c) (q' := q) (over' := true) (.inl ⟨rfl, rfl, .inl rfl⟩))
            clear ht
            go_wp2_with (go_at_call 149; refine (bit_any G 9 9 (dg (a * b)) k t _ HT (by omega) (by omega) ho hdl).mono ?_; rintro e w' ⟨rfl, rfl⟩)
            all_goals
              go_roundw
              case rel => exact ⟨k, q, 2 * left + t - c, true, by omega, by go_num, by go_num, rfl, by go_num, (by first | rfl | trivial), hN⟩
              case measure => simp [intOf] <;> omega
        · cases over
          · by_cases hbq : 4611686018427387903 < q
            · have hN := Lib.hid (hA.out.next' (by omega) ht rfl (.inr ⟨by omega, rfl, rfl⟩) (one := 0) (left' := 2 * left + t) (q' := q) (over' := true) (.inl ⟨rfl, rfl, .inr hbq⟩))
              clear ht
              go_wp2_with (go_at_call 149; refine (bit_any G 9 9 (dg (a * b)) k t _ HT (by omega) (by omega) ho hdl).mono ?_; rintro e w' ⟨rfl, rfl⟩)
              all_goals
                go_roundw
                case rel => exact ⟨k, q, 2 * left + t, true, by omega, by go_num, by go_num, rfl, by go_num, (by first | rfl | trivial), hN⟩
                case measure => simp [intOf] <;> omega
            · have hN := Lib.hid (hA.out.next' (by omega) ht rfl (.inr ⟨by omega, rfl, rfl⟩) (one := 0) (left' := 2 * left + t) (q' := 2 * q + 0) (over' := false) (.inr ⟨rfl, rfl, by omega, rfl⟩))
              clear ht
              go_wp2_with (go_at_call 149; refine (bit_any G 9 9 (dg (a * b)) k t _ HT (by omega) (by omega) ho hdl).mono ?_; rintro e w' ⟨rfl, rfl⟩)
              all_goals
                go_roundw
                case rel => exact ⟨k, 2 * q + 0, 2 * left + t, false, by omega, by go_num, by go_num, rfl, by go_num, (by first | rfl | trivial), hN⟩
                case measure => simp [intOf] <;> omega
          · have hN := Lib.hid (hA.out.next' (by omega) ht rfl (.inr ⟨by omega, rfl, rfl⟩) (one := 0) (left' := 2 * left + t) (q' := q) (over' := true) (.inl ⟨rfl, rfl, .inl rfl⟩))
            clear ht
            go_wp2_with (go_at_call 149; refine (bit_any G 9 9 (dg (a * b)) k t _ HT (by omega) (by omega) ho hdl).mono ?_; rintro e w' ⟨rfl, rfl⟩)
            all_goals
              go_roundw
              case rel => exact ⟨k, q, 2 * left + t, true, by omega, by go_num, by go_num, rfl, by go_num, (by first | rfl | trivial), hN⟩
              case measure => simp [intOf] <;> omega
  case rest =>
    obtain ⟨q, left, over, rfl, rfl, rfl, rfl, hA⟩ := hcut
    clear hS
    have hm := fin a b c q left over up (by omega) hA.out
    rw [hn.out] at hm
    have hq0 := hA.out.q0
    have hll := hA.out.left_lt (by omega)
    have HB := hB
    clear hn hA ho hdl hab
    cases over
    · cases up
      · obtain ⟨rfl, rfl⟩ : n = (q : Int) ∧ e2 = 0 := by simpa using hm
        clear hm
        go_wp2_with fail
        go_ret2
        exact ⟨rfl, HB.out⟩
      · by_cases hl : 0 < left
        · have hd : decide ((0 : Int) < (left : Int)) = true := by simp; omega
          by_cases hq : q = 9223372036854775807
          · obtain ⟨rfl, rfl⟩ : n = 0 ∧ e2 = 6 := by simpa [hl, hq] using hm
            have hqb : ((q : Int) == 9223372036854775807) = true := by rw [hq]; rfl
            clear hm hq
            go_wp2_with fail
            go_ret2
            exact ⟨rfl, HB.out⟩
          · obtain ⟨rfl, rfl⟩ : n = (q : Int) + 1 ∧ e2 = 0 := by simpa [hl, hq] using hm
            have hqb : ((q : Int) == 9223372036854775807) = false := by simp; omega
            have hq1 : q ≤ 9223372036854775806 := by omega
            clear hm hq
            go_wp2_with fail
            go_ret2
            exact ⟨rfl, HB.out⟩
        · have hd : decide ((0 : Int) < (left : Int)) = false := by simp; omega
          obtain ⟨rfl, rfl⟩ : n = (q : Int) ∧ e2 = 0 := by simpa [hl] using hm
          have hl2 : left ≤ 0 := by omega
          clear hm
          go_wp2_with fail
          go_ret2
          exact ⟨rfl, HB.out⟩
    · obtain ⟨rfl, rfl⟩ : n = 0 ∧ e2 = 6 := by simpa using hm
      clear hm
      cases up
      · go_wp2_with fail
        go_ret2
        exact ⟨rfl, HB.out⟩
      · by_cases hl : 0 < left
        · have hd : decide ((0 : Int) < (left : Int)) = true := by simp; omega
          go_wp2_with fail
          go_ret2
          exact ⟨rfl, HB.out⟩
        · have hd : decide ((0 : Int) < (left : Int)) = false := by simp; omega
          have hl2 : left ≤ 0 := by omega
          go_wp2_with fail
          go_ret2
          exact ⟨rfl, HB.out⟩

/-- EVERY PRODUCT BY A NUMBER, as the document says it. -/
theorem mdr_any (a b c : Int) (up : Bool) (w : World) (ha : -9223372036854775808 ≤ a) (ha' : a ≤ 9223372036854775807) (hb : -9223372036854775808 ≤ b) (hb' : b ≤ 9223372036854775807) (hc : -9223372036854775808 ≤ c) (hc' : c ≤ 9223372036854775807) :
    Calls Try.prog 104 #[.int .i64 a, .int .i64 b, .int .i64 c, .bool up] w fun e w' => e = .returned (.tuple #[.int .i64 (md a b c up).1, .int .i64 (md a b c up).2]) ∧ Below w.heap.size w w' := by
  by_cases hbad : a < 0 ∨ b < 0 ∨ c < 1
  · have : md a b c up = (0, 2) := by unfold md; rw [if_pos hbad]
    rw [this]
    exact bad a b c up w (by omega)
  · obtain ⟨a, rfl⟩ := Int.eq_ofNat_of_zero_le (show 0 ≤ a by omega)
    obtain ⟨b, rfl⟩ := Int.eq_ofNat_of_zero_le (show 0 ≤ b by omega)
    obtain ⟨c, rfl⟩ := Int.eq_ofNat_of_zero_le (show 0 ≤ c by omega)
    have hc1 : 1 ≤ c := by omega
    by_cases h0 : a = 0
    · subst h0
      have hm := md_nat 0 b c hc1 up 0 (by simp)
      rw [hm]
      exact none_ b c up w (by omega) hc1 (by omega)
    · have e1 : (9223372036854775807 : Int) / (a : Int) = ((9223372036854775807 / a : Nat) : Int) := by rw [Int.natCast_ediv]; rfl
      by_cases hab : (b : Int) ≤ 9223372036854775807 / (a : Int)
      · have hP : a * b ≤ 9223372036854775807 := by
          have h1 : b ≤ 9223372036854775807 / a := by omega
          have h2 := Nat.mul_le_mul_left a h1
          have h3 := Nat.mul_div_le 9223372036854775807 a
          omega
        have hm := md_nat a b c hc1 up _ rfl
        have hs := small (a * b) c hP
        have hle : a * b / c ≤ 9223372036854775807 := Nat.le_trans (Nat.div_le_self _ _) hP
        rw [if_pos (by split <;> omega)] at hm
        rw [hm]
        have hcast : (a : Int) * (b : Int) = ((a * b : Nat) : Int) := by rw [Int.natCast_mul]
        exact little a b c (a * b / c) (a * b % c) (a * b) _ up w (by omega) (by omega) hc1 (by omega) (by omega) hab hP (by rw [hcast]; exact IntWalk.i64_in _ (by omega)) (by rw [hcast]; exact IntWalk.wrap64_in _ (by omega))
          (by rw [Int.natCast_ediv]) (by rw [Int.natCast_emod]) hle hs (Lib.hid rfl)
      · exact big a b c up _ _ w (by omega) (by omega) hc1 (by omega) (by omega) (by omega) (Lib.hid rfl)

end Go.Proofs.Ytgkahcchekiogaa.RefC
