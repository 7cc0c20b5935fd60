/- The reference's Sum. -/
import Derived.Test.YtgkahcchekiogaaWideS
namespace Go.Proofs.Ytgkahcchekiogaa.RefS
open Go.RowKit WideA WideB WideS Base Plain
set_option linter.unusedVariables false
set_option linter.unusedSimpArgs false

set_option maxHeartbeats 1000000 in
theorem sumr_walk (b off n cap : Nat) (f : Nat → Int) (r1 r2 : Int) (w : World) (hr : Hid (sumR f n = (r1, r2))) (hn : n ≤ 9223372036854775807) (hb : b < w.heap.size)
    (hc : Hid (∀ i, i < n → w.cell? ⟨b, off + i, none⟩ = some (.int .i64 (f i)))) (hf : Hid (∀ i, i < n → -9223372036854775808 ≤ f i ∧ f i ≤ 9223372036854775807)) :
    Calls Try.prog 105 #[.slice (some ⟨b, off, none⟩) n cap] w fun e w' => e = .returned (.tuple #[.int .i64 r1, .int .i64 r2]) ∧ w = w' := by
  go_enter Try.func105, Try.ntmps105
  go_wp2
  go_loop [4, 5, 6] (fun s o i => ∃ (k : Nat) (sv : Int) (over : Bool), k ≤ n ∧ i = .int .i64 k ∧ s = .int .i64 sv ∧ o = .bool over ∧ Hid (SumAt f k sv over)) (fun _ _ i => n - (intOf i).toNat)
  case atStart => exact ⟨0, 0, false, Nat.zero_le _, rfl, rfl, rfl, SumAt.zero f⟩
  case round =>
    obtain ⟨k, s, over, hk, rfl, rfl, rfl, H⟩ := hrel
    have s0 := H.out.n0; have s1 := H.out.n1
    by_cases hlt : k < n
    · have hck := hc.out k hlt
      obtain ⟨f0, f1⟩ := hf.out k hlt
      by_cases hneg : f k < 0
      · obtain ⟨rfl, rfl⟩ : r1 = 0 ∧ r2 = 2 := by have h := SumAt.neg (f := f) hlt hneg; rw [hr.out] at h; simpa using h
        go_wp2
        go_ret2
        exact ⟨rfl, rfl⟩
      · cases over
        · by_cases hbig : 9223372036854775807 - s < f k
          · have hH := Lib.hid (H.out.burst (by omega) hbig)
            go_wp2
            go_round
            case rel => exact ⟨k + 1, s, true, by omega, by go_num, rfl, rfl, hH⟩
            case measure => simp [intOf]; omega
          · have hH := Lib.hid (H.out.add (by omega) (by omega))
            go_wp2
            go_round
            case rel => exact ⟨k + 1, s + f k, false, by omega, by go_num, rfl, rfl, hH⟩
            case measure => simp [intOf]; omega
        · have hH := Lib.hid (H.out.stay (by omega))
          go_wp2
          go_round
          case rel => exact ⟨k + 1, s, true, by omega, by go_num, rfl, rfl, hH⟩
          case measure => simp [intOf]; omega
    · obtain rfl : k = n := by omega
      cases over
      · obtain ⟨rfl, rfl⟩ : r1 = s ∧ r2 = 0 := by have h := H.out.done; rw [hr.out] at h; simpa using h
        go_wp2
        go_ret2
        exact ⟨rfl, rfl⟩
      · obtain ⟨rfl, rfl⟩ : r1 = 0 ∧ r2 = 6 := by have h := H.out.over; rw [hr.out] at h; simpa using h
        go_wp2
        go_ret2
        exact ⟨rfl, rfl⟩

theorem sumr_zero (a : Option Addr) (cap : Nat) (w : World) :
    Calls Try.prog 105 #[.slice a 0 cap] w fun e w' => e = .returned (.tuple #[.int .i64 0, .int .i64 0]) ∧ w = w' := by
  go_enter Try.func105, Try.ntmps105
  go_wp2
  refine wp_loop_rounds 1 ?_; rw [rounds_succ]
  go_wp2
  go_ret2
  exact ⟨rfl, rfl⟩

theorem sumr_any (a : Option Addr) (n cap : Nat) (f : Nat → Int) (w : World) (h : IntsIn w a n f) :
    Calls Try.prog 105 #[.slice a n cap] w fun e w' => e = .returned (.tuple #[.int .i64 (sumR f n).1, .int .i64 (sumR f n).2]) ∧ w = w' := by
  obtain ⟨hn, rfl | ⟨b, off, rfl, hb, hc⟩, hf⟩ := h
  · exact sumr_zero a cap w
  · exact sumr_walk b off n cap f _ _ w rfl hn hb hc hf

theorem IntsIn.below {w w1 : World} {a : Option Addr} {n : Nat} {f : Nat → Int} (h : IntsIn w a n f) (hb : Below w.heap.size w w1) : IntsIn w1 a n f := by
  obtain ⟨hn, h1, hf⟩ := h
  refine ⟨hn, ?_, hf⟩
  rcases h1 with h1 | ⟨b, off, e, hlt, hc⟩
  · exact .inl h1
  · exact .inr ⟨b, off, e, Nat.lt_of_lt_of_le hlt hb.size, fun i hi => keep hb (hc i hi) hlt⟩
theorem sumR_bd (f : Nat → Int) (n : Nat) : 0 ≤ (sumR f n).2 ∧ (sumR f n).2 ≤ 6 := by
  unfold sumR; split
  · simp
  · split <;> simp
end Go.Proofs.Ytgkahcchekiogaa.RefS
