/- wide.Sum: sums that are told with an error. -/
import Derived.Test.YtgkahcchekiogaaWideB
import Derived.Test.YtgkahcchekiogaaPlain
namespace Go.Proofs.Ytgkahcchekiogaa.WideS
open Go.RowKit WideA WideB Base Plain
set_option linter.unusedVariables false
set_option linter.unusedSimpArgs false

/-- a slice of integers, as it is read -/
def IntsIn (w : World) (a : Option Addr) (n : Nat) (f : Nat → Int) : Prop :=
  n ≤ 9223372036854775807 ∧ (n = 0 ∨ ∃ b off, a = some ⟨b, off, none⟩ ∧ b < w.heap.size ∧ ∀ i, i < n → w.cell? ⟨b, off + i, none⟩ = some (.int .i64 (f i))) ∧ ∀ i, i < n → -9223372036854775808 ≤ f i ∧ f i ≤ 9223372036854775807

set_option maxHeartbeats 1000000 in
theorem sum_walk (b off n cap : Nat) (f : Nat → Int) (w : World) (hn : n ≤ 9223372036854775807) (hb : b < w.heap.size)
    (hc : Hid (∀ i, i < n → w.cell? ⟨b, off + i, none⟩ = some (.int .i64 (f i)))) (hf : Hid (∀ i, i < n → -9223372036854775808 ≤ f i ∧ f i ≤ 9223372036854775807)) :
    Calls Try.prog 166 #[.slice (some ⟨b, off, none⟩) n cap] w fun e w' => e = .returned (.tuple #[.int .i64 (sumR f n).1, .int .i64 (sumR f n).2]) ∧ Below w.heap.size w w' := by
  go_enter_defers Try.func166, Try.ntmps166
  go_wp2
  go_loopw [4, 9] (fun o i wr => ∃ (k : Nat) (s : Int) (over : Bool), k ≤ n ∧ i = .int .i64 k ∧ o = .bool over ∧ Hid (SumAt f k s over) ∧ wr = (w.alloc (.cells #[.int .i64 s] 3)).alloc (.cells #[.int .i64 0] 45)) (fun _ i _ => n - (intOf i).toNat)
  case atStart => exact ⟨0, 0, false, Nat.zero_le _, rfl, rfl, SumAt.zero f, rfl⟩
  case round =>
    obtain ⟨k, s, over, hk, rfl, rfl, H, rfl⟩ := hrel
    have s0 := H.out.n0; have s1 := H.out.n1
    by_cases hlt : k < n
    · have hck := hc.out k hlt
      obtain ⟨f0, f1⟩ := hf.out k hlt
      by_cases hneg : f k < 0
      · have hr := Lib.hid (SumAt.neg (f := f) hlt hneg)
        go_wp2
        refine leaves_cons (f := 122) (args := #[.pointer (some ⟨w.heap.size, 0, none⟩), .pointer (some ⟨w.heap.size + 1, 0, none⟩)]) (by simp) (by simp [go_sem]) ?_
        refine (none_err _ _ 2 s _ _ (by go_simp) (by decide) (by go_simp) (by go_simp)).mono ?_
        rintro e u' w' ⟨rfl, rfl, rfl⟩
        exact ⟨.tuple #[.int .i64 0, .int .i64 2], by simp [results, Try.results166, go_sem], by rw [hr.out], ((((Below.refl _ _).alloc (Nat.le_refl _) _).alloc (by simp) _).setCell (by simp) _)⟩
      · cases over
        · by_cases hbig : 9223372036854775807 - s < f k
          · have hH := Lib.hid (H.out.burst (by omega) hbig)
            go_wp2
            go_roundw
            case rel => exact ⟨k + 1, s, true, by omega, by go_num, rfl, hH, rfl⟩
            case measure => simp [intOf]; omega
          · have hH := Lib.hid (H.out.add (by omega) (by omega))
            go_wp2
            go_roundw
            case rel => exact ⟨k + 1, s + f k, false, by omega, by go_num, rfl, hH, rfl⟩
            case measure => simp [intOf]; omega
        · have hH := Lib.hid (H.out.stay (by omega))
          go_wp2
          go_roundw
          case rel => exact ⟨k + 1, s, true, by omega, by go_num, rfl, hH, rfl⟩
          case measure => simp [intOf]; omega
    · obtain rfl : k = n := by omega
      cases over
      · have hr := Lib.hid H.out.done
        go_wp2
        refine leaves_cons (f := 122) (args := #[.pointer (some ⟨w.heap.size, 0, none⟩), .pointer (some ⟨w.heap.size + 1, 0, none⟩)]) (by simp) (by simp [go_sem]) ?_
        refine (none_ok _ _ _ _ (by go_simp)).mono ?_
        rintro e u' w' ⟨rfl, rfl, rfl⟩
        exact ⟨.tuple #[.int .i64 s, .int .i64 0], by simp [results, Try.results166, go_sem], by rw [hr.out], ((((Below.refl _ _).alloc (Nat.le_refl _) _).alloc (by simp) _))⟩
      · have hr := Lib.hid H.out.over
        go_wp2
        refine leaves_cons (f := 122) (args := #[.pointer (some ⟨w.heap.size, 0, none⟩), .pointer (some ⟨w.heap.size + 1, 0, none⟩)]) (by simp) (by simp [go_sem]) ?_
        refine (none_err _ _ 6 s _ _ (by go_simp) (by decide) (by go_simp) (by go_simp)).mono ?_
        rintro e u' w' ⟨rfl, rfl, rfl⟩
        exact ⟨.tuple #[.int .i64 0, .int .i64 6], by simp [results, Try.results166, go_sem], by rw [hr.out], ((((Below.refl _ _).alloc (Nat.le_refl _) _).alloc (by simp) _).setCell (by simp) _)⟩

theorem sum_zero (a : Option Addr) (cap : Nat) (w : World) :
    Calls Try.prog 166 #[.slice a 0 cap] w fun e w' => e = .returned (.tuple #[.int .i64 0, .int .i64 0]) ∧ Below w.heap.size w w' := by
  go_enter_defers Try.func166, Try.ntmps166
  go_wp2
  refine wp_loop_rounds 1 ?_; rw [rounds_succ]
  go_wp2
  refine leaves_cons (f := 122) (args := #[.pointer (some ⟨w.heap.size, 0, none⟩), .pointer (some ⟨w.heap.size + 1, 0, none⟩)]) (by simp) (by simp [go_sem]) ?_
  refine (none_ok _ _ _ _ (by go_simp)).mono ?_
  rintro e u' w' ⟨rfl, rfl, rfl⟩
  exact ⟨.tuple #[.int .i64 0, .int .i64 0], by simp [results, Try.results166, go_sem], rfl, ((((Below.refl _ _).alloc (Nat.le_refl _) _).alloc (by simp) _))⟩

theorem sum_any (a : Option Addr) (n cap : Nat) (f : Nat → Int) (w : World) (h : IntsIn w a n f) :
    Calls Try.prog 166 #[.slice a n cap] w fun e w' => e = .returned (.tuple #[.int .i64 (sumR f n).1, .int .i64 (sumR f n).2]) ∧ Below w.heap.size w w' := by
  obtain ⟨hn, rfl | ⟨b, off, rfl, hb, hc⟩, hf⟩ := h
  · exact sum_zero a cap w
  · exact sum_walk b off n cap f w hn hb hc hf
end Go.Proofs.Ytgkahcchekiogaa.WideS
