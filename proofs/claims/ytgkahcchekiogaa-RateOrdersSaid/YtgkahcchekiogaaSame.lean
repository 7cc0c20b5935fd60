/- The reference's Same: two slices of integers that are alike. -/
import Derived.Test.YtgkahcchekiogaaOpen
import Derived.Test.YtgkahcchekiogaaRefA
import Derived.BigQuiet
import Derived.Deep.QuietTactic
namespace Go.Proofs.Ytgkahcchekiogaa.Same
open Go.RowKit Base RefA
set_option linter.unusedVariables false
set_option linter.unusedSimpArgs false

theorem rows_below {w w1 : World} {B : Nat} {a : Option Addr} {n sz : Nat} {f : Nat → Nat → Int} (h : Open.RowsIn w a n sz f) (hb : Below B w w1) (hB : w.heap.size ≤ B) : Open.RowsIn w1 a n sz f := by
  obtain ⟨hn, h1, hf⟩ := h
  refine ⟨hn, ?_, hf⟩
  rcases h1 with h1 | ⟨b, off, e, hlt, hc⟩
  · exact .inl h1
  · exact .inr ⟨b, off, e, Nat.lt_of_lt_of_le hlt (by have := hb.block; exact (hb.mono hB).size), fun i hi j hj => keep hb (hc i hi j hj) (Nat.lt_of_lt_of_le hlt hB)⟩
/-- an own row, as it is read -/
theorem rows_of_own {w : World} {base : Nat} {e : TypeId} {v : Value} {n : Nat} {f : Nat → Int} (h : w.ownsRow base e 1 v n (row f n)) (hn : n ≤ 9223372036854775807) (hf : ∀ i, i < n → -9223372036854775808 ≤ f i ∧ f i ≤ 9223372036854775807) :
    ∃ a cap, v = .slice a n cap ∧ Open.RowsIn w a n 1 (fun i _ => f i) := by
  rcases Nat.eq_zero_or_pos n with h0 | h0
  · subst h0
    obtain ⟨h1, ⟨h2, h3⟩ | ⟨g, cap, cur, hv, hg, hh, r⟩⟩ := id h
    · exact ⟨none, 0, by rw [h2], hn, .inl rfl, fun i hi => by omega⟩
    · exact ⟨_, _, hv, hn, .inl rfl, fun i hi => by omega⟩
  · obtain ⟨g, cap, hv, _, hlt⟩ := ownsRow_open h (by omega)
    refine ⟨_, _, hv, hn, .inr ⟨g, 0, rfl, hlt, fun i hi j hj => ?_⟩, fun i hi j _ => hf i hi⟩
    have := h.cells (g := g) (by rw [hv]; rfl) i _ (row_get f n i hi)
    rw [Open.add_none] at this
    rw [show i * 1 + j = i from by omega]; exact this

theorem same_walk (a b : Option Addr) (n c1 c2 : Nat) (f : Nat → Nat → Int) (w : World) (h1 : Hid (Open.RowsIn w a n 1 f)) (h2 : Hid (Open.RowsIn w b n 1 f)) :
    Calls Try.prog 55 #[.slice a n c1, .slice b n c2] w fun e w' => e = .returned (.bool true) ∧ Below w.heap.size w w' := by
  have hn := h1.out.1
  go_enter Try.func55, Try.ntmps55
  go_wp2_with fail
  go_loopw [5] (fun i wr => ∃ k : Nat, k ≤ n ∧ i = .int .i64 k ∧ Hid (Below w.heap.size w wr)) (fun i _ => n - (intOf i).toNat)
  case atStart => exact ⟨0, by omega, rfl, Lib.hid (Below.refl _ _)⟩
  case round =>
    obtain ⟨k, hk, rfl, HB⟩ := hrel
    by_cases hlt : k < n
    · obtain ⟨b1, o1, rfl, l1, q1⟩ : ∃ b off, a = some ⟨b, off, none⟩ ∧ b < w.heap.size ∧ w.cell? ⟨b, off + k, none⟩ = some (.int .i64 (f k 0)) := by
        rcases h1.out.2.1 with h | ⟨b, off, e, h, h'⟩
        · omega
        · exact ⟨b, off, e, h, by have := h' k hlt 0 (by omega); simpa using this⟩
      obtain ⟨b2, o2, rfl, l2, q2⟩ : ∃ b' off, b = some ⟨b', off, none⟩ ∧ b' < w.heap.size ∧ w.cell? ⟨b', off + k, none⟩ = some (.int .i64 (f k 0)) := by
        rcases h2.out.2.1 with h | ⟨b, off, e, h, h'⟩
        · omega
        · exact ⟨b, off, e, h, by have := h' k hlt 0 (by omega); simpa using this⟩
      obtain ⟨x, hx⟩ : ∃ x, f k 0 = x := ⟨_, rfl⟩
      rw [hx] at q1 q2
      clear hx
      have q1 := keep HB.out q1 l1
      have q2 := keep HB.out q2 l2
      go_wp2_with fail
      go_quiet (fail)
      go_wp2_with fail
      go_roundw
      case rel => exact ⟨k + 1, by omega, by go_num, Lib.hid (below_drewN HB.out _)⟩
      case measure => simp [intOf]; omega
    · obtain rfl : k = n := by omega
      go_wp2_with fail
      go_ret
      exact ⟨rfl, HB.out⟩
end Go.Proofs.Ytgkahcchekiogaa.Same
