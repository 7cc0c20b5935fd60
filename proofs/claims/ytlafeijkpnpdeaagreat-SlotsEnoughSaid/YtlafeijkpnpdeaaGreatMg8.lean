import Derived.BigQuiet
import Derived.Deep.QuietTactic
import Derived.Test.YtlafeijkpnpdeaaGreatMg7
import Derived.Test.YtlafeijkpnpdeaaGreatMg3

/- The reference's Same: two slices of integers that are alike. -/
namespace Go.Proofs.YtlafeijkpnpdeaaGreat.Same
open Go.RowKit Base RefA
set_option linter.unusedVariables false
set_option linter.unusedSimpArgs false

theorem rows_below {w w1 : World} {B : Nat} {a : Option Addr} {n sz : Nat} {f : Nat → Nat → Int} (h : Open.RowsIn w a n sz f) (hb : Below B w w1) (hB : w.heap.size ≤ B) : Open.RowsIn w1 a n sz f := by
  obtain ⟨hn, h1, hf⟩ := h
  refine ⟨hn, ?_, hf⟩
  rcases h1 with h1 | ⟨b, off, e, hlt, hc⟩
  · exact .inl h1
  · exact .inr ⟨b, off, e, Nat.lt_of_lt_of_le hlt (by have := hb.block; exact (hb.mono hB).size), fun i hi j hj => keep hb (hc i hi j hj) (Nat.lt_of_lt_of_le hlt hB)⟩
/-- an own row, as it is read -/
theorem rows_of_own {w : World} {base : Nat} {e : TypeId} {v : Value} {n : Nat} {f : Nat → Int} (h : w.ownsRow base e 1 v n (row f n)) (hn : n ≤ 9223372036854775807) (hf : ∀ i, i < n → -9223372036854775808 ≤ f i ∧ f i ≤ 9223372036854775807) :
    ∃ a cap, v = .slice a n cap ∧ Open.RowsIn w a n 1 (fun i _ => f i) := by
  rcases Nat.eq_zero_or_pos n with h0 | h0
  · subst h0
    obtain ⟨h1, ⟨h2, h3⟩ | ⟨g, cap, cur, hv, hg, hh, r⟩⟩ := id h
    · exact ⟨none, 0, by rw [h2], hn, .inl rfl, fun i hi => by omega⟩
    · exact ⟨_, _, hv, hn, .inl rfl, fun i hi => by omega⟩
  · obtain ⟨g, cap, hv, _, hlt⟩ := ownsRow_open h (by omega)
    refine ⟨_, _, hv, hn, .inr ⟨g, 0, rfl, hlt, fun i hi j hj => ?_⟩, fun i hi j _ => hf i hi⟩
    have := h.cells (g := g) (by rw [hv]; rfl) i _ (row_get f n i hi)
    rw [Open.add_none] at this
    rw [show i * 1 + j = i from by omega]; exact this

end Go.Proofs.YtlafeijkpnpdeaaGreat.Same
