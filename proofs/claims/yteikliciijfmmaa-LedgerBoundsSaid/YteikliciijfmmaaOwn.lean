/- An own row, as it is read. -/
import Derived.Test.YteikliciijfmmaaAlt
import Derived.Test.YteikliciijfmmaaWideS
import Derived.Test.YteikliciijfmmaaRefS
namespace Go.Proofs.Yteikliciijfmmaa.Own
open Go.RowKit Base Kit RefA Alt
set_option linter.unusedVariables false
set_option linter.unusedSimpArgs false

theorem ints_of_own {w : World} {base : Nat} {e : TypeId} {v : Value} {n : Nat} {f : Nat → Int} (h : w.ownsRow base e 1 v n (row f n)) (hn : n ≤ 9223372036854775807) (hf : ∀ i, i < n → I64 (f i)) :
    ∃ a cap, v = .slice a n cap ∧ WideS.IntsIn w a n f := by
  rcases Nat.eq_zero_or_pos n with h0 | h0
  · subst h0
    obtain ⟨h1, ⟨h2, h3⟩ | ⟨g, cap, cur, hv, hg, hh, r⟩⟩ := id h
    · exact ⟨none, 0, by rw [h2], hn, .inl rfl, fun i hi => by omega⟩
    · exact ⟨_, _, hv, hn, .inl rfl, fun i hi => by omega⟩
  · obtain ⟨g, cap, hv, _, hlt⟩ := ownsRow_open h (by omega)
    refine ⟨_, _, hv, hn, .inr ⟨g, 0, rfl, hlt, fun i hi => ?_⟩, fun i hi => hf i hi⟩
    have := h.cells (g := g) (by rw [hv]; rfl) i _ (row_get f n i hi)
    rw [Open.add_none] at this
    simpa using this
theorem sumr_any' (a : Option Addr) (n cap : Nat) (f : Nat → Int) (w : World) (h : WideS.IntsIn w a n f) :
    Calls Try.prog 60 #[.slice a n cap] w fun e w' => e = .returned (.tuple #[.int .i64 (Plain.sumR f n).1, .int .i64 (Plain.sumR f n).2]) ∧ Below w.heap.size w w' :=
  (RefS.sumr_any a n cap f w h).mono fun e w' hh => ⟨hh.1, by rw [← hh.2]; exact Below.refl _ _⟩
end Go.Proofs.Yteikliciijfmmaa.Own
