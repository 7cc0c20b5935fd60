/- A slice of bytes, as it is read. -/
import Derived.Test.YtlafeijkpnpdeaaAgq
import Derived.Test.YtlafeijkpnpdeaaOpen
namespace Go.Proofs.Ytlafeijkpnpdeaa.Ags
open Go.ChangeShapes Go.WideShapes Go.ChangeAt Go.RowKit Go.Deep Base Go.Joins Agq
set_option linter.unusedVariables false
theorem wf8 {a : Int} (h : (Lit.int .u8 a).wf = true) : 0 ≤ a ∧ a ≤ 255 := by
  simpa [Lit.wf, IntKind.min, IntKind.max, IntKind.signed, IntKind.bits] using h
theorem bytes_in {H : Type} {enc : TypeId × Value → H} {P : Program} {w : World} {held : Bool} {t e : TypeId} {fuel : Nat} {cs : List Value} {x : DataW H × List MemPlace}
    (ht : P.underlying t = some (.slice e)) (he : P.underlying e = some (.int .u8)) (hc : P.cellsOf e = 1) (h : DataW.trod enc P w 0 (fun _ => true) held fuel t cs = some x) :
    ∃ (a : Option Addr) (n cap : Nat) (f : Nat → Int), cs = [.slice a n cap] ∧ n ≤ cap ∧ cap ≤ maxLen ∧ BytesIn w a n f := by
  rcases open_ints ht he hc h with ⟨hcs, hx⟩ | ⟨a, len, cap, zs, hcs, _, hl, hm, hz, hx, hcell, hwz⟩
  · exact ⟨none, 0, 0, fun _ => 0, hcs, by omega, by unfold maxLen; omega, by omega, .inl rfl, fun i hi => by omega⟩
  · simp only [if_true] at hz
    refine ⟨some a, len, cap, fun i => zs.getD i 0, hcs, hl, hm, by unfold maxLen at hm; omega, ?_, fun i hi => wf8 (hwz _ ?_)⟩
    · by_cases h0 : len = 0
      · exact .inl h0
      · obtain ⟨b, off, rfl, hh⟩ := ints_at hcell (by omega)
        exact .inr ⟨b, off, rfl, lt_of_cell (hh 0 (by omega)), fun i hi => hh i (by omega)⟩
    · show zs.getD i 0 ∈ zs
      rw [List.getD_eq_getElem?_getD, List.getElem?_eq_getElem (by omega)]; exact List.getElem_mem _
end Go.Proofs.Ytlafeijkpnpdeaa.Ags
