/-
  No cell of these rows narrows 'for every input' (looked for: loops, veiled, ifaces, maps, wideKeys, modest, calm, conditions, laid).
  DERIVED. THE GIVEN ROWS OF THIS SEAT. 4 by the template 'for every input the law returns true; each argument reads behind the call as it read before'; 0 by the template 'total and deterministic' (their statements: YtihckgobeanocaaGreatTotals.lean).
  GIVEN WITH THE SEED: the statements are not yours to turn. If you find one false, say at which input.
  Laid BY PROGRAM, IN A SANDBOX (cutbox-rows.mjs): the forced cells as the released guide's own fill.sh prints them over the translation 40de8c96722e36fe… (all of the seat's roots in one cut). By AI agents, Wed Nov 11 2026. No macro, syntax, notation, axiom, sorry.
-/
import Derived.Test.YtihckgobeanocaaGreatChecked
import GoSem.Claim
import GoSem.ClaimJoined
import GoSem.ClaimMapViews
import Derived.JoinedTies
import Derived.KernelRfl
namespace Go.Proofs.YtihckgobeanocaaGreat
/- THE CELL 'sum', in the pinned program and in every row, IS THE sha256 OF THE DUMP (.gsa) THAT YtihckgobeanocaaGreatProg.lean LOADS. Nothing in Lean hashes anything: it is a label: what it is worth is what the hold of that sum in a sandbox is worth. -/
noncomputable def Tryz.pinned : Pinned := { name := "ytihckgobeanocaagreat", sum := "40de8c96722e36fe2db35c87dc1d801d19e441168df923a5d5ebe0c3ad9a65a0", checked := Tryz.checked }
namespace Rows
def none {H : Type} : Left H := { results := [], args := [] }

/-- 'anchorholdtop.TopExact': WHATEVER THE INPUT: true; the input reads as it did. -/
def topExactSpec : ChangeSpec := { name := "topExact", fn := fun _ => fun
  | [d1, d2] => { results := [.lit (.bool true)], args := [d1, d2] }
  | _ => none }
def topExactRow : OpenClaim := { program := "ytihckgobeanocaagreat", sum := "40de8c96722e36fe2db35c87dc1d801d19e441168df923a5d5ebe0c3ad9a65a0", func := "anchorhold/anchorholdtop.TopExact", spec := "topExact", inPlace := ["math/bits.Add64"], unfollowed := true, recurses := true, named := ["math/bits.divideError", "math/bits.overflowError"], apart := false }
def TopExactSaid : Prop := topExactRow.holds Tryz.pinned (OpenSpec.ofChange topExactSpec)

/-- ITS FALSE NEIGHBOUR: 'it returns false'. Refute it at one input. -/
def topExactWrong : ChangeSpec := { name := "topExact", fn := fun _ => fun
  | [d1, d2] => { results := [.lit (.bool false)], args := [d1, d2] }
  | _ => none }
def TopExactWrongFalsely : Prop := topExactRow.holds Tryz.pinned (OpenSpec.ofChange topExactWrong)

/-- 'anchorholdtop.TopSeen': WHATEVER THE INPUT: true; the input reads as it did. -/
def topSeenSpec : ChangeSpec := { name := "topSeen", fn := fun _ => fun
  | [d1, d2] => { results := [.lit (.bool true)], args := [d1, d2] }
  | _ => none }
def topSeenRow : OpenClaim := { program := "ytihckgobeanocaagreat", sum := "40de8c96722e36fe2db35c87dc1d801d19e441168df923a5d5ebe0c3ad9a65a0", func := "anchorhold/anchorholdtop.TopSeen", spec := "topSeen", inPlace := ["math/bits.Add64"], unfollowed := true, recurses := true, named := ["math/bits.divideError", "math/bits.overflowError"], apart := false }
def TopSeenSaid : Prop := topSeenRow.holds Tryz.pinned (OpenSpec.ofChange topSeenSpec)

/-- ITS FALSE NEIGHBOUR: 'it returns false'. Refute it at one input. -/
def topSeenWrong : ChangeSpec := { name := "topSeen", fn := fun _ => fun
  | [d1, d2] => { results := [.lit (.bool false)], args := [d1, d2] }
  | _ => none }
def TopSeenWrongFalsely : Prop := topSeenRow.holds Tryz.pinned (OpenSpec.ofChange topSeenWrong)

/-- 'anchorholdtop.TopChoices': WHATEVER THE INPUT: true; the input reads as it did. -/
def topChoicesSpec : ChangeSpec := { name := "topChoices", fn := fun _ => fun
  | [d1, d2, d3] => { results := [.lit (.bool true)], args := [d1, d2, d3] }
  | _ => none }
def topChoicesRow : OpenClaim := { program := "ytihckgobeanocaagreat", sum := "40de8c96722e36fe2db35c87dc1d801d19e441168df923a5d5ebe0c3ad9a65a0", func := "anchorhold/anchorholdtop.TopChoices", spec := "topChoices", inPlace := ["math/bits.Add64"], unfollowed := true, recurses := true, named := ["math/bits.divideError", "math/bits.overflowError"], apart := false }
def TopChoicesSaid : Prop := topChoicesRow.holds Tryz.pinned (OpenSpec.ofChange topChoicesSpec)

/-- ITS FALSE NEIGHBOUR: 'it returns false'. Refute it at one input. -/
def topChoicesWrong : ChangeSpec := { name := "topChoices", fn := fun _ => fun
  | [d1, d2, d3] => { results := [.lit (.bool false)], args := [d1, d2, d3] }
  | _ => none }
def TopChoicesWrongFalsely : Prop := topChoicesRow.holds Tryz.pinned (OpenSpec.ofChange topChoicesWrong)

/-- 'anchorholdtop.TopOthers': WHATEVER THE INPUT: true; the input reads as it did. -/
def topOthersSpec : ChangeSpec := { name := "topOthers", fn := fun _ => fun
  | [d1, d2, d3] => { results := [.lit (.bool true)], args := [d1, d2, d3] }
  | _ => none }
def topOthersRow : OpenClaim := { program := "ytihckgobeanocaagreat", sum := "40de8c96722e36fe2db35c87dc1d801d19e441168df923a5d5ebe0c3ad9a65a0", func := "anchorhold/anchorholdtop.TopOthers", spec := "topOthers", inPlace := ["math/bits.Add64"], unfollowed := true, recurses := true, named := ["math/bits.divideError", "math/bits.overflowError"], apart := false }
def TopOthersSaid : Prop := topOthersRow.holds Tryz.pinned (OpenSpec.ofChange topOthersSpec)

/-- ITS FALSE NEIGHBOUR: 'it returns false'. Refute it at one input. -/
def topOthersWrong : ChangeSpec := { name := "topOthers", fn := fun _ => fun
  | [d1, d2, d3] => { results := [.lit (.bool false)], args := [d1, d2, d3] }
  | _ => none }
def TopOthersWrongFalsely : Prop := topOthersRow.holds Tryz.pinned (OpenSpec.ofChange topOthersWrong)

/- THE SECOND FORM. 'bulk': how many values and letters a reading holds, each counted each time it is reached (what is shared counts as often as it is met; a slice's spare places count too). A statement '..UptoSaid' is the law's where the arguments, and the package variables that the reading takes, are together of bulk at most 1048576: NARROWER than '..Said'. Prove '..Said' where nothing that the law and all that it calls make is longer than what came in: it says more and counts as full. Else prove '..UptoSaid'. A law counts once. -/
mutual
def uptoBulk {H : Type} : DataW H → Nat
  | .lit (.string bytes) => bytes.length + 1
  | .lit _ => 1
  | .nil => 1
  | .ptr d => uptoBulk d + 1
  | .slice elems spare => uptoBulkAll elems + uptoBulkAll spare + 1
  | .agg parts => uptoBulkAll parts + 1
  | .iface _ d => uptoBulk d + 1
  | .map entries => uptoBulkEntries entries + 1
  | .held _ => 1
def uptoBulkAll {H : Type} : List (DataW H) → Nat
  | [] => 0
  | d :: r => uptoBulk d + uptoBulkAll r
def uptoBulkEntries {H : Type} : List (Lit × DataW H) → Nat
  | [] => 0
  | x :: r => uptoBulkEntry x + uptoBulkEntries r
def uptoBulkEntry {H : Type} : Lit × DataW H → Nat
  | (.string bytes, d) => bytes.length + uptoBulk d + 1
  | (_, d) => uptoBulk d + 1
 end
def uptoSmall : (H : Type) → List (DataW H) → Bool := fun _ ds => decide (uptoBulkAll ds ≤ 1048576)
def OpenSpec.upto (s : _root_.Go.ChangeSpec) : _root_.Go.OpenSpec := { _root_.Go.OpenSpec.ofChange s with cond := some uptoSmall }

/-- 'anchorholdtop.TopExact', WHERE WHAT IT READS IS OF BULK AT MOST 1048576: true; the input reads as it did. -/
def topExactUptoRow : OpenClaim := { program := "ytihckgobeanocaagreat", sum := "40de8c96722e36fe2db35c87dc1d801d19e441168df923a5d5ebe0c3ad9a65a0", func := "anchorhold/anchorholdtop.TopExact", spec := "topExact", inPlace := ["math/bits.Add64"], unfollowed := true, recurses := true, named := ["math/bits.divideError", "math/bits.overflowError"], apart := false, narrowed := true }
def TopExactUptoSaid : Prop := topExactUptoRow.holds Tryz.pinned (OpenSpec.upto topExactSpec)

/-- 'anchorholdtop.TopSeen', WHERE WHAT IT READS IS OF BULK AT MOST 1048576: true; the input reads as it did. -/
def topSeenUptoRow : OpenClaim := { program := "ytihckgobeanocaagreat", sum := "40de8c96722e36fe2db35c87dc1d801d19e441168df923a5d5ebe0c3ad9a65a0", func := "anchorhold/anchorholdtop.TopSeen", spec := "topSeen", inPlace := ["math/bits.Add64"], unfollowed := true, recurses := true, named := ["math/bits.divideError", "math/bits.overflowError"], apart := false, narrowed := true }
def TopSeenUptoSaid : Prop := topSeenUptoRow.holds Tryz.pinned (OpenSpec.upto topSeenSpec)

/-- 'anchorholdtop.TopChoices', WHERE WHAT IT READS IS OF BULK AT MOST 1048576: true; the input reads as it did. -/
def topChoicesUptoRow : OpenClaim := { program := "ytihckgobeanocaagreat", sum := "40de8c96722e36fe2db35c87dc1d801d19e441168df923a5d5ebe0c3ad9a65a0", func := "anchorhold/anchorholdtop.TopChoices", spec := "topChoices", inPlace := ["math/bits.Add64"], unfollowed := true, recurses := true, named := ["math/bits.divideError", "math/bits.overflowError"], apart := false, narrowed := true }
def TopChoicesUptoSaid : Prop := topChoicesUptoRow.holds Tryz.pinned (OpenSpec.upto topChoicesSpec)

/-- 'anchorholdtop.TopOthers', WHERE WHAT IT READS IS OF BULK AT MOST 1048576: true; the input reads as it did. -/
def topOthersUptoRow : OpenClaim := { program := "ytihckgobeanocaagreat", sum := "40de8c96722e36fe2db35c87dc1d801d19e441168df923a5d5ebe0c3ad9a65a0", func := "anchorhold/anchorholdtop.TopOthers", spec := "topOthers", inPlace := ["math/bits.Add64"], unfollowed := true, recurses := true, named := ["math/bits.divideError", "math/bits.overflowError"], apart := false, narrowed := true }
def TopOthersUptoSaid : Prop := topOthersUptoRow.holds Tryz.pinned (OpenSpec.upto topOthersSpec)

end Rows
end Go.Proofs.YtihckgobeanocaaGreat
