/-
  No cell of these rows narrows 'for every input' (looked for: loops, veiled, ifaces, maps, wideKeys, modest, calm, conditions, laid).
  DERIVED. THE GIVEN ROWS OF THIS SEAT. 8 by the template 'for every input the law returns true; each argument reads behind the call as it read before'; 0 by the template 'total and deterministic' (their statements: YtigknchcjlieoaaTotals.lean).
  GIVEN WITH THE SEED: the statements are not yours to turn. If you find one false, say at which input.
  Laid BY PROGRAM, IN A SANDBOX (cutbox-rows.mjs): the forced cells as the released guide's own fill.sh prints them over the translation 24f7df4a18a5cad0… (all of the seat's roots in one cut). By AI agents, Wed Nov 11 2026. No macro, syntax, notation, axiom, sorry.
-/
import Derived.Test.YtigknchcjlieoaaChecked
import GoSem.Claim
import GoSem.ClaimJoined
import GoSem.ClaimMapViews
import Derived.JoinedTies
import Derived.KernelRfl
namespace Go.Proofs.Ytigknchcjlieoaa
/- THE CELL 'sum', in the pinned program and in every row, IS THE sha256 OF THE DUMP (.gsa) THAT YtigknchcjlieoaaProg.lean LOADS. Nothing in Lean hashes anything: it is a label: what it is worth is what the hold of that sum in a sandbox is worth. -/
noncomputable def Try.pinned : Pinned := { name := "ytigknchcjlieoaa", sum := "24f7df4a18a5cad095ad593da7827d9bfbc400a203cc494fc7b3145a636594ca", checked := Try.checked }
namespace Rows
def none {H : Type} : Left H := { results := [], args := [] }

/-- 'anchorholdlaw11.LevelPicks': WHATEVER THE INPUT: true; the input reads as it did. -/
def levelPicksSpec : ChangeSpec := { name := "levelPicks", fn := fun _ => fun
  | [d1, d2, d3] => { results := [.lit (.bool true)], args := [d1, d2, d3] }
  | _ => none }
def levelPicksRow : OpenClaim := { program := "ytigknchcjlieoaa", sum := "24f7df4a18a5cad095ad593da7827d9bfbc400a203cc494fc7b3145a636594ca", func := "anchorhold/anchorholdlaw11.LevelPicks", spec := "levelPicks", inPlace := ["math/bits.Add64"], unfollowed := true, recurses := true, named := ["math/bits.divideError", "math/bits.overflowError"], apart := false }
def LevelPicksSaid : Prop := levelPicksRow.holds Try.pinned (OpenSpec.ofChange levelPicksSpec)

/-- ITS FALSE NEIGHBOUR: 'it returns false'. Refute it at one input. -/
def levelPicksWrong : ChangeSpec := { name := "levelPicks", fn := fun _ => fun
  | [d1, d2, d3] => { results := [.lit (.bool false)], args := [d1, d2, d3] }
  | _ => none }
def LevelPicksWrongFalsely : Prop := levelPicksRow.holds Try.pinned (OpenSpec.ofChange levelPicksWrong)

/-- 'anchorholdlaw11.LevelStays': WHATEVER THE INPUT: true; the input reads as it did. -/
def levelStaysSpec : ChangeSpec := { name := "levelStays", fn := fun _ => fun
  | [d1, d2, d3] => { results := [.lit (.bool true)], args := [d1, d2, d3] }
  | _ => none }
def levelStaysRow : OpenClaim := { program := "ytigknchcjlieoaa", sum := "24f7df4a18a5cad095ad593da7827d9bfbc400a203cc494fc7b3145a636594ca", func := "anchorhold/anchorholdlaw11.LevelStays", spec := "levelStays", inPlace := ["math/bits.Add64"], unfollowed := true, recurses := true, named := ["math/bits.divideError", "math/bits.overflowError"], apart := false }
def LevelStaysSaid : Prop := levelStaysRow.holds Try.pinned (OpenSpec.ofChange levelStaysSpec)

/-- ITS FALSE NEIGHBOUR: 'it returns false'. Refute it at one input. -/
def levelStaysWrong : ChangeSpec := { name := "levelStays", fn := fun _ => fun
  | [d1, d2, d3] => { results := [.lit (.bool false)], args := [d1, d2, d3] }
  | _ => none }
def LevelStaysWrongFalsely : Prop := levelStaysRow.holds Try.pinned (OpenSpec.ofChange levelStaysWrong)

/-- 'anchorholdlaw11.LevelEnds': WHATEVER THE INPUT: true; the input reads as it did. -/
def levelEndsSpec : ChangeSpec := { name := "levelEnds", fn := fun _ => fun
  | [d1, d2, d3] => { results := [.lit (.bool true)], args := [d1, d2, d3] }
  | _ => none }
def levelEndsRow : OpenClaim := { program := "ytigknchcjlieoaa", sum := "24f7df4a18a5cad095ad593da7827d9bfbc400a203cc494fc7b3145a636594ca", func := "anchorhold/anchorholdlaw11.LevelEnds", spec := "levelEnds", inPlace := ["math/bits.Add64"], unfollowed := true, recurses := true, named := ["math/bits.divideError", "math/bits.overflowError"], apart := false }
def LevelEndsSaid : Prop := levelEndsRow.holds Try.pinned (OpenSpec.ofChange levelEndsSpec)

/-- ITS FALSE NEIGHBOUR: 'it returns false'. Refute it at one input. -/
def levelEndsWrong : ChangeSpec := { name := "levelEnds", fn := fun _ => fun
  | [d1, d2, d3] => { results := [.lit (.bool false)], args := [d1, d2, d3] }
  | _ => none }
def LevelEndsWrongFalsely : Prop := levelEndsRow.holds Try.pinned (OpenSpec.ofChange levelEndsWrong)

/-- 'anchorholdlaw11.LevelEnough': WHATEVER THE INPUT: true; the input reads as it did. -/
def levelEnoughSpec : ChangeSpec := { name := "levelEnough", fn := fun _ => fun
  | [d1, d2, d3] => { results := [.lit (.bool true)], args := [d1, d2, d3] }
  | _ => none }
def levelEnoughRow : OpenClaim := { program := "ytigknchcjlieoaa", sum := "24f7df4a18a5cad095ad593da7827d9bfbc400a203cc494fc7b3145a636594ca", func := "anchorhold/anchorholdlaw11.LevelEnough", spec := "levelEnough", inPlace := ["math/bits.Add64"], unfollowed := true, recurses := true, named := ["math/bits.divideError", "math/bits.overflowError"], apart := false }
def LevelEnoughSaid : Prop := levelEnoughRow.holds Try.pinned (OpenSpec.ofChange levelEnoughSpec)

/-- ITS FALSE NEIGHBOUR: 'it returns false'. Refute it at one input. -/
def levelEnoughWrong : ChangeSpec := { name := "levelEnough", fn := fun _ => fun
  | [d1, d2, d3] => { results := [.lit (.bool false)], args := [d1, d2, d3] }
  | _ => none }
def LevelEnoughWrongFalsely : Prop := levelEnoughRow.holds Try.pinned (OpenSpec.ofChange levelEnoughWrong)

/-- 'anchorholdlaw12.NapPicks': WHATEVER THE INPUT: true; the input reads as it did. -/
def napPicksSpec : ChangeSpec := { name := "napPicks", fn := fun _ => fun
  | [d1, d2, d3] => { results := [.lit (.bool true)], args := [d1, d2, d3] }
  | _ => none }
def napPicksRow : OpenClaim := { program := "ytigknchcjlieoaa", sum := "24f7df4a18a5cad095ad593da7827d9bfbc400a203cc494fc7b3145a636594ca", func := "anchorhold/anchorholdlaw12.NapPicks", spec := "napPicks", inPlace := ["math/bits.Add64"], unfollowed := true, recurses := true, named := ["math/bits.divideError", "math/bits.overflowError"], apart := false }
def NapPicksSaid : Prop := napPicksRow.holds Try.pinned (OpenSpec.ofChange napPicksSpec)

/-- ITS FALSE NEIGHBOUR: 'it returns false'. Refute it at one input. -/
def napPicksWrong : ChangeSpec := { name := "napPicks", fn := fun _ => fun
  | [d1, d2, d3] => { results := [.lit (.bool false)], args := [d1, d2, d3] }
  | _ => none }
def NapPicksWrongFalsely : Prop := napPicksRow.holds Try.pinned (OpenSpec.ofChange napPicksWrong)

/-- 'anchorholdlaw12.NapCounts': WHATEVER THE INPUT: true; the input reads as it did. -/
def napCountsSpec : ChangeSpec := { name := "napCounts", fn := fun _ => fun
  | [d1, d2, d3] => { results := [.lit (.bool true)], args := [d1, d2, d3] }
  | _ => none }
def napCountsRow : OpenClaim := { program := "ytigknchcjlieoaa", sum := "24f7df4a18a5cad095ad593da7827d9bfbc400a203cc494fc7b3145a636594ca", func := "anchorhold/anchorholdlaw12.NapCounts", spec := "napCounts", inPlace := ["math/bits.Add64"], unfollowed := true, recurses := true, named := ["math/bits.divideError", "math/bits.overflowError"], apart := false }
def NapCountsSaid : Prop := napCountsRow.holds Try.pinned (OpenSpec.ofChange napCountsSpec)

/-- ITS FALSE NEIGHBOUR: 'it returns false'. Refute it at one input. -/
def napCountsWrong : ChangeSpec := { name := "napCounts", fn := fun _ => fun
  | [d1, d2, d3] => { results := [.lit (.bool false)], args := [d1, d2, d3] }
  | _ => none }
def NapCountsWrongFalsely : Prop := napCountsRow.holds Try.pinned (OpenSpec.ofChange napCountsWrong)

/-- 'anchorholdlaw12.NapWorth': WHATEVER THE INPUT: true; the input reads as it did. -/
def napWorthSpec : ChangeSpec := { name := "napWorth", fn := fun _ => fun
  | [d1, d2] => { results := [.lit (.bool true)], args := [d1, d2] }
  | _ => none }
def napWorthRow : OpenClaim := { program := "ytigknchcjlieoaa", sum := "24f7df4a18a5cad095ad593da7827d9bfbc400a203cc494fc7b3145a636594ca", func := "anchorhold/anchorholdlaw12.NapWorth", spec := "napWorth", inPlace := ["math/bits.Add64"], unfollowed := true, recurses := true, named := ["math/bits.divideError", "math/bits.overflowError"], apart := false }
def NapWorthSaid : Prop := napWorthRow.holds Try.pinned (OpenSpec.ofChange napWorthSpec)

/-- ITS FALSE NEIGHBOUR: 'it returns false'. Refute it at one input. -/
def napWorthWrong : ChangeSpec := { name := "napWorth", fn := fun _ => fun
  | [d1, d2] => { results := [.lit (.bool false)], args := [d1, d2] }
  | _ => none }
def NapWorthWrongFalsely : Prop := napWorthRow.holds Try.pinned (OpenSpec.ofChange napWorthWrong)

/-- 'anchorholdlaw12.NapWakes': WHATEVER THE INPUT: true; the input reads as it did. -/
def napWakesSpec : ChangeSpec := { name := "napWakes", fn := fun _ => fun
  | [d1, d2, d3] => { results := [.lit (.bool true)], args := [d1, d2, d3] }
  | _ => none }
def napWakesRow : OpenClaim := { program := "ytigknchcjlieoaa", sum := "24f7df4a18a5cad095ad593da7827d9bfbc400a203cc494fc7b3145a636594ca", func := "anchorhold/anchorholdlaw12.NapWakes", spec := "napWakes", inPlace := ["math/bits.Add64"], unfollowed := true, recurses := true, named := ["math/bits.divideError", "math/bits.overflowError"], apart := false }
def NapWakesSaid : Prop := napWakesRow.holds Try.pinned (OpenSpec.ofChange napWakesSpec)

/-- ITS FALSE NEIGHBOUR: 'it returns false'. Refute it at one input. -/
def napWakesWrong : ChangeSpec := { name := "napWakes", fn := fun _ => fun
  | [d1, d2, d3] => { results := [.lit (.bool false)], args := [d1, d2, d3] }
  | _ => none }
def NapWakesWrongFalsely : Prop := napWakesRow.holds Try.pinned (OpenSpec.ofChange napWakesWrong)

/- THE SECOND FORM. 'bulk': how many values and letters a reading holds, each counted each time it is reached (what is shared counts as often as it is met; a slice's spare places count too). A statement '..UptoSaid' is the law's where the arguments, and the package variables that the reading takes, are together of bulk at most 1048576: NARROWER than '..Said'. Prove '..Said' where nothing that the law and all that it calls make is longer than what came in: it says more and counts as full. Else prove '..UptoSaid'. A law counts once. -/
mutual
def uptoBulk {H : Type} : DataW H → Nat
  | .lit (.string bytes) => bytes.length + 1
  | .lit _ => 1
  | .nil => 1
  | .ptr d => uptoBulk d + 1
  | .slice elems spare => uptoBulkAll elems + uptoBulkAll spare + 1
  | .agg parts => uptoBulkAll parts + 1
  | .iface _ d => uptoBulk d + 1
  | .map entries => uptoBulkEntries entries + 1
  | .held _ => 1
def uptoBulkAll {H : Type} : List (DataW H) → Nat
  | [] => 0
  | d :: r => uptoBulk d + uptoBulkAll r
def uptoBulkEntries {H : Type} : List (Lit × DataW H) → Nat
  | [] => 0
  | x :: r => uptoBulkEntry x + uptoBulkEntries r
def uptoBulkEntry {H : Type} : Lit × DataW H → Nat
  | (.string bytes, d) => bytes.length + uptoBulk d + 1
  | (_, d) => uptoBulk d + 1
 end
def uptoSmall : (H : Type) → List (DataW H) → Bool := fun _ ds => decide (uptoBulkAll ds ≤ 1048576)
def OpenSpec.upto (s : _root_.Go.ChangeSpec) : _root_.Go.OpenSpec := { _root_.Go.OpenSpec.ofChange s with cond := some uptoSmall }

/-- 'anchorholdlaw11.LevelPicks', WHERE WHAT IT READS IS OF BULK AT MOST 1048576: true; the input reads as it did. -/
def levelPicksUptoRow : OpenClaim := { program := "ytigknchcjlieoaa", sum := "24f7df4a18a5cad095ad593da7827d9bfbc400a203cc494fc7b3145a636594ca", func := "anchorhold/anchorholdlaw11.LevelPicks", spec := "levelPicks", inPlace := ["math/bits.Add64"], unfollowed := true, recurses := true, named := ["math/bits.divideError", "math/bits.overflowError"], apart := false, narrowed := true }
def LevelPicksUptoSaid : Prop := levelPicksUptoRow.holds Try.pinned (OpenSpec.upto levelPicksSpec)

/-- 'anchorholdlaw11.LevelStays', WHERE WHAT IT READS IS OF BULK AT MOST 1048576: true; the input reads as it did. -/
def levelStaysUptoRow : OpenClaim := { program := "ytigknchcjlieoaa", sum := "24f7df4a18a5cad095ad593da7827d9bfbc400a203cc494fc7b3145a636594ca", func := "anchorhold/anchorholdlaw11.LevelStays", spec := "levelStays", inPlace := ["math/bits.Add64"], unfollowed := true, recurses := true, named := ["math/bits.divideError", "math/bits.overflowError"], apart := false, narrowed := true }
def LevelStaysUptoSaid : Prop := levelStaysUptoRow.holds Try.pinned (OpenSpec.upto levelStaysSpec)

/-- 'anchorholdlaw11.LevelEnds', WHERE WHAT IT READS IS OF BULK AT MOST 1048576: true; the input reads as it did. -/
def levelEndsUptoRow : OpenClaim := { program := "ytigknchcjlieoaa", sum := "24f7df4a18a5cad095ad593da7827d9bfbc400a203cc494fc7b3145a636594ca", func := "anchorhold/anchorholdlaw11.LevelEnds", spec := "levelEnds", inPlace := ["math/bits.Add64"], unfollowed := true, recurses := true, named := ["math/bits.divideError", "math/bits.overflowError"], apart := false, narrowed := true }
def LevelEndsUptoSaid : Prop := levelEndsUptoRow.holds Try.pinned (OpenSpec.upto levelEndsSpec)

/-- 'anchorholdlaw11.LevelEnough', WHERE WHAT IT READS IS OF BULK AT MOST 1048576: true; the input reads as it did. -/
def levelEnoughUptoRow : OpenClaim := { program := "ytigknchcjlieoaa", sum := "24f7df4a18a5cad095ad593da7827d9bfbc400a203cc494fc7b3145a636594ca", func := "anchorhold/anchorholdlaw11.LevelEnough", spec := "levelEnough", inPlace := ["math/bits.Add64"], unfollowed := true, recurses := true, named := ["math/bits.divideError", "math/bits.overflowError"], apart := false, narrowed := true }
def LevelEnoughUptoSaid : Prop := levelEnoughUptoRow.holds Try.pinned (OpenSpec.upto levelEnoughSpec)

/-- 'anchorholdlaw12.NapPicks', WHERE WHAT IT READS IS OF BULK AT MOST 1048576: true; the input reads as it did. -/
def napPicksUptoRow : OpenClaim := { program := "ytigknchcjlieoaa", sum := "24f7df4a18a5cad095ad593da7827d9bfbc400a203cc494fc7b3145a636594ca", func := "anchorhold/anchorholdlaw12.NapPicks", spec := "napPicks", inPlace := ["math/bits.Add64"], unfollowed := true, recurses := true, named := ["math/bits.divideError", "math/bits.overflowError"], apart := false, narrowed := true }
def NapPicksUptoSaid : Prop := napPicksUptoRow.holds Try.pinned (OpenSpec.upto napPicksSpec)

/-- 'anchorholdlaw12.NapCounts', WHERE WHAT IT READS IS OF BULK AT MOST 1048576: true; the input reads as it did. -/
def napCountsUptoRow : OpenClaim := { program := "ytigknchcjlieoaa", sum := "24f7df4a18a5cad095ad593da7827d9bfbc400a203cc494fc7b3145a636594ca", func := "anchorhold/anchorholdlaw12.NapCounts", spec := "napCounts", inPlace := ["math/bits.Add64"], unfollowed := true, recurses := true, named := ["math/bits.divideError", "math/bits.overflowError"], apart := false, narrowed := true }
def NapCountsUptoSaid : Prop := napCountsUptoRow.holds Try.pinned (OpenSpec.upto napCountsSpec)

/-- 'anchorholdlaw12.NapWorth', WHERE WHAT IT READS IS OF BULK AT MOST 1048576: true; the input reads as it did. -/
def napWorthUptoRow : OpenClaim := { program := "ytigknchcjlieoaa", sum := "24f7df4a18a5cad095ad593da7827d9bfbc400a203cc494fc7b3145a636594ca", func := "anchorhold/anchorholdlaw12.NapWorth", spec := "napWorth", inPlace := ["math/bits.Add64"], unfollowed := true, recurses := true, named := ["math/bits.divideError", "math/bits.overflowError"], apart := false, narrowed := true }
def NapWorthUptoSaid : Prop := napWorthUptoRow.holds Try.pinned (OpenSpec.upto napWorthSpec)

/-- 'anchorholdlaw12.NapWakes', WHERE WHAT IT READS IS OF BULK AT MOST 1048576: true; the input reads as it did. -/
def napWakesUptoRow : OpenClaim := { program := "ytigknchcjlieoaa", sum := "24f7df4a18a5cad095ad593da7827d9bfbc400a203cc494fc7b3145a636594ca", func := "anchorhold/anchorholdlaw12.NapWakes", spec := "napWakes", inPlace := ["math/bits.Add64"], unfollowed := true, recurses := true, named := ["math/bits.divideError", "math/bits.overflowError"], apart := false, narrowed := true }
def NapWakesUptoSaid : Prop := napWakesUptoRow.holds Try.pinned (OpenSpec.upto napWakesSpec)

end Rows
end Go.Proofs.Ytigknchcjlieoaa
