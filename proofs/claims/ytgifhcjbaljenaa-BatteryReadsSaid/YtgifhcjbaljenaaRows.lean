/-
  No cell of these rows narrows 'for every input' (looked for: loops, veiled, ifaces, maps, wideKeys, modest, calm, conditions, laid).
  DERIVED. THE GIVEN ROWS OF THIS SEAT. 9 by the template 'for every input the law returns true; each argument reads behind the call as it read before'; 0 by the template 'total and deterministic' (their statements: YtgifhcjbaljenaaTotals.lean).
  GIVEN WITH THE SEED: the statements are not yours to turn. If you find one false, say at which input.
  Laid BY PROGRAM, IN A SANDBOX (cutbox-rows.mjs): the forced cells as the released guide's own fill.sh prints them over the translation 71720df66e6ee8ae… (all of the seat's roots in one cut). By AI agents, Wed Nov 11 2026. No macro, syntax, notation, axiom, sorry.
-/
import Derived.Test.YtgifhcjbaljenaaChecked
import GoSem.Claim
import GoSem.ClaimJoined
import GoSem.ClaimMapViews
import Derived.JoinedTies
import Derived.KernelRfl
namespace Go.Proofs.Ytgifhcjbaljenaa
/- THE CELL 'sum', in the pinned program and in every row, IS THE sha256 OF THE DUMP (.gsa) THAT YtgifhcjbaljenaaProg.lean LOADS. Nothing in Lean hashes anything: it is a label: what it is worth is what the hold of that sum in a sandbox is worth. -/
noncomputable def Try.pinned : Pinned := { name := "ytgifhcjbaljenaa", sum := "71720df66e6ee8ae16a7f7f41f85724dedcf3b5f5ac232ae18131fbc97e6f4f8", checked := Try.checked }
namespace Rows
def none {H : Type} : Left H := { results := [], args := [] }

/-- 'anchorholdlaw02.OscCounts': WHATEVER THE INPUT: true; the input reads as it did. -/
def oscCountsSpec : ChangeSpec := { name := "oscCounts", fn := fun _ => fun
  | [d1, d2] => { results := [.lit (.bool true)], args := [d1, d2] }
  | _ => none }
def oscCountsRow : OpenClaim := { program := "ytgifhcjbaljenaa", sum := "71720df66e6ee8ae16a7f7f41f85724dedcf3b5f5ac232ae18131fbc97e6f4f8", func := "anchorhold/anchorholdlaw02.OscCounts", spec := "oscCounts", inPlace := ["math/bits.Add64"], unfollowed := true, recurses := true, named := ["math/bits.divideError", "math/bits.overflowError"], apart := false }
def OscCountsSaid : Prop := oscCountsRow.holds Try.pinned (OpenSpec.ofChange oscCountsSpec)

/-- ITS FALSE NEIGHBOUR: 'it returns false'. Refute it at one input. -/
def oscCountsWrong : ChangeSpec := { name := "oscCounts", fn := fun _ => fun
  | [d1, d2] => { results := [.lit (.bool false)], args := [d1, d2] }
  | _ => none }
def OscCountsWrongFalsely : Prop := oscCountsRow.holds Try.pinned (OpenSpec.ofChange oscCountsWrong)

/-- 'anchorholdlaw02.OscTurns': WHATEVER THE INPUT: true; the input reads as it did. -/
def oscTurnsSpec : ChangeSpec := { name := "oscTurns", fn := fun _ => fun
  | [d1, d2] => { results := [.lit (.bool true)], args := [d1, d2] }
  | _ => none }
def oscTurnsRow : OpenClaim := { program := "ytgifhcjbaljenaa", sum := "71720df66e6ee8ae16a7f7f41f85724dedcf3b5f5ac232ae18131fbc97e6f4f8", func := "anchorhold/anchorholdlaw02.OscTurns", spec := "oscTurns", inPlace := ["math/bits.Add64"], unfollowed := true, recurses := true, named := ["math/bits.divideError", "math/bits.overflowError"], apart := false }
def OscTurnsSaid : Prop := oscTurnsRow.holds Try.pinned (OpenSpec.ofChange oscTurnsSpec)

/-- ITS FALSE NEIGHBOUR: 'it returns false'. Refute it at one input. -/
def oscTurnsWrong : ChangeSpec := { name := "oscTurns", fn := fun _ => fun
  | [d1, d2] => { results := [.lit (.bool false)], args := [d1, d2] }
  | _ => none }
def OscTurnsWrongFalsely : Prop := oscTurnsRow.holds Try.pinned (OpenSpec.ofChange oscTurnsWrong)

/-- 'anchorholdlaw02.OscSafe': WHATEVER THE INPUT: true; the input reads as it did. -/
def oscSafeSpec : ChangeSpec := { name := "oscSafe", fn := fun _ => fun
  | [d1, d2, d3] => { results := [.lit (.bool true)], args := [d1, d2, d3] }
  | _ => none }
def oscSafeRow : OpenClaim := { program := "ytgifhcjbaljenaa", sum := "71720df66e6ee8ae16a7f7f41f85724dedcf3b5f5ac232ae18131fbc97e6f4f8", func := "anchorhold/anchorholdlaw02.OscSafe", spec := "oscSafe", inPlace := ["math/bits.Add64"], unfollowed := true, recurses := true, named := ["math/bits.divideError", "math/bits.overflowError"], apart := false }
def OscSafeSaid : Prop := oscSafeRow.holds Try.pinned (OpenSpec.ofChange oscSafeSpec)

/-- ITS FALSE NEIGHBOUR: 'it returns false'. Refute it at one input. -/
def oscSafeWrong : ChangeSpec := { name := "oscSafe", fn := fun _ => fun
  | [d1, d2, d3] => { results := [.lit (.bool false)], args := [d1, d2, d3] }
  | _ => none }
def OscSafeWrongFalsely : Prop := oscSafeRow.holds Try.pinned (OpenSpec.ofChange oscSafeWrong)

/-- 'anchorholdlaw02.OscGuards': WHATEVER THE INPUT: true; the input reads as it did. -/
def oscGuardsSpec : ChangeSpec := { name := "oscGuards", fn := fun _ => fun
  | [d1, d2, d3] => { results := [.lit (.bool true)], args := [d1, d2, d3] }
  | _ => none }
def oscGuardsRow : OpenClaim := { program := "ytgifhcjbaljenaa", sum := "71720df66e6ee8ae16a7f7f41f85724dedcf3b5f5ac232ae18131fbc97e6f4f8", func := "anchorhold/anchorholdlaw02.OscGuards", spec := "oscGuards", inPlace := ["math/bits.Add64"], unfollowed := true, recurses := true, named := ["math/bits.divideError", "math/bits.overflowError"], apart := false }
def OscGuardsSaid : Prop := oscGuardsRow.holds Try.pinned (OpenSpec.ofChange oscGuardsSpec)

/-- ITS FALSE NEIGHBOUR: 'it returns false'. Refute it at one input. -/
def oscGuardsWrong : ChangeSpec := { name := "oscGuards", fn := fun _ => fun
  | [d1, d2, d3] => { results := [.lit (.bool false)], args := [d1, d2, d3] }
  | _ => none }
def OscGuardsWrongFalsely : Prop := oscGuardsRow.holds Try.pinned (OpenSpec.ofChange oscGuardsWrong)

/-- 'anchorholdlaw02.OscBounds': WHATEVER THE INPUT: true; the input reads as it did. -/
def oscBoundsSpec : ChangeSpec := { name := "oscBounds", fn := fun _ => fun
  | [d1, d2, d3] => { results := [.lit (.bool true)], args := [d1, d2, d3] }
  | _ => none }
def oscBoundsRow : OpenClaim := { program := "ytgifhcjbaljenaa", sum := "71720df66e6ee8ae16a7f7f41f85724dedcf3b5f5ac232ae18131fbc97e6f4f8", func := "anchorhold/anchorholdlaw02.OscBounds", spec := "oscBounds", inPlace := ["math/bits.Add64"], unfollowed := true, recurses := true, named := ["math/bits.divideError", "math/bits.overflowError"], apart := false }
def OscBoundsSaid : Prop := oscBoundsRow.holds Try.pinned (OpenSpec.ofChange oscBoundsSpec)

/-- ITS FALSE NEIGHBOUR: 'it returns false'. Refute it at one input. -/
def oscBoundsWrong : ChangeSpec := { name := "oscBounds", fn := fun _ => fun
  | [d1, d2, d3] => { results := [.lit (.bool false)], args := [d1, d2, d3] }
  | _ => none }
def OscBoundsWrongFalsely : Prop := oscBoundsRow.holds Try.pinned (OpenSpec.ofChange oscBoundsWrong)

/-- 'anchorholdlaw32.BatteryPlays': WHATEVER THE INPUT: true; the input reads as it did. -/
def batteryPlaysSpec : ChangeSpec := { name := "batteryPlays", fn := fun _ => fun
  | [d1, d2] => { results := [.lit (.bool true)], args := [d1, d2] }
  | _ => none }
def batteryPlaysRow : OpenClaim := { program := "ytgifhcjbaljenaa", sum := "71720df66e6ee8ae16a7f7f41f85724dedcf3b5f5ac232ae18131fbc97e6f4f8", func := "anchorhold/anchorholdlaw32.BatteryPlays", spec := "batteryPlays", inPlace := ["math/bits.Add64"], named := ["math/bits.divideError", "math/bits.overflowError"], apart := false }
def BatteryPlaysSaid : Prop := batteryPlaysRow.holds Try.pinned (OpenSpec.ofChange batteryPlaysSpec)

/-- ITS FALSE NEIGHBOUR: 'it returns false'. Refute it at one input. -/
def batteryPlaysWrong : ChangeSpec := { name := "batteryPlays", fn := fun _ => fun
  | [d1, d2] => { results := [.lit (.bool false)], args := [d1, d2] }
  | _ => none }
def BatteryPlaysWrongFalsely : Prop := batteryPlaysRow.holds Try.pinned (OpenSpec.ofChange batteryPlaysWrong)

/-- 'anchorholdlaw32.BatterySums': WHATEVER THE INPUT: true; the input reads as it did. -/
def batterySumsSpec : ChangeSpec := { name := "batterySums", fn := fun _ => fun
  | [d1, d2] => { results := [.lit (.bool true)], args := [d1, d2] }
  | _ => none }
def batterySumsRow : OpenClaim := { program := "ytgifhcjbaljenaa", sum := "71720df66e6ee8ae16a7f7f41f85724dedcf3b5f5ac232ae18131fbc97e6f4f8", func := "anchorhold/anchorholdlaw32.BatterySums", spec := "batterySums", inPlace := ["math/bits.Add64"], named := ["math/bits.divideError", "math/bits.overflowError"], apart := false }
def BatterySumsSaid : Prop := batterySumsRow.holds Try.pinned (OpenSpec.ofChange batterySumsSpec)

/-- ITS FALSE NEIGHBOUR: 'it returns false'. Refute it at one input. -/
def batterySumsWrong : ChangeSpec := { name := "batterySums", fn := fun _ => fun
  | [d1, d2] => { results := [.lit (.bool false)], args := [d1, d2] }
  | _ => none }
def BatterySumsWrongFalsely : Prop := batterySumsRow.holds Try.pinned (OpenSpec.ofChange batterySumsWrong)

/-- 'anchorholdlaw32.BatteryNone': WHATEVER THE INPUT: true; the input reads as it did. -/
def batteryNoneSpec : ChangeSpec := { name := "batteryNone", fn := fun _ => fun
  | [d] => { results := [.lit (.bool true)], args := [d] }
  | _ => none }
def batteryNoneRow : OpenClaim := { program := "ytgifhcjbaljenaa", sum := "71720df66e6ee8ae16a7f7f41f85724dedcf3b5f5ac232ae18131fbc97e6f4f8", func := "anchorhold/anchorholdlaw32.BatteryNone", spec := "batteryNone", inPlace := ["math/bits.Add64"], named := ["math/bits.divideError", "math/bits.overflowError"], apart := false }
def BatteryNoneSaid : Prop := batteryNoneRow.holds Try.pinned (OpenSpec.ofChange batteryNoneSpec)

/-- ITS FALSE NEIGHBOUR: 'it returns false'. Refute it at one input. -/
def batteryNoneWrong : ChangeSpec := { name := "batteryNone", fn := fun _ => fun
  | [d] => { results := [.lit (.bool false)], args := [d] }
  | _ => none }
def BatteryNoneWrongFalsely : Prop := batteryNoneRow.holds Try.pinned (OpenSpec.ofChange batteryNoneWrong)

/-- 'anchorholdlaw32.BatteryReads': WHATEVER THE INPUT: true; the input reads as it did. -/
def batteryReadsSpec : ChangeSpec := { name := "batteryReads", fn := fun _ => fun
  | [d1, d2, d3] => { results := [.lit (.bool true)], args := [d1, d2, d3] }
  | _ => none }
def batteryReadsRow : OpenClaim := { program := "ytgifhcjbaljenaa", sum := "71720df66e6ee8ae16a7f7f41f85724dedcf3b5f5ac232ae18131fbc97e6f4f8", func := "anchorhold/anchorholdlaw32.BatteryReads", spec := "batteryReads", inPlace := ["math/bits.Add64"], named := ["math/bits.divideError", "math/bits.overflowError"], apart := false }
def BatteryReadsSaid : Prop := batteryReadsRow.holds Try.pinned (OpenSpec.ofChange batteryReadsSpec)

/-- ITS FALSE NEIGHBOUR: 'it returns false'. Refute it at one input. -/
def batteryReadsWrong : ChangeSpec := { name := "batteryReads", fn := fun _ => fun
  | [d1, d2, d3] => { results := [.lit (.bool false)], args := [d1, d2, d3] }
  | _ => none }
def BatteryReadsWrongFalsely : Prop := batteryReadsRow.holds Try.pinned (OpenSpec.ofChange batteryReadsWrong)

/- THE SECOND FORM. 'bulk': how many values and letters a reading holds, each counted each time it is reached (what is shared counts as often as it is met; a slice's spare places count too). A statement '..UptoSaid' is the law's where the arguments, and the package variables that the reading takes, are together of bulk at most 1048576: NARROWER than '..Said'. Prove '..Said' where nothing that the law and all that it calls make is longer than what came in: it says more and counts as full. Else prove '..UptoSaid'. A law counts once. -/
mutual
def uptoBulk {H : Type} : DataW H → Nat
  | .lit (.string bytes) => bytes.length + 1
  | .lit _ => 1
  | .nil => 1
  | .ptr d => uptoBulk d + 1
  | .slice elems spare => uptoBulkAll elems + uptoBulkAll spare + 1
  | .agg parts => uptoBulkAll parts + 1
  | .iface _ d => uptoBulk d + 1
  | .map entries => uptoBulkEntries entries + 1
  | .held _ => 1
def uptoBulkAll {H : Type} : List (DataW H) → Nat
  | [] => 0
  | d :: r => uptoBulk d + uptoBulkAll r
def uptoBulkEntries {H : Type} : List (Lit × DataW H) → Nat
  | [] => 0
  | x :: r => uptoBulkEntry x + uptoBulkEntries r
def uptoBulkEntry {H : Type} : Lit × DataW H → Nat
  | (.string bytes, d) => bytes.length + uptoBulk d + 1
  | (_, d) => uptoBulk d + 1
 end
def uptoSmall : (H : Type) → List (DataW H) → Bool := fun _ ds => decide (uptoBulkAll ds ≤ 1048576)
def OpenSpec.upto (s : _root_.Go.ChangeSpec) : _root_.Go.OpenSpec := { _root_.Go.OpenSpec.ofChange s with cond := some uptoSmall }

/-- 'anchorholdlaw02.OscCounts', WHERE WHAT IT READS IS OF BULK AT MOST 1048576: true; the input reads as it did. -/
def oscCountsUptoRow : OpenClaim := { program := "ytgifhcjbaljenaa", sum := "71720df66e6ee8ae16a7f7f41f85724dedcf3b5f5ac232ae18131fbc97e6f4f8", func := "anchorhold/anchorholdlaw02.OscCounts", spec := "oscCounts", inPlace := ["math/bits.Add64"], unfollowed := true, recurses := true, named := ["math/bits.divideError", "math/bits.overflowError"], apart := false, narrowed := true }
def OscCountsUptoSaid : Prop := oscCountsUptoRow.holds Try.pinned (OpenSpec.upto oscCountsSpec)

/-- 'anchorholdlaw02.OscTurns', WHERE WHAT IT READS IS OF BULK AT MOST 1048576: true; the input reads as it did. -/
def oscTurnsUptoRow : OpenClaim := { program := "ytgifhcjbaljenaa", sum := "71720df66e6ee8ae16a7f7f41f85724dedcf3b5f5ac232ae18131fbc97e6f4f8", func := "anchorhold/anchorholdlaw02.OscTurns", spec := "oscTurns", inPlace := ["math/bits.Add64"], unfollowed := true, recurses := true, named := ["math/bits.divideError", "math/bits.overflowError"], apart := false, narrowed := true }
def OscTurnsUptoSaid : Prop := oscTurnsUptoRow.holds Try.pinned (OpenSpec.upto oscTurnsSpec)

/-- 'anchorholdlaw02.OscSafe', WHERE WHAT IT READS IS OF BULK AT MOST 1048576: true; the input reads as it did. -/
def oscSafeUptoRow : OpenClaim := { program := "ytgifhcjbaljenaa", sum := "71720df66e6ee8ae16a7f7f41f85724dedcf3b5f5ac232ae18131fbc97e6f4f8", func := "anchorhold/anchorholdlaw02.OscSafe", spec := "oscSafe", inPlace := ["math/bits.Add64"], unfollowed := true, recurses := true, named := ["math/bits.divideError", "math/bits.overflowError"], apart := false, narrowed := true }
def OscSafeUptoSaid : Prop := oscSafeUptoRow.holds Try.pinned (OpenSpec.upto oscSafeSpec)

/-- 'anchorholdlaw02.OscGuards', WHERE WHAT IT READS IS OF BULK AT MOST 1048576: true; the input reads as it did. -/
def oscGuardsUptoRow : OpenClaim := { program := "ytgifhcjbaljenaa", sum := "71720df66e6ee8ae16a7f7f41f85724dedcf3b5f5ac232ae18131fbc97e6f4f8", func := "anchorhold/anchorholdlaw02.OscGuards", spec := "oscGuards", inPlace := ["math/bits.Add64"], unfollowed := true, recurses := true, named := ["math/bits.divideError", "math/bits.overflowError"], apart := false, narrowed := true }
def OscGuardsUptoSaid : Prop := oscGuardsUptoRow.holds Try.pinned (OpenSpec.upto oscGuardsSpec)

/-- 'anchorholdlaw02.OscBounds', WHERE WHAT IT READS IS OF BULK AT MOST 1048576: true; the input reads as it did. -/
def oscBoundsUptoRow : OpenClaim := { program := "ytgifhcjbaljenaa", sum := "71720df66e6ee8ae16a7f7f41f85724dedcf3b5f5ac232ae18131fbc97e6f4f8", func := "anchorhold/anchorholdlaw02.OscBounds", spec := "oscBounds", inPlace := ["math/bits.Add64"], unfollowed := true, recurses := true, named := ["math/bits.divideError", "math/bits.overflowError"], apart := false, narrowed := true }
def OscBoundsUptoSaid : Prop := oscBoundsUptoRow.holds Try.pinned (OpenSpec.upto oscBoundsSpec)

/-- 'anchorholdlaw32.BatteryPlays', WHERE WHAT IT READS IS OF BULK AT MOST 1048576: true; the input reads as it did. -/
def batteryPlaysUptoRow : OpenClaim := { program := "ytgifhcjbaljenaa", sum := "71720df66e6ee8ae16a7f7f41f85724dedcf3b5f5ac232ae18131fbc97e6f4f8", func := "anchorhold/anchorholdlaw32.BatteryPlays", spec := "batteryPlays", inPlace := ["math/bits.Add64"], named := ["math/bits.divideError", "math/bits.overflowError"], apart := false, narrowed := true }
def BatteryPlaysUptoSaid : Prop := batteryPlaysUptoRow.holds Try.pinned (OpenSpec.upto batteryPlaysSpec)

/-- 'anchorholdlaw32.BatterySums', WHERE WHAT IT READS IS OF BULK AT MOST 1048576: true; the input reads as it did. -/
def batterySumsUptoRow : OpenClaim := { program := "ytgifhcjbaljenaa", sum := "71720df66e6ee8ae16a7f7f41f85724dedcf3b5f5ac232ae18131fbc97e6f4f8", func := "anchorhold/anchorholdlaw32.BatterySums", spec := "batterySums", inPlace := ["math/bits.Add64"], named := ["math/bits.divideError", "math/bits.overflowError"], apart := false, narrowed := true }
def BatterySumsUptoSaid : Prop := batterySumsUptoRow.holds Try.pinned (OpenSpec.upto batterySumsSpec)

/-- 'anchorholdlaw32.BatteryNone', WHERE WHAT IT READS IS OF BULK AT MOST 1048576: true; the input reads as it did. -/
def batteryNoneUptoRow : OpenClaim := { program := "ytgifhcjbaljenaa", sum := "71720df66e6ee8ae16a7f7f41f85724dedcf3b5f5ac232ae18131fbc97e6f4f8", func := "anchorhold/anchorholdlaw32.BatteryNone", spec := "batteryNone", inPlace := ["math/bits.Add64"], named := ["math/bits.divideError", "math/bits.overflowError"], apart := false, narrowed := true }
def BatteryNoneUptoSaid : Prop := batteryNoneUptoRow.holds Try.pinned (OpenSpec.upto batteryNoneSpec)

/-- 'anchorholdlaw32.BatteryReads', WHERE WHAT IT READS IS OF BULK AT MOST 1048576: true; the input reads as it did. -/
def batteryReadsUptoRow : OpenClaim := { program := "ytgifhcjbaljenaa", sum := "71720df66e6ee8ae16a7f7f41f85724dedcf3b5f5ac232ae18131fbc97e6f4f8", func := "anchorhold/anchorholdlaw32.BatteryReads", spec := "batteryReads", inPlace := ["math/bits.Add64"], named := ["math/bits.divideError", "math/bits.overflowError"], apart := false, narrowed := true }
def BatteryReadsUptoSaid : Prop := batteryReadsUptoRow.holds Try.pinned (OpenSpec.upto batteryReadsSpec)

end Rows
end Go.Proofs.Ytgifhcjbaljenaa
