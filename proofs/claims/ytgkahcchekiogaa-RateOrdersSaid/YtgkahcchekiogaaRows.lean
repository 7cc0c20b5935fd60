/-
  No cell of these rows narrows 'for every input' (looked for: loops, veiled, ifaces, maps, wideKeys, modest, calm, conditions, laid).
  DERIVED. THE GIVEN ROWS OF THIS SEAT. 10 by the template 'for every input the law returns true; each argument reads behind the call as it read before'; 0 by the template 'total and deterministic' (their statements: YtgkahcchekiogaaTotals.lean).
  GIVEN WITH THE SEED: the statements are not yours to turn. If you find one false, say at which input.
  Laid BY PROGRAM, IN A SANDBOX (cutbox-rows.mjs): the forced cells as the released guide's own fill.sh prints them over the translation 408a10b49c59bbc5… (all of the seat's roots in one cut). By AI agents, Wed Nov 11 2026. No macro, syntax, notation, axiom, sorry.
-/
import Derived.Test.YtgkahcchekiogaaChecked
import GoSem.Claim
import GoSem.ClaimJoined
import GoSem.ClaimMapViews
import Derived.JoinedTies
import Derived.KernelRfl
namespace Go.Proofs.Ytgkahcchekiogaa
/- THE CELL 'sum', in the pinned program and in every row, IS THE sha256 OF THE DUMP (.gsa) THAT YtgkahcchekiogaaProg.lean LOADS. Nothing in Lean hashes anything: it is a label: what it is worth is what the hold of that sum in a sandbox is worth. -/
noncomputable def Try.pinned : Pinned := { name := "ytgkahcchekiogaa", sum := "408a10b49c59bbc5a7a48c3b2b6ba6f80782c981f7c223332ec59fedaeda5a07", checked := Try.checked }
namespace Rows
def none {H : Type} : Left H := { results := [], args := [] }

/-- 'anchorholdlaw06.PlantTimes': WHATEVER THE INPUT: true; the input reads as it did. -/
def plantTimesSpec : ChangeSpec := { name := "plantTimes", fn := fun _ => fun
  | [d1, d2, d3] => { results := [.lit (.bool true)], args := [d1, d2, d3] }
  | _ => none }
def plantTimesRow : OpenClaim := { program := "ytgkahcchekiogaa", sum := "408a10b49c59bbc5a7a48c3b2b6ba6f80782c981f7c223332ec59fedaeda5a07", func := "anchorhold/anchorholdlaw06.PlantTimes", spec := "plantTimes", inPlace := ["math/bits.Add64"], named := ["math/bits.divideError", "math/bits.overflowError"], apart := false }
def PlantTimesSaid : Prop := plantTimesRow.holds Try.pinned (OpenSpec.ofChange plantTimesSpec)

/-- ITS FALSE NEIGHBOUR: 'it returns false'. Refute it at one input. -/
def plantTimesWrong : ChangeSpec := { name := "plantTimes", fn := fun _ => fun
  | [d1, d2, d3] => { results := [.lit (.bool false)], args := [d1, d2, d3] }
  | _ => none }
def PlantTimesWrongFalsely : Prop := plantTimesRow.holds Try.pinned (OpenSpec.ofChange plantTimesWrong)

/-- 'anchorholdlaw06.PlantNone': WHATEVER THE INPUT: true; the input reads as it did. -/
def plantNoneSpec : ChangeSpec := { name := "plantNone", fn := fun _ => fun
  | [d] => { results := [.lit (.bool true)], args := [d] }
  | _ => none }
def plantNoneRow : OpenClaim := { program := "ytgkahcchekiogaa", sum := "408a10b49c59bbc5a7a48c3b2b6ba6f80782c981f7c223332ec59fedaeda5a07", func := "anchorhold/anchorholdlaw06.PlantNone", spec := "plantNone", inPlace := ["math/bits.Add64"], named := ["math/bits.divideError", "math/bits.overflowError"], apart := false }
def PlantNoneSaid : Prop := plantNoneRow.holds Try.pinned (OpenSpec.ofChange plantNoneSpec)

/-- ITS FALSE NEIGHBOUR: 'it returns false'. Refute it at one input. -/
def plantNoneWrong : ChangeSpec := { name := "plantNone", fn := fun _ => fun
  | [d] => { results := [.lit (.bool false)], args := [d] }
  | _ => none }
def PlantNoneWrongFalsely : Prop := plantNoneRow.holds Try.pinned (OpenSpec.ofChange plantNoneWrong)

/-- 'anchorholdlaw10.ValidChecks': WHATEVER THE INPUT: true; the input reads as it did. -/
def validChecksSpec : ChangeSpec := { name := "validChecks", fn := fun _ => fun
  | [d] => { results := [.lit (.bool true)], args := [d] }
  | _ => none }
def validChecksRow : OpenClaim := { program := "ytgkahcchekiogaa", sum := "408a10b49c59bbc5a7a48c3b2b6ba6f80782c981f7c223332ec59fedaeda5a07", func := "anchorhold/anchorholdlaw10.ValidChecks", spec := "validChecks", inPlace := ["math/bits.Add64"], unfollowed := true, recurses := true, named := ["math/bits.divideError", "math/bits.overflowError"], apart := false }
def ValidChecksSaid : Prop := validChecksRow.holds Try.pinned (OpenSpec.ofChange validChecksSpec)

/-- ITS FALSE NEIGHBOUR: 'it returns false'. Refute it at one input. -/
def validChecksWrong : ChangeSpec := { name := "validChecks", fn := fun _ => fun
  | [d] => { results := [.lit (.bool false)], args := [d] }
  | _ => none }
def ValidChecksWrongFalsely : Prop := validChecksRow.holds Try.pinned (OpenSpec.ofChange validChecksWrong)

/-- 'anchorholdlaw10.ValidParts': WHATEVER THE INPUT: true; the input reads as it did. -/
def validPartsSpec : ChangeSpec := { name := "validParts", fn := fun _ => fun
  | [d] => { results := [.lit (.bool true)], args := [d] }
  | _ => none }
def validPartsRow : OpenClaim := { program := "ytgkahcchekiogaa", sum := "408a10b49c59bbc5a7a48c3b2b6ba6f80782c981f7c223332ec59fedaeda5a07", func := "anchorhold/anchorholdlaw10.ValidParts", spec := "validParts", inPlace := ["math/bits.Add64"], unfollowed := true, recurses := true, named := ["math/bits.divideError", "math/bits.overflowError"], apart := false }
def ValidPartsSaid : Prop := validPartsRow.holds Try.pinned (OpenSpec.ofChange validPartsSpec)

/-- ITS FALSE NEIGHBOUR: 'it returns false'. Refute it at one input. -/
def validPartsWrong : ChangeSpec := { name := "validParts", fn := fun _ => fun
  | [d] => { results := [.lit (.bool false)], args := [d] }
  | _ => none }
def ValidPartsWrongFalsely : Prop := validPartsRow.holds Try.pinned (OpenSpec.ofChange validPartsWrong)

/-- 'anchorholdlaw10.ValidModes': WHATEVER THE INPUT: true; the input reads as it did. -/
def validModesSpec : ChangeSpec := { name := "validModes", fn := fun _ => fun
  | [d1, d2] => { results := [.lit (.bool true)], args := [d1, d2] }
  | _ => none }
def validModesRow : OpenClaim := { program := "ytgkahcchekiogaa", sum := "408a10b49c59bbc5a7a48c3b2b6ba6f80782c981f7c223332ec59fedaeda5a07", func := "anchorhold/anchorholdlaw10.ValidModes", spec := "validModes", inPlace := ["math/bits.Add64"], unfollowed := true, recurses := true, named := ["math/bits.divideError", "math/bits.overflowError"], apart := false }
def ValidModesSaid : Prop := validModesRow.holds Try.pinned (OpenSpec.ofChange validModesSpec)

/-- ITS FALSE NEIGHBOUR: 'it returns false'. Refute it at one input. -/
def validModesWrong : ChangeSpec := { name := "validModes", fn := fun _ => fun
  | [d1, d2] => { results := [.lit (.bool false)], args := [d1, d2] }
  | _ => none }
def ValidModesWrongFalsely : Prop := validModesRow.holds Try.pinned (OpenSpec.ofChange validModesWrong)

/-- 'anchorholdlaw10.ValidRooms': WHATEVER THE INPUT: true; the input reads as it did. -/
def validRoomsSpec : ChangeSpec := { name := "validRooms", fn := fun _ => fun
  | [d] => { results := [.lit (.bool true)], args := [d] }
  | _ => none }
def validRoomsRow : OpenClaim := { program := "ytgkahcchekiogaa", sum := "408a10b49c59bbc5a7a48c3b2b6ba6f80782c981f7c223332ec59fedaeda5a07", func := "anchorhold/anchorholdlaw10.ValidRooms", spec := "validRooms", inPlace := ["math/bits.Add64"], unfollowed := true, recurses := true, named := ["math/bits.divideError", "math/bits.overflowError"], apart := false }
def ValidRoomsSaid : Prop := validRoomsRow.holds Try.pinned (OpenSpec.ofChange validRoomsSpec)

/-- ITS FALSE NEIGHBOUR: 'it returns false'. Refute it at one input. -/
def validRoomsWrong : ChangeSpec := { name := "validRooms", fn := fun _ => fun
  | [d] => { results := [.lit (.bool false)], args := [d] }
  | _ => none }
def ValidRoomsWrongFalsely : Prop := validRoomsRow.holds Try.pinned (OpenSpec.ofChange validRoomsWrong)

/-- 'anchorholdlaw37.RateWants': WHATEVER THE INPUT: true; the input reads as it did. -/
def rateWantsSpec : ChangeSpec := { name := "rateWants", fn := fun _ => fun
  | [d1, d2] => { results := [.lit (.bool true)], args := [d1, d2] }
  | _ => none }
def rateWantsRow : OpenClaim := { program := "ytgkahcchekiogaa", sum := "408a10b49c59bbc5a7a48c3b2b6ba6f80782c981f7c223332ec59fedaeda5a07", func := "anchorhold/anchorholdlaw37.RateWants", spec := "rateWants", inPlace := ["math/bits.Add64"], unfollowed := true, recurses := true, named := ["math/bits.divideError", "math/bits.overflowError"], apart := false }
def RateWantsSaid : Prop := rateWantsRow.holds Try.pinned (OpenSpec.ofChange rateWantsSpec)

/-- ITS FALSE NEIGHBOUR: 'it returns false'. Refute it at one input. -/
def rateWantsWrong : ChangeSpec := { name := "rateWants", fn := fun _ => fun
  | [d1, d2] => { results := [.lit (.bool false)], args := [d1, d2] }
  | _ => none }
def RateWantsWrongFalsely : Prop := rateWantsRow.holds Try.pinned (OpenSpec.ofChange rateWantsWrong)

/-- 'anchorholdlaw37.RateRepeats': WHATEVER THE INPUT: true; the input reads as it did. -/
def rateRepeatsSpec : ChangeSpec := { name := "rateRepeats", fn := fun _ => fun
  | [d1, d2] => { results := [.lit (.bool true)], args := [d1, d2] }
  | _ => none }
def rateRepeatsRow : OpenClaim := { program := "ytgkahcchekiogaa", sum := "408a10b49c59bbc5a7a48c3b2b6ba6f80782c981f7c223332ec59fedaeda5a07", func := "anchorhold/anchorholdlaw37.RateRepeats", spec := "rateRepeats", inPlace := ["math/bits.Add64"], unfollowed := true, recurses := true, named := ["math/bits.divideError", "math/bits.overflowError"], apart := false }
def RateRepeatsSaid : Prop := rateRepeatsRow.holds Try.pinned (OpenSpec.ofChange rateRepeatsSpec)

/-- ITS FALSE NEIGHBOUR: 'it returns false'. Refute it at one input. -/
def rateRepeatsWrong : ChangeSpec := { name := "rateRepeats", fn := fun _ => fun
  | [d1, d2] => { results := [.lit (.bool false)], args := [d1, d2] }
  | _ => none }
def RateRepeatsWrongFalsely : Prop := rateRepeatsRow.holds Try.pinned (OpenSpec.ofChange rateRepeatsWrong)

/-- 'anchorholdlaw37.RateSums': WHATEVER THE INPUT: true; the input reads as it did. -/
def rateSumsSpec : ChangeSpec := { name := "rateSums", fn := fun _ => fun
  | [d] => { results := [.lit (.bool true)], args := [d] }
  | _ => none }
def rateSumsRow : OpenClaim := { program := "ytgkahcchekiogaa", sum := "408a10b49c59bbc5a7a48c3b2b6ba6f80782c981f7c223332ec59fedaeda5a07", func := "anchorhold/anchorholdlaw37.RateSums", spec := "rateSums", inPlace := ["math/bits.Add64"], unfollowed := true, recurses := true, named := ["math/bits.divideError", "math/bits.overflowError"], apart := false }
def RateSumsSaid : Prop := rateSumsRow.holds Try.pinned (OpenSpec.ofChange rateSumsSpec)

/-- ITS FALSE NEIGHBOUR: 'it returns false'. Refute it at one input. -/
def rateSumsWrong : ChangeSpec := { name := "rateSums", fn := fun _ => fun
  | [d] => { results := [.lit (.bool false)], args := [d] }
  | _ => none }
def RateSumsWrongFalsely : Prop := rateSumsRow.holds Try.pinned (OpenSpec.ofChange rateSumsWrong)

/-- 'anchorholdlaw37.RateOrders': WHATEVER THE INPUT: true; the input reads as it did. -/
def rateOrdersSpec : ChangeSpec := { name := "rateOrders", fn := fun _ => fun
  | [d] => { results := [.lit (.bool true)], args := [d] }
  | _ => none }
def rateOrdersRow : OpenClaim := { program := "ytgkahcchekiogaa", sum := "408a10b49c59bbc5a7a48c3b2b6ba6f80782c981f7c223332ec59fedaeda5a07", func := "anchorhold/anchorholdlaw37.RateOrders", spec := "rateOrders", inPlace := ["math/bits.Add64"], unfollowed := true, recurses := true, named := ["math/bits.divideError", "math/bits.overflowError"], apart := false }
def RateOrdersSaid : Prop := rateOrdersRow.holds Try.pinned (OpenSpec.ofChange rateOrdersSpec)

/-- ITS FALSE NEIGHBOUR: 'it returns false'. Refute it at one input. -/
def rateOrdersWrong : ChangeSpec := { name := "rateOrders", fn := fun _ => fun
  | [d] => { results := [.lit (.bool false)], args := [d] }
  | _ => none }
def RateOrdersWrongFalsely : Prop := rateOrdersRow.holds Try.pinned (OpenSpec.ofChange rateOrdersWrong)

/- THE SECOND FORM. 'bulk': how many values and letters a reading holds, each counted each time it is reached (what is shared counts as often as it is met; a slice's spare places count too). A statement '..UptoSaid' is the law's where the arguments, and the package variables that the reading takes, are together of bulk at most 1048576: NARROWER than '..Said'. Prove '..Said' where nothing that the law and all that it calls make is longer than what came in: it says more and counts as full. Else prove '..UptoSaid'. A law counts once. -/
mutual
def uptoBulk {H : Type} : DataW H → Nat
  | .lit (.string bytes) => bytes.length + 1
  | .lit _ => 1
  | .nil => 1
  | .ptr d => uptoBulk d + 1
  | .slice elems spare => uptoBulkAll elems + uptoBulkAll spare + 1
  | .agg parts => uptoBulkAll parts + 1
  | .iface _ d => uptoBulk d + 1
  | .map entries => uptoBulkEntries entries + 1
  | .held _ => 1
def uptoBulkAll {H : Type} : List (DataW H) → Nat
  | [] => 0
  | d :: r => uptoBulk d + uptoBulkAll r
def uptoBulkEntries {H : Type} : List (Lit × DataW H) → Nat
  | [] => 0
  | x :: r => uptoBulkEntry x + uptoBulkEntries r
def uptoBulkEntry {H : Type} : Lit × DataW H → Nat
  | (.string bytes, d) => bytes.length + uptoBulk d + 1
  | (_, d) => uptoBulk d + 1
 end
def uptoSmall : (H : Type) → List (DataW H) → Bool := fun _ ds => decide (uptoBulkAll ds ≤ 1048576)
def OpenSpec.upto (s : _root_.Go.ChangeSpec) : _root_.Go.OpenSpec := { _root_.Go.OpenSpec.ofChange s with cond := some uptoSmall }

/-- 'anchorholdlaw06.PlantTimes', WHERE WHAT IT READS IS OF BULK AT MOST 1048576: true; the input reads as it did. -/
def plantTimesUptoRow : OpenClaim := { program := "ytgkahcchekiogaa", sum := "408a10b49c59bbc5a7a48c3b2b6ba6f80782c981f7c223332ec59fedaeda5a07", func := "anchorhold/anchorholdlaw06.PlantTimes", spec := "plantTimes", inPlace := ["math/bits.Add64"], named := ["math/bits.divideError", "math/bits.overflowError"], apart := false, narrowed := true }
def PlantTimesUptoSaid : Prop := plantTimesUptoRow.holds Try.pinned (OpenSpec.upto plantTimesSpec)

/-- 'anchorholdlaw06.PlantNone', WHERE WHAT IT READS IS OF BULK AT MOST 1048576: true; the input reads as it did. -/
def plantNoneUptoRow : OpenClaim := { program := "ytgkahcchekiogaa", sum := "408a10b49c59bbc5a7a48c3b2b6ba6f80782c981f7c223332ec59fedaeda5a07", func := "anchorhold/anchorholdlaw06.PlantNone", spec := "plantNone", inPlace := ["math/bits.Add64"], named := ["math/bits.divideError", "math/bits.overflowError"], apart := false, narrowed := true }
def PlantNoneUptoSaid : Prop := plantNoneUptoRow.holds Try.pinned (OpenSpec.upto plantNoneSpec)

/-- 'anchorholdlaw10.ValidChecks', WHERE WHAT IT READS IS OF BULK AT MOST 1048576: true; the input reads as it did. -/
def validChecksUptoRow : OpenClaim := { program := "ytgkahcchekiogaa", sum := "408a10b49c59bbc5a7a48c3b2b6ba6f80782c981f7c223332ec59fedaeda5a07", func := "anchorhold/anchorholdlaw10.ValidChecks", spec := "validChecks", inPlace := ["math/bits.Add64"], unfollowed := true, recurses := true, named := ["math/bits.divideError", "math/bits.overflowError"], apart := false, narrowed := true }
def ValidChecksUptoSaid : Prop := validChecksUptoRow.holds Try.pinned (OpenSpec.upto validChecksSpec)

/-- 'anchorholdlaw10.ValidParts', WHERE WHAT IT READS IS OF BULK AT MOST 1048576: true; the input reads as it did. -/
def validPartsUptoRow : OpenClaim := { program := "ytgkahcchekiogaa", sum := "408a10b49c59bbc5a7a48c3b2b6ba6f80782c981f7c223332ec59fedaeda5a07", func := "anchorhold/anchorholdlaw10.ValidParts", spec := "validParts", inPlace := ["math/bits.Add64"], unfollowed := true, recurses := true, named := ["math/bits.divideError", "math/bits.overflowError"], apart := false, narrowed := true }
def ValidPartsUptoSaid : Prop := validPartsUptoRow.holds Try.pinned (OpenSpec.upto validPartsSpec)

/-- 'anchorholdlaw10.ValidModes', WHERE WHAT IT READS IS OF BULK AT MOST 1048576: true; the input reads as it did. -/
def validModesUptoRow : OpenClaim := { program := "ytgkahcchekiogaa", sum := "408a10b49c59bbc5a7a48c3b2b6ba6f80782c981f7c223332ec59fedaeda5a07", func := "anchorhold/anchorholdlaw10.ValidModes", spec := "validModes", inPlace := ["math/bits.Add64"], unfollowed := true, recurses := true, named := ["math/bits.divideError", "math/bits.overflowError"], apart := false, narrowed := true }
def ValidModesUptoSaid : Prop := validModesUptoRow.holds Try.pinned (OpenSpec.upto validModesSpec)

/-- 'anchorholdlaw10.ValidRooms', WHERE WHAT IT READS IS OF BULK AT MOST 1048576: true; the input reads as it did. -/
def validRoomsUptoRow : OpenClaim := { program := "ytgkahcchekiogaa", sum := "408a10b49c59bbc5a7a48c3b2b6ba6f80782c981f7c223332ec59fedaeda5a07", func := "anchorhold/anchorholdlaw10.ValidRooms", spec := "validRooms", inPlace := ["math/bits.Add64"], unfollowed := true, recurses := true, named := ["math/bits.divideError", "math/bits.overflowError"], apart := false, narrowed := true }
def ValidRoomsUptoSaid : Prop := validRoomsUptoRow.holds Try.pinned (OpenSpec.upto validRoomsSpec)

/-- 'anchorholdlaw37.RateWants', WHERE WHAT IT READS IS OF BULK AT MOST 1048576: true; the input reads as it did. -/
def rateWantsUptoRow : OpenClaim := { program := "ytgkahcchekiogaa", sum := "408a10b49c59bbc5a7a48c3b2b6ba6f80782c981f7c223332ec59fedaeda5a07", func := "anchorhold/anchorholdlaw37.RateWants", spec := "rateWants", inPlace := ["math/bits.Add64"], unfollowed := true, recurses := true, named := ["math/bits.divideError", "math/bits.overflowError"], apart := false, narrowed := true }
def RateWantsUptoSaid : Prop := rateWantsUptoRow.holds Try.pinned (OpenSpec.upto rateWantsSpec)

/-- 'anchorholdlaw37.RateRepeats', WHERE WHAT IT READS IS OF BULK AT MOST 1048576: true; the input reads as it did. -/
def rateRepeatsUptoRow : OpenClaim := { program := "ytgkahcchekiogaa", sum := "408a10b49c59bbc5a7a48c3b2b6ba6f80782c981f7c223332ec59fedaeda5a07", func := "anchorhold/anchorholdlaw37.RateRepeats", spec := "rateRepeats", inPlace := ["math/bits.Add64"], unfollowed := true, recurses := true, named := ["math/bits.divideError", "math/bits.overflowError"], apart := false, narrowed := true }
def RateRepeatsUptoSaid : Prop := rateRepeatsUptoRow.holds Try.pinned (OpenSpec.upto rateRepeatsSpec)

/-- 'anchorholdlaw37.RateSums', WHERE WHAT IT READS IS OF BULK AT MOST 1048576: true; the input reads as it did. -/
def rateSumsUptoRow : OpenClaim := { program := "ytgkahcchekiogaa", sum := "408a10b49c59bbc5a7a48c3b2b6ba6f80782c981f7c223332ec59fedaeda5a07", func := "anchorhold/anchorholdlaw37.RateSums", spec := "rateSums", inPlace := ["math/bits.Add64"], unfollowed := true, recurses := true, named := ["math/bits.divideError", "math/bits.overflowError"], apart := false, narrowed := true }
def RateSumsUptoSaid : Prop := rateSumsUptoRow.holds Try.pinned (OpenSpec.upto rateSumsSpec)

/-- 'anchorholdlaw37.RateOrders', WHERE WHAT IT READS IS OF BULK AT MOST 1048576: true; the input reads as it did. -/
def rateOrdersUptoRow : OpenClaim := { program := "ytgkahcchekiogaa", sum := "408a10b49c59bbc5a7a48c3b2b6ba6f80782c981f7c223332ec59fedaeda5a07", func := "anchorhold/anchorholdlaw37.RateOrders", spec := "rateOrders", inPlace := ["math/bits.Add64"], unfollowed := true, recurses := true, named := ["math/bits.divideError", "math/bits.overflowError"], apart := false, narrowed := true }
def RateOrdersUptoSaid : Prop := rateOrdersUptoRow.holds Try.pinned (OpenSpec.upto rateOrdersSpec)

end Rows
end Go.Proofs.Ytgkahcchekiogaa
