/-
  No cell of these rows narrows 'for every input' (looked for: loops, veiled, ifaces, maps, wideKeys, modest, calm, conditions, laid).
  DERIVED. THE GIVEN ROWS OF THIS SEAT. 12 by the template 'for every input the law returns true; each argument reads behind the call as it read before'; 0 by the template 'total and deterministic' (their statements: YteikliciijfmmaaTotals.lean).
  GIVEN WITH THE SEED: the statements are not yours to turn. If you find one false, say at which input.
  Laid BY PROGRAM, IN A SANDBOX (cutbox-rows.mjs): the forced cells as the released guide's own fill.sh prints them over the translation 3b3d3dbddc8974c9… (all of the seat's roots in one cut). By AI agents, Wed Nov 11 2026. No macro, syntax, notation, axiom, sorry.
-/
import Derived.Test.YteikliciijfmmaaChecked
import GoSem.Claim
import GoSem.ClaimJoined
import GoSem.ClaimMapViews
import Derived.JoinedTies
import Derived.KernelRfl
namespace Go.Proofs.Yteikliciijfmmaa
/- THE CELL 'sum', in the pinned program and in every row, IS THE sha256 OF THE DUMP (.gsa) THAT YteikliciijfmmaaProg.lean LOADS. Nothing in Lean hashes anything: it is a label: what it is worth is what the hold of that sum in a sandbox is worth. -/
noncomputable def Try.pinned : Pinned := { name := "yteikliciijfmmaa", sum := "3b3d3dbddc8974c9e2b9e6c249be1729e6d04368b432f38194f74b1f22d116eb", checked := Try.checked }
namespace Rows
def none {H : Type} : Left H := { results := [], args := [] }

/-- 'anchorholdlaw09.FitNeeds': WHATEVER THE INPUT: true; the input reads as it did. -/
def fitNeedsSpec : ChangeSpec := { name := "fitNeeds", fn := fun _ => fun
  | [d1, d2, d3] => { results := [.lit (.bool true)], args := [d1, d2, d3] }
  | _ => none }
def fitNeedsRow : OpenClaim := { program := "yteikliciijfmmaa", sum := "3b3d3dbddc8974c9e2b9e6c249be1729e6d04368b432f38194f74b1f22d116eb", func := "anchorhold/anchorholdlaw09.FitNeeds", spec := "fitNeeds", inPlace := ["math/bits.Add64"], named := ["math/bits.divideError", "math/bits.overflowError"], apart := false }
def FitNeedsSaid : Prop := fitNeedsRow.holds Try.pinned (OpenSpec.ofChange fitNeedsSpec)

/-- ITS FALSE NEIGHBOUR: 'it returns false'. Refute it at one input. -/
def fitNeedsWrong : ChangeSpec := { name := "fitNeeds", fn := fun _ => fun
  | [d1, d2, d3] => { results := [.lit (.bool false)], args := [d1, d2, d3] }
  | _ => none }
def FitNeedsWrongFalsely : Prop := fitNeedsRow.holds Try.pinned (OpenSpec.ofChange fitNeedsWrong)

/-- 'anchorholdlaw09.FitBoth': WHATEVER THE INPUT: true; the input reads as it did. -/
def fitBothSpec : ChangeSpec := { name := "fitBoth", fn := fun _ => fun
  | [d1, d2, d3] => { results := [.lit (.bool true)], args := [d1, d2, d3] }
  | _ => none }
def fitBothRow : OpenClaim := { program := "yteikliciijfmmaa", sum := "3b3d3dbddc8974c9e2b9e6c249be1729e6d04368b432f38194f74b1f22d116eb", func := "anchorhold/anchorholdlaw09.FitBoth", spec := "fitBoth", inPlace := ["math/bits.Add64"], named := ["math/bits.divideError", "math/bits.overflowError"], apart := false }
def FitBothSaid : Prop := fitBothRow.holds Try.pinned (OpenSpec.ofChange fitBothSpec)

/-- ITS FALSE NEIGHBOUR: 'it returns false'. Refute it at one input. -/
def fitBothWrong : ChangeSpec := { name := "fitBoth", fn := fun _ => fun
  | [d1, d2, d3] => { results := [.lit (.bool false)], args := [d1, d2, d3] }
  | _ => none }
def FitBothWrongFalsely : Prop := fitBothRow.holds Try.pinned (OpenSpec.ofChange fitBothWrong)

/-- 'anchorholdlaw09.FitMore': WHATEVER THE INPUT: true; the input reads as it did. -/
def fitMoreSpec : ChangeSpec := { name := "fitMore", fn := fun _ => fun
  | [d1, d2] => { results := [.lit (.bool true)], args := [d1, d2] }
  | _ => none }
def fitMoreRow : OpenClaim := { program := "yteikliciijfmmaa", sum := "3b3d3dbddc8974c9e2b9e6c249be1729e6d04368b432f38194f74b1f22d116eb", func := "anchorhold/anchorholdlaw09.FitMore", spec := "fitMore", inPlace := ["math/bits.Add64"], named := ["math/bits.divideError", "math/bits.overflowError"], apart := false }
def FitMoreSaid : Prop := fitMoreRow.holds Try.pinned (OpenSpec.ofChange fitMoreSpec)

/-- ITS FALSE NEIGHBOUR: 'it returns false'. Refute it at one input. -/
def fitMoreWrong : ChangeSpec := { name := "fitMore", fn := fun _ => fun
  | [d1, d2] => { results := [.lit (.bool false)], args := [d1, d2] }
  | _ => none }
def FitMoreWrongFalsely : Prop := fitMoreRow.holds Try.pinned (OpenSpec.ofChange fitMoreWrong)

/-- 'anchorholdlaw14.LedgerBounds': WHATEVER THE INPUT: true; the input reads as it did. -/
def ledgerBoundsSpec : ChangeSpec := { name := "ledgerBounds", fn := fun _ => fun
  | [d1, d2] => { results := [.lit (.bool true)], args := [d1, d2] }
  | _ => none }
def ledgerBoundsRow : OpenClaim := { program := "yteikliciijfmmaa", sum := "3b3d3dbddc8974c9e2b9e6c249be1729e6d04368b432f38194f74b1f22d116eb", func := "anchorhold/anchorholdlaw14.LedgerBounds", spec := "ledgerBounds", inPlace := ["math/bits.Add64"], named := ["math/bits.divideError", "math/bits.overflowError"], apart := false }
def LedgerBoundsSaid : Prop := ledgerBoundsRow.holds Try.pinned (OpenSpec.ofChange ledgerBoundsSpec)

/-- ITS FALSE NEIGHBOUR: 'it returns false'. Refute it at one input. -/
def ledgerBoundsWrong : ChangeSpec := { name := "ledgerBounds", fn := fun _ => fun
  | [d1, d2] => { results := [.lit (.bool false)], args := [d1, d2] }
  | _ => none }
def LedgerBoundsWrongFalsely : Prop := ledgerBoundsRow.holds Try.pinned (OpenSpec.ofChange ledgerBoundsWrong)

/-- 'anchorholdlaw05.MeterPlays': WHATEVER THE INPUT: true; the input reads as it did. -/
def meterPlaysSpec : ChangeSpec := { name := "meterPlays", fn := fun _ => fun
  | [d1, d2] => { results := [.lit (.bool true)], args := [d1, d2] }
  | _ => none }
def meterPlaysRow : OpenClaim := { program := "yteikliciijfmmaa", sum := "3b3d3dbddc8974c9e2b9e6c249be1729e6d04368b432f38194f74b1f22d116eb", func := "anchorhold/anchorholdlaw05.MeterPlays", spec := "meterPlays", inPlace := ["math/bits.Add64"], named := ["math/bits.divideError", "math/bits.overflowError"], apart := false }
def MeterPlaysSaid : Prop := meterPlaysRow.holds Try.pinned (OpenSpec.ofChange meterPlaysSpec)

/-- ITS FALSE NEIGHBOUR: 'it returns false'. Refute it at one input. -/
def meterPlaysWrong : ChangeSpec := { name := "meterPlays", fn := fun _ => fun
  | [d1, d2] => { results := [.lit (.bool false)], args := [d1, d2] }
  | _ => none }
def MeterPlaysWrongFalsely : Prop := meterPlaysRow.holds Try.pinned (OpenSpec.ofChange meterPlaysWrong)

/-- 'anchorholdlaw05.MeterNone': WHATEVER THE INPUT: true; the input reads as it did. -/
def meterNoneSpec : ChangeSpec := { name := "meterNone", fn := fun _ => fun
  | [d] => { results := [.lit (.bool true)], args := [d] }
  | _ => none }
def meterNoneRow : OpenClaim := { program := "yteikliciijfmmaa", sum := "3b3d3dbddc8974c9e2b9e6c249be1729e6d04368b432f38194f74b1f22d116eb", func := "anchorhold/anchorholdlaw05.MeterNone", spec := "meterNone", inPlace := ["math/bits.Add64"], named := ["math/bits.divideError", "math/bits.overflowError"], apart := false }
def MeterNoneSaid : Prop := meterNoneRow.holds Try.pinned (OpenSpec.ofChange meterNoneSpec)

/-- ITS FALSE NEIGHBOUR: 'it returns false'. Refute it at one input. -/
def meterNoneWrong : ChangeSpec := { name := "meterNone", fn := fun _ => fun
  | [d] => { results := [.lit (.bool false)], args := [d] }
  | _ => none }
def MeterNoneWrongFalsely : Prop := meterNoneRow.holds Try.pinned (OpenSpec.ofChange meterNoneWrong)

/-- 'anchorholdlaw05.MeterAdds': WHATEVER THE INPUT: true; the input reads as it did. -/
def meterAddsSpec : ChangeSpec := { name := "meterAdds", fn := fun _ => fun
  | [d] => { results := [.lit (.bool true)], args := [d] }
  | _ => none }
def meterAddsRow : OpenClaim := { program := "yteikliciijfmmaa", sum := "3b3d3dbddc8974c9e2b9e6c249be1729e6d04368b432f38194f74b1f22d116eb", func := "anchorhold/anchorholdlaw05.MeterAdds", spec := "meterAdds", inPlace := ["math/bits.Add64"], named := ["math/bits.divideError", "math/bits.overflowError"], apart := false }
def MeterAddsSaid : Prop := meterAddsRow.holds Try.pinned (OpenSpec.ofChange meterAddsSpec)

/-- ITS FALSE NEIGHBOUR: 'it returns false'. Refute it at one input. -/
def meterAddsWrong : ChangeSpec := { name := "meterAdds", fn := fun _ => fun
  | [d] => { results := [.lit (.bool false)], args := [d] }
  | _ => none }
def MeterAddsWrongFalsely : Prop := meterAddsRow.holds Try.pinned (OpenSpec.ofChange meterAddsWrong)

/-- 'anchorholdlaw14.LedgerFills': WHATEVER THE INPUT: true; the input reads as it did. -/
def ledgerFillsSpec : ChangeSpec := { name := "ledgerFills", fn := fun _ => fun
  | [d1, d2] => { results := [.lit (.bool true)], args := [d1, d2] }
  | _ => none }
def ledgerFillsRow : OpenClaim := { program := "yteikliciijfmmaa", sum := "3b3d3dbddc8974c9e2b9e6c249be1729e6d04368b432f38194f74b1f22d116eb", func := "anchorhold/anchorholdlaw14.LedgerFills", spec := "ledgerFills", inPlace := ["math/bits.Add64"], named := ["math/bits.divideError", "math/bits.overflowError"], apart := false }
def LedgerFillsSaid : Prop := ledgerFillsRow.holds Try.pinned (OpenSpec.ofChange ledgerFillsSpec)

/-- ITS FALSE NEIGHBOUR: 'it returns false'. Refute it at one input. -/
def ledgerFillsWrong : ChangeSpec := { name := "ledgerFills", fn := fun _ => fun
  | [d1, d2] => { results := [.lit (.bool false)], args := [d1, d2] }
  | _ => none }
def LedgerFillsWrongFalsely : Prop := ledgerFillsRow.holds Try.pinned (OpenSpec.ofChange ledgerFillsWrong)

/-- 'anchorholdlaw14.LedgerPlays': WHATEVER THE INPUT: true; the input reads as it did. -/
def ledgerPlaysSpec : ChangeSpec := { name := "ledgerPlays", fn := fun _ => fun
  | [d1, d2] => { results := [.lit (.bool true)], args := [d1, d2] }
  | _ => none }
def ledgerPlaysRow : OpenClaim := { program := "yteikliciijfmmaa", sum := "3b3d3dbddc8974c9e2b9e6c249be1729e6d04368b432f38194f74b1f22d116eb", func := "anchorhold/anchorholdlaw14.LedgerPlays", spec := "ledgerPlays", inPlace := ["math/bits.Add64"], named := ["math/bits.divideError", "math/bits.overflowError"], apart := false }
def LedgerPlaysSaid : Prop := ledgerPlaysRow.holds Try.pinned (OpenSpec.ofChange ledgerPlaysSpec)

/-- ITS FALSE NEIGHBOUR: 'it returns false'. Refute it at one input. -/
def ledgerPlaysWrong : ChangeSpec := { name := "ledgerPlays", fn := fun _ => fun
  | [d1, d2] => { results := [.lit (.bool false)], args := [d1, d2] }
  | _ => none }
def LedgerPlaysWrongFalsely : Prop := ledgerPlaysRow.holds Try.pinned (OpenSpec.ofChange ledgerPlaysWrong)

/-- 'anchorholdlaw14.LedgerNone': WHATEVER THE INPUT: true; the input reads as it did. -/
def ledgerNoneSpec : ChangeSpec := { name := "ledgerNone", fn := fun _ => fun
  | [d] => { results := [.lit (.bool true)], args := [d] }
  | _ => none }
def ledgerNoneRow : OpenClaim := { program := "yteikliciijfmmaa", sum := "3b3d3dbddc8974c9e2b9e6c249be1729e6d04368b432f38194f74b1f22d116eb", func := "anchorhold/anchorholdlaw14.LedgerNone", spec := "ledgerNone", inPlace := ["math/bits.Add64"], named := ["math/bits.divideError", "math/bits.overflowError"], apart := false }
def LedgerNoneSaid : Prop := ledgerNoneRow.holds Try.pinned (OpenSpec.ofChange ledgerNoneSpec)

/-- ITS FALSE NEIGHBOUR: 'it returns false'. Refute it at one input. -/
def ledgerNoneWrong : ChangeSpec := { name := "ledgerNone", fn := fun _ => fun
  | [d] => { results := [.lit (.bool false)], args := [d] }
  | _ => none }
def LedgerNoneWrongFalsely : Prop := ledgerNoneRow.holds Try.pinned (OpenSpec.ofChange ledgerNoneWrong)

/-- 'anchorholdlaw05.MeterSums': WHATEVER THE INPUT: true; the input reads as it did. -/
def meterSumsSpec : ChangeSpec := { name := "meterSums", fn := fun _ => fun
  | [d1, d2] => { results := [.lit (.bool true)], args := [d1, d2] }
  | _ => none }
def meterSumsRow : OpenClaim := { program := "yteikliciijfmmaa", sum := "3b3d3dbddc8974c9e2b9e6c249be1729e6d04368b432f38194f74b1f22d116eb", func := "anchorhold/anchorholdlaw05.MeterSums", spec := "meterSums", inPlace := ["math/bits.Add64"], named := ["math/bits.divideError", "math/bits.overflowError"], apart := false }
def MeterSumsSaid : Prop := meterSumsRow.holds Try.pinned (OpenSpec.ofChange meterSumsSpec)

/-- ITS FALSE NEIGHBOUR: 'it returns false'. Refute it at one input. -/
def meterSumsWrong : ChangeSpec := { name := "meterSums", fn := fun _ => fun
  | [d1, d2] => { results := [.lit (.bool false)], args := [d1, d2] }
  | _ => none }
def MeterSumsWrongFalsely : Prop := meterSumsRow.holds Try.pinned (OpenSpec.ofChange meterSumsWrong)

/-- 'anchorholdlaw09.FitParts': WHATEVER THE INPUT: true; the input reads as it did. -/
def fitPartsSpec : ChangeSpec := { name := "fitParts", fn := fun _ => fun
  | [d1, d2, d3] => { results := [.lit (.bool true)], args := [d1, d2, d3] }
  | _ => none }
def fitPartsRow : OpenClaim := { program := "yteikliciijfmmaa", sum := "3b3d3dbddc8974c9e2b9e6c249be1729e6d04368b432f38194f74b1f22d116eb", func := "anchorhold/anchorholdlaw09.FitParts", spec := "fitParts", inPlace := ["math/bits.Add64"], named := ["math/bits.divideError", "math/bits.overflowError"], apart := false }
def FitPartsSaid : Prop := fitPartsRow.holds Try.pinned (OpenSpec.ofChange fitPartsSpec)

/-- ITS FALSE NEIGHBOUR: 'it returns false'. Refute it at one input. -/
def fitPartsWrong : ChangeSpec := { name := "fitParts", fn := fun _ => fun
  | [d1, d2, d3] => { results := [.lit (.bool false)], args := [d1, d2, d3] }
  | _ => none }
def FitPartsWrongFalsely : Prop := fitPartsRow.holds Try.pinned (OpenSpec.ofChange fitPartsWrong)

/- THE SECOND FORM. 'bulk': how many values and letters a reading holds, each counted each time it is reached (what is shared counts as often as it is met; a slice's spare places count too). A statement '..UptoSaid' is the law's where the arguments, and the package variables that the reading takes, are together of bulk at most 1048576: NARROWER than '..Said'. Prove '..Said' where nothing that the law and all that it calls make is longer than what came in: it says more and counts as full. Else prove '..UptoSaid'. A law counts once. -/
mutual
def uptoBulk {H : Type} : DataW H → Nat
  | .lit (.string bytes) => bytes.length + 1
  | .lit _ => 1
  | .nil => 1
  | .ptr d => uptoBulk d + 1
  | .slice elems spare => uptoBulkAll elems + uptoBulkAll spare + 1
  | .agg parts => uptoBulkAll parts + 1
  | .iface _ d => uptoBulk d + 1
  | .map entries => uptoBulkEntries entries + 1
  | .held _ => 1
def uptoBulkAll {H : Type} : List (DataW H) → Nat
  | [] => 0
  | d :: r => uptoBulk d + uptoBulkAll r
def uptoBulkEntries {H : Type} : List (Lit × DataW H) → Nat
  | [] => 0
  | x :: r => uptoBulkEntry x + uptoBulkEntries r
def uptoBulkEntry {H : Type} : Lit × DataW H → Nat
  | (.string bytes, d) => bytes.length + uptoBulk d + 1
  | (_, d) => uptoBulk d + 1
 end
def uptoSmall : (H : Type) → List (DataW H) → Bool := fun _ ds => decide (uptoBulkAll ds ≤ 1048576)
def OpenSpec.upto (s : _root_.Go.ChangeSpec) : _root_.Go.OpenSpec := { _root_.Go.OpenSpec.ofChange s with cond := some uptoSmall }

/-- 'anchorholdlaw09.FitNeeds', WHERE WHAT IT READS IS OF BULK AT MOST 1048576: true; the input reads as it did. -/
def fitNeedsUptoRow : OpenClaim := { program := "yteikliciijfmmaa", sum := "3b3d3dbddc8974c9e2b9e6c249be1729e6d04368b432f38194f74b1f22d116eb", func := "anchorhold/anchorholdlaw09.FitNeeds", spec := "fitNeeds", inPlace := ["math/bits.Add64"], named := ["math/bits.divideError", "math/bits.overflowError"], apart := false, narrowed := true }
def FitNeedsUptoSaid : Prop := fitNeedsUptoRow.holds Try.pinned (OpenSpec.upto fitNeedsSpec)

/-- 'anchorholdlaw09.FitBoth', WHERE WHAT IT READS IS OF BULK AT MOST 1048576: true; the input reads as it did. -/
def fitBothUptoRow : OpenClaim := { program := "yteikliciijfmmaa", sum := "3b3d3dbddc8974c9e2b9e6c249be1729e6d04368b432f38194f74b1f22d116eb", func := "anchorhold/anchorholdlaw09.FitBoth", spec := "fitBoth", inPlace := ["math/bits.Add64"], named := ["math/bits.divideError", "math/bits.overflowError"], apart := false, narrowed := true }
def FitBothUptoSaid : Prop := fitBothUptoRow.holds Try.pinned (OpenSpec.upto fitBothSpec)

/-- 'anchorholdlaw09.FitMore', WHERE WHAT IT READS IS OF BULK AT MOST 1048576: true; the input reads as it did. -/
def fitMoreUptoRow : OpenClaim := { program := "yteikliciijfmmaa", sum := "3b3d3dbddc8974c9e2b9e6c249be1729e6d04368b432f38194f74b1f22d116eb", func := "anchorhold/anchorholdlaw09.FitMore", spec := "fitMore", inPlace := ["math/bits.Add64"], named := ["math/bits.divideError", "math/bits.overflowError"], apart := false, narrowed := true }
def FitMoreUptoSaid : Prop := fitMoreUptoRow.holds Try.pinned (OpenSpec.upto fitMoreSpec)

/-- 'anchorholdlaw14.LedgerBounds', WHERE WHAT IT READS IS OF BULK AT MOST 1048576: true; the input reads as it did. -/
def ledgerBoundsUptoRow : OpenClaim := { program := "yteikliciijfmmaa", sum := "3b3d3dbddc8974c9e2b9e6c249be1729e6d04368b432f38194f74b1f22d116eb", func := "anchorhold/anchorholdlaw14.LedgerBounds", spec := "ledgerBounds", inPlace := ["math/bits.Add64"], named := ["math/bits.divideError", "math/bits.overflowError"], apart := false, narrowed := true }
def LedgerBoundsUptoSaid : Prop := ledgerBoundsUptoRow.holds Try.pinned (OpenSpec.upto ledgerBoundsSpec)

/-- 'anchorholdlaw05.MeterPlays', WHERE WHAT IT READS IS OF BULK AT MOST 1048576: true; the input reads as it did. -/
def meterPlaysUptoRow : OpenClaim := { program := "yteikliciijfmmaa", sum := "3b3d3dbddc8974c9e2b9e6c249be1729e6d04368b432f38194f74b1f22d116eb", func := "anchorhold/anchorholdlaw05.MeterPlays", spec := "meterPlays", inPlace := ["math/bits.Add64"], named := ["math/bits.divideError", "math/bits.overflowError"], apart := false, narrowed := true }
def MeterPlaysUptoSaid : Prop := meterPlaysUptoRow.holds Try.pinned (OpenSpec.upto meterPlaysSpec)

/-- 'anchorholdlaw05.MeterNone', WHERE WHAT IT READS IS OF BULK AT MOST 1048576: true; the input reads as it did. -/
def meterNoneUptoRow : OpenClaim := { program := "yteikliciijfmmaa", sum := "3b3d3dbddc8974c9e2b9e6c249be1729e6d04368b432f38194f74b1f22d116eb", func := "anchorhold/anchorholdlaw05.MeterNone", spec := "meterNone", inPlace := ["math/bits.Add64"], named := ["math/bits.divideError", "math/bits.overflowError"], apart := false, narrowed := true }
def MeterNoneUptoSaid : Prop := meterNoneUptoRow.holds Try.pinned (OpenSpec.upto meterNoneSpec)

/-- 'anchorholdlaw05.MeterAdds', WHERE WHAT IT READS IS OF BULK AT MOST 1048576: true; the input reads as it did. -/
def meterAddsUptoRow : OpenClaim := { program := "yteikliciijfmmaa", sum := "3b3d3dbddc8974c9e2b9e6c249be1729e6d04368b432f38194f74b1f22d116eb", func := "anchorhold/anchorholdlaw05.MeterAdds", spec := "meterAdds", inPlace := ["math/bits.Add64"], named := ["math/bits.divideError", "math/bits.overflowError"], apart := false, narrowed := true }
def MeterAddsUptoSaid : Prop := meterAddsUptoRow.holds Try.pinned (OpenSpec.upto meterAddsSpec)

/-- 'anchorholdlaw14.LedgerFills', WHERE WHAT IT READS IS OF BULK AT MOST 1048576: true; the input reads as it did. -/
def ledgerFillsUptoRow : OpenClaim := { program := "yteikliciijfmmaa", sum := "3b3d3dbddc8974c9e2b9e6c249be1729e6d04368b432f38194f74b1f22d116eb", func := "anchorhold/anchorholdlaw14.LedgerFills", spec := "ledgerFills", inPlace := ["math/bits.Add64"], named := ["math/bits.divideError", "math/bits.overflowError"], apart := false, narrowed := true }
def LedgerFillsUptoSaid : Prop := ledgerFillsUptoRow.holds Try.pinned (OpenSpec.upto ledgerFillsSpec)

/-- 'anchorholdlaw14.LedgerPlays', WHERE WHAT IT READS IS OF BULK AT MOST 1048576: true; the input reads as it did. -/
def ledgerPlaysUptoRow : OpenClaim := { program := "yteikliciijfmmaa", sum := "3b3d3dbddc8974c9e2b9e6c249be1729e6d04368b432f38194f74b1f22d116eb", func := "anchorhold/anchorholdlaw14.LedgerPlays", spec := "ledgerPlays", inPlace := ["math/bits.Add64"], named := ["math/bits.divideError", "math/bits.overflowError"], apart := false, narrowed := true }
def LedgerPlaysUptoSaid : Prop := ledgerPlaysUptoRow.holds Try.pinned (OpenSpec.upto ledgerPlaysSpec)

/-- 'anchorholdlaw14.LedgerNone', WHERE WHAT IT READS IS OF BULK AT MOST 1048576: true; the input reads as it did. -/
def ledgerNoneUptoRow : OpenClaim := { program := "yteikliciijfmmaa", sum := "3b3d3dbddc8974c9e2b9e6c249be1729e6d04368b432f38194f74b1f22d116eb", func := "anchorhold/anchorholdlaw14.LedgerNone", spec := "ledgerNone", inPlace := ["math/bits.Add64"], named := ["math/bits.divideError", "math/bits.overflowError"], apart := false, narrowed := true }
def LedgerNoneUptoSaid : Prop := ledgerNoneUptoRow.holds Try.pinned (OpenSpec.upto ledgerNoneSpec)

/-- 'anchorholdlaw05.MeterSums', WHERE WHAT IT READS IS OF BULK AT MOST 1048576: true; the input reads as it did. -/
def meterSumsUptoRow : OpenClaim := { program := "yteikliciijfmmaa", sum := "3b3d3dbddc8974c9e2b9e6c249be1729e6d04368b432f38194f74b1f22d116eb", func := "anchorhold/anchorholdlaw05.MeterSums", spec := "meterSums", inPlace := ["math/bits.Add64"], named := ["math/bits.divideError", "math/bits.overflowError"], apart := false, narrowed := true }
def MeterSumsUptoSaid : Prop := meterSumsUptoRow.holds Try.pinned (OpenSpec.upto meterSumsSpec)

/-- 'anchorholdlaw09.FitParts', WHERE WHAT IT READS IS OF BULK AT MOST 1048576: true; the input reads as it did. -/
def fitPartsUptoRow : OpenClaim := { program := "yteikliciijfmmaa", sum := "3b3d3dbddc8974c9e2b9e6c249be1729e6d04368b432f38194f74b1f22d116eb", func := "anchorhold/anchorholdlaw09.FitParts", spec := "fitParts", inPlace := ["math/bits.Add64"], named := ["math/bits.divideError", "math/bits.overflowError"], apart := false, narrowed := true }
def FitPartsUptoSaid : Prop := fitPartsUptoRow.holds Try.pinned (OpenSpec.upto fitPartsSpec)

end Rows
end Go.Proofs.Yteikliciijfmmaa
