/-
  No cell of these rows narrows 'for every input' (looked for: loops, veiled, ifaces, maps, wideKeys, modest, calm, conditions, laid).
  DERIVED. THE GIVEN ROWS OF THIS SEAT. 8 by the template 'for every input the law returns true; each argument reads behind the call as it read before'; 0 by the template 'total and deterministic' (their statements: YtaoghiijgcdbgaaTotals.lean).
  GIVEN WITH THE SEED: the statements are not yours to turn. If you find one false, say at which input.
  Laid BY PROGRAM, IN A SANDBOX (cutbox-rows.mjs): the forced cells as the released guide's own fill.sh prints them over the translation 0c1dc0d993b7db8b… (all of the seat's roots in one cut). By AI agents, Wed Nov 11 2026. No macro, syntax, notation, axiom, sorry.
-/
import Derived.Test.YtaoghiijgcdbgaaChecked
import GoSem.Claim
import GoSem.ClaimJoined
import GoSem.ClaimMapViews
import Derived.JoinedTies
import Derived.KernelRfl
namespace Go.Proofs.Ytaoghiijgcdbgaa
/- THE CELL 'sum', in the pinned program and in every row, IS THE sha256 OF THE DUMP (.gsa) THAT YtaoghiijgcdbgaaProg.lean LOADS. Nothing in Lean hashes anything: it is a label: what it is worth is what the hold of that sum in a sandbox is worth. -/
noncomputable def Try.pinned : Pinned := { name := "ytaoghiijgcdbgaa", sum := "0c1dc0d993b7db8b64cabb813d33e6958a049df6e1d13b32fe2ca855467d5a09", checked := Try.checked }
namespace Rows
def none {H : Type} : Left H := { results := [], args := [] }

/-- 'anchorholdlaw13.SlackSums': WHATEVER THE INPUT: true; the input reads as it did. -/
def slackSumsSpec : ChangeSpec := { name := "slackSums", fn := fun _ => fun
  | [d1, d2] => { results := [.lit (.bool true)], args := [d1, d2] }
  | _ => none }
def slackSumsRow : OpenClaim := { program := "ytaoghiijgcdbgaa", sum := "0c1dc0d993b7db8b64cabb813d33e6958a049df6e1d13b32fe2ca855467d5a09", func := "anchorhold/anchorholdlaw13.SlackSums", spec := "slackSums", unfollowed := true, recurses := true, apart := false }
def SlackSumsSaid : Prop := slackSumsRow.holds Try.pinned (OpenSpec.ofChange slackSumsSpec)

/-- ITS FALSE NEIGHBOUR: 'it returns false'. Refute it at one input. -/
def slackSumsWrong : ChangeSpec := { name := "slackSums", fn := fun _ => fun
  | [d1, d2] => { results := [.lit (.bool false)], args := [d1, d2] }
  | _ => none }
def SlackSumsWrongFalsely : Prop := slackSumsRow.holds Try.pinned (OpenSpec.ofChange slackSumsWrong)

/-- 'anchorholdlaw13.SlackWorst': WHATEVER THE INPUT: true; the input reads as it did. -/
def slackWorstSpec : ChangeSpec := { name := "slackWorst", fn := fun _ => fun
  | [d] => { results := [.lit (.bool true)], args := [d] }
  | _ => none }
def slackWorstRow : OpenClaim := { program := "ytaoghiijgcdbgaa", sum := "0c1dc0d993b7db8b64cabb813d33e6958a049df6e1d13b32fe2ca855467d5a09", func := "anchorhold/anchorholdlaw13.SlackWorst", spec := "slackWorst", unfollowed := true, recurses := true, apart := false }
def SlackWorstSaid : Prop := slackWorstRow.holds Try.pinned (OpenSpec.ofChange slackWorstSpec)

/-- ITS FALSE NEIGHBOUR: 'it returns false'. Refute it at one input. -/
def slackWorstWrong : ChangeSpec := { name := "slackWorst", fn := fun _ => fun
  | [d] => { results := [.lit (.bool false)], args := [d] }
  | _ => none }
def SlackWorstWrongFalsely : Prop := slackWorstRow.holds Try.pinned (OpenSpec.ofChange slackWorstWrong)

/-- 'anchorholdlaw13.SlackPlays': WHATEVER THE INPUT: true; the input reads as it did. -/
def slackPlaysSpec : ChangeSpec := { name := "slackPlays", fn := fun _ => fun
  | [d1, d2] => { results := [.lit (.bool true)], args := [d1, d2] }
  | _ => none }
def slackPlaysRow : OpenClaim := { program := "ytaoghiijgcdbgaa", sum := "0c1dc0d993b7db8b64cabb813d33e6958a049df6e1d13b32fe2ca855467d5a09", func := "anchorhold/anchorholdlaw13.SlackPlays", spec := "slackPlays", unfollowed := true, recurses := true, apart := false }
def SlackPlaysSaid : Prop := slackPlaysRow.holds Try.pinned (OpenSpec.ofChange slackPlaysSpec)

/-- ITS FALSE NEIGHBOUR: 'it returns false'. Refute it at one input. -/
def slackPlaysWrong : ChangeSpec := { name := "slackPlays", fn := fun _ => fun
  | [d1, d2] => { results := [.lit (.bool false)], args := [d1, d2] }
  | _ => none }
def SlackPlaysWrongFalsely : Prop := slackPlaysRow.holds Try.pinned (OpenSpec.ofChange slackPlaysWrong)

/-- 'anchorholdlaw13.SlackNone': WHATEVER THE INPUT: true; the input reads as it did. -/
def slackNoneSpec : ChangeSpec := { name := "slackNone", fn := fun _ => fun
  | [d1, d2] => { results := [.lit (.bool true)], args := [d1, d2] }
  | _ => none }
def slackNoneRow : OpenClaim := { program := "ytaoghiijgcdbgaa", sum := "0c1dc0d993b7db8b64cabb813d33e6958a049df6e1d13b32fe2ca855467d5a09", func := "anchorhold/anchorholdlaw13.SlackNone", spec := "slackNone", unfollowed := true, recurses := true, apart := false }
def SlackNoneSaid : Prop := slackNoneRow.holds Try.pinned (OpenSpec.ofChange slackNoneSpec)

/-- ITS FALSE NEIGHBOUR: 'it returns false'. Refute it at one input. -/
def slackNoneWrong : ChangeSpec := { name := "slackNone", fn := fun _ => fun
  | [d1, d2] => { results := [.lit (.bool false)], args := [d1, d2] }
  | _ => none }
def SlackNoneWrongFalsely : Prop := slackNoneRow.holds Try.pinned (OpenSpec.ofChange slackNoneWrong)

/-- 'anchorholdlaw01.WideRounds': WHATEVER THE INPUT: true; the input reads as it did. -/
def wideRoundsSpec : ChangeSpec := { name := "wideRounds", fn := fun _ => fun
  | [d1, d2, d3] => { results := [.lit (.bool true)], args := [d1, d2, d3] }
  | _ => none }
def wideRoundsRow : OpenClaim := { program := "ytaoghiijgcdbgaa", sum := "0c1dc0d993b7db8b64cabb813d33e6958a049df6e1d13b32fe2ca855467d5a09", func := "anchorhold/anchorholdlaw01.WideRounds", spec := "wideRounds", inPlace := ["math/bits.Add64"], named := ["math/bits.divideError", "math/bits.overflowError"], apart := false }
def WideRoundsSaid : Prop := wideRoundsRow.holds Try.pinned (OpenSpec.ofChange wideRoundsSpec)

/-- ITS FALSE NEIGHBOUR: 'it returns false'. Refute it at one input. -/
def wideRoundsWrong : ChangeSpec := { name := "wideRounds", fn := fun _ => fun
  | [d1, d2, d3] => { results := [.lit (.bool false)], args := [d1, d2, d3] }
  | _ => none }
def WideRoundsWrongFalsely : Prop := wideRoundsRow.holds Try.pinned (OpenSpec.ofChange wideRoundsWrong)

/-- 'anchorholdlaw01.WideMuls': WHATEVER THE INPUT: true; the input reads as it did. -/
def wideMulsSpec : ChangeSpec := { name := "wideMuls", fn := fun _ => fun
  | [d1, d2, d3] => { results := [.lit (.bool true)], args := [d1, d2, d3] }
  | _ => none }
def wideMulsRow : OpenClaim := { program := "ytaoghiijgcdbgaa", sum := "0c1dc0d993b7db8b64cabb813d33e6958a049df6e1d13b32fe2ca855467d5a09", func := "anchorhold/anchorholdlaw01.WideMuls", spec := "wideMuls", inPlace := ["math/bits.Add64"], named := ["math/bits.divideError", "math/bits.overflowError"], apart := false }
def WideMulsSaid : Prop := wideMulsRow.holds Try.pinned (OpenSpec.ofChange wideMulsSpec)

/-- ITS FALSE NEIGHBOUR: 'it returns false'. Refute it at one input. -/
def wideMulsWrong : ChangeSpec := { name := "wideMuls", fn := fun _ => fun
  | [d1, d2, d3] => { results := [.lit (.bool false)], args := [d1, d2, d3] }
  | _ => none }
def WideMulsWrongFalsely : Prop := wideMulsRow.holds Try.pinned (OpenSpec.ofChange wideMulsWrong)

/-- 'anchorholdlaw01.WideClamps': WHATEVER THE INPUT: true; the input reads as it did. -/
def wideClampsSpec : ChangeSpec := { name := "wideClamps", fn := fun _ => fun
  | [d1, d2, d3] => { results := [.lit (.bool true)], args := [d1, d2, d3] }
  | _ => none }
def wideClampsRow : OpenClaim := { program := "ytaoghiijgcdbgaa", sum := "0c1dc0d993b7db8b64cabb813d33e6958a049df6e1d13b32fe2ca855467d5a09", func := "anchorhold/anchorholdlaw01.WideClamps", spec := "wideClamps", inPlace := ["math/bits.Add64"], named := ["math/bits.divideError", "math/bits.overflowError"], apart := false }
def WideClampsSaid : Prop := wideClampsRow.holds Try.pinned (OpenSpec.ofChange wideClampsSpec)

/-- ITS FALSE NEIGHBOUR: 'it returns false'. Refute it at one input. -/
def wideClampsWrong : ChangeSpec := { name := "wideClamps", fn := fun _ => fun
  | [d1, d2, d3] => { results := [.lit (.bool false)], args := [d1, d2, d3] }
  | _ => none }
def WideClampsWrongFalsely : Prop := wideClampsRow.holds Try.pinned (OpenSpec.ofChange wideClampsWrong)

/-- 'anchorholdlaw01.WideSums': WHATEVER THE INPUT: true; the input reads as it did. -/
def wideSumsSpec : ChangeSpec := { name := "wideSums", fn := fun _ => fun
  | [d1, d2, d3] => { results := [.lit (.bool true)], args := [d1, d2, d3] }
  | _ => none }
def wideSumsRow : OpenClaim := { program := "ytaoghiijgcdbgaa", sum := "0c1dc0d993b7db8b64cabb813d33e6958a049df6e1d13b32fe2ca855467d5a09", func := "anchorhold/anchorholdlaw01.WideSums", spec := "wideSums", inPlace := ["math/bits.Add64"], named := ["math/bits.divideError", "math/bits.overflowError"], apart := false }
def WideSumsSaid : Prop := wideSumsRow.holds Try.pinned (OpenSpec.ofChange wideSumsSpec)

/-- ITS FALSE NEIGHBOUR: 'it returns false'. Refute it at one input. -/
def wideSumsWrong : ChangeSpec := { name := "wideSums", fn := fun _ => fun
  | [d1, d2, d3] => { results := [.lit (.bool false)], args := [d1, d2, d3] }
  | _ => none }
def WideSumsWrongFalsely : Prop := wideSumsRow.holds Try.pinned (OpenSpec.ofChange wideSumsWrong)

/- THE SECOND FORM. 'bulk': how many values and letters a reading holds, each counted each time it is reached (what is shared counts as often as it is met; a slice's spare places count too). A statement '..UptoSaid' is the law's where the arguments, and the package variables that the reading takes, are together of bulk at most 1048576: NARROWER than '..Said'. Prove '..Said' where nothing that the law and all that it calls make is longer than what came in: it says more and counts as full. Else prove '..UptoSaid'. A law counts once. -/
mutual
def uptoBulk {H : Type} : DataW H → Nat
  | .lit (.string bytes) => bytes.length + 1
  | .lit _ => 1
  | .nil => 1
  | .ptr d => uptoBulk d + 1
  | .slice elems spare => uptoBulkAll elems + uptoBulkAll spare + 1
  | .agg parts => uptoBulkAll parts + 1
  | .iface _ d => uptoBulk d + 1
  | .map entries => uptoBulkEntries entries + 1
  | .held _ => 1
def uptoBulkAll {H : Type} : List (DataW H) → Nat
  | [] => 0
  | d :: r => uptoBulk d + uptoBulkAll r
def uptoBulkEntries {H : Type} : List (Lit × DataW H) → Nat
  | [] => 0
  | x :: r => uptoBulkEntry x + uptoBulkEntries r
def uptoBulkEntry {H : Type} : Lit × DataW H → Nat
  | (.string bytes, d) => bytes.length + uptoBulk d + 1
  | (_, d) => uptoBulk d + 1
 end
def uptoSmall : (H : Type) → List (DataW H) → Bool := fun _ ds => decide (uptoBulkAll ds ≤ 1048576)
def OpenSpec.upto (s : _root_.Go.ChangeSpec) : _root_.Go.OpenSpec := { _root_.Go.OpenSpec.ofChange s with cond := some uptoSmall }

/-- 'anchorholdlaw13.SlackSums', WHERE WHAT IT READS IS OF BULK AT MOST 1048576: true; the input reads as it did. -/
def slackSumsUptoRow : OpenClaim := { program := "ytaoghiijgcdbgaa", sum := "0c1dc0d993b7db8b64cabb813d33e6958a049df6e1d13b32fe2ca855467d5a09", func := "anchorhold/anchorholdlaw13.SlackSums", spec := "slackSums", unfollowed := true, recurses := true, apart := false, narrowed := true }
def SlackSumsUptoSaid : Prop := slackSumsUptoRow.holds Try.pinned (OpenSpec.upto slackSumsSpec)

/-- 'anchorholdlaw13.SlackWorst', WHERE WHAT IT READS IS OF BULK AT MOST 1048576: true; the input reads as it did. -/
def slackWorstUptoRow : OpenClaim := { program := "ytaoghiijgcdbgaa", sum := "0c1dc0d993b7db8b64cabb813d33e6958a049df6e1d13b32fe2ca855467d5a09", func := "anchorhold/anchorholdlaw13.SlackWorst", spec := "slackWorst", unfollowed := true, recurses := true, apart := false, narrowed := true }
def SlackWorstUptoSaid : Prop := slackWorstUptoRow.holds Try.pinned (OpenSpec.upto slackWorstSpec)

/-- 'anchorholdlaw13.SlackPlays', WHERE WHAT IT READS IS OF BULK AT MOST 1048576: true; the input reads as it did. -/
def slackPlaysUptoRow : OpenClaim := { program := "ytaoghiijgcdbgaa", sum := "0c1dc0d993b7db8b64cabb813d33e6958a049df6e1d13b32fe2ca855467d5a09", func := "anchorhold/anchorholdlaw13.SlackPlays", spec := "slackPlays", unfollowed := true, recurses := true, apart := false, narrowed := true }
def SlackPlaysUptoSaid : Prop := slackPlaysUptoRow.holds Try.pinned (OpenSpec.upto slackPlaysSpec)

/-- 'anchorholdlaw13.SlackNone', WHERE WHAT IT READS IS OF BULK AT MOST 1048576: true; the input reads as it did. -/
def slackNoneUptoRow : OpenClaim := { program := "ytaoghiijgcdbgaa", sum := "0c1dc0d993b7db8b64cabb813d33e6958a049df6e1d13b32fe2ca855467d5a09", func := "anchorhold/anchorholdlaw13.SlackNone", spec := "slackNone", unfollowed := true, recurses := true, apart := false, narrowed := true }
def SlackNoneUptoSaid : Prop := slackNoneUptoRow.holds Try.pinned (OpenSpec.upto slackNoneSpec)

/-- 'anchorholdlaw01.WideRounds', WHERE WHAT IT READS IS OF BULK AT MOST 1048576: true; the input reads as it did. -/
def wideRoundsUptoRow : OpenClaim := { program := "ytaoghiijgcdbgaa", sum := "0c1dc0d993b7db8b64cabb813d33e6958a049df6e1d13b32fe2ca855467d5a09", func := "anchorhold/anchorholdlaw01.WideRounds", spec := "wideRounds", inPlace := ["math/bits.Add64"], named := ["math/bits.divideError", "math/bits.overflowError"], apart := false, narrowed := true }
def WideRoundsUptoSaid : Prop := wideRoundsUptoRow.holds Try.pinned (OpenSpec.upto wideRoundsSpec)

/-- 'anchorholdlaw01.WideMuls', WHERE WHAT IT READS IS OF BULK AT MOST 1048576: true; the input reads as it did. -/
def wideMulsUptoRow : OpenClaim := { program := "ytaoghiijgcdbgaa", sum := "0c1dc0d993b7db8b64cabb813d33e6958a049df6e1d13b32fe2ca855467d5a09", func := "anchorhold/anchorholdlaw01.WideMuls", spec := "wideMuls", inPlace := ["math/bits.Add64"], named := ["math/bits.divideError", "math/bits.overflowError"], apart := false, narrowed := true }
def WideMulsUptoSaid : Prop := wideMulsUptoRow.holds Try.pinned (OpenSpec.upto wideMulsSpec)

/-- 'anchorholdlaw01.WideClamps', WHERE WHAT IT READS IS OF BULK AT MOST 1048576: true; the input reads as it did. -/
def wideClampsUptoRow : OpenClaim := { program := "ytaoghiijgcdbgaa", sum := "0c1dc0d993b7db8b64cabb813d33e6958a049df6e1d13b32fe2ca855467d5a09", func := "anchorhold/anchorholdlaw01.WideClamps", spec := "wideClamps", inPlace := ["math/bits.Add64"], named := ["math/bits.divideError", "math/bits.overflowError"], apart := false, narrowed := true }
def WideClampsUptoSaid : Prop := wideClampsUptoRow.holds Try.pinned (OpenSpec.upto wideClampsSpec)

/-- 'anchorholdlaw01.WideSums', WHERE WHAT IT READS IS OF BULK AT MOST 1048576: true; the input reads as it did. -/
def wideSumsUptoRow : OpenClaim := { program := "ytaoghiijgcdbgaa", sum := "0c1dc0d993b7db8b64cabb813d33e6958a049df6e1d13b32fe2ca855467d5a09", func := "anchorhold/anchorholdlaw01.WideSums", spec := "wideSums", inPlace := ["math/bits.Add64"], named := ["math/bits.divideError", "math/bits.overflowError"], apart := false, narrowed := true }
def WideSumsUptoSaid : Prop := wideSumsUptoRow.holds Try.pinned (OpenSpec.upto wideSumsSpec)

end Rows
end Go.Proofs.Ytaoghiijgcdbgaa
