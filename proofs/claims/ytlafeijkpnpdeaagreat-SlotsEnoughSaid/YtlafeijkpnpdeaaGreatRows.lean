/-
  No cell of these rows narrows 'for every input' (looked for: loops, veiled, ifaces, maps, wideKeys, modest, calm, conditions, laid).
  DERIVED. THE GIVEN ROWS OF THIS SEAT. 4 by the template 'for every input the law returns true; each argument reads behind the call as it read before'; 0 by the template 'total and deterministic' (their statements: YtlafeijkpnpdeaaGreatTotals.lean).
  GIVEN WITH THE SEED: the statements are not yours to turn. If you find one false, say at which input.
  Laid BY PROGRAM, IN A SANDBOX (cutbox-rows.mjs): the forced cells as the released guide's own fill.sh prints them over the translation 110d100ba3ca05b1… (all of the seat's roots in one cut). By AI agents, Wed Nov 11 2026. No macro, syntax, notation, axiom, sorry.
-/
import Derived.Test.YtlafeijkpnpdeaaGreatChecked
import GoSem.Claim
import GoSem.ClaimJoined
import GoSem.ClaimMapViews
import Derived.JoinedTies
import Derived.KernelRfl
namespace Go.Proofs.YtlafeijkpnpdeaaGreat
/- THE CELL 'sum', in the pinned program and in every row, IS THE sha256 OF THE DUMP (.gsa) THAT YtlafeijkpnpdeaaGreatProg.lean LOADS. Nothing in Lean hashes anything: it is a label: what it is worth is what the hold of that sum in a sandbox is worth. -/
noncomputable def Tryz.pinned : Pinned := { name := "ytlafeijkpnpdeaagreat", sum := "110d100ba3ca05b1e5dc69fa69b855e03a5506e62d82e99903a230e3aaa2df1b", checked := Tryz.checked }
namespace Rows
def none {H : Type} : Left H := { results := [], args := [] }

/-- 'anchorholdlaw35.SlotsRows': WHATEVER THE INPUT: true; the input reads as it did. -/
def slotsRowsSpec : ChangeSpec := { name := "slotsRows", fn := fun _ => fun
  | [d] => { results := [.lit (.bool true)], args := [d] }
  | _ => none }
def slotsRowsRow : OpenClaim := { program := "ytlafeijkpnpdeaagreat", sum := "110d100ba3ca05b1e5dc69fa69b855e03a5506e62d82e99903a230e3aaa2df1b", func := "anchorhold/anchorholdlaw35.SlotsRows", spec := "slotsRows", inPlace := ["math/bits.Add64"], unfollowed := true, recurses := true, named := ["math/bits.divideError", "math/bits.overflowError"], apart := false }
def SlotsRowsSaid : Prop := slotsRowsRow.holds Tryz.pinned (OpenSpec.ofChange slotsRowsSpec)

/-- ITS FALSE NEIGHBOUR: 'it returns false'. Refute it at one input. -/
def slotsRowsWrong : ChangeSpec := { name := "slotsRows", fn := fun _ => fun
  | [d] => { results := [.lit (.bool false)], args := [d] }
  | _ => none }
def SlotsRowsWrongFalsely : Prop := slotsRowsRow.holds Tryz.pinned (OpenSpec.ofChange slotsRowsWrong)

/-- 'anchorholdlaw35.SlotsOnes': WHATEVER THE INPUT: true; the input reads as it did. -/
def slotsOnesSpec : ChangeSpec := { name := "slotsOnes", fn := fun _ => fun
  | [d1, d2, d3] => { results := [.lit (.bool true)], args := [d1, d2, d3] }
  | _ => none }
def slotsOnesRow : OpenClaim := { program := "ytlafeijkpnpdeaagreat", sum := "110d100ba3ca05b1e5dc69fa69b855e03a5506e62d82e99903a230e3aaa2df1b", func := "anchorhold/anchorholdlaw35.SlotsOnes", spec := "slotsOnes", inPlace := ["math/bits.Add64"], unfollowed := true, recurses := true, named := ["math/bits.divideError", "math/bits.overflowError"], apart := false }
def SlotsOnesSaid : Prop := slotsOnesRow.holds Tryz.pinned (OpenSpec.ofChange slotsOnesSpec)

/-- ITS FALSE NEIGHBOUR: 'it returns false'. Refute it at one input. -/
def slotsOnesWrong : ChangeSpec := { name := "slotsOnes", fn := fun _ => fun
  | [d1, d2, d3] => { results := [.lit (.bool false)], args := [d1, d2, d3] }
  | _ => none }
def SlotsOnesWrongFalsely : Prop := slotsOnesRow.holds Tryz.pinned (OpenSpec.ofChange slotsOnesWrong)

/-- 'anchorholdlaw35.SlotsEnough': WHATEVER THE INPUT: true; the input reads as it did. -/
def slotsEnoughSpec : ChangeSpec := { name := "slotsEnough", fn := fun _ => fun
  | [d] => { results := [.lit (.bool true)], args := [d] }
  | _ => none }
def slotsEnoughRow : OpenClaim := { program := "ytlafeijkpnpdeaagreat", sum := "110d100ba3ca05b1e5dc69fa69b855e03a5506e62d82e99903a230e3aaa2df1b", func := "anchorhold/anchorholdlaw35.SlotsEnough", spec := "slotsEnough", inPlace := ["math/bits.Add64"], unfollowed := true, recurses := true, named := ["math/bits.divideError", "math/bits.overflowError"], apart := false }
def SlotsEnoughSaid : Prop := slotsEnoughRow.holds Tryz.pinned (OpenSpec.ofChange slotsEnoughSpec)

/-- ITS FALSE NEIGHBOUR: 'it returns false'. Refute it at one input. -/
def slotsEnoughWrong : ChangeSpec := { name := "slotsEnough", fn := fun _ => fun
  | [d] => { results := [.lit (.bool false)], args := [d] }
  | _ => none }
def SlotsEnoughWrongFalsely : Prop := slotsEnoughRow.holds Tryz.pinned (OpenSpec.ofChange slotsEnoughWrong)

/-- 'anchorholdlaw35.SlotsSums': WHATEVER THE INPUT: true; the input reads as it did. -/
def slotsSumsSpec : ChangeSpec := { name := "slotsSums", fn := fun _ => fun
  | [d1, d2, d3] => { results := [.lit (.bool true)], args := [d1, d2, d3] }
  | _ => none }
def slotsSumsRow : OpenClaim := { program := "ytlafeijkpnpdeaagreat", sum := "110d100ba3ca05b1e5dc69fa69b855e03a5506e62d82e99903a230e3aaa2df1b", func := "anchorhold/anchorholdlaw35.SlotsSums", spec := "slotsSums", inPlace := ["math/bits.Add64"], unfollowed := true, recurses := true, named := ["math/bits.divideError", "math/bits.overflowError"], apart := false }
def SlotsSumsSaid : Prop := slotsSumsRow.holds Tryz.pinned (OpenSpec.ofChange slotsSumsSpec)

/-- ITS FALSE NEIGHBOUR: 'it returns false'. Refute it at one input. -/
def slotsSumsWrong : ChangeSpec := { name := "slotsSums", fn := fun _ => fun
  | [d1, d2, d3] => { results := [.lit (.bool false)], args := [d1, d2, d3] }
  | _ => none }
def SlotsSumsWrongFalsely : Prop := slotsSumsRow.holds Tryz.pinned (OpenSpec.ofChange slotsSumsWrong)

/- THE SECOND FORM. 'bulk': how many values and letters a reading holds, each counted each time it is reached (what is shared counts as often as it is met; a slice's spare places count too). A statement '..UptoSaid' is the law's where the arguments, and the package variables that the reading takes, are together of bulk at most 1048576: NARROWER than '..Said'. Prove '..Said' where nothing that the law and all that it calls make is longer than what came in: it says more and counts as full. Else prove '..UptoSaid'. A law counts once. -/
mutual
def uptoBulk {H : Type} : DataW H → Nat
  | .lit (.string bytes) => bytes.length + 1
  | .lit _ => 1
  | .nil => 1
  | .ptr d => uptoBulk d + 1
  | .slice elems spare => uptoBulkAll elems + uptoBulkAll spare + 1
  | .agg parts => uptoBulkAll parts + 1
  | .iface _ d => uptoBulk d + 1
  | .map entries => uptoBulkEntries entries + 1
  | .held _ => 1
def uptoBulkAll {H : Type} : List (DataW H) → Nat
  | [] => 0
  | d :: r => uptoBulk d + uptoBulkAll r
def uptoBulkEntries {H : Type} : List (Lit × DataW H) → Nat
  | [] => 0
  | x :: r => uptoBulkEntry x + uptoBulkEntries r
def uptoBulkEntry {H : Type} : Lit × DataW H → Nat
  | (.string bytes, d) => bytes.length + uptoBulk d + 1
  | (_, d) => uptoBulk d + 1
 end
def uptoSmall : (H : Type) → List (DataW H) → Bool := fun _ ds => decide (uptoBulkAll ds ≤ 1048576)
def OpenSpec.upto (s : _root_.Go.ChangeSpec) : _root_.Go.OpenSpec := { _root_.Go.OpenSpec.ofChange s with cond := some uptoSmall }

/-- 'anchorholdlaw35.SlotsRows', WHERE WHAT IT READS IS OF BULK AT MOST 1048576: true; the input reads as it did. -/
def slotsRowsUptoRow : OpenClaim := { program := "ytlafeijkpnpdeaagreat", sum := "110d100ba3ca05b1e5dc69fa69b855e03a5506e62d82e99903a230e3aaa2df1b", func := "anchorhold/anchorholdlaw35.SlotsRows", spec := "slotsRows", inPlace := ["math/bits.Add64"], unfollowed := true, recurses := true, named := ["math/bits.divideError", "math/bits.overflowError"], apart := false, narrowed := true }
def SlotsRowsUptoSaid : Prop := slotsRowsUptoRow.holds Tryz.pinned (OpenSpec.upto slotsRowsSpec)

/-- 'anchorholdlaw35.SlotsOnes', WHERE WHAT IT READS IS OF BULK AT MOST 1048576: true; the input reads as it did. -/
def slotsOnesUptoRow : OpenClaim := { program := "ytlafeijkpnpdeaagreat", sum := "110d100ba3ca05b1e5dc69fa69b855e03a5506e62d82e99903a230e3aaa2df1b", func := "anchorhold/anchorholdlaw35.SlotsOnes", spec := "slotsOnes", inPlace := ["math/bits.Add64"], unfollowed := true, recurses := true, named := ["math/bits.divideError", "math/bits.overflowError"], apart := false, narrowed := true }
def SlotsOnesUptoSaid : Prop := slotsOnesUptoRow.holds Tryz.pinned (OpenSpec.upto slotsOnesSpec)

/-- 'anchorholdlaw35.SlotsEnough', WHERE WHAT IT READS IS OF BULK AT MOST 1048576: true; the input reads as it did. -/
def slotsEnoughUptoRow : OpenClaim := { program := "ytlafeijkpnpdeaagreat", sum := "110d100ba3ca05b1e5dc69fa69b855e03a5506e62d82e99903a230e3aaa2df1b", func := "anchorhold/anchorholdlaw35.SlotsEnough", spec := "slotsEnough", inPlace := ["math/bits.Add64"], unfollowed := true, recurses := true, named := ["math/bits.divideError", "math/bits.overflowError"], apart := false, narrowed := true }
def SlotsEnoughUptoSaid : Prop := slotsEnoughUptoRow.holds Tryz.pinned (OpenSpec.upto slotsEnoughSpec)

/-- 'anchorholdlaw35.SlotsSums', WHERE WHAT IT READS IS OF BULK AT MOST 1048576: true; the input reads as it did. -/
def slotsSumsUptoRow : OpenClaim := { program := "ytlafeijkpnpdeaagreat", sum := "110d100ba3ca05b1e5dc69fa69b855e03a5506e62d82e99903a230e3aaa2df1b", func := "anchorhold/anchorholdlaw35.SlotsSums", spec := "slotsSums", inPlace := ["math/bits.Add64"], unfollowed := true, recurses := true, named := ["math/bits.divideError", "math/bits.overflowError"], apart := false, narrowed := true }
def SlotsSumsUptoSaid : Prop := slotsSumsUptoRow.holds Tryz.pinned (OpenSpec.upto slotsSumsSpec)

end Rows
end Go.Proofs.YtlafeijkpnpdeaaGreat
