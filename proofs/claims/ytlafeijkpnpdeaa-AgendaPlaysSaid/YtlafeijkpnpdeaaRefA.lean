/- The reference's great numbers: digits to the base 65536. -/
import Derived.Test.YtlafeijkpnpdeaaBase
import Derived.Test.YtlafeijkpnpdeaaProg
import Derived.Test.YtlafeijkpnpdeaaLong
import Derived.BigQuiet
import Derived.Deep.QuietTactic
namespace Go.Proofs.Ytlafeijkpnpdeaa.RefA
open Go.RowKit Base Long
set_option linter.unusedVariables false
set_option linter.unusedSimpArgs false

theorem ret_int {k : IntKind} {a b : Int} (h : a = b) : Ending.returned (.int k a) = .returned (.int k b) := by rw [h]
def row (f : Nat → Int) (n : Nat) : List Value := (List.range n).map fun j => .int .i64 (f j)
theorem row_succ (f : Nat → Int) (n : Nat) : row f (n + 1) = row f n ++ [.int .i64 (f n)] := by simp [row, List.range_succ]
theorem row_get (f : Nat → Int) (n j : Nat) (h : j < n) : (row f n)[j]? = some (.int .i64 (f j)) := by simp [row, h]
theorem row_len (f : Nat → Int) (n : Nat) : (row f n).length = n := by simp [row]
theorem row_set (f : Nat → Int) (n i : Nat) (v : Int) : (row f n).set i (.int .i64 v) = row (fun j => if j = i then v else f j) n := by
  apply List.ext_getElem?
  intro j
  rw [List.getElem?_set]
  by_cases h : i = j
  · subst h
    by_cases hn : i < n
    · simp [row, hn]
    · simp [row, hn]
  · simp only [row, List.getElem?_map, h, if_false, if_neg (Ne.symm h)]
    by_cases hn : j < n
    · rw [List.getElem?_range hn]; simp [Ne.symm h]
    · rw [List.getElem?_eq_none (by simpa using hn)]; rfl

theorem infoInt : (Try.prog.info? 3).map (fun i => (i.zero, i.size, i.bytes)) = some (some (.int .i64 0), 1, 8) := by kernel_rfl

end Go.Proofs.Ytlafeijkpnpdeaa.RefA
