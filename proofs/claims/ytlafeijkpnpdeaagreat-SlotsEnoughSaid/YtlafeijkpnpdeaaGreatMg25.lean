import Derived.RangeFuncNested
import Derived.RangeFuncBound
import Derived.RangeFuncCalls
import Derived.RangeFuncLeaves
import Derived.RangeFuncFrom
import Derived.RangeFuncBox
import Derived.Shelf.Abstract
import Derived.Shelf.RegionOpen
import Derived.WalkKit
import Derived.OwnWalkIn
import Derived.TacticsInMore
import Derived.LoopNIn
import Derived.LoopIn
import Derived.RegionIn
import Derived.Stop.RegionWithIn
import Derived.Test.YtlafeijkpnpdeaaGreatMg12
import Derived.Test.YtlafeijkpnpdeaaGreatMg21

/- Package level: the levels that are enough, one by one. -/
namespace Go.Proofs.YtlafeijkpnpdeaaGreat.LvlF
open Go.RowKit Go.Shelf Base Kit Conf PowA PowB PowC PowR WideB Alt LvlA LvlB LvlC LvlD LvlE
set_option linter.unusedVariables false
set_option linter.unusedSimpArgs false
theorem wide_fn (f : FuncId) : Fence.wide.fn f = True := eq_true trivial
attribute [local go_sem] Oper.semAt_some wide_fn

/-- the levels that are enough -/
def alw (p : PowC) (x : X5) (e : Int) : Nat → List Nat
  | 0 => []
  | k + 1 => if endP p x k ≤ e then alw p x e k ++ [k] else alw p x e k
theorem alw_len (p : PowC) (x : X5) (e : Int) : ∀ k, (alw p x e k).length ≤ k
  | 0 => Nat.le_refl _
  | k + 1 => by have := alw_len p x e k; unfold alw; split <;> simp <;> omega
def alwL (p : PowC) (x : X5) (e : Int) : List Nat := if MayP p x then alw p x e p.ln else []
theorem alwL_len (p : PowC) (x : X5) (e : Int) : (alwL p x e).length ≤ p.ln := by unfold alwL; split; exact alw_len _ _ _ _; exact Nat.zero_le _
/-- what a body may write: one variable, and what is new -/
def AX (n₀ ob i : Nat) : Prop := i = ob ∨ n₀ ≤ i
theorem ax_cell {n₀ ob : Nat} {w w1 : World} (h : Alt (AX n₀ ob) w w1) {b : Nat} {i : Nat} (hl : b < w.heap.size) (hn : b < n₀) (ho : b ≠ ob) : w1.cell? ⟨b, i, none⟩ = w.cell? ⟨b, i, none⟩ :=
  World.cell?_of_block (w := w) (h.block b hl (fun h => by rcases h with h | h <;> omega))
theorem ax_put {n₀ ob : Nat} {w : World} (hn : n₀ ≤ w.heap.size) (W : World) (l : Nat) (o o' : Obj) (hl : w.heap.size ≤ l) (h : W.heap[l]? = some o) (_ : o.isCells = false) (_ : o.isWalk = false) : Alt (AX n₀ ob) W (W.putObj l o') :=
  Alt.of_grown (grownBy_putObj' W l o') (fun i e => by cases e; exact .inr (by omega))
theorem yield_b {r : Ending} {A B : Prop} (h : (r = .returned (.bool true) ∧ A) ∨ (r = .returned (.bool false) ∧ B)) : ∃ b, r = .returned (.bool b) ∧ ((b = true ∧ A) ∨ (b = false ∧ B)) := by
  rcases h with ⟨h, h'⟩ | ⟨h, h'⟩
  · exact ⟨true, h, .inl ⟨rfl, h'⟩⟩
  · exact ⟨false, h, .inr ⟨rfl, h'⟩⟩
theorem grown_below {w w' : World} (h : Below w.heap.size w w') : w.grownBy w' none := ⟨h.os, h.tape, h.output, h.size, fun k hk _ => h.block k hk⟩

end Go.Proofs.YtlafeijkpnpdeaaGreat.LvlF
