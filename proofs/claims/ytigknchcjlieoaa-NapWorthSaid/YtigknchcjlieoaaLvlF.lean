/- Package level: the levels that are enough, one by one. -/
import Derived.RangeFuncNested
import Derived.RangeFuncBound
import Derived.RangeFuncCalls
import Derived.RangeFuncLeaves
import Derived.RangeFuncFrom
import Derived.RangeFuncBox
import Derived.Shelf.Abstract
import Derived.Shelf.RegionOpen
import Derived.WalkKit
import Derived.OwnWalkIn
import Derived.TacticsInMore
import Derived.LoopNIn
import Derived.LoopIn
import Derived.RegionIn
import Derived.Stop.RegionWithIn
import Derived.Test.YtigknchcjlieoaaAlt
import Derived.Test.YtigknchcjlieoaaLvlE
namespace Go.Proofs.Ytigknchcjlieoaa.LvlF
open Go.RowKit Go.Shelf Base Kit Conf PowA PowB PowC PowR WideB Alt LvlA LvlB LvlC LvlD LvlE
set_option linter.unusedVariables false
set_option linter.unusedSimpArgs false
theorem wide_fn (f : FuncId) : Fence.wide.fn f = True := eq_true trivial
attribute [local go_sem] Oper.semAt_some wide_fn

/-- the levels that are enough -/
def alw (p : PowC) (x : X5) (e : Int) : Nat → List Nat
  | 0 => []
  | k + 1 => if endP p x k ≤ e then alw p x e k ++ [k] else alw p x e k
theorem alw_len (p : PowC) (x : X5) (e : Int) : ∀ k, (alw p x e k).length ≤ k
  | 0 => Nat.le_refl _
  | k + 1 => by have := alw_len p x e k; unfold alw; split <;> simp <;> omega
def alwL (p : PowC) (x : X5) (e : Int) : List Nat := if MayP p x then alw p x e p.ln else []
theorem alwL_len (p : PowC) (x : X5) (e : Int) : (alwL p x e).length ≤ p.ln := by unfold alwL; split; exact alw_len _ _ _ _; exact Nat.zero_le _
/-- what a body may write: one variable, and what is new -/
def AX (n₀ ob i : Nat) : Prop := i = ob ∨ n₀ ≤ i
theorem ax_cell {n₀ ob : Nat} {w w1 : World} (h : Alt (AX n₀ ob) w w1) {b : Nat} {i : Nat} (hl : b < w.heap.size) (hn : b < n₀) (ho : b ≠ ob) : w1.cell? ⟨b, i, none⟩ = w.cell? ⟨b, i, none⟩ :=
  World.cell?_of_block (w := w) (h.block b hl (fun h => by rcases h with h | h <;> omega))
theorem ax_put {n₀ ob : Nat} {w : World} (hn : n₀ ≤ w.heap.size) (W : World) (l : Nat) (o o' : Obj) (hl : w.heap.size ≤ l) (h : W.heap[l]? = some o) (_ : o.isCells = false) (_ : o.isWalk = false) : Alt (AX n₀ ob) W (W.putObj l o') :=
  Alt.of_grown (grownBy_putObj' W l o') (fun i e => by cases e; exact .inr (by omega))
theorem yield_b {r : Ending} {A B : Prop} (h : (r = .returned (.bool true) ∧ A) ∨ (r = .returned (.bool false) ∧ B)) : ∃ b, r = .returned (.bool b) ∧ ((b = true ∧ A) ∨ (b = false ∧ B)) := by
  rcases h with ⟨h, h'⟩ | ⟨h, h'⟩
  · exact ⟨true, h, .inl ⟨rfl, h'⟩⟩
  · exact ⟨false, h, .inr ⟨rfl, h'⟩⟩
theorem grown_below {w w' : World} (h : Below w.heap.size w w') : w.grownBy w' none := ⟨h.os, h.tape, h.output, h.size, fun k hk _ => h.block k hk⟩

set_option maxRecDepth 100000 in
set_option maxHeartbeats 4000000 in
theorem allowed1_in (d : Nat) (hd : 1 ≤ d) (l Bx Bp Be n₀ ob B0 : Nat) (p : PowC) (x : X5) (e : Int) (J Jx : List Nat → World → Prop) (W : World)
    (ok : Hid (∀ W', Below B0 W W' → p.Ok W')) (hb : Hid (B0 ≤ n₀ ∧ B0 ≤ ob ∧ n₀ ≤ W.heap.size ∧ Bx < n₀ ∧ Bx ≠ ob ∧ Bp < n₀ ∧ Bp ≠ ob ∧ Be < n₀ ∧ Be ≠ ob))
    (hx : Hid (∀ i, W.cell? ⟨Bx, i, none⟩ = (#[.int .i64 x.now, .int .i64 x.base, .int .i64 x.dn, .int .i64 x.lv, .int .i64 x.lf] : Array Value)[i]?)) (hp : Hid (∀ i, W.cell? ⟨Bp, i, none⟩ = (#[.slice p.la p.ln p.lc, .slice p.na p.nn p.nc, .int .i64 p.sw, .int .i64 p.id, .int .i64 p.ch, .int .i64 p.qu, .int .i64 p.sl, .int .i64 p.pp] : Array Value)[i]?)) (he : Hid (W.cell? ⟨Be, 0, none⟩ = some (.int .i64 e)))
    (HJ : Hid (∀ pre W1 W2, J pre W1 → Below W1.heap.size W1 W2 → W.heap.size ≤ W1.heap.size → J pre W2))
    (hY : Hid (∀ pre z W, J pre W → pre.length < p.ln → YieldAt Fence.wide (d - 1) Try.prog l #[.int .i64 ((z : Nat) : Int)] W fun e W' =>
      (e = .returned (.bool true) ∧ J (pre ++ [z]) W' ∧ Alt (AX n₀ ob) W W') ∨ (e = .returned (.bool false) ∧ Jx (pre ++ [z]) W')))
    (h0 : J [] W) :
    CallsIn Fence.wide d Try.prog 58 #[.func (.yield l) #[] #[], .pointer (some ⟨Bx, 0, none⟩), .pointer (some ⟨Bp, 0, none⟩), .pointer (some ⟨Be, 0, none⟩)] W fun r W' => (∃ v, r = .returned v) ∧
      ((∃ ys, ys = alwL p x e ∧ J ys W') ∨ (∃ pre, True ∧ Jx pre W')) := by
  have hm := (ok.out W (Below.refl _ _)).lev.out.1
  have x1 := hx.out
  have x2 := hp.out
  by_cases may : MayP p x
  rotate_left
  · have el : alwL p x e = [] := by unfold alwL; rw [if_neg may]
    have C := Lib.hid (may_any p x W (ok.out _ (Below.refl _ _)) false (Lib.hid (decide_eq_false may)))
    have E := Lib.hid el
    clear may el
    refine callsIn_of_wp Try.func58 rfl trivial ?_ rfl
    simp only [Try.ntmps58, List.size_toArray, List.length_cons, List.length_nil, Nat.reduceAdd, Nat.reduceSub, Array.replicate_succ, Array.replicate_zero, List.push_toArray, List.append_toArray, List.nil_append, List.cons_append]
    gi_wp2_with ((first | gi_at_call 45 | (refine ⟨trivial, ?_⟩; gi_at_call 45)); refine (callsIn_wide.2 C.out).mono ?_; rintro e1 w5 ⟨rfl, k5⟩)
    refine bodyPost_ret (results_none rfl _ _ _) rfl ?_
    exact ⟨⟨_, rfl⟩, .inl ⟨_, rfl, by rw [E.out]; exact HJ.out _ _ _ h0 k5 (Nat.le_refl _)⟩⟩
  · have el : alwL p x e = alw p x e p.ln := by unfold alwL; rw [if_pos may]
    have C := Lib.hid (may_any p x W (ok.out _ (Below.refl _ _)) true (Lib.hid (decide_eq_true may)))
    have E := Lib.hid el
    have M := Lib.hid may
    have lp : Bp < W.heap.size := by have := hb.out; omega
    clear may el
    refine callsIn_of_wp Try.func58 rfl trivial ?_ rfl
    simp only [Try.ntmps58, List.size_toArray, List.length_cons, List.length_nil, Nat.reduceAdd, Nat.reduceSub, Array.replicate_succ, Array.replicate_zero, List.push_toArray, List.append_toArray, List.nil_append, List.cons_append]
    gi_wp2_with ((first | gi_at_call 45 | (refine ⟨trivial, ?_⟩; gi_at_call 45)); refine (callsIn_wide.2 C.out).mono ?_; rintro e1 w5 ⟨rfl, k5⟩; have x3 := fun i => (k5.cell (p := ⟨Bp, i, none⟩) lp).trans (hp.out i); have K5 := Lib.hid k5; clear k5)
    gi_loopw [13] (fun i wr => ∃ k : Nat, k ≤ p.ln ∧ i = .int .i64 k ∧ J (alw p x e k) wr ∧ Hid (Alt (AX n₀ ob) W wr))
      (fun i _ => p.ln - (intOf i).toNat)
    case atStart => exact ⟨0, Nat.zero_le _, rfl, HJ.out _ _ _ h0 K5.out (Nat.le_refl _), Lib.hid (Alt.of_below K5.out)⟩
    case round =>
      clear x1 x2 x3 K5
      obtain ⟨k, hk, rfl, hJs, hnx⟩ := hrel
      by_cases hlt : k < p.ln
      · obtain ⟨E', hE'⟩ : ∃ E', endP p x k = E' := ⟨_, rfl⟩
        have sz := hnx.out.size
        have HB := hb.out
        have hB0 : Hid (Below B0 W wr) := Lib.hid (Alt.below (Below.refl B0 W) hnx.out (by omega) (fun i h => by rcases h with h | h <;> omega))
        have D := Lib.hid (fun W' (h : Below wr.heap.size wr W') => end_any p x W' (ok.out W' (hB0.out.trans (h.mono (by omega)))) M.out k hlt E' (Lib.hid hE'))
        have x1 : ∀ i, wr.cell? ⟨Bx, i, none⟩ = (#[.int .i64 x.now, .int .i64 x.base, .int .i64 x.dn, .int .i64 x.lv, .int .i64 x.lf] : Array Value)[i]? := fun i => (ax_cell hnx.out (by omega) (by omega) (by omega)).trans (hx.out i)
        have x2 : ∀ i, wr.cell? ⟨Bp, i, none⟩ = (#[.slice p.la p.ln p.lc, .slice p.na p.nn p.nc, .int .i64 p.sw, .int .i64 p.id, .int .i64 p.ch, .int .i64 p.qu, .int .i64 p.sl, .int .i64 p.pp] : Array Value)[i]? := fun i => (ax_cell hnx.out (by omega) (by omega) (by omega)).trans (hp.out i)
        have x3 : wr.cell? ⟨Be, 0, none⟩ = some (.int .i64 e) := (ax_cell hnx.out (by omega) (by omega) (by omega)).trans he.out
        have le : Be < wr.heap.size := by omega
        have hsz : W.heap.size ≤ wr.heap.size := sz
        have hlen := Nat.lt_of_le_of_lt (alw_len p x e k) hlt
        have Y' := Lib.hid (fun W' (h : Below wr.heap.size wr W') => hY.out (alw p x e k) k W' (HJ.out _ _ _ hJs h hsz) hlen)
        clear sz HB hB0
        by_cases hle : E' ≤ e
        · have hr : alw p x e (k + 1) = alw p x e k ++ [k] := by rw [alw, hE', if_pos hle]
          have HR := Lib.hid hr
          clear hr hE' hlen
          gi_wp2
          gi_region_with ((first
            | ((first | gi_at_call 46 | (refine ⟨trivial, ?_⟩; gi_at_call 46)); refine (callsIn_wide.2 (D.out _ (Below.refl _ _).drew)).mono ?_; rintro e1 w5 ⟨rfl, k5⟩; have x4 := (k5.cell (p := ⟨Be, 0, none⟩) le).trans x3; have KD := Lib.hid ((Below.refl wr.heap.size wr).drew.trans k5); clear k5; obtain ⟨fn, tmps, assign, body, hy, hR⟩ := Y'.out w5 KD.out)
            | (refine hR.mono ?_; rintro r1 W3 h3; obtain ⟨b, rfl, hb3⟩ := yield_b h3)))
          all_goals
            rcases hb3 with ⟨rfl, hJ3, hk3⟩ | ⟨rfl, hJx3⟩
            · gi_wp2
              go_roundw
              case rel => exact ⟨k + 1, by omega, by simp, by rw [HR.out]; exact hJ3, Lib.hid (hnx.out.trans ((Alt.of_below KD.out).trans hk3))⟩
              case measure => simp [intOf]; omega
            · gi_wp2
              refine bodyPost_ret (results_none rfl _ _ _) rfl ?_
              exact ⟨⟨_, rfl⟩, .inr ⟨_, hJx3⟩⟩
        · have hr : alw p x e (k + 1) = alw p x e k := by rw [alw, hE', if_neg hle]
          have HR := Lib.hid hr
          have hle' : decide (E' ≤ e) = false := decide_eq_false hle
          clear hr hE' hlen hle
          gi_wp2
          first
            | (gi_region_with ((first | gi_at_call 46 | (refine ⟨trivial, ?_⟩; gi_at_call 46)); refine (callsIn_wide.2 (D.out _ (Below.refl _ _).drew)).mono ?_; rintro e1 w5 ⟨rfl, k5⟩; have x4 := (k5.cell (p := ⟨Be, 0, none⟩) le).trans x3; have KD := Lib.hid ((Below.refl wr.heap.size wr).drew.trans k5); clear k5))
            | fail
          all_goals
            gi_wp2
            go_roundw
            case rel => exact ⟨k + 1, by omega, by simp, by rw [HR.out]; exact HJ.out _ _ _ hJs KD.out hsz, Lib.hid (hnx.out.trans (Alt.of_below KD.out))⟩
            case measure => simp [intOf]; omega
      · obtain rfl : k = p.ln := by omega
        gi_wp2
        go_end0
        exact ⟨⟨_, rfl⟩, .inl ⟨_, rfl, by rw [E.out]; exact hJs⟩⟩
end Go.Proofs.Ytigknchcjlieoaa.LvlF
