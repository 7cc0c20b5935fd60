/- Walks of package slack: the loop over a function, Left, Finish. -/
import Derived.RangeFuncNested
import Derived.RangeFuncBound
import Derived.RangeFuncCalls
import Derived.RangeFuncLeaves
import Derived.RangeFuncFrom
import Derived.RangeFuncBox
import Derived.Shelf.Abstract
import Derived.Shelf.RegionOpen
import Derived.WalkKit
import Derived.OwnWalkIn
import Derived.TacticsInMore
import Derived.LoopNIn
import Derived.LoopIn
import Derived.RegionIn
import Derived.Test.YtaoghiijgcdbgaaSlkA
namespace Go.Proofs.Ytaoghiijgcdbgaa.SlkB
open Go.RowKit Go.Shelf Base Kit WideA Alt RefA SlkA
set_option linter.unusedVariables false
set_option linter.unusedSimpArgs false
attribute [local go_sem] Oper.semAt_some

/-- what a process may have -/
abbrev Val := { z : Int // 0 ≤ z ∧ z ≤ 9223372036854775807 }
def vl (z : Int) : Val := if h : 0 ≤ z ∧ z ≤ 9223372036854775807 then ⟨z, h⟩ else ⟨0, by omega⟩
theorem vl_val {z : Int} (h : 0 ≤ z ∧ z ≤ 9223372036854775807) : (vl z).1 = z := by unfold vl; rw [dif_pos h]
def runL (x : SS) : Nat → List Val
  | 0 => []
  | k + 1 => if x.dn k then runL x k else runL x k ++ [vl (x.has k)]
theorem runL_len (x : SS) : ∀ k, (runL x k).length ≤ k
  | 0 => Nat.le_refl _
  | k + 1 => by have := runL_len x k; unfold runL; split <;> simp <;> omega
def satL (l : List Val) : Int := l.foldl (fun s v => satI s v.1) 0
theorem satL_snoc (l : List Val) (v : Val) : satL (l ++ [v]) = satI (satL l) v.1 := by simp [satL]
theorem satI_bd {a b : Int} (h1 : 0 ≤ a) (h2 : a ≤ 9223372036854775807) (h3 : 0 ≤ b) (h4 : b ≤ 9223372036854775807) : 0 ≤ satI a b ∧ satI a b ≤ 9223372036854775807 := by unfold satI; (repeat' split) <;> omega
theorem satL_bd (l : List Val) : 0 ≤ satL l ∧ satL l ≤ 9223372036854775807 := by
  suffices h : ∀ (l : List Val) (s : Int), 0 ≤ s ∧ s ≤ 9223372036854775807 → 0 ≤ l.foldl (fun s v => satI s v.1) s ∧ l.foldl (fun s v => satI s v.1) s ≤ 9223372036854775807 from h l 0 (by omega)
  intro l
  induction l with
  | nil => intro s hs; exact hs
  | cons v l ih => intro s hs; exact ih _ (satI_bd hs.1 hs.2 v.2.1 v.2.2)
/-- what those have together that are not finished -/
def sumR (x : SS) : Nat → Int
  | 0 => 0
  | k + 1 => if x.dn k then sumR x k else sumR x k + x.has k
def top1 (z : Int) : Int := if 9223372036854775807 < z then 9223372036854775807 else z
theorem sumR_nonneg (x : SS) : ∀ k, (∀ i, i < k → 0 ≤ x.has i) → 0 ≤ sumR x k
  | 0, _ => Int.le_refl _
  | k + 1, h => by
    have := sumR_nonneg x k (fun i hi => h i (by omega))
    have := h k (by omega)
    unfold sumR; split <;> omega
theorem satL_run (x : SS) : ∀ k, (∀ i, i < k → 0 ≤ x.has i ∧ x.has i ≤ 9223372036854775807) → satL (runL x k) = top1 (sumR x k)
  | 0, _ => by simp [runL, sumR, satL, top1]
  | k + 1, h => by
    have ih := satL_run x k (fun i hi => h i (by omega))
    have hk := h k (by omega)
    have s0 := sumR_nonneg x k (fun i hi => (h i (by omega)).1)
    unfold runL sumR
    split
    · exact ih
    · rw [satL_snoc, ih, vl_val hk]
      unfold satI top1
      (repeat' split) <;> omega
def leftS (n : Nat) (x : SS) : Int := if x.room < top1 (sumR x n) then x.room else top1 (sumR x n)

set_option maxRecDepth 100000 in
set_option maxHeartbeats 2000000 in
theorem run1_in (F : Fence) (d : Nat) (hf : F.fn 43) (hro : F.round = none) (hd : 1 ≤ d) (l Bs n₀ s n : Nat) (v : Value) (a : Nat → Nat) (x : SS) (ok : SOk n x) (J Jx : List Val → World → Prop)
    (hY : ∀ pre z W, J pre W → pre.length < n → YieldAt F (d - 1) Try.prog l #[.int .i64 (z : Val).1] W fun e W' =>
      (e = .returned (.bool true) ∧ J (pre ++ [z]) W' ∧ Below n₀ W W') ∨ (e = .returned (.bool false) ∧ Jx (pre ++ [z]) W'))
    (W : World) (hBs : W.cell? ⟨Bs, 0, none⟩ = some (.pointer (some ⟨s, 0, none⟩))) (hS : Hid (Sk W s n v a x)) (hb : Hid (∀ i, (i = s ∨ v.ownBlock = some i ∨ ∃ k, k < n ∧ i = a k) → i < n₀)) (h0 : J [] W) :
    CallsIn F d Try.prog 43 #[.func (.yield l) #[] #[], .pointer (some ⟨Bs, 0, none⟩)] W fun e W' => (∃ v, e = .returned v) ∧
      ((∃ ys, ys = runL x n ∧ J ys W') ∨ (∃ pre, True ∧ Jx pre W')) := by
  have hn := ok.hn
  have HOK := Lib.hid ok
  obtain ⟨A, c, rfl, hA⟩ := own_slice hS.out.own
  have bc := hS.out.box.cell
  have HA := Lib.hid hA
  clear hA ok
  refine callsIn_of_wp Try.func43 rfl hf ?_ hro
  simp only [Try.ntmps43, List.size_toArray, List.length_cons, List.length_nil, Nat.reduceAdd, Nat.reduceSub, Array.replicate_succ, Array.replicate_zero, List.push_toArray, List.append_toArray, List.nil_append, List.cons_append]
  gi_wp2
  gi_loopw [10] (fun i wr => ∃ k : Nat, k ≤ n ∧ i = .int .i64 k ∧ J (runL x k) wr ∧ Hid (Below n₀ W wr))
    (fun i _ => n - (intOf i).toNat)
  case atStart => exact ⟨0, Nat.zero_le _, rfl, h0, Lib.hid (Below.refl _ _)⟩
  case round =>
    clear bc
    obtain ⟨k, hk, rfl, hJs, hnx⟩ := hrel
    by_cases hlt : k < n
    · obtain ⟨g, rfl, gc⟩ := HA.out k hlt
      have gl : g < n₀ := hb.out g (.inr (.inl rfl))
      have al : a k < n₀ := hb.out (a k) (.inr (.inr ⟨k, hlt, rfl⟩))
      have gc : wr.cell? ⟨g, k, none⟩ = some (.pointer (some ⟨a k, 0, none⟩)) := (hnx.out.cell (p := ⟨g, k, none⟩) gl).trans gc
      have ac : ∀ i, wr.cell? ⟨a k, i, none⟩ = (#[.int .i64 (x.has k), .bool (x.dn k)] : Array Value)[i]? := fun i => (hnx.out.cell (p := ⟨a k, i, none⟩) al).trans ((hS.out.acc k hlt).cell i)
      cases hdn : x.dn k with
      | true =>
        have hr : runL x (k + 1) = runL x k := by rw [runL, hdn]; rfl
        have HR := Lib.hid hr
        rw [hdn] at ac
        clear hr hdn
        gi_wp2
        refine ⟨fun _ h => (by cases h), ?_⟩
        gi_wp2
        go_roundw
        case rel => exact ⟨k + 1, by omega, by simp, by rw [HR.out]; exact hJs, hnx⟩
        case measure => simp [intOf]; omega
      | false =>
        have hr : runL x (k + 1) = runL x k ++ [vl (x.has k)] := by rw [runL, hdn]; rfl
        have HR := Lib.hid hr
        rw [hdn] at ac
        have hY' := hY (runL x k) (vl (x.has k)) wr hJs (Nat.lt_of_le_of_lt (runL_len x k) hlt)
        rw [vl_val (HOK.out.h0 k hlt)] at hY'
        obtain ⟨fn, tmps, assign, body, hy, hR⟩ := hY'
        clear hr hdn
        gi_wp2
        refine hR.mono ?_
        rintro e W3 (⟨rfl, hJ3, hk3⟩ | ⟨rfl, hJx3⟩)
        · gi_wp2
          go_roundw
          case rel => exact ⟨k + 1, by omega, by simp, by rw [HR.out]; exact hJ3, Lib.hid (hnx.out.trans hk3)⟩
          case measure => simp [intOf]; omega
        · gi_wp2
          refine bodyPost_ret (results_none rfl _ _ _) rfl ?_
          exact ⟨⟨_, rfl⟩, .inr ⟨_, trivial, hJx3⟩⟩
    · obtain rfl : k = n := by omega
      gi_wp2
      go_end0
      exact ⟨⟨_, rfl⟩, .inl ⟨_, rfl, hJs⟩⟩
end Go.Proofs.Ytaoghiijgcdbgaa.SlkB
