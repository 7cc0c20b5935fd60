/- Walks of the reference's slack. -/
import Derived.Test.YtaoghiijgcdbgaaSlkF
namespace Go.Proofs.Ytaoghiijgcdbgaa.SlkR
open Go.RowKit Base Kit WideA Alt RefA SlkA SlkB SlkC SlkD SlkE SlkF Boo
set_option linter.unusedVariables false
set_option linter.unusedSimpArgs false

/-- the reference's slack, since a world -/
structure Rk (w0 w : World) (r n : Nat) (U V : Value) (x : SS) : Prop where
  bel : Below w0.heap.size w0 w
  hr : w0.heap.size ≤ r
  hu : ∀ g, U.ownBlock = some g → w0.heap.size ≤ g
  hv : ∀ g, V.ownBlock = some g → w0.heap.size ≤ g
  box : Box w r #[.int .i64 x.room, U, V] 75
  has : w.ownsRow 0 3 1 U n (row x.has n)
  dn : w.ownsRow 0 4 1 V n (brow x.dn n)
  ok : SOk n x
section
variable {w0 w : World} {r n : Nat} {U V : Value} {x : SS}
theorem rk_next {w1 : World} (h : Hid (Rk w0 w r n U V x)) (k : Below w.heap.size w w1) : Hid (Rk w0 w1 r n U V x) :=
  Lib.hid ⟨below_next h.out.bel k, h.out.hr, h.out.hu, h.out.hv, h.out.box.next k, ownsRow_keep h.out.has k, ownsRow_keep h.out.dn k, h.out.ok⟩
theorem rk_drewN (h : Hid (Rk w0 w r n U V x)) (m : Nat) : Hid (Rk w0 (w.drewN m) r n U V x) := rk_next h ⟨rfl, rfl, rfl, Nat.le_refl _, fun _ _ => rfl⟩
set_option maxRecDepth 100000 in
theorem is_any (h : Hid (Rk w0 w r n U V x)) (p : Int) (ok : Bool) (hok : Hid (decide (0 ≤ p ∧ p < (n : Int)) = ok)) :
    Calls Try.prog 44 #[.pointer (some ⟨r, 0, none⟩), .int .i64 p] w fun e w' => e = .returned (.bool ok) ∧ w = w' := by
  have bc := h.out.box.cell
  have hn := h.out.ok.hn
  obtain ⟨A, cap, rfl, -⟩ := own_int h.out.has
  have hok := hok.out
  by_cases h0 : 0 ≤ p
  · by_cases h1 : p < (n : Int)
    · obtain rfl : ok = true := by rw [← hok]; simp [h0, h1]
      clear hok
      go_enter Try.func44, Try.ntmps44
      go_wp2_with fail
      go_ret
      exact ⟨rfl, rfl⟩
    · obtain rfl : ok = false := by rw [← hok]; simp [h1]
      clear hok
      go_enter Try.func44, Try.ntmps44
      go_wp2_with fail
      go_ret
      exact ⟨rfl, rfl⟩
  · obtain rfl : ok = false := by rw [← hok]; simp [h0]
    clear hok
    go_enter Try.func44, Try.ntmps44
    go_wp2_with fail
    go_ret
    exact ⟨rfl, rfl⟩
set_option maxRecDepth 100000 in
set_option maxHeartbeats 1000000 in
theorem leftr_any (h : Hid (Rk w0 w r n U V x)) (z : Int) (hz : Hid (leftS n x = z)) :
    Calls Try.prog 34 #[.pointer (some ⟨r, 0, none⟩)] w fun e w' => e = .returned (.int .i64 z) ∧ w = w' := by
  have hn := h.out.ok.hn
  have OK := Lib.hid h.out.ok
  obtain ⟨A, ca, rfl, hA⟩ := own_int h.out.has
  obtain ⟨B, cb, rfl, hB⟩ := own_bool h.out.dn
  have bc := h.out.box.cell
  have HA := Lib.hid hA
  have HB := Lib.hid hB
  have r1 := OK.out.r1
  clear hA hB
  go_enter Try.func34, Try.ntmps34
  go_wp2_with fail
  go_loop [3, 4] (fun su i => ∃ (k : Nat) (m : Int), k ≤ n ∧ i = .int .i64 k ∧ su = .int .i64 m ∧ 0 ≤ m ∧ m ≤ 9223372036854775807 ∧ Hid (top1 (sumR x k) = m)) (fun _ i => n - (intOf i).toNat)
  case atStart => exact ⟨0, 0, by omega, rfl, rfl, by omega, by omega, Lib.hid (by simp [sumR, top1])⟩
  case round =>
    obtain ⟨k, m, hk, rfl, rfl, m0, m1, HM⟩ := hrel
    by_cases hlt : k < n
    · obtain ⟨ga, rfl, gca⟩ := HA.out k hlt
      obtain ⟨gb, rfl, gcb⟩ := HB.out k hlt
      obtain ⟨h0, h1⟩ := OK.out.h0 k hlt
      have s0 := sumR_nonneg x k (fun i hi => (OK.out.h0 i (by omega)).1)
      have S0 := Lib.hid s0
      clear s0
      cases hd : x.dn k
      · rw [hd] at gcb
        have nx : ∀ m', (if 9223372036854775807 - m < x.has k then 9223372036854775807 else m + x.has k) = m' → top1 (sumR x (k + 1)) = m' := fun m' hm' => by
          have e : sumR x (k + 1) = sumR x k + x.has k := by rw [sumR, hd]; rfl
          have e2 := HM.out
          have s0 := S0.out
          rw [e]
          unfold top1 at e2 ⊢
          split at hm' <;> split at e2 <;> split <;> omega
        have NX := Lib.hid nx
        clear nx hd
        generalize x.has k = hk' at *
        by_cases hc : 9223372036854775807 - m < hk'
        · go_wp2_with fail
          go_round
          case rel => exact ⟨k + 1, 9223372036854775807, by omega, by go_num, rfl, by omega, by omega, Lib.hid (NX.out _ (by rw [if_pos hc]))⟩
          case measure => simp [intOf]; omega
        · have hc : hk' ≤ 9223372036854775807 - m := by omega
          go_wp2_with fail
          go_round
          case rel => exact ⟨k + 1, m + hk', by omega, by go_num, rfl, by omega, by omega, Lib.hid (NX.out _ (by rw [if_neg (by omega)]))⟩
          case measure => simp [intOf]; omega
      · rw [hd] at gcb
        have e : top1 (sumR x (k + 1)) = m := by rw [sumR, hd]; exact HM.out
        have E := Lib.hid e
        clear e hd
        go_wp2_with fail
        go_round
        case rel => exact ⟨k + 1, m, by omega, by go_num, rfl, by omega, by omega, E⟩
        case measure => simp [intOf]; omega
    · obtain rfl : k = n := by omega
      have e := hz.out
      unfold leftS at e
      rw [HM.out] at e
      clear hlt
      by_cases hc : x.room < m
      · rw [if_pos hc] at e
        subst e
        go_wp2_with fail
        go_ret
        exact ⟨rfl, rfl⟩
      · rw [if_neg hc] at e
        subst e
        have hc : m ≤ x.room := by omega
        go_wp2_with fail
        go_ret
        exact ⟨rfl, rfl⟩
end
end Go.Proofs.Ytaoghiijgcdbgaa.SlkR
