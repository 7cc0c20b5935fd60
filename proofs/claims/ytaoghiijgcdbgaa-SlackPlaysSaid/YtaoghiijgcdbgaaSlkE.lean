/- Slack: what is left, plain; a slack since a world; works. -/
import Derived.Test.YtaoghiijgcdbgaaSlkD
import Derived.Test.YtaoghiijgcdbgaaBoo
namespace Go.Proofs.Ytaoghiijgcdbgaa.SlkE
open Go.RowKit Base Kit WideA Alt RefA SlkA SlkB SlkC SlkD Boo
set_option linter.unusedVariables false
set_option linter.unusedSimpArgs false

theorem leftS_eq {n : Nat} {x : SS} (ok : SOk n x) : leftS n x = if x.room < sumR x n then x.room else sumR x n := by
  have := ok.r1
  unfold leftS top1
  (repeat' split) <;> omega
theorem sumR_upd (x : SS) (rm : Int) (k : Nat) (m : Int) : ∀ n, sumR ⟨rm, updI x.has k (x.has k - m), x.dn⟩ n = sumR x n - if k < n ∧ x.dn k = false then m else 0
  | 0 => by simp [sumR]
  | n + 1 => by
    have ih := sumR_upd x rm k m n
    unfold sumR
    simp only
    rw [ih]
    by_cases e : n = k
    · subst e
      cases hd : x.dn n
      · simp [updI]; omega
      · simp
    · have e2 : updI x.has k (x.has k - m) n = x.has n := by unfold updI; rw [if_neg e]
      rw [e2]
      have h2 : (k < n + 1) ↔ (k < n) := by omega
      simp only [h2]
      generalize (if k < n ∧ x.dn k = false then m else 0) = q
      split <;> omega
theorem sumR_fin (x : SS) (k : Nat) : ∀ n, sumR ⟨x.room, x.has, updB x.dn k true⟩ n = sumR x n - if k < n ∧ x.dn k = false then x.has k else 0
  | 0 => by simp [sumR]
  | n + 1 => by
    have ih := sumR_fin x k n
    unfold sumR
    simp only
    rw [ih]
    by_cases e : n = k
    · subst e
      cases hd : x.dn n
      · simp [updB]
      · simp [updB]
    · have e2 : updB x.dn k true n = x.dn n := by unfold updB; rw [if_neg e]
      rw [e2]
      have h2 : (k < n + 1) ↔ (k < n) := by omega
      simp only [h2]
      generalize (if k < n ∧ x.dn k = false then x.has k else 0) = q
      split <;> omega
theorem sumR_le (x : SS) (k : Nat) : ∀ n, (∀ i, i < n → 0 ≤ x.has i) → k < n → x.dn k = false → x.has k ≤ sumR x n
  | 0, _, h, _ => by omega
  | n + 1, h0, h, hd => by
    have s0 := sumR_nonneg x n (fun i hi => h0 i (by omega))
    have hn := h0 n (by omega)
    unfold sumR
    by_cases e : n = k
    · subst e; rw [hd]; simp; omega
    · have := sumR_le x k n (fun i hi => h0 i (by omega)) (by omega) hd
      split <;> omega
theorem spend_ok {n : Nat} {x : SS} (ok : SOk n x) (p c : Int) : SOk n (spendP n x p c).2 ∧ 0 ≤ (spendP n x p c).1 := by
  unfold spendP
  split
  · rename_i h
    obtain ⟨k, rfl⟩ := Int.eq_ofNat_of_zero_le h.1.1
    have hk : k < n := by omega
    have h0 := ok.h0 k hk
    have r0 := ok.r0; have r1 := ok.r1
    rw [Int.toNat_natCast]
    have mb : 0 ≤ mn (mn c x.room) (x.has k) ∧ mn (mn c x.room) (x.has k) ≤ x.room ∧ mn (mn c x.room) (x.has k) ≤ x.has k := by
      unfold mn; split <;> split <;> omega
    refine ⟨⟨ok.hn, by show 0 ≤ x.room - _; omega, by show x.room - _ ≤ _; omega, fun i hi => ?_⟩, mb.1⟩
    show 0 ≤ updI x.has k _ i ∧ updI x.has k _ i ≤ _
    unfold updI; split
    · omega
    · exact ok.h0 i hi
  · exact ⟨ok, Int.le_refl _⟩
/-- what a running process spends is taken from what is left -/
theorem spend_left {n : Nat} {x : SS} (ok : SOk n x) (p c : Int) (hd : 0 ≤ p ∧ p < (n : Int) → x.dn p.toNat = false) : leftS n (spendP n x p c).2 = leftS n x - (spendP n x p c).1 ∧ (spendP n x p c).1 ≤ leftS n x := by
  have ok2 := (spend_ok ok p c).1
  have l0 := leftS_bd ok
  rw [leftS_eq ok2, leftS_eq ok]
  unfold spendP at ok2 ⊢
  split
  · rename_i h
    obtain ⟨k, rfl⟩ := Int.eq_ofNat_of_zero_le h.1.1
    have hk : k < n := by omega
    have hd := hd h.1
    rw [Int.toNat_natCast] at hd ⊢
    have hl := sumR_le x k n (fun i hi => (ok.h0 i hi).1) hk hd
    have h0 := ok.h0 k hk
    have mb : mn (mn c x.room) (x.has k) ≤ x.room ∧ mn (mn c x.room) (x.has k) ≤ x.has k := by
      unfold mn; split <;> split <;> omega
    simp only
    generalize mn (mn c x.room) (x.has k) = m at *
    have e := sumR_upd x (x.room - m) k m n
    rw [if_pos ⟨hk, hd⟩] at e
    rw [e]
    clear ok2
    constructor
    · split <;> split <;> omega
    · split <;> omega
  · have := leftS_eq ok
    simp only
    constructor
    · split <;> omega
    · rw [← this]; exact l0.1
theorem fin_left {n : Nat} {x : SS} (ok : SOk n x) (p : Int) : leftS n (finS n x p) ≤ leftS n x := by
  rw [leftS_eq (fin_ok ok p), leftS_eq ok]
  unfold finS
  split
  · rename_i h
    obtain ⟨k, rfl⟩ := Int.eq_ofNat_of_zero_le h.1
    have hk : k < n := by omega
    rw [Int.toNat_natCast]
    have h0 := ok.h0 k hk
    simp only
    rw [sumR_fin]
    (repeat' split) <;> omega
  · exact Int.le_refl _

/-- a slack, since a world -/
structure Sl (w0 w : World) (s n : Nat) (v : Value) (a : Nat → Nat) (x : SS) : Prop where
  bel : Below w0.heap.size w0 w
  hs : w0.heap.size ≤ s
  ha : ∀ i, i < n → w0.heap.size ≤ a i
  hv : ∀ g, v.ownBlock = some g → w0.heap.size ≤ g
  sk : Hid (Sk w s n v a x)
  ok : SOk n x
section
variable {w0 w : World} {s n : Nat} {v : Value} {a : Nat → Nat} {x : SS}
theorem sl_next {w1 : World} (h : Hid (Sl w0 w s n v a x)) (k : Below w.heap.size w w1) : Hid (Sl w0 w1 s n v a x) := Lib.hid ⟨below_next h.out.bel k, h.out.hs, h.out.ha, h.out.hv, sk_next h.out.sk k, h.out.ok⟩
theorem sl_base {w1 : World} (hb : Below w0.heap.size w0 w1) (h : Hid (Sl w1 w s n v a x)) : Hid (Sl w0 w s n v a x) := Lib.hid ⟨below_next hb h.out.bel, Nat.le_trans hb.size h.out.hs, fun i hi => Nat.le_trans hb.size (h.out.ha i hi), fun g hg => Nat.le_trans hb.size (h.out.hv g hg), h.out.sk, h.out.ok⟩
theorem sl_to {w1 : World} {y : SS} (h : Hid (Sl w0 w s n v a x)) (k : Alt (In s n a) w w1) (hs : Hid (Sk w1 s n v a y)) (ok : SOk n y) : Hid (Sl w0 w1 s n v a y) :=
  Lib.hid ⟨k.below h.out.bel h.out.bel.size (fun i hi => by
    rcases hi with rfl | ⟨j, hj, rfl⟩
    · exact h.out.hs
    · exact h.out.ha j hj), h.out.hs, h.out.ha, h.out.hv, hs, ok⟩
theorem sl_left (h : Hid (Sl w0 w s n v a x)) (r : Int) (hr : Hid (leftS n x = r)) :
    Calls Try.prog 13 #[.pointer (some ⟨s, 0, none⟩)] w fun e w' => e = .returned (.int .i64 r) ∧ Below w.heap.size w w' := left_any h.out.sk h.out.ok r hr
theorem sl_spend (h : Hid (Sl w0 w s n v a x)) (p c : Int) (hc : I64 c) (r : Int) (y : SS) (hr : Hid (spendP n x p c = (r, y))) :
    Calls Try.prog 15 #[.pointer (some ⟨s, 0, none⟩), .int .i64 p, .int .i64 c] w fun e w' => e = .returned (.int .i64 r) ∧ Hid (Sl w0 w' s n v a y) ∧ Alt (In s n a) w w' :=
  (spend_any h.out.sk h.out.ok p c hc r y hr).mono fun e w' ⟨h1, h2, h3⟩ => ⟨h1, sl_to h h2 h3 (by have := (spend_ok h.out.ok p c).1; rw [hr.out] at this; exact this), h2⟩
theorem sl_finish (h : Hid (Sl w0 w s n v a x)) (p r : Int) (hr : Hid (leftS n x - leftS n (finS n x p) = r)) :
    Calls Try.prog 14 #[.pointer (some ⟨s, 0, none⟩), .int .i64 p] w fun e w' => e = .returned (.int .i64 r) ∧ Hid (Sl w0 w' s n v a (finS n x p)) ∧ Alt (In s n a) w w' :=
  (finish_any h.out.sk h.out.ok p r hr).mono fun e w' ⟨h1, h2, h3⟩ => ⟨h1, sl_to h h2 h3 (fin_ok h.out.ok p), h2⟩
theorem sl_room (h : Hid (Sl w0 w s n v a x)) (r : Int) (hr : Hid (x.room = r)) :
    Calls Try.prog 16 #[.pointer (some ⟨s, 0, none⟩)] w fun e w' => e = .returned (.int .i64 r) ∧ w = w' := by
  have e := room_any h.out.sk
  rw [hr.out] at e; exact e
theorem sl_of (h : Hid (Sl w0 w s n v a x)) (p r : Int) (hr : Hid (ofP n x.has p = r)) :
    Calls Try.prog 17 #[.pointer (some ⟨s, 0, none⟩), .int .i64 p] w fun e w' => e = .returned (.int .i64 r) ∧ w = w' := of_any h.out.sk h.out.ok.hn p r hr
def agS (n : Nat) (x : SS) (p : Int) : SS := if 0 ≤ p ∧ p < (n : Int) then ⟨x.room, x.has, updB x.dn p.toNat false⟩ else x
theorem ag_ok (ok : SOk n x) (p : Int) : SOk n (agS n x p) := by
  unfold agS; split
  · exact ⟨ok.hn, ok.r0, ok.r1, ok.h0⟩
  · exact ok
theorem sl_again (h : Hid (Sl w0 w s n v a x)) (p : Int) :
    Calls Try.prog 21 #[.pointer (some ⟨s, 0, none⟩), .int .i64 p] w fun e w' => (∃ r, e = .returned r) ∧ Hid (Sl w0 w' s n v a (agS n x p)) ∧ Alt (In s n a) w w' :=
  (again_any h.out.sk h.out.ok.hn p).mono fun e w' ⟨h1, h2, h3⟩ => ⟨h1, sl_to h h2 h3 (ag_ok h.out.ok p), h2⟩
end
theorem sl_new {w0 : World} (ra : Option Addr) (rn rc : Nat) (pa : Option Addr) (pn pc : Nat) (f : Nat → Nat → Int) (oo so qo to co : Value) (fl cap bud lad : Int) (w : World) (hb : Hid (Below w0.heap.size w0 w)) (h : Hid (Open.RowsIn w pa pn 3 f)) (hpn : pn ≤ 100) (hc : I64 cap) :
    Calls Try.prog 12 #[.agg #[.slice ra rn rc, .slice pa pn pc, oo, so, .int .i64 fl, qo, to, .int .i64 cap, .int .i64 bud, .int .i64 lad, co]] w fun e w' => ∃ s v a, e = .returned (.pointer (some ⟨s, 0, none⟩)) ∧ Hid (Sl w0 w' s pn v a (ini cap f)) ∧ Below w.heap.size w w' :=
  (new_any ra rn rc pa pn pc f oo so qo to co fl cap bud lad w h hpn hc).mono fun e w' ⟨v, a, h1, h2⟩ => ⟨_, v, a, h1, sl_base hb.out (Lib.hid ⟨h2.out.bel, by omega, h2.out.ha, h2.out.hv, h2.out.sk, ini_ok hc hpn (fun i hi => h.out.2.2 i hi 2 (by omega))⟩), h2.out.bel⟩
def fW : Nat → Nat → Int := fun i j => if j = 2 then (if i = 0 then 20 else 40) else 0
set_option maxRecDepth 100000 in
set_option maxHeartbeats 4000000 in
theorem works_any (w : World) : Calls Try.prog 11 #[] w fun e w' => e = .returned (.bool true) ∧ Below w.heap.size w w' := by
  go_enter Try.func11, Try.ntmps11
  go_wp2_with fail
  have b1 := Box.new w #[.int .i64 0, .int .i64 0, .int .i64 20, .int .i64 0, .int .i64 0, .int .i64 40] 66
  have R : Hid (Open.RowsIn (w.alloc (.cells #[.int .i64 0, .int .i64 0, .int .i64 20, .int .i64 0, .int .i64 0, .int .i64 40] 66)) (some ⟨w.heap.size, 0, none⟩) 2 3 fW) := by
    refine Lib.hid ⟨by omega, .inr ⟨w.heap.size, 0, rfl, b1.lt, fun i hi j hj => ?_⟩, fun i hi j hj => ?_⟩
    · rw [b1.cell]
      match i, hi, j, hj with
      | 0, _, 0, _ => rfl
      | 0, _, 1, _ => rfl
      | 0, _, 2, _ => rfl
      | 1, _, 0, _ => rfl
      | 1, _, 1, _ => rfl
      | 1, _, 2, _ => rfl
    · unfold fW; split
      · split
        · exact ⟨by omega, by omega⟩
        · exact ⟨by omega, by omega⟩
      · exact ⟨by omega, by omega⟩
  have HB : Hid (Below w.heap.size w _) := Lib.hid ((Below.refl w.heap.size w).alloc (Nat.le_refl _) (.cells #[.int .i64 0, .int .i64 0, .int .i64 20, .int .i64 0, .int .i64 0, .int .i64 40] 66))
  clear b1
  generalize w.alloc (.cells #[.int .i64 0, .int .i64 0, .int .i64 20, .int .i64 0, .int .i64 0, .int .i64 40] 66) = W at R HB ⊢
  refine (sl_new none 0 0 _ 2 2 fW _ _ _ _ _ 0 50 0 0 W HB R (by omega) ⟨by omega, by omega⟩).mono ?_
  rintro e1 w2 ⟨s, v, a, rfl, S, -⟩
  go_wp2_with fail
  refine (sl_left S 50 (Lib.hid (by decide +kernel))).mono ?_
  rintro e1 w3 ⟨rfl, hb3⟩
  have S := sl_next S hb3
  clear hb3
  go_wp2_with fail
  refine (sl_finish S 0 10 (Lib.hid (by decide +kernel))).mono ?_
  rintro e1 w4 ⟨rfl, S, -⟩
  go_wp2_with fail
  refine (sl_spend S 1 99 ⟨by omega, by omega⟩ 40 _ (Lib.hid (Prod.ext (by decide +kernel) rfl))).mono ?_
  rintro e1 w5 ⟨rfl, S, -⟩
  go_wp2_with fail
  refine (sl_left S 0 (Lib.hid (by decide +kernel))).mono ?_
  rintro e1 w6 ⟨rfl, hb6⟩
  have S := sl_next S hb6
  clear hb6
  go_wp2_with fail
  refine (sl_room S 10 (Lib.hid (by decide +kernel))).mono ?_
  rintro e1 w7 ⟨rfl, rfl⟩
  go_wp2_with fail
  go_ret
  exact ⟨rfl, S.out.bel⟩
end Go.Proofs.Ytaoghiijgcdbgaa.SlkE
