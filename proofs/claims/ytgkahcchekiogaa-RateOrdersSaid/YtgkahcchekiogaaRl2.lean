/- The law RateRepeats. -/
import Derived.Test.YtgkahcchekiogaaRtw
namespace Go.Proofs.Ytgkahcchekiogaa.Rl2
open Go.RowKit Base Kit WideA WideB Plain Alt Rta Rtb Rtc Rtd Rte Rtf Rtg Rth Rti Rtw
set_option linter.unusedVariables false
set_option linter.unusedSimpArgs false
theorem hyR_dvd {f : Nat → Nat → Int} : ∀ {n m : Nat}, hyR f n = some m → ∀ k, k < n → 0 < f k 1 → (f k 1).toNat ∣ m
  | 0, m, h, k, hk, _ => by omega
  | n + 1, m, h, k, hk, hp => by
    unfold hyR at h
    cases hn : hyR f n with
    | none => rw [hn] at h; cases h
    | some m' =>
      rw [hn] at h
      dsimp only at h
      unfold hyS at h
      have hd : m' ∣ m := by
        split at h
        · cases h; exact Nat.dvd_refl _
        · split at h
          · cases h
          · cases h; exact Nat.dvd_lcm_left _ _
      by_cases e : k = n
      · subst e
        rw [if_neg (by omega)] at h
        split at h
        · cases h
        · cases h; exact Nat.dvd_lcm_right _ _
      · exact Nat.dvd_trans (hyR_dvd hn k (by omega) hp) hd
theorem rel_add {p w : Int} {m : Nat} (h : 0 < p → p.toNat ∣ m) : rel p (w + (m : Int)) = rel p w := by
  unfold rel
  by_cases hp : p ≤ 0
  · rw [decide_eq_true hp, Bool.true_or, Bool.true_or]
  · obtain ⟨t, ht⟩ := h (by omega)
    have e : (m : Int) = p * (t : Int) := by
      rw [ht, Int.natCast_mul]
      congr 1
      omega
    rw [e, Int.add_mul_emod_self_left]
theorem wt_add {f : Nat → Nat → Int} {w : Int} {m : Nat} (hw : 0 ≤ w) : ∀ n, (∀ k, k < n → 0 < f k 1 → (f k 1).toNat ∣ m) → wtR f (w + (m : Int)) n = wtR f w n
  | 0, _ => rfl
  | n + 1, h => by
    unfold wtR
    rw [wt_add hw n (fun k hk => h k (by omega)), rel_add (h n (by omega))]
    by_cases hr : rel (f n 1) w = true
    · rw [if_pos ⟨by omega, hr⟩, if_pos ⟨hw, hr⟩]
    · rw [if_neg (fun h => hr h.2), if_neg (fun h => hr h.2)]
theorem wt_le {f : Nat → Nat → Int} {w : Int} : ∀ n, (∀ k, k < n → I64 (f k 2)) → wtR f w n ≤ wtR f 0 n
  | 0, _ => by unfold wtR; omega
  | n + 1, h => by
    have h1 := wt_le (f := f) (w := w) n (fun k hk => h k (by omega))
    have b1 := wtR_bd (f := f) (win := w) (n := n) (fun k hk => h k (by omega))
    have b2 := wtR_bd (f := f) (win := 0) (n := n) (fun k hk => h k (by omega))
    have hc := (h n (by omega)).2
    have h0 : rel (f n 1) 0 = true := by unfold rel; rw [Int.zero_emod, decide_eq_true rfl, Bool.or_true]
    unfold wtR
    rw [if_pos (c := 0 ≤ (0 : Int) ∧ rel (f n 1) 0 = true) ⟨by omega, h0⟩]
    unfold satI
    (repeat' split) <;> omega
set_option maxRecDepth 100000 in
set_option maxHeartbeats 4000000 in
theorem repeats_law (a : Option Addr) (n c : Nat) (f : Nat → Nat → Int) (win : Int) (w : World) (h : Hid (Open.RowsIn w a n 3 f)) (iw : 0 ≤ win ∧ win ≤ 4294967295) :
    Calls Try.prog 10 #[.slice a n c, .int .u32 win] w fun e w' => e = .returned (.bool true) ∧ Below w.heap.size w w' := by
  have hn := h.out.1
  have CW := Lib.hid (fun w' => works_any w')
  have HB := Lib.hid (Below.refl w.heap.size w)
  obtain ⟨iw0, iw1⟩ := iw
  by_cases h100 : 100 < n
  · have h100 : (100 : Int) < (n : Int) := by omega
    go_enter Try.func10, Try.ntmps10
    go_wp2_with fail
    refine (CW.out _).mono ?_
    rintro e1 w5 ⟨rfl, k5⟩
    have HB := below_hid HB k5
    clear k5
    go_wp2_with fail
    go_ret
    exact ⟨rfl, HB.out⟩
  replace h100 : (n : Int) ≤ 100 := by omega
  have RW := Lib.hid (fun w' (hb : Below w.heap.size w w') => Lib.hid (rows_below h.out hb (Nat.le_refl _)))
  cases hm : hyR f n with
  | none =>
    have hh : hyP f n = (0, 6) := by unfold hyP; rw [hm]
    have C1 := Lib.hid (fun w' h => Hyper_any a n c f 0 6 w' h (Lib.hid hh))
    clear hh hm
    go_enter Try.func10, Try.ntmps10
    go_wp2_with fail
    refine (C1.out _ (RW.out _ HB.out)).mono ?_
    rintro e1 w5 ⟨rfl, k5⟩
    have HB := below_hid HB k5
    clear k5
    go_wp2_with fail
    refine (CW.out _).mono ?_
    rintro e1 w5 ⟨rfl, k5⟩
    have HB := below_hid HB k5
    clear k5
    go_wp2_with fail
    go_ret
    exact ⟨rfl, HB.out⟩
  | some m =>
    have hh : hyP f n = ((m : Int), 0) := by unfold hyP; rw [hm]
    have C1 := Lib.hid (fun w' h => Hyper_any a n c f (m : Int) 0 w' h (Lib.hid hh))
    obtain ⟨m0, m1⟩ := hyR_bd hm
    obtain ⟨x, hx⟩ : ∃ x, wtR f win n = x := ⟨_, rfl⟩
    obtain ⟨y, hy⟩ : ∃ y, wtR f 0 n = y := ⟨_, rfl⟩
    have hx2 : wtR f (win + (m : Int)) n = x := by rw [wt_add iw0 n (hyR_dvd hm), hx]
    have hxy : x ≤ y := by rw [← hx, ← hy]; exact wt_le n (fun k hk => h.out.2.2 k hk 2 (by omega))
    have C2 := Lib.hid (fun w' h => Wants_any a n c f win x w' h ⟨by omega, by omega⟩ (Lib.hid hx))
    have C3 := Lib.hid (fun w' h => Wants_any a n c f (win + (m : Int)) x w' h ⟨by omega, by omega⟩ (Lib.hid hx2))
    have C4 := Lib.hid (fun w' h => Wants_any a n c f 0 y w' h ⟨by omega, by omega⟩ (Lib.hid hy))
    clear hh hm hx hy hx2
    have mI0 : (1 : Int) ≤ (m : Int) := by omega
    have mI1 : (m : Int) ≤ 1000000 := by omega
    go_enter Try.func10, Try.ntmps10
    go_wp2_with fail
    refine (C1.out _ (RW.out _ HB.out)).mono ?_
    rintro e1 w5 ⟨rfl, k5⟩
    have HB := below_hid HB k5
    clear k5
    go_wp2_with fail
    refine (C2.out _ (RW.out _ HB.out)).mono ?_
    rintro e1 w5 ⟨rfl, k5⟩
    have HB := below_hid HB k5
    clear k5
    go_wp2_with fail
    refine (C3.out _ (RW.out _ HB.out)).mono ?_
    rintro e1 w5 ⟨rfl, k5⟩
    have HB := below_hid HB k5
    clear k5
    go_wp2_with fail
    refine (C2.out _ (RW.out _ HB.out)).mono ?_
    rintro e1 w5 ⟨rfl, k5⟩
    have HB := below_hid HB k5
    clear k5
    go_wp2_with fail
    refine (C4.out _ (RW.out _ HB.out)).mono ?_
    rintro e1 w5 ⟨rfl, k5⟩
    have HB := below_hid HB k5
    clear k5
    go_wp2_with fail
    refine (CW.out _).mono ?_
    rintro e1 w5 ⟨rfl, k5⟩
    have HB := below_hid HB k5
    clear k5
    go_wp2_with fail
    go_ret
    exact ⟨rfl, HB.out⟩
end Go.Proofs.Ytgkahcchekiogaa.Rl2
