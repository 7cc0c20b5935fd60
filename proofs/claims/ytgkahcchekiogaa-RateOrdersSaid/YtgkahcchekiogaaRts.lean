/- What is wanted in a whole period: plain. -/
import Derived.Test.YtgkahcchekiogaaRtp
import Derived.Test.YtgkahcchekiogaaRtc
namespace Go.Proofs.Ytgkahcchekiogaa.Rts
open Go.RowKit Base Kit WideA WideB Plain Rta Rtb Rtc Rtd Rte
set_option linter.unusedVariables false
set_option linter.unusedSimpArgs false
def mx (x : Int) : Int := if 9223372036854775807 < x then 9223372036854775807 else x
theorem mx_add {a b : Int} (ha : 0 ≤ a) (hb : 0 ≤ b) : satI (mx a) (mx b) = mx (a + b) := by
  unfold satI mx; (repeat' split) <;> omega
theorem mx_le {a : Int} (h : a ≤ 9223372036854775807) : mx a = a := by unfold mx; rw [if_neg (by omega)]
def cs (f : Nat → Nat → Int) (k : Nat) : Int := max 0 (f k 2)
theorem cs_pos (f : Nat → Nat → Int) (k : Nat) : 0 ≤ cs f k := by unfold cs; omega
def us (f : Nat → Nat → Int) (w : Int) : Nat → Int
  | 0 => 0
  | k + 1 => us f w k + if rel (f k 1) w = true then cs f k else 0
theorem us_pos (f : Nat → Nat → Int) (w : Int) : ∀ n, 0 ≤ us f w n
  | 0 => by unfold us; omega
  | n + 1 => by have := us_pos f w n; have := cs_pos f n; unfold us; split <;> omega
theorem wt_us {f : Nat → Nat → Int} {w : Int} (hw : 0 ≤ w) : ∀ n, (∀ k, k < n → I64 (f k 2)) → wtR f w n = mx (us f w n)
  | 0, _ => rfl
  | n + 1, h => by
    have h1 := us_pos f w n
    have h2 := cs_pos f n
    have h3 : mx (cs f n) = cs f n := mx_le (by unfold cs; have := (h n (by omega)).2; omega)
    unfold wtR us
    rw [wt_us hw n (fun k hk => h k (by omega))]
    by_cases hr : rel (f n 1) w = true
    · rw [if_pos ⟨hw, hr⟩, if_pos hr, ← mx_add h1 h2, h3]; rfl
    · rw [if_neg (fun h => hr h.2), if_neg hr, Int.add_zero]
def SS (f : Nat → Nat → Int) (n : Nat) : Nat → Int
  | 0 => 0
  | j + 1 => satI (SS f n j) (wtR f (j : Int) n)
def UU (f : Nat → Nat → Int) (n : Nat) : Nat → Int
  | 0 => 0
  | j + 1 => UU f n j + us f (j : Int) n
theorem UU_pos (f : Nat → Nat → Int) (n : Nat) : ∀ j, 0 ≤ UU f n j
  | 0 => by unfold UU; omega
  | j + 1 => by have := UU_pos f n j; have := us_pos f (j : Int) n; unfold UU; omega
theorem SS_UU {f : Nat → Nat → Int} {n : Nat} (h : ∀ k, k < n → I64 (f k 2)) : ∀ j, SS f n j = mx (UU f n j)
  | 0 => rfl
  | j + 1 => by
    unfold SS UU
    rw [SS_UU h j, wt_us (by omega) n h, mx_add (UU_pos f n j) (us_pos f _ n)]
def cnt (p : Int) : Nat → Int
  | 0 => 0
  | j + 1 => cnt p j + if rel p (j : Int) = true then 1 else 0
theorem cnt_all {p : Int} (hp : p ≤ 0) : ∀ j, cnt p j = (j : Int)
  | 0 => rfl
  | j + 1 => by
    unfold cnt
    rw [cnt_all hp j, if_pos (by unfold rel; rw [decide_eq_true hp]; rfl)]
    omega
theorem cnt_div {p : Int} (hp : 0 < p) : ∀ j : Nat, cnt p j = ((j : Int) + (p - 1)) / p
  | 0 => by
    unfold cnt
    rw [show ((0 : Nat) : Int) + (p - 1) = p - 1 by omega, Int.ediv_eq_zero_of_lt (by omega) (by omega)]
  | j + 1 => by
    have h1 := Int.mul_ediv_add_emod (j : Int) p
    have h2 := Int.emod_nonneg (j : Int) (b := p) (by omega)
    have h3 := Int.emod_lt_of_pos (j : Int) hp
    unfold cnt
    rw [cnt_div hp j]
    generalize (j : Int) / p = q at *
    generalize hr : (j : Int) % p = r at *
    have hrel : rel p (j : Int) = decide (r = 0) := by unfold rel; rw [decide_eq_false (by omega), Bool.false_or, hr]
    rw [hrel]
    have e1 : ((j + 1 : Nat) : Int) + (p - 1) = r + p * (q + 1) := by rw [Int.mul_add]; omega
    rw [e1, Int.add_mul_ediv_left _ _ (by omega), Int.ediv_eq_zero_of_lt h2 h3]
    by_cases hz : r = 0
    · have e2 : (j : Int) + (p - 1) = (p - 1) + p * q := by omega
      rw [e2, Int.add_mul_ediv_left _ _ (by omega), Int.ediv_eq_zero_of_lt (by omega) (by omega), decide_eq_true hz, if_pos rfl]
      omega
    · have e2 : (j : Int) + (p - 1) = (r - 1) + p * (q + 1) := by rw [Int.mul_add]; omega
      rw [e2, Int.add_mul_ediv_left _ _ (by omega), Int.ediv_eq_zero_of_lt (by omega) (by omega), decide_eq_false hz]
      simp
theorem cnt_tm {p : Int} {m : Nat} (h : 0 < p → p.toNat ∣ m) : cnt p m = tmS (m : Int) p := by
  unfold tmS
  by_cases hp : p ≤ 0
  · rw [if_pos hp, cnt_all hp]
  · rw [if_neg hp, cnt_div (by omega)]
    obtain ⟨t, ht⟩ := h (by omega)
    have e : (m : Int) = p * (t : Int) := by
      rw [ht, Int.natCast_mul]
      congr 1
      omega
    rw [show (m : Int) + (p - 1) = (p - 1) + p * (t : Int) by omega, Int.add_mul_ediv_left _ _ (by omega), Int.ediv_eq_zero_of_lt (by omega) (by omega), e, Int.mul_ediv_cancel_left _ (by omega)]
    omega
theorem UU_succ (f : Nat → Nat → Int) (n : Nat) : ∀ j, UU f (n + 1) j = UU f n j + cnt (f n 1) j * cs f n
  | 0 => by unfold UU cnt; omega
  | j + 1 => by
    unfold UU cnt
    rw [UU_succ f n j, us]
    split
    · rw [Int.add_mul]; omega
    · rw [Int.add_mul]; omega
theorem md_mx {t c : Int} (ht : 0 ≤ t) (hc : 0 ≤ c) : mxS t c = mx (t * c) := by
  have h0 : 0 ≤ t * c := Int.mul_nonneg ht hc
  have hmd : md t c 1 false = if t * c ≤ 9223372036854775807 then (t * c, 0) else (0, 6) := by
    unfold md mdQ
    rw [if_neg (by omega)]
    simp only [Bool.false_eq_true, if_false, Int.ediv_one]
  unfold mxS mx
  rw [hmd]
  generalize t * c = z at *
  by_cases h : z ≤ 9223372036854775807
  · rw [if_pos h]
    show (if (0 : Int) = 0 then z else _) = _
    rw [if_pos rfl, if_neg (by omega)]
  · rw [if_neg h]
    show (if (6 : Int) = 0 then (0 : Int) else _) = _
    rw [if_neg (by decide), if_pos (by omega)]
theorem sums_eq {f : Nat → Nat → Int} {m : Nat} : ∀ n, (∀ k, k < n → 0 < f k 1 → (f k 1).toNat ∣ m) → toR f (m : Int) n = mx (UU f n m)
  | 0, _ => by
    have : ∀ j, UU f 0 j = 0 := fun j => by
      induction j with
      | zero => rfl
      | succ j ih => unfold UU; rw [ih]; rfl
    rw [this]; rfl
  | n + 1, h => by
    have ht : 0 ≤ tmS (m : Int) (f n 1) := by
      unfold tmS; split
      · omega
      · exact Int.ediv_nonneg (by omega) (by omega)
    unfold toR
    rw [sums_eq n (fun k hk => h k (by omega)), UU_succ, cnt_tm (h n (by omega)), md_mx ht (by omega), show max 0 (f n 2) = cs f n from rfl]
    exact mx_add (UU_pos f n m) (Int.mul_nonneg ht (cs_pos f n))
theorem total_sums {f : Nat → Nat → Int} {n m : Nat} (h : ∀ k, k < n → I64 (f k 2)) (hd : ∀ k, k < n → 0 < f k 1 → (f k 1).toNat ∣ m) : SS f n m = toR f (m : Int) n := by
  rw [SS_UU h, sums_eq n hd]
end Go.Proofs.Ytgkahcchekiogaa.Rts
