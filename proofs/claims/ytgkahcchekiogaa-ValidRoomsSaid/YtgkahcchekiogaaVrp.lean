/- What a configuration that may be has: plain. -/
import Derived.Test.YtgkahcchekiogaaVck
namespace Go.Proofs.Ytgkahcchekiogaa.Vrp
open Go.RowKit Base Kit WideA WideB Plain Conf Conf2 PowA PowB Vfa Vfb Val Vld Vpa Vpb Vpr Vsh Short Vcf Vch Vci Vnu Vmo Vck FitA FitB FitC
set_option linter.unusedVariables false
set_option linter.unusedSimpArgs false
theorem ceil_le (x f t : Int) (hf : 1 ≤ f) : (x + (f - 1)) / f ≤ t ↔ x ≤ t * f := by
  constructor
  · intro h
    have h1 : (x + (f - 1)) / f < t + 1 := by omega
    rw [Int.ediv_lt_iff_lt_mul (by omega)] at h1
    have : (t + 1) * f = t * f + f := by rw [Int.add_mul]; omega
    omega
  · intro h
    have h1 : (x + (f - 1)) / f < t + 1 := by
      rw [Int.ediv_lt_iff_lt_mul (by omega)]
      have : (t + 1) * f = t * f + f := by rw [Int.add_mul]; omega
      omega
    omega
theorem both_plain (fq sw cyc len : Int) (c0 : 0 ≤ cyc) (c1 : cyc ≤ 1099511627776) (l1 : len ≤ 1099511627776) (s0 : 0 ≤ sw) (s1 : sw ≤ len) (f0 : 1 ≤ fq) (f1 : fq ≤ 1048576) :
    (sp fq sw len).2 = 0 ∧ ft fq sw cyc len = decide (cyc ≤ (sp fq sw len).1) := by
  have hp : 0 ≤ (len - sw) * fq := Int.mul_nonneg (by omega) (by omega)
  have hp2 : (len - sw) * fq ≤ 1099511627776 * 1048576 := Int.mul_le_mul (by omega) f1 (by omega) (by omega)
  have hsp : sp fq sw len = ((len - sw) * fq / 1000, 0) := by
    unfold sp md mdQ
    rw [if_neg (by omega), if_neg (by omega), if_neg (by omega)]
    simp only [Bool.false_eq_true, if_false]
    rw [if_pos (by omega)]
  have hq : (cyc * 1000 + (fq - 1)) / fq ≤ cyc * 1000 := by rw [ceil_le _ _ _ f0]; have := Int.mul_le_mul_of_nonneg_left f0 (show 0 ≤ cyc * 1000 by omega); omega
  have hq0 : 0 ≤ (cyc * 1000 + (fq - 1)) / fq := Int.ediv_nonneg (by omega) (by omega)
  have hmd : md cyc 1000 fq true = ((cyc * 1000 + (fq - 1)) / fq, 0) := by
    unfold md mdQ
    rw [if_neg (by omega)]
    simp only [if_true]
    rw [if_pos (by omega)]
  have hnd : nd fq sw cyc = (sw + (cyc * 1000 + (fq - 1)) / fq, 0) := by
    unfold nd
    rw [if_neg (by omega), hmd]
    simp only [ne_eq, not_true_eq_false, if_false]
    rw [if_neg (by omega)]
  refine ⟨by rw [hsp], ?_⟩
  unfold ft
  rw [hnd, hsp]
  have h1 := ceil_le (cyc * 1000) fq (len - sw) f0
  simp only [decide_true, Bool.true_and, decide_eq_decide]
  constructor
  · intro h
    have := h1.1 (by omega)
    omega
  · intro h
    have := h1.2 (by omega)
    omega
theorem room_plain (fq sw cyc len : Int) (c0 : 1 ≤ cyc) (c1 : cyc ≤ 1000000000) (l1 : len ≤ 1000000000) (s0 : 0 ≤ sw) (f0 : 1 ≤ fq) (f1 : fq ≤ 10000) (h : ft fq sw cyc len = true) :
    (nd fq sw cyc).2 = 0 ∧ (nd fq sw cyc).1 ≤ len ∧ (sp fq sw len).2 = 0 ∧ cyc ≤ (sp fq sw len).1 := by
  have h0 := h
  unfold ft at h
  rw [Bool.and_eq_true, decide_eq_true_iff, decide_eq_true_iff] at h
  have hs : sw ≤ len := by
    have hb := (md_bd cyc 1000 fq true (fun _ _ _ => trivial)).1
    obtain ⟨h1, h2⟩ := h
    unfold nd at h1 h2
    by_cases e1 : cyc < 0 ∨ sw < 0 ∨ fq < 1
    · omega
    rw [if_neg e1] at h1 h2
    by_cases e2 : (md cyc 1000 fq true).2 ≠ 0
    · rw [if_pos e2] at h1; exact absurd h1 e2
    rw [if_neg e2] at h1 h2
    by_cases e3 : 9223372036854775807 < sw + (md cyc 1000 fq true).1
    · rw [if_pos e3] at h1; cases h1
    rw [if_neg e3] at h2
    dsimp only at h2
    omega
  obtain ⟨p1, p2⟩ := both_plain fq sw cyc len (by omega) (by omega) (by omega) s0 hs f0 (by omega)
  rw [h0] at p2
  exact ⟨h.1, h.2, p1, of_decide_eq_true p2.symm⟩
theorem thn_ok {a b : Int × Int} (h : (thn a b).1 = 0) : a.1 = 0 ∧ b.1 = 0 := by
  unfold thn at h
  by_cases e : a.1 = 0
  · rw [if_pos e] at h; exact ⟨e, h⟩
  · rw [if_neg e] at h; exact absurd h e
theorem fb_fst {P : Nat → Bool} : ∀ {n : Nat}, fb P n < n → P (fb P n) = false
  | 0, h => by omega
  | n + 1, h => by
    have hle := fb_le P n
    unfold fb at h ⊢
    by_cases e : fb P n < n
    · rw [if_pos e]; exact fb_fst e
    · rw [if_neg e] at h ⊢
      cases hp : P n
      · rw [hp] at h; simp only [Bool.false_eq_true, if_false]; exact hp
      · rw [hp] at h; simp at h
theorem nu_ok {E : Nat → Int} {n : Nat} (h : (nuR E n).1 = 0) : ∀ j, j < n → E j = 0 := by
  unfold nuR at h
  have hle := fb_le (zP E) n
  by_cases e : fb (zP E) n < n
  · rw [if_pos e] at h
    dsimp only at h
    have e9 := fb_fst e
    unfold zP at e9
    exact absurd h (of_decide_eq_false e9)
  · intro j hj
    have := fb_iff.1 (show fb (zP E) n = n by omega) j hj
    unfold zP at this
    exact of_decide_eq_true this
structure Good (c : ConfC) : Prop where
  cap : ∀ k, k < c.pn → 1 ≤ (c.p k).cap ∧ (c.p k).cap ≤ 1000000000
  sw : 0 ≤ c.w.sw
  fq : 1 ≤ top c.w.ln c.w.lf 0 ∧ top c.w.ln c.w.lf 0 ≤ 10000
  mode : ∀ k, k < c.mn → (inB (c.m k).fr 1 1000000000 = true) ∧ (∀ j, j < (c.m k).wn → winP c (c.m k) j = true) ∧ (∀ j, j < (c.m k).wn → fitP c (c.m k) j = true)
theorem part_ok {q : PartC} (h : PartR q = 0) : 1 ≤ q.cap ∧ q.cap ≤ 1000000000 := by
  unfold PartR at h
  split at h
  · cases h
  split at h
  · cases h
  split at h
  · cases h
  split at h
  · cases h
  split at h
  · cases h
  rename_i h9
  unfold lastB at h9
  rw [Bool.not_eq_false] at h9
  simp only [Bool.and_eq_true] at h9
  exact inB_iff.1 (by first | exact h9.1.1.1.1 | exact h9.1 | exact h9.1.1 | exact h9.1.1.1)
theorem pow_ok {p : PowC} (h : (powR p).1 = 0) : 0 ≤ p.sw ∧ 1 ≤ top p.ln p.lf 0 ∧ top p.ln p.lf 0 ≤ 10000 := by
  unfold powR at h
  have hle := fb_le (lev p.lf) p.ln
  split at h
  · cases h
  rename_i h1
  split at h
  · cases h
  rename_i h2
  split at h
  · rename_i h3
    unfold rest at h3
    simp only [Bool.and_eq_true] at h3
    have hs : inB p.sw 0 100000000 = true := by first | exact h3.1.1.1.1.1.2 | exact h3.2.1 | exact h3.1.1.1.1.2
    have hl := fb_iff.1 (show fb (lev p.lf) p.ln = p.ln by omega)
    have h5 := hl (p.ln - 1) (by omega)
    unfold lev at h5
    have h6 := lvB_bd h5
    have h7 := (ah_bd (p.ln - 1) (fun j hj => hl j (by omega))).1
    unfold top
    rw [if_neg (by omega)]
    exact ⟨(inB_iff.1 hs).1, by omega, h6.2.1⟩
  · cases h
theorem check_good {c : ConfC} (h : (CheckR c).1 = 0) : Good c := by
  unfold CheckR at h
  split at h
  · obtain ⟨a1, h⟩ := thn_ok h
    obtain ⟨a2, h⟩ := thn_ok h
    obtain ⟨a3, h⟩ := thn_ok h
    obtain ⟨a4, h⟩ := thn_ok h
    have p2 := pow_ok a2
    refine ⟨fun k hk => part_ok (nu_ok a1 k hk), p2.1, p2.2, fun k hk => ?_⟩
    unfold modesR at a4
    split at a4
    · have m := nu_ok a4 k hk
      skip
      unfold ModeR at m
      split at m
      · rw [Int.toNat_natCast] at m
        unfold ModeQ at m
        split at m
        · rename_i h5
          simp only [Bool.and_eq_true, decide_eq_true_eq] at h5
          split at m
          · rename_i h6
            exact ⟨h5.1, fb_iff.1 h5.2.2, fb_iff.1 (of_decide_eq_true h6)⟩
          · cases m
        · cases m
      · cases m
    · cases a4
  · cases h
end Go.Proofs.Ytgkahcchekiogaa.Vrp
